/- What the functions that HalfCans calls compute, as models, and that they compute it: written by a program of mine. -/
import Derived.Test.YtkkmiclmbhbmjaaProg
import Derived.Test.YtkkmiclmbhbmjaaSl4
set_option linter.all false
set_option maxRecDepth 100000
namespace Go.Proofs.Ytkkmiclmbhbmjaa.halfCans
open Go Go.Sl
def half_wrong_1 (a0 : (List Int)) : Option Bool :=
some (decide ((List.length a0 : Int) > (4 : Int)))
theorem half_wrong_1_ok {a0 : (List Int)} {r : Bool} (h : half_wrong_1 a0 = some r) : FnC Try.prog 88 [aD (.slice tI) a0] [] (aB r) [] := by
  refine fnC_of_W (B := bodyOf Try.f88) (n := 6) Try.func88 (by kernel_rfl) (by kernel_rfl) (by kernel_rfl) (by kernel_rfl) (by kernel_rfl) ?_
  intro K
  refine W_seq (by kernel_rfl) ?_
  refine W_run 1 [] [0] [] (fr' := [(0, aD (.slice tI) a0)]) (L' := []) (obs := []) (by kernel_rfl) (by kernel_rfl) (by kernel_rfl) allP0 ?_
  refine seqQ_norm ?_
  refine W_seq (by kernel_rfl) ?_
  refine W_run 4 [] [2] [] (fr' := [(2, aB (decide ((List.length a0 : Int) > (4 : Int))))]) (L' := []) (obs := []) (by kernel_rfl) (by kernel_rfl) (by kernel_rfl) allP0 ?_
  refine seqQ_norm ?_
  obtain rfl := Option.some.inj h
  refine W_ret [2] [] (fr' := [(2, aB (decide ((List.length a0 : Int) > (4 : Int))))]) (L' := []) (by kernel_rfl) (by kernel_rfl) ?_
  exact retQ_mk (by kernel_rfl) (by kernel_rfl) (by kernel_rfl)

def slices_IndexFunc_LLintLint_with_half_wrong_1_b1 (i15 : Int) (v18 : (List Int)) (x16 : Unit) : Option (Flow Unit (Esc Int Unit)) :=
(half_wrong_1 v18).bind fun r21 =>
bif r21 then
(some (.done (.ret i15)))
else
(some (.next ()))
@[reducible] def slices_IndexFunc_LLintLint_with_half_wrong_1_s2 (a0 : (List (List Int))) (v : Int × Unit) : Fr × LL := ([(0, aD (.slice (.slice tI)) a0), (1, .one (.fn 88 [])), (7, aI (List.length a0 : Int)), (8, aI v.1)], [])
@[reducible] def slices_IndexFunc_LLintLint_with_half_wrong_1_s3 (v : Int) : Fr × LL := ([(4, aI v)], [])
@[reducible] def slices_IndexFunc_LLintLint_with_half_wrong_1_s4 (v : Unit) : Fr × LL := ([], [])
def slices_IndexFunc_LLintLint_with_half_wrong_1 (a0 : (List (List Int))) : Option Int :=
(forL slices_IndexFunc_LLintLint_with_half_wrong_1_b1 (fun x16 => (.brk ())) a0 0 ()).bind fun v25 =>
match v25 with
| .ret v30 =>
(some v30)
| .brk v31 =>
(some (-1 : Int))
theorem slices_IndexFunc_LLintLint_with_half_wrong_1_ok {a0 : (List (List Int))} {r : Int} (h : slices_IndexFunc_LLintLint_with_half_wrong_1 a0 = some r) : FnC Try.prog 95 [aD (.slice (.slice tI)) a0, .one (.fn 88 [])] [] (aI r) [] := by
  refine fnC_of_W (B := bodyOf Try.f95) (n := 19) Try.func95 (by kernel_rfl) (by kernel_rfl) (by kernel_rfl) (by kernel_rfl) (by kernel_rfl) ?_
  intro K
  refine W_seq (by kernel_rfl) ?_
  refine W_run 1 [] [0, 1] [] (fr' := [(0, aD (.slice (.slice tI)) a0), (1, .one (.fn 88 []))]) (L' := []) (obs := []) (by kernel_rfl) (by kernel_rfl) (by kernel_rfl) allP0 ?_
  refine seqQ_norm ?_
  refine W_seq (by kernel_rfl) ?_
  refine W_seq (by kernel_rfl) ?_
  refine W_run 3 [] [0, 1, 7, 8] [] (fr' := [(0, aD (.slice (.slice tI)) a0), (1, .one (.fn 88 [])), (7, aI (List.length a0 : Int)), (8, aI (0 : Int))]) (L' := []) (obs := []) (by kernel_rfl) (by kernel_rfl) (by kernel_rfl) allP0 ?_
  refine seqQ_norm ?_
  refine W_block (id := 0) (by kernel_rfl) ?_
  obtain ⟨v25, h26, h⟩ := bind_of h
  refine W_len (t := 0) (u := (.slice tI)) (xs := a0) (by kernel_rfl) (fun h29 => ?_)
  obtain ⟨h27, h28⟩ := forL_iter h29 h26
  refine W_weaken [0, 1, 7, 8] [] (fr' := ((slices_IndexFunc_LLintLint_with_half_wrong_1_s2 a0) ((0 : Int), ())).1) (L' := ((slices_IndexFunc_LLintLint_with_half_wrong_1_s2 a0) ((0 : Int), ())).2) (by kernel_rfl) ?_
  refine W_cutK (W_loop (S := (slices_IndexFunc_LLintLint_with_half_wrong_1_s2 a0)) (J := (escQ (exQ .ret slices_IndexFunc_LLintLint_with_half_wrong_1_s3) (exQ (.exit 0) slices_IndexFunc_LLintLint_with_half_wrong_1_s4))) (by kernel_rfl) ?_ h27 _ v25 h28) ?_
  · rintro ⟨i15, x16⟩ s h
    refine W_seq (by kernel_rfl) ?_
    refine W_run 1 [] [0, 1, 7, 8, 9] [] (fr' := [(0, aD (.slice (.slice tI)) a0), (1, .one (.fn 88 [])), (7, aI (List.length a0 : Int)), (8, aI i15), (9, aB (decide (i15 < (List.length a0 : Int))))]) (L' := []) (obs := []) (by kernel_rfl) (by kernel_rfl) (by kernel_rfl) allP0 ?_
    refine seqQ_norm ?_
    refine W_seq (by kernel_rfl) ?_
    refine W_cond (o := .tmp 9) (b := decide (i15 < (List.length a0 : Int))) (by kernel_rfl) (by kernel_rfl) (fun h20 => ?_) (fun h20 => ?_)
    · replace h := stepL_true h20 h
      obtain ⟨v18, _, h19, h, rfl⟩ := h
      refine W_skip [0, 1, 7, 8] [] (fr' := [(0, aD (.slice (.slice tI)) a0), (1, .one (.fn 88 [])), (7, aI (List.length a0 : Int)), (8, aI i15)]) (L' := []) (by kernel_rfl) (by kernel_rfl) ?_
      refine seqQ_norm ?_
      refine W_seq (by kernel_rfl) ?_
      refine W_block (id := 1) (by kernel_rfl) ?_
      refine W_seq (by kernel_rfl) ?_
      refine W_run 2 [] [0, 1, 5, 7, 8] [] (fr' := [(0, aD (.slice (.slice tI)) a0), (1, .one (.fn 88 [])), (5, aI i15), (7, aI (List.length a0 : Int)), (8, aI i15)]) (L' := []) (obs := []) (by kernel_rfl) (by kernel_rfl) (by kernel_rfl) allP0 ?_
      refine seqQ_norm ?_
      refine W_seq (by kernel_rfl) ?_
      refine W_region (by kernel_rfl) ?_
      refine WO_run (j := 5) (k := 5) (orcs := [(7, .val (.dat (.slice tI) v18))]) (kF := [0, 1, 5, 7, 8, 11, 15]) (kL := []) (fr' := [(0, aD (.slice (.slice tI)) a0), (1, .one (.fn 88 [])), (5, aI i15), (7, aI (List.length a0 : Int)), (8, aI i15), (11, .one (.fn 88 [])), (15, aD (.slice tI) v18)]) (L' := []) (obs := [Idx a0 i15 v18]) rfl (by kernel_rfl) (allP1 (Idx.of h19)) ?_
      obtain ⟨r21, h22, h⟩ := bind_of h
      refine WO_call0 (us := [none]) (d := 16) (p := True) (j := 6) rfl ⟨by kernel_rfl, by kernel_rfl, by kernel_rfl⟩ trivial (half_wrong_1_ok h22) (by kernel_rfl) ?_
      refine WO_fin [0, 1, 5, 7, 8, 16] [] (fr' := [(0, aD (.slice (.slice tI)) a0), (1, .one (.fn 88 [])), (5, aI i15), (7, aI (List.length a0 : Int)), (8, aI i15), (16, aB r21)]) (L' := []) (by kernel_rfl) (by kernel_rfl) ?_
      refine seqQ_norm ?_
      refine W_cond (o := .tmp 16) (b := r21) (by kernel_rfl) (by kernel_rfl) (fun h23 => ?_) (fun h23 => ?_)
      · replace h := ofT h23 h
        refine W_seq (by kernel_rfl) ?_
        refine W_run 2 [] [4] [] (fr' := [(4, aI i15)]) (L' := []) (obs := []) (by kernel_rfl) (by kernel_rfl) (by kernel_rfl) allP0 ?_
        refine seqQ_norm ?_
        obtain rfl := Option.some.inj h
        refine W_ret [4] [] (fr' := [(4, aI i15)]) (L' := []) (by kernel_rfl) (by kernel_rfl) ?_
        refine blockQ_ret ?_
        refine seqQ_ret ?_
        refine round_ret ?_
        refine escQ_ret ?_
        exact exQ_mk (by kernel_rfl) (by kernel_rfl)
      · replace h := ofF h23 h
        refine W_skip [0, 1, 7, 8] [] (fr' := [(0, aD (.slice (.slice tI)) a0), (1, .one (.fn 88 [])), (7, aI (List.length a0 : Int)), (8, aI i15)]) (L' := []) (by kernel_rfl) (by kernel_rfl) ?_
        refine blockQ_norm ?_
        refine seqQ_norm ?_
        obtain rfl := Option.some.inj h
        refine W_run 2 [] [0, 1, 7, 8] [] (fr' := [(0, aD (.slice (.slice tI)) a0), (1, .one (.fn 88 [])), (7, aI (List.length a0 : Int)), (8, aI (w64 (i15 + (1 : Int))))]) (L' := []) (obs := []) (by kernel_rfl) (by kernel_rfl) (by kernel_rfl) allP0 ?_
        exact round_next' (by kernel_rfl) (by kernel_rfl)
    · obtain rfl := stepL_false h20 h
      refine W_exit (id := 0) [] [] (fr' := []) (L' := []) (by kernel_rfl) (by kernel_rfl) ?_
      refine seqQ_exit ?_
      refine round_exit ?_
      refine escQ_brk ?_
      exact exQ_mk (by kernel_rfl) (by kernel_rfl)
  · intro e fr L hJ
    rcases v25 with v30 | v31
    · obtain ⟨rfl, rfl, rfl⟩ := hJ
      obtain rfl := Option.some.inj h
      refine LT_keep [4] [] (fr' := [(4, aI v30)]) (L' := []) (by kernel_rfl) ?_
      refine blockQ_ret ?_
      refine seqQ_ret ?_
      exact retQ_mk (by kernel_rfl) (by kernel_rfl) (by kernel_rfl)
    · obtain ⟨rfl, rfl, rfl⟩ := hJ
      refine LT_keep [] [] (fr' := []) (L' := []) (by kernel_rfl) ?_
      refine blockQ_hit ?_
      refine seqQ_norm ?_
      refine W_seq (by kernel_rfl) ?_
      refine W_run 1 [] [4] [] (fr' := [(4, aI (-1 : Int))]) (L' := []) (obs := []) (by kernel_rfl) (by kernel_rfl) (by kernel_rfl) allP0 ?_
      refine seqQ_norm ?_
      obtain rfl := Option.some.inj h
      refine W_ret [4] [] (fr' := [(4, aI (-1 : Int))]) (L' := []) (by kernel_rfl) (by kernel_rfl) ?_
      exact retQ_mk (by kernel_rfl) (by kernel_rfl) (by kernel_rfl)

def slices_ContainsFunc_LLintLint_with_half_wrong_1 (a0 : (List (List Int))) : Option Bool :=
(slices_IndexFunc_LLintLint_with_half_wrong_1 a0).bind fun r1 =>
some (decide (r1 ≥ (0 : Int)))
theorem slices_ContainsFunc_LLintLint_with_half_wrong_1_ok {a0 : (List (List Int))} {r : Bool} (h : slices_ContainsFunc_LLintLint_with_half_wrong_1 a0 = some r) : FnC Try.prog 87 [aD (.slice (.slice tI)) a0, .one (.fn 88 [])] [] (aB r) [] := by
  refine fnC_of_W (B := bodyOf Try.f87) (n := 9) Try.func87 (by kernel_rfl) (by kernel_rfl) (by kernel_rfl) (by kernel_rfl) (by kernel_rfl) ?_
  intro K
  refine W_seq (by kernel_rfl) ?_
  refine W_run 1 [] [0, 1] [] (fr' := [(0, aD (.slice (.slice tI)) a0), (1, .one (.fn 88 []))]) (L' := []) (obs := []) (by kernel_rfl) (by kernel_rfl) (by kernel_rfl) allP0 ?_
  refine seqQ_norm ?_
  refine W_seq (by kernel_rfl) ?_
  refine W_region (by kernel_rfl) ?_
  refine WO_run (j := 2) (k := 2) (orcs := []) (kF := [5, 6]) (kL := []) (fr' := [(5, aD (.slice (.slice tI)) a0), (6, .one (.fn 88 []))]) (L' := []) (obs := []) rfl (by kernel_rfl) allP0 ?_
  obtain ⟨r1, h2, h⟩ := bind_of h
  refine WO_call0 (us := [none, none]) (d := 7) (p := True) (j := 3) rfl ⟨by kernel_rfl, by kernel_rfl, by kernel_rfl⟩ trivial (slices_IndexFunc_LLintLint_with_half_wrong_1_ok h2) (by kernel_rfl) ?_
  refine WO_run (j := 5) (k := 2) (orcs := []) (kF := [4]) (kL := []) (fr' := [(4, aB (decide (r1 ≥ (0 : Int))))]) (L' := []) (obs := []) rfl (by kernel_rfl) allP0 ?_
  refine WO_fin [4] [] (fr' := [(4, aB (decide (r1 ≥ (0 : Int))))]) (L' := []) (by kernel_rfl) (by kernel_rfl) ?_
  refine seqQ_norm ?_
  obtain rfl := Option.some.inj h
  refine W_ret [4] [] (fr' := [(4, aB (decide (r1 ≥ (0 : Int))))]) (L' := []) (by kernel_rfl) (by kernel_rfl) ?_
  exact retQ_mk (by kernel_rfl) (by kernel_rfl) (by kernel_rfl)

@[reducible] def slices_Grow_Lintint_s2 (v : (List Int)) : Fr × LL := ([(0, .one (.slc 22))], [(22, .seq tI v)])
def slices_Grow_Lintint (a1 : Int) : Option (List Int) :=
bif decide (a1 < (0 : Int)) then
(none)
else
((bif decide ((w64 (a1 - (0 : Int))) > (0 : Int)) then
((ck (0 ≤ w64 (a1 - (0 : Int)) ∧ w64 (a1 - (0 : Int)) ≤ 4294967296)).bind fun _ =>
some [])
else
(some [])).bind fun v19 =>
some v19)
theorem slices_Grow_Lintint_ok {a1 : Int} {r : (List Int)} (h : slices_Grow_Lintint a1 = some r) : FnC Try.prog 96 [.one (.nilS), aI a1] [] (.one (.slc 22)) [(22, .seq tI r)] := by
  refine fnC_of_W (B := bodyOf Try.f96) (n := 27) Try.func96 (by kernel_rfl) (by kernel_rfl) (by kernel_rfl) (by kernel_rfl) (by kernel_rfl) ?_
  intro K
  refine W_seq (by kernel_rfl) ?_
  refine W_run 1 [] [0, 1] [] (fr' := [(0, .one (.nilS)), (1, aI a1)]) (L' := []) (obs := []) (by kernel_rfl) (by kernel_rfl) (by kernel_rfl) allP0 ?_
  refine seqQ_norm ?_
  refine W_seq (by kernel_rfl) ?_
  refine W_seq (by kernel_rfl) ?_
  refine W_run 2 [] [0, 1, 6] [] (fr' := [(0, .one (.nilS)), (1, aI a1), (6, aB (decide (a1 < (0 : Int))))]) (L' := []) (obs := []) (by kernel_rfl) (by kernel_rfl) (by kernel_rfl) allP0 ?_
  refine seqQ_norm ?_
  refine W_cond (o := .tmp 6) (b := decide (a1 < (0 : Int))) (by kernel_rfl) (by kernel_rfl) (fun h12 => ?_) (fun h12 => ?_)
  · replace h := ofT h12 h
    cases h
  · replace h := ofF h12 h
    refine W_skip [0, 1] [] (fr' := [(0, .one (.nilS)), (1, aI a1)]) (L' := []) (by kernel_rfl) (by kernel_rfl) ?_
    refine seqQ_norm ?_
    refine W_seq (by kernel_rfl) ?_
    obtain ⟨v19, h20, h⟩ := bind_of h
    refine W_cutK (Q' := (exQ .normal slices_Grow_Lintint_s2) v19) ?_ ?_
    · replace h := h20
      refine W_seq (by kernel_rfl) ?_
      refine W_region (by kernel_rfl) ?_
      refine WO_run (j := 2) (k := 2) (orcs := []) (kF := [0, 1, 8, 9]) (kL := []) (fr' := [(0, .one (.nilS)), (1, aI a1), (8, aI a1), (9, .one (.nilS))]) (L' := []) (obs := []) rfl (by kernel_rfl) allP0 ?_
      refine WO_g [0, 1, 8, 9, 10] [] (fr' := [(0, .one (.nilS)), (1, aI a1), (8, aI a1), (9, .one (.nilS)), (10, aI (0 : Int))]) (L' := []) (p := True) (j := 3) rfl (by kernel_rfl) trivial ?_
      refine WO_run (j := 8) (k := 5) (orcs := []) (kF := [0, 1]) (kL := []) (fr' := [(0, .one (.nilS)), (1, aI (w64 (a1 - (0 : Int))))]) (L' := []) (obs := []) rfl (by kernel_rfl) allP0 ?_
      refine WO_fin [0, 1] [] (fr' := [(0, .one (.nilS)), (1, aI (w64 (a1 - (0 : Int))))]) (L' := []) (by kernel_rfl) (by kernel_rfl) ?_
      refine seqQ_norm ?_
      refine W_seq (by kernel_rfl) ?_
      refine W_run 2 [] [0, 1, 16] [] (fr' := [(0, .one (.nilS)), (1, aI (w64 (a1 - (0 : Int)))), (16, aB (decide ((w64 (a1 - (0 : Int))) > (0 : Int))))]) (L' := []) (obs := []) (by kernel_rfl) (by kernel_rfl) (by kernel_rfl) allP0 ?_
      refine seqQ_norm ?_
      refine W_cond (o := .tmp 16) (b := decide ((w64 (a1 - (0 : Int))) > (0 : Int))) (by kernel_rfl) (by kernel_rfl) (fun h17 => ?_) (fun h17 => ?_)
      · replace h := ofT h17 h
        refine W_region (by kernel_rfl) ?_
        refine WO_run (j := 2) (k := 2) (orcs := []) (kF := [0, 1, 17, 18]) (kL := []) (fr' := [(0, .one (.nilS)), (1, aI (w64 (a1 - (0 : Int)))), (17, .one (.nilS)), (18, .one (.nilS))]) (L' := []) (obs := []) rfl (by kernel_rfl) allP0 ?_
        refine WO_g [0, 1, 17, 18, 19] [] (fr' := [(0, .one (.nilS)), (1, aI (w64 (a1 - (0 : Int)))), (17, .one (.nilS)), (18, .one (.nilS)), (19, aI (0 : Int))]) (L' := []) (p := True) (j := 3) rfl (by kernel_rfl) trivial ?_
        refine WO_g [0, 1, 17, 18, 19, 20] [] (fr' := [(0, .one (.nilS)), (1, aI (w64 (a1 - (0 : Int)))), (17, .one (.nilS)), (18, .one (.nilS)), (19, aI (0 : Int)), (20, .one (.nilS))]) (L' := []) (p := True) (j := 4) rfl (by kernel_rfl) trivial ?_
        obtain ⟨_, h18, h⟩ := bind_of h
        replace h18 := ck_some h18
        refine WO_run (j := 5) (k := 1) (orcs := []) (kF := [0, 20, 21]) (kL := []) (fr' := [(0, .one (.nilS)), (20, .one (.nilS)), (21, aI (w64 (a1 - (0 : Int))))]) (L' := []) (obs := []) rfl (by kernel_rfl) allP0 ?_
        refine WO_g [0, 20, 21, 22] [22] (fr' := [(0, .one (.nilS)), (20, .one (.nilS)), (21, aI (w64 (a1 - (0 : Int)))), (22, .one (.slc 22))]) (L' := [(22, .seq tI (List.replicate (Int.toNat (w64 (a1 - (0 : Int)))) (0 : Int)))]) (p := 0 ≤ w64 (a1 - (0 : Int)) ∧ SmallLen (w64 (a1 - (0 : Int)))) (j := 6) rfl (by kernel_rfl) h18 ?_
        refine WO_run (j := 8) (k := 2) (orcs := []) (kF := [0, 22, 24]) (kL := [22]) (fr' := [(0, .one (.nilS)), (22, .one (.slc 22)), (24, aI (0 : Int))]) (L' := [(22, .seq tI (List.replicate (Int.toNat (w64 (a1 - (0 : Int)))) (0 : Int)))]) (obs := []) rfl (by kernel_rfl) allP0 ?_
        refine WO_g [0, 24, 25] [22] (fr' := [(0, .one (.nilS)), (24, aI (0 : Int)), (25, .one (.slc 22))]) (L' := [(22, .seq tI [])]) (p := 0 ≤ (0 : Int) ∧ (0 : Int) ≤ (List.length (List.replicate (Int.toNat (w64 (a1 - (0 : Int)))) (0 : Int) : (List Int)) : Int)) (j := 9) rfl (by kernel_rfl) ⟨(by decide), (by omega)⟩ ?_
        refine WO_run (j := 10) (k := 1) (orcs := []) (kF := [0]) (kL := [22]) (fr' := [(0, .one (.slc 22))]) (L' := [(22, .seq tI [])]) (obs := []) rfl (by kernel_rfl) allP0 ?_
        obtain rfl := Option.some.inj h
        refine WO_fin [0] [22] (fr' := [(0, .one (.slc 22))]) (L' := [(22, .seq tI [])]) (by kernel_rfl) (by kernel_rfl) ?_
        exact exQ_mk (by kernel_rfl) (by kernel_rfl)
      · replace h := ofF h17 h
        obtain rfl := Option.some.inj h
        refine W_mine 0 22 tI (by kernel_rfl) ?_
        refine W_skip [0] [22] (fr' := [(0, .one (.slc 22))]) (L' := [(22, .seq tI [])]) (by kernel_rfl) (by kernel_rfl) ?_
        exact exQ_mk (by kernel_rfl) (by kernel_rfl)
    · intro e fr L hJ
      obtain ⟨rfl, rfl, rfl⟩ := hJ
      refine LT_keep [0] [22] (fr' := [(0, .one (.slc 22))]) (L' := [(22, .seq tI v19)]) (by kernel_rfl) ?_
      refine seqQ_norm ?_
      refine W_seq (by kernel_rfl) ?_
      refine W_run 2 [] [4] [22] (fr' := [(4, .one (.slc 22))]) (L' := [(22, .seq tI v19)]) (obs := []) (by kernel_rfl) (by kernel_rfl) (by kernel_rfl) allP0 ?_
      refine seqQ_norm ?_
      obtain rfl := Option.some.inj h
      refine W_ret [4] [22] (fr' := [(4, .one (.slc 22))]) (L' := [(22, .seq tI v19)]) (by kernel_rfl) (by kernel_rfl) ?_
      exact retQ_mk (by kernel_rfl) (by kernel_rfl) (by kernel_rfl)

def slices_Concat_Lintint_b7 (i72 : Int) (v75 : (List Int)) (x73 : Int) : Option (Flow Int Int) :=
bif decide ((w64 (x73 + (List.length v75 : Int))) < (0 : Int)) then
(none)
else
(some (.next (w64 (x73 + (List.length v75 : Int)))))
@[reducible] def slices_Concat_Lintint_s8 (a0 : (List (List Int))) (v : Int × Int) : Fr × LL := ([(0, aD (.slice (.slice tI)) a0), (3, aI v.2), (9, aD (.slice (.slice tI)) a0), (10, aI (List.length a0 : Int)), (11, aI v.1)], [])
@[reducible] def slices_Concat_Lintint_s9 (a0 : (List (List Int))) (v : Int) : Fr × LL := ([(0, aD (.slice (.slice tI)) a0), (3, aI v)], [])
def slices_Concat_Lintint_b10 (i98 : Int) (v101 : (List Int)) (x99 : (List Int)) : Option (Flow (List Int) (List Int)) :=
(ck ((List.length x99 : Int) + (List.length v101 : Int) ≤ 4294967296)).bind fun _ =>
some (.next (x99 ++ v101))
@[reducible] def slices_Concat_Lintint_s11 (a0 : (List (List Int))) (v : Int × (List Int)) : Fr × LL := ([(6, .one (.slc 24)), (25, aD (.slice (.slice tI)) a0), (26, aI (List.length a0 : Int)), (27, aI v.1)], [(24, .seq tI v.2)])
@[reducible] def slices_Concat_Lintint_s12 (v : (List Int)) : Fr × LL := ([(6, .one (.slc 24))], [(24, .seq tI v)])
def slices_Concat_Lintint (a0 : (List (List Int))) : Option (List Int) :=
(forL slices_Concat_Lintint_b7 (fun x73 => x73) a0 0 (0 : Int)).bind fun v81 =>
(slices_Grow_Lintint v81).bind fun r86 =>
(forL slices_Concat_Lintint_b10 (fun x99 => x99) a0 0 r86).bind fun v106 =>
some v106
theorem slices_Concat_Lintint_ok {a0 : (List (List Int))} {r : (List Int)} (h : slices_Concat_Lintint a0 = some r) : FnC Try.prog 89 [aD (.slice (.slice tI)) a0] [] (.one (.slc 24)) [(24, .seq tI r)] := by
  refine fnC_of_W (B := bodyOf Try.f89) (n := 36) Try.func89 (by kernel_rfl) (by kernel_rfl) (by kernel_rfl) (by kernel_rfl) (by kernel_rfl) ?_
  intro K
  refine W_seq (by kernel_rfl) ?_
  refine W_run 1 [] [0] [] (fr' := [(0, aD (.slice (.slice tI)) a0)]) (L' := []) (obs := []) (by kernel_rfl) (by kernel_rfl) (by kernel_rfl) allP0 ?_
  refine seqQ_norm ?_
  refine W_seq (by kernel_rfl) ?_
  refine W_run 1 [] [0, 3] [] (fr' := [(0, aD (.slice (.slice tI)) a0), (3, aI (0 : Int))]) (L' := []) (obs := []) (by kernel_rfl) (by kernel_rfl) (by kernel_rfl) allP0 ?_
  refine seqQ_norm ?_
  refine W_seq (by kernel_rfl) ?_
  refine W_seq (by kernel_rfl) ?_
  refine W_run 3 [] [0, 3, 9, 10, 11] [] (fr' := [(0, aD (.slice (.slice tI)) a0), (3, aI (0 : Int)), (9, aD (.slice (.slice tI)) a0), (10, aI (List.length a0 : Int)), (11, aI (0 : Int))]) (L' := []) (obs := []) (by kernel_rfl) (by kernel_rfl) (by kernel_rfl) allP0 ?_
  refine seqQ_norm ?_
  refine W_block (id := 0) (by kernel_rfl) ?_
  obtain ⟨v81, h82, h⟩ := bind_of h
  refine W_len (t := 9) (u := (.slice tI)) (xs := a0) (by kernel_rfl) (fun h85 => ?_)
  obtain ⟨h83, h84⟩ := forL_iter h85 h82
  refine W_weaken [0, 3, 9, 10, 11] [] (fr' := ((slices_Concat_Lintint_s8 a0) ((0 : Int), (0 : Int))).1) (L' := ((slices_Concat_Lintint_s8 a0) ((0 : Int), (0 : Int))).2) (by kernel_rfl) ?_
  refine W_cutK (W_loop (S := (slices_Concat_Lintint_s8 a0)) (J := (exQ (.exit 0) (slices_Concat_Lintint_s9 a0))) (by kernel_rfl) ?_ h83 _ v81 h84) ?_
  · rintro ⟨i72, x73⟩ s h
    refine W_seq (by kernel_rfl) ?_
    refine W_run 1 [] [0, 3, 9, 10, 11, 12] [] (fr' := [(0, aD (.slice (.slice tI)) a0), (3, aI x73), (9, aD (.slice (.slice tI)) a0), (10, aI (List.length a0 : Int)), (11, aI i72), (12, aB (decide (i72 < (List.length a0 : Int))))]) (L' := []) (obs := []) (by kernel_rfl) (by kernel_rfl) (by kernel_rfl) allP0 ?_
    refine seqQ_norm ?_
    refine W_seq (by kernel_rfl) ?_
    refine W_cond (o := .tmp 12) (b := decide (i72 < (List.length a0 : Int))) (by kernel_rfl) (by kernel_rfl) (fun h77 => ?_) (fun h77 => ?_)
    · replace h := stepL_true h77 h
      obtain ⟨v75, _, h76, h, rfl⟩ := h
      refine W_skip [0, 3, 9, 10, 11] [] (fr' := [(0, aD (.slice (.slice tI)) a0), (3, aI x73), (9, aD (.slice (.slice tI)) a0), (10, aI (List.length a0 : Int)), (11, aI i72)]) (L' := []) (by kernel_rfl) (by kernel_rfl) ?_
      refine seqQ_norm ?_
      refine W_seq (by kernel_rfl) ?_
      refine W_block (id := 1) (by kernel_rfl) ?_
      refine W_seq (by kernel_rfl) ?_
      refine W_run 3 [(1, .val (.dat (.slice tI) v75))] [0, 3, 5, 9, 10, 11] [] (fr' := [(0, aD (.slice (.slice tI)) a0), (3, aI x73), (5, aD (.slice tI) v75), (9, aD (.slice (.slice tI)) a0), (10, aI (List.length a0 : Int)), (11, aI i72)]) (L' := []) (obs := [Idx a0 i72 v75]) (by kernel_rfl) (by kernel_rfl) (by kernel_rfl) (allP1 (Idx.of h76)) ?_
      refine seqQ_norm ?_
      refine W_seq (by kernel_rfl) ?_
      refine W_run 5 [] [0, 3, 9, 10, 11] [] (fr' := [(0, aD (.slice (.slice tI)) a0), (3, aI (w64 (x73 + (List.length v75 : Int)))), (9, aD (.slice (.slice tI)) a0), (10, aI (List.length a0 : Int)), (11, aI i72)]) (L' := []) (obs := []) (by kernel_rfl) (by kernel_rfl) (by kernel_rfl) allP0 ?_
      refine seqQ_norm ?_
      refine W_seq (by kernel_rfl) ?_
      refine W_run 2 [] [0, 3, 9, 10, 11, 20] [] (fr' := [(0, aD (.slice (.slice tI)) a0), (3, aI (w64 (x73 + (List.length v75 : Int)))), (9, aD (.slice (.slice tI)) a0), (10, aI (List.length a0 : Int)), (11, aI i72), (20, aB (decide ((w64 (x73 + (List.length v75 : Int))) < (0 : Int))))]) (L' := []) (obs := []) (by kernel_rfl) (by kernel_rfl) (by kernel_rfl) allP0 ?_
      refine seqQ_norm ?_
      refine W_cond (o := .tmp 20) (b := decide ((w64 (x73 + (List.length v75 : Int))) < (0 : Int))) (by kernel_rfl) (by kernel_rfl) (fun h79 => ?_) (fun h79 => ?_)
      · replace h := ofT h79 h
        cases h
      · replace h := ofF h79 h
        refine W_skip [0, 3, 9, 10, 11] [] (fr' := [(0, aD (.slice (.slice tI)) a0), (3, aI (w64 (x73 + (List.length v75 : Int)))), (9, aD (.slice (.slice tI)) a0), (10, aI (List.length a0 : Int)), (11, aI i72)]) (L' := []) (by kernel_rfl) (by kernel_rfl) ?_
        refine blockQ_norm ?_
        refine seqQ_norm ?_
        obtain rfl := Option.some.inj h
        refine W_run 2 [] [0, 3, 9, 10, 11] [] (fr' := [(0, aD (.slice (.slice tI)) a0), (3, aI (w64 (x73 + (List.length v75 : Int)))), (9, aD (.slice (.slice tI)) a0), (10, aI (List.length a0 : Int)), (11, aI (w64 (i72 + (1 : Int))))]) (L' := []) (obs := []) (by kernel_rfl) (by kernel_rfl) (by kernel_rfl) allP0 ?_
        exact round_next' (by kernel_rfl) (by kernel_rfl)
    · obtain rfl := stepL_false h77 h
      refine W_exit (id := 0) [0, 3] [] (fr' := [(0, aD (.slice (.slice tI)) a0), (3, aI x73)]) (L' := []) (by kernel_rfl) (by kernel_rfl) ?_
      refine seqQ_exit ?_
      refine round_exit ?_
      exact exQ_mk (by kernel_rfl) (by kernel_rfl)
  · intro e fr L hJ
    obtain ⟨rfl, rfl, rfl⟩ := hJ
    refine LT_keep [0, 3] [] (fr' := [(0, aD (.slice (.slice tI)) a0), (3, aI v81)]) (L' := []) (by kernel_rfl) ?_
    refine blockQ_hit ?_
    refine seqQ_norm ?_
    refine W_seq (by kernel_rfl) ?_
    refine W_region (by kernel_rfl) ?_
    refine WO_run (j := 1) (k := 1) (orcs := []) (kF := [0, 23]) (kL := []) (fr' := [(0, aD (.slice (.slice tI)) a0), (23, aI v81)]) (L' := []) (obs := []) rfl (by kernel_rfl) allP0 ?_
    obtain ⟨r86, h87, h⟩ := bind_of h
    refine WO_call1 (us := [none, none]) (d := 24) (t := 24) (p := True) (j := 2) rfl ⟨by kernel_rfl, by kernel_rfl, by kernel_rfl⟩ trivial (slices_Grow_Lintint_ok h87) (by kernel_rfl) ?_
    refine WO_run (j := 3) (k := 1) (orcs := []) (kF := [0, 6]) (kL := [24]) (fr' := [(0, aD (.slice (.slice tI)) a0), (6, .one (.slc 24))]) (L' := [(24, .seq tI r86)]) (obs := []) rfl (by kernel_rfl) allP0 ?_
    refine WO_fin [0, 6] [24] (fr' := [(0, aD (.slice (.slice tI)) a0), (6, .one (.slc 24))]) (L' := [(24, .seq tI r86)]) (by kernel_rfl) (by kernel_rfl) ?_
    refine seqQ_norm ?_
    refine W_seq (by kernel_rfl) ?_
    refine W_seq (by kernel_rfl) ?_
    refine W_run 3 [] [6, 25, 26, 27] [24] (fr' := [(6, .one (.slc 24)), (25, aD (.slice (.slice tI)) a0), (26, aI (List.length a0 : Int)), (27, aI (0 : Int))]) (L' := [(24, .seq tI r86)]) (obs := []) (by kernel_rfl) (by kernel_rfl) (by kernel_rfl) allP0 ?_
    refine seqQ_norm ?_
    refine W_block (id := 2) (by kernel_rfl) ?_
    obtain ⟨v106, h107, h⟩ := bind_of h
    refine W_len (t := 25) (u := (.slice tI)) (xs := a0) (by kernel_rfl) (fun h110 => ?_)
    obtain ⟨h108, h109⟩ := forL_iter h110 h107
    refine W_weaken [6, 25, 26, 27] [24] (fr' := ((slices_Concat_Lintint_s11 a0) ((0 : Int), r86)).1) (L' := ((slices_Concat_Lintint_s11 a0) ((0 : Int), r86)).2) (by kernel_rfl) ?_
    refine W_cutK (W_loop (S := (slices_Concat_Lintint_s11 a0)) (J := (exQ (.exit 2) slices_Concat_Lintint_s12)) (by kernel_rfl) ?_ h108 _ v106 h109) ?_
    · rintro ⟨i98, x99⟩ s h
      refine W_seq (by kernel_rfl) ?_
      refine W_run 1 [] [6, 25, 26, 27, 28] [24] (fr' := [(6, .one (.slc 24)), (25, aD (.slice (.slice tI)) a0), (26, aI (List.length a0 : Int)), (27, aI i98), (28, aB (decide (i98 < (List.length a0 : Int))))]) (L' := [(24, .seq tI x99)]) (obs := []) (by kernel_rfl) (by kernel_rfl) (by kernel_rfl) allP0 ?_
      refine seqQ_norm ?_
      refine W_seq (by kernel_rfl) ?_
      refine W_cond (o := .tmp 28) (b := decide (i98 < (List.length a0 : Int))) (by kernel_rfl) (by kernel_rfl) (fun h103 => ?_) (fun h103 => ?_)
      · replace h := stepL_true h103 h
        obtain ⟨v101, _, h102, h, rfl⟩ := h
        refine W_skip [6, 25, 26, 27] [24] (fr' := [(6, .one (.slc 24)), (25, aD (.slice (.slice tI)) a0), (26, aI (List.length a0 : Int)), (27, aI i98)]) (L' := [(24, .seq tI x99)]) (by kernel_rfl) (by kernel_rfl) ?_
        refine seqQ_norm ?_
        refine W_seq (by kernel_rfl) ?_
        refine W_block (id := 3) (by kernel_rfl) ?_
        refine W_seq (by kernel_rfl) ?_
        refine W_run 3 [(1, .val (.dat (.slice tI) v101))] [6, 8, 25, 26, 27] [24] (fr' := [(6, .one (.slc 24)), (8, aD (.slice tI) v101), (25, aD (.slice (.slice tI)) a0), (26, aI (List.length a0 : Int)), (27, aI i98)]) (L' := [(24, .seq tI x99)]) (obs := [Idx a0 i98 v101]) (by kernel_rfl) (by kernel_rfl) (by kernel_rfl) (allP1 (Idx.of h102)) ?_
        refine seqQ_norm ?_
        obtain ⟨_, h104, h⟩ := bind_of h
        replace h104 := ck_some h104
        refine W_run 4 [] [6, 25, 26, 27] [24] (fr' := [(6, .one (.slc 24)), (25, aD (.slice (.slice tI)) a0), (26, aI (List.length a0 : Int)), (27, aI i98)]) (L' := [(24, .seq tI (x99 ++ v101))]) (obs := [SmallLen (List.length x99 + List.length v101)]) (by kernel_rfl) (by kernel_rfl) (by kernel_rfl) (allP1 h104) ?_
        refine blockQ_norm ?_
        refine seqQ_norm ?_
        obtain rfl := Option.some.inj h
        refine W_run 2 [] [6, 25, 26, 27] [24] (fr' := [(6, .one (.slc 24)), (25, aD (.slice (.slice tI)) a0), (26, aI (List.length a0 : Int)), (27, aI (w64 (i98 + (1 : Int))))]) (L' := [(24, .seq tI (x99 ++ v101))]) (obs := []) (by kernel_rfl) (by kernel_rfl) (by kernel_rfl) allP0 ?_
        exact round_next' (by kernel_rfl) (by kernel_rfl)
      · obtain rfl := stepL_false h103 h
        refine W_exit (id := 2) [6] [24] (fr' := [(6, .one (.slc 24))]) (L' := [(24, .seq tI x99)]) (by kernel_rfl) (by kernel_rfl) ?_
        refine seqQ_exit ?_
        refine round_exit ?_
        exact exQ_mk (by kernel_rfl) (by kernel_rfl)
    · intro e fr L hJ
      obtain ⟨rfl, rfl, rfl⟩ := hJ
      refine LT_keep [6] [24] (fr' := [(6, .one (.slc 24))]) (L' := [(24, .seq tI v106)]) (by kernel_rfl) ?_
      refine blockQ_hit ?_
      refine seqQ_norm ?_
      refine W_seq (by kernel_rfl) ?_
      refine W_run 2 [] [2] [24] (fr' := [(2, .one (.slc 24))]) (L' := [(24, .seq tI v106)]) (obs := []) (by kernel_rfl) (by kernel_rfl) (by kernel_rfl) allP0 ?_
      refine seqQ_norm ?_
      obtain rfl := Option.some.inj h
      refine W_ret [2] [24] (fr' := [(2, .one (.slc 24))]) (L' := [(24, .seq tI v106)]) (by kernel_rfl) (by kernel_rfl) ?_
      exact retQ_mk (by kernel_rfl) (by kernel_rfl) (by kernel_rfl)

def half_wrong_2 (a0 : Int) (c0 : Int) : Option Bool :=
some ((decide (a0 < (0 : Int))) || (decide (a0 ≥ c0)))
theorem half_wrong_2_ok {a0 : Int} {c0 : Int} {r : Bool} (h : half_wrong_2 a0 c0 = some r) : FnC Try.prog 90 [aI a0, .one (.ptr 1000 0)] [(1000, .cells [.dat tI c0])] (aB r) [(1000, .cells [.dat tI c0])] := by
  refine fnC_of_W (B := bodyOf Try.f90) (n := 11) Try.func90 (by kernel_rfl) (by kernel_rfl) (by kernel_rfl) (by kernel_rfl) (by kernel_rfl) ?_
  intro K
  refine W_seq (by kernel_rfl) ?_
  refine W_run 1 [] [0, 1] [1000] (fr' := [(0, aI a0), (1, .one (.ptr 1000 0))]) (L' := [(1000, .cells [.dat tI c0])]) (obs := []) (by kernel_rfl) (by kernel_rfl) (by kernel_rfl) allP0 ?_
  refine seqQ_norm ?_
  refine W_seq (by kernel_rfl) ?_
  refine W_run 8 [] [3] [1000] (fr' := [(3, aB ((decide (a0 < (0 : Int))) || (decide (a0 ≥ c0))))]) (L' := [(1000, .cells [.dat tI c0])]) (obs := []) (by kernel_rfl) (by kernel_rfl) (by kernel_rfl) allP0 ?_
  refine seqQ_norm ?_
  obtain rfl := Option.some.inj h
  refine W_ret [3] [1000] (fr' := [(3, aB ((decide (a0 < (0 : Int))) || (decide (a0 ≥ c0))))]) (L' := [(1000, .cells [.dat tI c0])]) (by kernel_rfl) (by kernel_rfl) ?_
  exact retQ_mk (by kernel_rfl) (by kernel_rfl) (by kernel_rfl)

def slices_IndexFunc_Lintint_with_half_wrong_2_b1 (c0 : Int) (i15 : Int) (v18 : Int) (x16 : Unit) : Option (Flow Unit (Esc Int Unit)) :=
(half_wrong_2 v18 c0).bind fun r21 =>
bif r21 then
(some (.done (.ret i15)))
else
(some (.next ()))
@[reducible] def slices_IndexFunc_Lintint_with_half_wrong_2_s2 (a0 : (List Int)) (c0 : Int) (v : Int × Unit) : Fr × LL := ([(0, aD (.slice tI) a0), (1, .one (.fn 90 [(1000, 0)])), (7, aI (List.length a0 : Int)), (8, aI v.1)], [(1000, .cells [.dat tI c0])])
@[reducible] def slices_IndexFunc_Lintint_with_half_wrong_2_s3 (c0 : Int) (v : Int) : Fr × LL := ([(4, aI v)], [(1000, .cells [.dat tI c0])])
@[reducible] def slices_IndexFunc_Lintint_with_half_wrong_2_s4 (c0 : Int) (v : Unit) : Fr × LL := ([], [(1000, .cells [.dat tI c0])])
def slices_IndexFunc_Lintint_with_half_wrong_2 (a0 : (List Int)) (c0 : Int) : Option Int :=
(forL (slices_IndexFunc_Lintint_with_half_wrong_2_b1 c0) (fun x16 => (.brk ())) a0 0 ()).bind fun v25 =>
match v25 with
| .ret v30 =>
(some v30)
| .brk v31 =>
(some (-1 : Int))
theorem slices_IndexFunc_Lintint_with_half_wrong_2_ok {a0 : (List Int)} {c0 : Int} {r : Int} (h : slices_IndexFunc_Lintint_with_half_wrong_2 a0 c0 = some r) : FnC Try.prog 81 [aD (.slice tI) a0, .one (.fn 90 [(1000, 0)])] [(1000, .cells [.dat tI c0])] (aI r) [(1000, .cells [.dat tI c0])] := by
  refine fnC_of_W (B := bodyOf Try.f81) (n := 19) Try.func81 (by kernel_rfl) (by kernel_rfl) (by kernel_rfl) (by kernel_rfl) (by kernel_rfl) ?_
  intro K
  refine W_seq (by kernel_rfl) ?_
  refine W_run 1 [] [0, 1] [1000] (fr' := [(0, aD (.slice tI) a0), (1, .one (.fn 90 [(1000, 0)]))]) (L' := [(1000, .cells [.dat tI c0])]) (obs := []) (by kernel_rfl) (by kernel_rfl) (by kernel_rfl) allP0 ?_
  refine seqQ_norm ?_
  refine W_seq (by kernel_rfl) ?_
  refine W_seq (by kernel_rfl) ?_
  refine W_run 3 [] [0, 1, 7, 8] [1000] (fr' := [(0, aD (.slice tI) a0), (1, .one (.fn 90 [(1000, 0)])), (7, aI (List.length a0 : Int)), (8, aI (0 : Int))]) (L' := [(1000, .cells [.dat tI c0])]) (obs := []) (by kernel_rfl) (by kernel_rfl) (by kernel_rfl) allP0 ?_
  refine seqQ_norm ?_
  refine W_block (id := 0) (by kernel_rfl) ?_
  obtain ⟨v25, h26, h⟩ := bind_of h
  refine W_len (t := 0) (u := tI) (xs := a0) (by kernel_rfl) (fun h29 => ?_)
  obtain ⟨h27, h28⟩ := forL_iter h29 h26
  refine W_weaken [0, 1, 7, 8] [1000] (fr' := ((slices_IndexFunc_Lintint_with_half_wrong_2_s2 a0 c0) ((0 : Int), ())).1) (L' := ((slices_IndexFunc_Lintint_with_half_wrong_2_s2 a0 c0) ((0 : Int), ())).2) (by kernel_rfl) ?_
  refine W_cutK (W_loop (S := (slices_IndexFunc_Lintint_with_half_wrong_2_s2 a0 c0)) (J := (escQ (exQ .ret (slices_IndexFunc_Lintint_with_half_wrong_2_s3 c0)) (exQ (.exit 0) (slices_IndexFunc_Lintint_with_half_wrong_2_s4 c0)))) (by kernel_rfl) ?_ h27 _ v25 h28) ?_
  · rintro ⟨i15, x16⟩ s h
    refine W_seq (by kernel_rfl) ?_
    refine W_run 1 [] [0, 1, 7, 8, 9] [1000] (fr' := [(0, aD (.slice tI) a0), (1, .one (.fn 90 [(1000, 0)])), (7, aI (List.length a0 : Int)), (8, aI i15), (9, aB (decide (i15 < (List.length a0 : Int))))]) (L' := [(1000, .cells [.dat tI c0])]) (obs := []) (by kernel_rfl) (by kernel_rfl) (by kernel_rfl) allP0 ?_
    refine seqQ_norm ?_
    refine W_seq (by kernel_rfl) ?_
    refine W_cond (o := .tmp 9) (b := decide (i15 < (List.length a0 : Int))) (by kernel_rfl) (by kernel_rfl) (fun h20 => ?_) (fun h20 => ?_)
    · replace h := stepL_true h20 h
      obtain ⟨v18, _, h19, h, rfl⟩ := h
      refine W_skip [0, 1, 7, 8] [1000] (fr' := [(0, aD (.slice tI) a0), (1, .one (.fn 90 [(1000, 0)])), (7, aI (List.length a0 : Int)), (8, aI i15)]) (L' := [(1000, .cells [.dat tI c0])]) (by kernel_rfl) (by kernel_rfl) ?_
      refine seqQ_norm ?_
      refine W_seq (by kernel_rfl) ?_
      refine W_block (id := 1) (by kernel_rfl) ?_
      refine W_seq (by kernel_rfl) ?_
      refine W_run 2 [] [0, 1, 5, 7, 8] [1000] (fr' := [(0, aD (.slice tI) a0), (1, .one (.fn 90 [(1000, 0)])), (5, aI i15), (7, aI (List.length a0 : Int)), (8, aI i15)]) (L' := [(1000, .cells [.dat tI c0])]) (obs := []) (by kernel_rfl) (by kernel_rfl) (by kernel_rfl) allP0 ?_
      refine seqQ_norm ?_
      refine W_seq (by kernel_rfl) ?_
      refine W_region (by kernel_rfl) ?_
      refine WO_run (j := 5) (k := 5) (orcs := [(7, .val (.dat tI v18))]) (kF := [0, 1, 5, 7, 8, 11, 15]) (kL := [1000]) (fr' := [(0, aD (.slice tI) a0), (1, .one (.fn 90 [(1000, 0)])), (5, aI i15), (7, aI (List.length a0 : Int)), (8, aI i15), (11, .one (.fn 90 [(1000, 0)])), (15, aI v18)]) (L' := [(1000, .cells [.dat tI c0])]) (obs := [Idx a0 i15 v18]) rfl (by kernel_rfl) (allP1 (Idx.of h19)) ?_
      obtain ⟨r21, h22, h⟩ := bind_of h
      refine WO_lend [(1000, 1000)] (us := [none, none]) (d := 16) (p := True) (j := 6) rfl ⟨by kernel_rfl, by kernel_rfl, by kernel_rfl⟩ trivial (half_wrong_2_ok h22) (by kernel_rfl) (by kernel_rfl) ?_
      refine WO_fin [0, 1, 5, 7, 8, 16] [1000] (fr' := [(0, aD (.slice tI) a0), (1, .one (.fn 90 [(1000, 0)])), (5, aI i15), (7, aI (List.length a0 : Int)), (8, aI i15), (16, aB r21)]) (L' := [(1000, .cells [.dat tI c0])]) (by kernel_rfl) (by kernel_rfl) ?_
      refine seqQ_norm ?_
      refine W_cond (o := .tmp 16) (b := r21) (by kernel_rfl) (by kernel_rfl) (fun h23 => ?_) (fun h23 => ?_)
      · replace h := ofT h23 h
        refine W_seq (by kernel_rfl) ?_
        refine W_run 2 [] [4] [1000] (fr' := [(4, aI i15)]) (L' := [(1000, .cells [.dat tI c0])]) (obs := []) (by kernel_rfl) (by kernel_rfl) (by kernel_rfl) allP0 ?_
        refine seqQ_norm ?_
        obtain rfl := Option.some.inj h
        refine W_ret [4] [1000] (fr' := [(4, aI i15)]) (L' := [(1000, .cells [.dat tI c0])]) (by kernel_rfl) (by kernel_rfl) ?_
        refine blockQ_ret ?_
        refine seqQ_ret ?_
        refine round_ret ?_
        refine escQ_ret ?_
        exact exQ_mk (by kernel_rfl) (by kernel_rfl)
      · replace h := ofF h23 h
        refine W_skip [0, 1, 7, 8] [1000] (fr' := [(0, aD (.slice tI) a0), (1, .one (.fn 90 [(1000, 0)])), (7, aI (List.length a0 : Int)), (8, aI i15)]) (L' := [(1000, .cells [.dat tI c0])]) (by kernel_rfl) (by kernel_rfl) ?_
        refine blockQ_norm ?_
        refine seqQ_norm ?_
        obtain rfl := Option.some.inj h
        refine W_run 2 [] [0, 1, 7, 8] [1000] (fr' := [(0, aD (.slice tI) a0), (1, .one (.fn 90 [(1000, 0)])), (7, aI (List.length a0 : Int)), (8, aI (w64 (i15 + (1 : Int))))]) (L' := [(1000, .cells [.dat tI c0])]) (obs := []) (by kernel_rfl) (by kernel_rfl) (by kernel_rfl) allP0 ?_
        exact round_next' (by kernel_rfl) (by kernel_rfl)
    · obtain rfl := stepL_false h20 h
      refine W_exit (id := 0) [] [1000] (fr' := []) (L' := [(1000, .cells [.dat tI c0])]) (by kernel_rfl) (by kernel_rfl) ?_
      refine seqQ_exit ?_
      refine round_exit ?_
      refine escQ_brk ?_
      exact exQ_mk (by kernel_rfl) (by kernel_rfl)
  · intro e fr L hJ
    rcases v25 with v30 | v31
    · obtain ⟨rfl, rfl, rfl⟩ := hJ
      obtain rfl := Option.some.inj h
      refine LT_keep [4] [1000] (fr' := [(4, aI v30)]) (L' := [(1000, .cells [.dat tI c0])]) (by kernel_rfl) ?_
      refine blockQ_ret ?_
      refine seqQ_ret ?_
      exact retQ_mk (by kernel_rfl) (by kernel_rfl) (by kernel_rfl)
    · obtain ⟨rfl, rfl, rfl⟩ := hJ
      refine LT_keep [] [1000] (fr' := []) (L' := [(1000, .cells [.dat tI c0])]) (by kernel_rfl) ?_
      refine blockQ_hit ?_
      refine seqQ_norm ?_
      refine W_seq (by kernel_rfl) ?_
      refine W_run 1 [] [4] [1000] (fr' := [(4, aI (-1 : Int))]) (L' := [(1000, .cells [.dat tI c0])]) (obs := []) (by kernel_rfl) (by kernel_rfl) (by kernel_rfl) allP0 ?_
      refine seqQ_norm ?_
      obtain rfl := Option.some.inj h
      refine W_ret [4] [1000] (fr' := [(4, aI (-1 : Int))]) (L' := [(1000, .cells [.dat tI c0])]) (by kernel_rfl) (by kernel_rfl) ?_
      exact retQ_mk (by kernel_rfl) (by kernel_rfl) (by kernel_rfl)

def slices_ContainsFunc_Lintint_with_half_wrong_2 (a0 : (List Int)) (c0 : Int) : Option Bool :=
(slices_IndexFunc_Lintint_with_half_wrong_2 a0 c0).bind fun r1 =>
some (decide (r1 ≥ (0 : Int)))
theorem slices_ContainsFunc_Lintint_with_half_wrong_2_ok {a0 : (List Int)} {c0 : Int} {r : Bool} (h : slices_ContainsFunc_Lintint_with_half_wrong_2 a0 c0 = some r) : FnC Try.prog 53 [aD (.slice tI) a0, .one (.fn 90 [(1000, 0)])] [(1000, .cells [.dat tI c0])] (aB r) [(1000, .cells [.dat tI c0])] := by
  refine fnC_of_W (B := bodyOf Try.f53) (n := 9) Try.func53 (by kernel_rfl) (by kernel_rfl) (by kernel_rfl) (by kernel_rfl) (by kernel_rfl) ?_
  intro K
  refine W_seq (by kernel_rfl) ?_
  refine W_run 1 [] [0, 1] [1000] (fr' := [(0, aD (.slice tI) a0), (1, .one (.fn 90 [(1000, 0)]))]) (L' := [(1000, .cells [.dat tI c0])]) (obs := []) (by kernel_rfl) (by kernel_rfl) (by kernel_rfl) allP0 ?_
  refine seqQ_norm ?_
  refine W_seq (by kernel_rfl) ?_
  refine W_region (by kernel_rfl) ?_
  refine WO_run (j := 2) (k := 2) (orcs := []) (kF := [5, 6]) (kL := [1000]) (fr' := [(5, aD (.slice tI) a0), (6, .one (.fn 90 [(1000, 0)]))]) (L' := [(1000, .cells [.dat tI c0])]) (obs := []) rfl (by kernel_rfl) allP0 ?_
  obtain ⟨r1, h2, h⟩ := bind_of h
  refine WO_lend [(1000, 1000)] (us := [none, none]) (d := 7) (p := True) (j := 3) rfl ⟨by kernel_rfl, by kernel_rfl, by kernel_rfl⟩ trivial (slices_IndexFunc_Lintint_with_half_wrong_2_ok h2) (by kernel_rfl) (by kernel_rfl) ?_
  refine WO_run (j := 5) (k := 2) (orcs := []) (kF := [4]) (kL := [1000]) (fr' := [(4, aB (decide (r1 ≥ (0 : Int))))]) (L' := [(1000, .cells [.dat tI c0])]) (obs := []) rfl (by kernel_rfl) allP0 ?_
  refine WO_fin [4] [1000] (fr' := [(4, aB (decide (r1 ≥ (0 : Int))))]) (L' := [(1000, .cells [.dat tI c0])]) (by kernel_rfl) (by kernel_rfl) ?_
  refine seqQ_norm ?_
  obtain rfl := Option.some.inj h
  refine W_ret [4] [1000] (fr' := [(4, aB (decide (r1 ≥ (0 : Int))))]) (L' := [(1000, .cells [.dat tI c0])]) (by kernel_rfl) (by kernel_rfl) ?_
  exact retQ_mk (by kernel_rfl) (by kernel_rfl) (by kernel_rfl)

def half_wrong_g1 (a0 : (List (List Int))) : Option Bool :=
bif (decide ((List.length a0 : Int) < (1 : Int))) || (decide ((List.length a0 : Int) > (8 : Int))) then
(some true)
else
((slices_ContainsFunc_LLintLint_with_half_wrong_1 a0).bind fun r8 =>
some r8)
@[reducible] def half_wrong_s2 (a0 : (List (List Int))) (a1 : (List Int)) (v : Bool) : Fr × LL := ([(0, aD (.slice (.slice tI)) a0), (1, aD (.slice tI) a1), (5, .one (.ptr 5 0)), (17, aB v)], [(5, .cells [.dat tI (List.length a0 : Int)])])
def half_wrong (a0 : (List (List Int))) (a1 : (List Int)) : Option Int :=
(half_wrong_g1 a0).bind fun v10 =>
bif v10 then
(some (1 : Int))
else
((slices_Concat_Lintint a0).bind fun r13 =>
(slices_Concat_Lintint [r13, a1]).bind fun r15 =>
(slices_ContainsFunc_Lintint_with_half_wrong_2 r15 (List.length a0 : Int)).bind fun r17 =>
bif r17 then
(some (2 : Int))
else
(some (0 : Int)))
theorem half_wrong_ok {a0 : (List (List Int))} {a1 : (List Int)} {r : Int} (h : half_wrong a0 a1 = some r) : FnC Try.prog 70 [aD (.slice (.slice tI)) a0, aD (.slice tI) a1] [] (aI r) [] := by
  refine fnC_of_W (B := bodyOf Try.f70) (n := 25) Try.func70 (by kernel_rfl) (by kernel_rfl) (by kernel_rfl) (by kernel_rfl) (by kernel_rfl) ?_
  intro K
  refine W_seq (by kernel_rfl) ?_
  refine W_run 1 [] [0, 1] [] (fr' := [(0, aD (.slice (.slice tI)) a0), (1, aD (.slice tI) a1)]) (L' := []) (obs := []) (by kernel_rfl) (by kernel_rfl) (by kernel_rfl) allP0 ?_
  refine seqQ_norm ?_
  refine W_seq (by kernel_rfl) ?_
  refine W_run 4 [] [0, 1, 5] [5] (fr' := [(0, aD (.slice (.slice tI)) a0), (1, aD (.slice tI) a1), (5, .one (.ptr 5 0))]) (L' := [(5, .cells [.dat tI (List.length a0 : Int)])]) (obs := [True]) (by kernel_rfl) (by kernel_rfl) (by kernel_rfl) (allP1 trivial) ?_
  refine seqQ_norm ?_
  refine W_seq (by kernel_rfl) ?_
  refine W_seq (by kernel_rfl) ?_
  obtain ⟨v10, h11, h⟩ := bind_of h
  refine W_cutK (Q' := (exQ .normal (half_wrong_s2 a0 a1)) v10) ?_ ?_
  · replace h := h11
    refine W_region (by kernel_rfl) ?_
    refine WO_run (j := 7) (k := 7) (orcs := []) (kF := [0, 1, 5, 14]) (kL := [5]) (fr' := [(0, aD (.slice (.slice tI)) a0), (1, aD (.slice tI) a1), (5, .one (.ptr 5 0)), (14, aB ((decide ((List.length a0 : Int) < (1 : Int))) || (decide ((List.length a0 : Int) > (8 : Int)))))]) (L' := [(5, .cells [.dat tI (List.length a0 : Int)])]) (obs := []) rfl (by kernel_rfl) allP0 ?_
    rcases Bool.eq_false_or_eq_true ((decide ((List.length a0 : Int) < (1 : Int))) || (decide ((List.length a0 : Int) > (8 : Int)))) with h7 | h7
    · replace h := ofT h7 h
      refine WO_run (j := 10) (k := 3) (orcs := [(14, .known true), (16, .known true), (19, .val (.dat .bool true))]) (kF := [0, 1, 5, 17]) (kL := [5]) (fr' := [(0, aD (.slice (.slice tI)) a0), (1, aD (.slice tI) a1), (5, .one (.ptr 5 0)), (17, aB true)]) (L' := [(5, .cells [.dat tI (List.length a0 : Int)])]) (obs := [(((decide ((List.length a0 : Int) < (1 : Int))) || (decide ((List.length a0 : Int) > (8 : Int)))) = true), (((decide ((List.length a0 : Int) < (1 : Int))) || (decide ((List.length a0 : Int) > (8 : Int)))) = true), (((decide ((List.length a0 : Int) < (1 : Int))) || (decide ((List.length a0 : Int) > (8 : Int)))) = true)]) rfl (by kernel_rfl) (allP2 h7 (allP2 h7 (allP1 h7))) ?_
      obtain rfl := Option.some.inj h
      refine WO_fin [0, 1, 5, 17] [5] (fr' := [(0, aD (.slice (.slice tI)) a0), (1, aD (.slice tI) a1), (5, .one (.ptr 5 0)), (17, aB true)]) (L' := [(5, .cells [.dat tI (List.length a0 : Int)])]) (by kernel_rfl) (by kernel_rfl) ?_
      exact exQ_mk (by kernel_rfl) (by kernel_rfl)
    · replace h := ofF h7 h
      refine WO_run (j := 8) (k := 1) (orcs := [(14, .known false)]) (kF := [0, 1, 5, 14, 15]) (kL := [5]) (fr' := [(0, aD (.slice (.slice tI)) a0), (1, aD (.slice tI) a1), (5, .one (.ptr 5 0)), (14, aB ((decide ((List.length a0 : Int) < (1 : Int))) || (decide ((List.length a0 : Int) > (8 : Int))))), (15, aD (.slice (.slice tI)) a0)]) (L' := [(5, .cells [.dat tI (List.length a0 : Int)])]) (obs := [(((decide ((List.length a0 : Int) < (1 : Int))) || (decide ((List.length a0 : Int) > (8 : Int)))) = false)]) rfl (by kernel_rfl) (allP1 h7) ?_
      obtain ⟨r8, h9, h⟩ := bind_of h
      refine WO_call0 (us := [none, none]) (d := 16) (p := (((decide ((List.length a0 : Int) < (1 : Int))) || (decide ((List.length a0 : Int) > (8 : Int)))) = false)) (j := 9) rfl ⟨by kernel_rfl, by kernel_rfl, by kernel_rfl⟩ h7 (slices_ContainsFunc_LLintLint_with_half_wrong_1_ok h9) (by kernel_rfl) ?_
      refine WO_run (j := 10) (k := 1) (orcs := [(19, .val (.dat .bool false))]) (kF := [0, 1, 5, 17]) (kL := [5]) (fr' := [(0, aD (.slice (.slice tI)) a0), (1, aD (.slice tI) a1), (5, .one (.ptr 5 0)), (17, aB r8)]) (L' := [(5, .cells [.dat tI (List.length a0 : Int)])]) (obs := [(((decide ((List.length a0 : Int) < (1 : Int))) || (decide ((List.length a0 : Int) > (8 : Int)))) = false)]) rfl (by kernel_rfl) (allP1 h7) ?_
      obtain rfl := Option.some.inj h
      refine WO_fin [0, 1, 5, 17] [5] (fr' := [(0, aD (.slice (.slice tI)) a0), (1, aD (.slice tI) a1), (5, .one (.ptr 5 0)), (17, aB r8)]) (L' := [(5, .cells [.dat tI (List.length a0 : Int)])]) (by kernel_rfl) (by kernel_rfl) ?_
      exact exQ_mk (by kernel_rfl) (by kernel_rfl)
  · intro e fr L hJ
    obtain ⟨rfl, rfl, rfl⟩ := hJ
    refine LT_keep [0, 1, 5, 17] [5] (fr' := [(0, aD (.slice (.slice tI)) a0), (1, aD (.slice tI) a1), (5, .one (.ptr 5 0)), (17, aB v10)]) (L' := [(5, .cells [.dat tI (List.length a0 : Int)])]) (by kernel_rfl) ?_
    refine seqQ_norm ?_
    refine W_cond (o := .tmp 17) (b := v10) (by kernel_rfl) (by kernel_rfl) (fun h12 => ?_) (fun h12 => ?_)
    · replace h := ofT h12 h
      refine W_seq (by kernel_rfl) ?_
      refine W_run 1 [] [4] [] (fr' := [(4, aI (1 : Int))]) (L' := []) (obs := []) (by kernel_rfl) (by kernel_rfl) (by kernel_rfl) allP0 ?_
      refine seqQ_norm ?_
      obtain rfl := Option.some.inj h
      refine W_ret [4] [] (fr' := [(4, aI (1 : Int))]) (L' := []) (by kernel_rfl) (by kernel_rfl) ?_
      refine seqQ_ret ?_
      exact retQ_mk (by kernel_rfl) (by kernel_rfl) (by kernel_rfl)
    · replace h := ofF h12 h
      refine W_skip [0, 1, 5] [5] (fr' := [(0, aD (.slice (.slice tI)) a0), (1, aD (.slice tI) a1), (5, .one (.ptr 5 0))]) (L' := [(5, .cells [.dat tI (List.length a0 : Int)])]) (by kernel_rfl) (by kernel_rfl) ?_
      refine seqQ_norm ?_
      refine W_seq (by kernel_rfl) ?_
      refine W_seq (by kernel_rfl) ?_
      refine W_region (by kernel_rfl) ?_
      refine WO_run (j := 1) (k := 1) (orcs := []) (kF := [1, 5, 18]) (kL := [5]) (fr' := [(1, aD (.slice tI) a1), (5, .one (.ptr 5 0)), (18, aD (.slice (.slice tI)) a0)]) (L' := [(5, .cells [.dat tI (List.length a0 : Int)])]) (obs := []) rfl (by kernel_rfl) allP0 ?_
      obtain ⟨r13, h14, h⟩ := bind_of h
      refine WO_call1 (us := [none]) (d := 19) (t := 19) (p := True) (j := 2) rfl ⟨by kernel_rfl, by kernel_rfl, by kernel_rfl⟩ trivial (slices_Concat_Lintint_ok h14) (by kernel_rfl) ?_
      refine WO_run (j := 3) (k := 1) (orcs := []) (kF := [5, 19, 20]) (kL := [5, 19]) (fr' := [(5, .one (.ptr 5 0)), (19, .one (.slc 19)), (20, aD (.slice tI) a1)]) (L' := [(5, .cells [.dat tI (List.length a0 : Int)]), (19, .seq tI r13)]) (obs := []) rfl (by kernel_rfl) allP0 ?_
      refine WO_frz 19 (by kernel_rfl) ?_
      refine WO_run (j := 4) (k := 1) (orcs := []) (kF := [5, 21]) (kL := [5, 21]) (fr' := [(5, .one (.ptr 5 0)), (21, .one (.slc 21))]) (L' := [(5, .cells [.dat tI (List.length a0 : Int)]), (21, .seq (.slice tI) [r13, a1])]) (obs := []) rfl (by kernel_rfl) allP0 ?_
      obtain ⟨r15, h16, h⟩ := bind_of h
      refine WO_frz 21 (by kernel_rfl) ?_
      refine WO_call1 (us := [none]) (d := 22) (t := 22) (p := True) (j := 5) rfl ⟨by kernel_rfl, by kernel_rfl, by kernel_rfl⟩ trivial (slices_Concat_Lintint_ok h16) (by kernel_rfl) ?_
      refine WO_run (j := 6) (k := 1) (orcs := []) (kF := [22, 23]) (kL := [5, 22]) (fr' := [(22, .one (.slc 22)), (23, .one (.fn 90 [(5, 0)]))]) (L' := [(5, .cells [.dat tI (List.length a0 : Int)]), (22, .seq tI r15)]) (obs := []) rfl (by kernel_rfl) allP0 ?_
      obtain ⟨r17, h18, h⟩ := bind_of h
      refine WO_frz 22 (by kernel_rfl) ?_
      refine WO_lend [(1000, 5)] (us := [none, none]) (d := 24) (p := True) (j := 7) rfl ⟨by kernel_rfl, by kernel_rfl, by kernel_rfl⟩ trivial (slices_ContainsFunc_Lintint_with_half_wrong_2_ok h18) (by kernel_rfl) (by kernel_rfl) ?_
      refine WO_fin [24] [] (fr' := [(24, aB r17)]) (L' := []) (by kernel_rfl) (by kernel_rfl) ?_
      refine seqQ_norm ?_
      refine W_cond (o := .tmp 24) (b := r17) (by kernel_rfl) (by kernel_rfl) (fun h19 => ?_) (fun h19 => ?_)
      · replace h := ofT h19 h
        refine W_seq (by kernel_rfl) ?_
        refine W_run 1 [] [4] [] (fr' := [(4, aI (2 : Int))]) (L' := []) (obs := []) (by kernel_rfl) (by kernel_rfl) (by kernel_rfl) allP0 ?_
        refine seqQ_norm ?_
        obtain rfl := Option.some.inj h
        refine W_ret [4] [] (fr' := [(4, aI (2 : Int))]) (L' := []) (by kernel_rfl) (by kernel_rfl) ?_
        refine seqQ_ret ?_
        exact retQ_mk (by kernel_rfl) (by kernel_rfl) (by kernel_rfl)
      · replace h := ofF h19 h
        refine W_skip [] [] (fr' := []) (L' := []) (by kernel_rfl) (by kernel_rfl) ?_
        refine seqQ_norm ?_
        refine W_seq (by kernel_rfl) ?_
        refine W_run 1 [] [4] [] (fr' := [(4, aI (0 : Int))]) (L' := []) (obs := []) (by kernel_rfl) (by kernel_rfl) (by kernel_rfl) allP0 ?_
        refine seqQ_norm ?_
        obtain rfl := Option.some.inj h
        refine W_ret [4] [] (fr' := [(4, aI (0 : Int))]) (L' := []) (by kernel_rfl) (by kernel_rfl) ?_
        exact retQ_mk (by kernel_rfl) (by kernel_rfl) (by kernel_rfl)

def slices_Index_Lintint_b1 (a1 : Int) (i11 : Int) (v14 : Int) (x12 : Unit) : Option (Flow Unit (Esc Int Unit)) :=
bif a1 == v14 then
(some (.done (.ret i11)))
else
(some (.next ()))
@[reducible] def slices_Index_Lintint_s2 (a0 : (List Int)) (a1 : Int) (v : Int × Unit) : Fr × LL := ([(0, aD (.slice tI) a0), (1, aI a1), (7, aI (List.length a0 : Int)), (8, aI v.1)], [])
@[reducible] def slices_Index_Lintint_s3 (v : Int) : Fr × LL := ([(4, aI v)], [])
@[reducible] def slices_Index_Lintint_s4 (v : Unit) : Fr × LL := ([], [])
def slices_Index_Lintint (a0 : (List Int)) (a1 : Int) : Option Int :=
(forL (slices_Index_Lintint_b1 a1) (fun x12 => (.brk ())) a0 0 ()).bind fun v19 =>
match v19 with
| .ret v24 =>
(some v24)
| .brk v25 =>
(some (-1 : Int))
theorem slices_Index_Lintint_ok {a0 : (List Int)} {a1 : Int} {r : Int} (h : slices_Index_Lintint a0 a1 = some r) : FnC Try.prog 93 [aD (.slice tI) a0, aI a1] [] (aI r) [] := by
  refine fnC_of_W (B := bodyOf Try.f93) (n := 19) Try.func93 (by kernel_rfl) (by kernel_rfl) (by kernel_rfl) (by kernel_rfl) (by kernel_rfl) ?_
  intro K
  refine W_seq (by kernel_rfl) ?_
  refine W_run 1 [] [0, 1] [] (fr' := [(0, aD (.slice tI) a0), (1, aI a1)]) (L' := []) (obs := []) (by kernel_rfl) (by kernel_rfl) (by kernel_rfl) allP0 ?_
  refine seqQ_norm ?_
  refine W_seq (by kernel_rfl) ?_
  refine W_seq (by kernel_rfl) ?_
  refine W_run 3 [] [0, 1, 7, 8] [] (fr' := [(0, aD (.slice tI) a0), (1, aI a1), (7, aI (List.length a0 : Int)), (8, aI (0 : Int))]) (L' := []) (obs := []) (by kernel_rfl) (by kernel_rfl) (by kernel_rfl) allP0 ?_
  refine seqQ_norm ?_
  refine W_block (id := 0) (by kernel_rfl) ?_
  obtain ⟨v19, h20, h⟩ := bind_of h
  refine W_len (t := 0) (u := tI) (xs := a0) (by kernel_rfl) (fun h23 => ?_)
  obtain ⟨h21, h22⟩ := forL_iter h23 h20
  refine W_weaken [0, 1, 7, 8] [] (fr' := ((slices_Index_Lintint_s2 a0 a1) ((0 : Int), ())).1) (L' := ((slices_Index_Lintint_s2 a0 a1) ((0 : Int), ())).2) (by kernel_rfl) ?_
  refine W_cutK (W_loop (S := (slices_Index_Lintint_s2 a0 a1)) (J := (escQ (exQ .ret slices_Index_Lintint_s3) (exQ (.exit 0) slices_Index_Lintint_s4))) (by kernel_rfl) ?_ h21 _ v19 h22) ?_
  · rintro ⟨i11, x12⟩ s h
    refine W_seq (by kernel_rfl) ?_
    refine W_run 1 [] [0, 1, 7, 8, 9] [] (fr' := [(0, aD (.slice tI) a0), (1, aI a1), (7, aI (List.length a0 : Int)), (8, aI i11), (9, aB (decide (i11 < (List.length a0 : Int))))]) (L' := []) (obs := []) (by kernel_rfl) (by kernel_rfl) (by kernel_rfl) allP0 ?_
    refine seqQ_norm ?_
    refine W_seq (by kernel_rfl) ?_
    refine W_cond (o := .tmp 9) (b := decide (i11 < (List.length a0 : Int))) (by kernel_rfl) (by kernel_rfl) (fun h16 => ?_) (fun h16 => ?_)
    · replace h := stepL_true h16 h
      obtain ⟨v14, _, h15, h, rfl⟩ := h
      refine W_skip [0, 1, 7, 8] [] (fr' := [(0, aD (.slice tI) a0), (1, aI a1), (7, aI (List.length a0 : Int)), (8, aI i11)]) (L' := []) (by kernel_rfl) (by kernel_rfl) ?_
      refine seqQ_norm ?_
      refine W_seq (by kernel_rfl) ?_
      refine W_block (id := 1) (by kernel_rfl) ?_
      refine W_seq (by kernel_rfl) ?_
      refine W_run 2 [] [0, 1, 5, 7, 8] [] (fr' := [(0, aD (.slice tI) a0), (1, aI a1), (5, aI i11), (7, aI (List.length a0 : Int)), (8, aI i11)]) (L' := []) (obs := []) (by kernel_rfl) (by kernel_rfl) (by kernel_rfl) allP0 ?_
      refine seqQ_norm ?_
      refine W_seq (by kernel_rfl) ?_
      refine W_run 6 [(7, .val (.dat tI v14))] [0, 1, 5, 7, 8, 16] [] (fr' := [(0, aD (.slice tI) a0), (1, aI a1), (5, aI i11), (7, aI (List.length a0 : Int)), (8, aI i11), (16, aB (a1 == v14))]) (L' := []) (obs := [Idx a0 i11 v14]) (by kernel_rfl) (by kernel_rfl) (by kernel_rfl) (allP1 (Idx.of h15)) ?_
      refine seqQ_norm ?_
      refine W_cond (o := .tmp 16) (b := a1 == v14) (by kernel_rfl) (by kernel_rfl) (fun h17 => ?_) (fun h17 => ?_)
      · replace h := ofT h17 h
        refine W_seq (by kernel_rfl) ?_
        refine W_run 2 [] [4] [] (fr' := [(4, aI i11)]) (L' := []) (obs := []) (by kernel_rfl) (by kernel_rfl) (by kernel_rfl) allP0 ?_
        refine seqQ_norm ?_
        obtain rfl := Option.some.inj h
        refine W_ret [4] [] (fr' := [(4, aI i11)]) (L' := []) (by kernel_rfl) (by kernel_rfl) ?_
        refine blockQ_ret ?_
        refine seqQ_ret ?_
        refine round_ret ?_
        refine escQ_ret ?_
        exact exQ_mk (by kernel_rfl) (by kernel_rfl)
      · replace h := ofF h17 h
        refine W_skip [0, 1, 7, 8] [] (fr' := [(0, aD (.slice tI) a0), (1, aI a1), (7, aI (List.length a0 : Int)), (8, aI i11)]) (L' := []) (by kernel_rfl) (by kernel_rfl) ?_
        refine blockQ_norm ?_
        refine seqQ_norm ?_
        obtain rfl := Option.some.inj h
        refine W_run 2 [] [0, 1, 7, 8] [] (fr' := [(0, aD (.slice tI) a0), (1, aI a1), (7, aI (List.length a0 : Int)), (8, aI (w64 (i11 + (1 : Int))))]) (L' := []) (obs := []) (by kernel_rfl) (by kernel_rfl) (by kernel_rfl) allP0 ?_
        exact round_next' (by kernel_rfl) (by kernel_rfl)
    · obtain rfl := stepL_false h16 h
      refine W_exit (id := 0) [] [] (fr' := []) (L' := []) (by kernel_rfl) (by kernel_rfl) ?_
      refine seqQ_exit ?_
      refine round_exit ?_
      refine escQ_brk ?_
      exact exQ_mk (by kernel_rfl) (by kernel_rfl)
  · intro e fr L hJ
    rcases v19 with v24 | v25
    · obtain ⟨rfl, rfl, rfl⟩ := hJ
      obtain rfl := Option.some.inj h
      refine LT_keep [4] [] (fr' := [(4, aI v24)]) (L' := []) (by kernel_rfl) ?_
      refine blockQ_ret ?_
      refine seqQ_ret ?_
      exact retQ_mk (by kernel_rfl) (by kernel_rfl) (by kernel_rfl)
    · obtain ⟨rfl, rfl, rfl⟩ := hJ
      refine LT_keep [] [] (fr' := []) (L' := []) (by kernel_rfl) ?_
      refine blockQ_hit ?_
      refine seqQ_norm ?_
      refine W_seq (by kernel_rfl) ?_
      refine W_run 1 [] [4] [] (fr' := [(4, aI (-1 : Int))]) (L' := []) (obs := []) (by kernel_rfl) (by kernel_rfl) (by kernel_rfl) allP0 ?_
      refine seqQ_norm ?_
      obtain rfl := Option.some.inj h
      refine W_ret [4] [] (fr' := [(4, aI (-1 : Int))]) (L' := []) (by kernel_rfl) (by kernel_rfl) ?_
      exact retQ_mk (by kernel_rfl) (by kernel_rfl) (by kernel_rfl)

def slices_Contains_Lintint (a0 : (List Int)) (a1 : Int) : Option Bool :=
(slices_Index_Lintint a0 a1).bind fun r1 =>
some (decide (r1 ≥ (0 : Int)))
theorem slices_Contains_Lintint_ok {a0 : (List Int)} {a1 : Int} {r : Bool} (h : slices_Contains_Lintint a0 a1 = some r) : FnC Try.prog 75 [aD (.slice tI) a0, aI a1] [] (aB r) [] := by
  refine fnC_of_W (B := bodyOf Try.f75) (n := 9) Try.func75 (by kernel_rfl) (by kernel_rfl) (by kernel_rfl) (by kernel_rfl) (by kernel_rfl) ?_
  intro K
  refine W_seq (by kernel_rfl) ?_
  refine W_run 1 [] [0, 1] [] (fr' := [(0, aD (.slice tI) a0), (1, aI a1)]) (L' := []) (obs := []) (by kernel_rfl) (by kernel_rfl) (by kernel_rfl) allP0 ?_
  refine seqQ_norm ?_
  refine W_seq (by kernel_rfl) ?_
  refine W_region (by kernel_rfl) ?_
  refine WO_run (j := 2) (k := 2) (orcs := []) (kF := [5, 6]) (kL := []) (fr' := [(5, aD (.slice tI) a0), (6, aI a1)]) (L' := []) (obs := []) rfl (by kernel_rfl) allP0 ?_
  obtain ⟨r1, h2, h⟩ := bind_of h
  refine WO_call0 (us := [none, none]) (d := 7) (p := True) (j := 3) rfl ⟨by kernel_rfl, by kernel_rfl, by kernel_rfl⟩ trivial (slices_Index_Lintint_ok h2) (by kernel_rfl) ?_
  refine WO_run (j := 5) (k := 2) (orcs := []) (kF := [4]) (kL := []) (fr' := [(4, aB (decide (r1 ≥ (0 : Int))))]) (L' := []) (obs := []) rfl (by kernel_rfl) allP0 ?_
  refine WO_fin [4] [] (fr' := [(4, aB (decide (r1 ≥ (0 : Int))))]) (L' := []) (by kernel_rfl) (by kernel_rfl) ?_
  refine seqQ_norm ?_
  obtain rfl := Option.some.inj h
  refine W_ret [4] [] (fr' := [(4, aB (decide (r1 ≥ (0 : Int))))]) (L' := []) (by kernel_rfl) (by kernel_rfl) ?_
  exact retQ_mk (by kernel_rfl) (by kernel_rfl) (by kernel_rfl)

@[reducible] def half_asker_can_s1 (c0 : ((List (List Int)) × Int)) (v : Bool) : Fr × LL := ([(8, aB v)], [(1000, .one (.pair (.slice (.slice tI)) tI) (c0.1, w64 (c0.2 + (1 : Int))))])
def half_asker_can_g6 (a1 : Int) (a2 : Int) (a3 : Int) (rf_half_asker_can : Int → Int → Int → ((List (List Int)) × Int) → Option (Bool × ((List (List Int)) × Int))) (i60 : Int) (x61 : ((List (List Int)) × Int)) : Option (Bool × ((List (List Int)) × Int)) :=
(rf_half_asker_can a1 i60 (w64 (Int.tdiv (w64 (a3 + (1 : Int))) (2 : Int))) x61).bind fun r74 =>
bif r74.1 then
((rf_half_asker_can i60 a2 (w64 (Int.tdiv a3 (2 : Int))) r74.2).bind fun r77 =>
some (r77.1, r77.2))
else
(some (false, r74.2))
@[reducible] def half_asker_can_s7 (a1 : Int) (a2 : Int) (a3 : Int) (c0 : ((List (List Int)) × Int)) (i60 : Int) (v : (Bool × ((List (List Int)) × Int))) : Fr × LL := ([(0, .one (.ptr 1000 0)), (1, aI a1), (2, aI a2), (3, aI a3), (44, aI (List.length c0.1 : Int)), (45, aI i60), (62, aB v.1)], [(1000, .one (.pair (.slice (.slice tI)) tI) v.2)])
def half_asker_can_b8 (a1 : Int) (a2 : Int) (a3 : Int) (rf_half_asker_can : Int → Int → Int → ((List (List Int)) × Int) → Option (Bool × ((List (List Int)) × Int))) (i60 : Int) (x61 : ((List (List Int)) × Int)) : Option (Flow ((List (List Int)) × Int) (Esc (Bool × ((List (List Int)) × Int)) ((List (List Int)) × Int))) :=
(half_asker_can_g6 a1 a2 a3 rf_half_asker_can i60 x61).bind fun v79 =>
bif v79.1 then
(some (.done (.ret (true, v79.2))))
else
(some (.next v79.2))
@[reducible] def half_asker_can_s9 (a1 : Int) (a2 : Int) (a3 : Int) (c0 : ((List (List Int)) × Int)) (v : Int × ((List (List Int)) × Int)) : Fr × LL := ([(0, .one (.ptr 1000 0)), (1, aI a1), (2, aI a2), (3, aI a3), (44, aI (List.length c0.1 : Int)), (45, aI v.1)], [(1000, .one (.pair (.slice (.slice tI)) tI) v.2)])
@[reducible] def half_asker_can_s10 (v : (Bool × ((List (List Int)) × Int))) : Fr × LL := ([(8, aB v.1)], [(1000, .one (.pair (.slice (.slice tI)) tI) v.2)])
@[reducible] def half_asker_can_s11 (v : ((List (List Int)) × Int)) : Fr × LL := ([], [(1000, .one (.pair (.slice (.slice tI)) tI) v)])
def half_asker_can_step (rf_half_asker_can : Int → Int → Int → ((List (List Int)) × Int) → Option (Bool × ((List (List Int)) × Int))) (fuel : Nat) (a1 : Int) (a2 : Int) (a3 : Int) (c0 : ((List (List Int)) × Int)) : Option (Bool × ((List (List Int)) × Int)) :=
bif a3 == (0 : Int) then
(some (a1 == a2, (c0.1, w64 (c0.2 + (1 : Int)))))
else
(bif a3 == (1 : Int) then
((bif a1 == a2 then
(some true)
else
((idx c0.1 a1).bind fun v14 =>
(slices_Contains_Lintint v14 a2).bind fun r16 =>
some r16)).bind fun v18 =>
some (v18, (c0.1, w64 (c0.2 + (1 : Int)))))
else
((forI (0 : Int) (List.length c0.1 : Int) (half_asker_can_b8 a1 a2 a3 rf_half_asker_can) (fun x61 => (.brk x61)) (c0.1, w64 (c0.2 + (1 : Int)))).bind fun v83 =>
match v83 with
| .ret v87 =>
(some (v87.1, v87.2))
| .brk v88 =>
(some (false, v88))))
def half_asker_can : Nat → Int → Int → Int → ((List (List Int)) × Int) → Option (Bool × ((List (List Int)) × Int))
  | 0 => fun _ _ _ _ => none
  | fuel + 1 => fun a1 a2 a3 c0 => half_asker_can_step (half_asker_can fuel) fuel a1 a2 a3 c0
theorem half_asker_can_step_ok {rf_half_asker_can : Int → Int → Int → ((List (List Int)) × Int) → Option (Bool × ((List (List Int)) × Int))} (ih_half_asker_can : ∀ {a1 : Int} {a2 : Int} {a3 : Int} {c0 : ((List (List Int)) × Int)} {r : (Bool × ((List (List Int)) × Int))}, rf_half_asker_can a1 a2 a3 c0 = some r → FnC Try.prog 73 [.one (.ptr 1000 0), aI a1, aI a2, aI a3] [(1000, .one (.pair (.slice (.slice tI)) tI) c0)] (aB r.1) [(1000, .one (.pair (.slice (.slice tI)) tI) r.2)]) {fuel : Nat} {a1 : Int} {a2 : Int} {a3 : Int} {c0 : ((List (List Int)) × Int)} {r : (Bool × ((List (List Int)) × Int))} (h : half_asker_can_step rf_half_asker_can fuel a1 a2 a3 c0 = some r) : FnC Try.prog 73 [.one (.ptr 1000 0), aI a1, aI a2, aI a3] [(1000, .one (.pair (.slice (.slice tI)) tI) c0)] (aB r.1) [(1000, .one (.pair (.slice (.slice tI)) tI) r.2)] := by
  refine fnC_of_W (B := bodyOf Try.f73) (n := 64) Try.func73 (by kernel_rfl) (by kernel_rfl) (by kernel_rfl) (by kernel_rfl) (by kernel_rfl) ?_
  intro K
  refine W_seq (by kernel_rfl) ?_
  refine W_run 1 [] [0, 1, 2, 3] [1000] (fr' := [(0, .one (.ptr 1000 0)), (1, aI a1), (2, aI a2), (3, aI a3)]) (L' := [(1000, .one (.pair (.slice (.slice tI)) tI) c0)]) (obs := []) (by kernel_rfl) (by kernel_rfl) (by kernel_rfl) allP0 ?_
  refine seqQ_norm ?_
  refine W_seq (by kernel_rfl) ?_
  refine W_run 8 [] [0, 1, 2, 3] [1000] (fr' := [(0, .one (.ptr 1000 0)), (1, aI a1), (2, aI a2), (3, aI a3)]) (L' := [(1000, .one (.pair (.slice (.slice tI)) tI) (c0.1, w64 (c0.2 + (1 : Int))))]) (obs := [True]) (by kernel_rfl) (by kernel_rfl) (by kernel_rfl) (allP1 trivial) ?_
  refine seqQ_norm ?_
  refine W_seq (by kernel_rfl) ?_
  refine W_block (id := 0) (by kernel_rfl) ?_
  refine W_seq (by kernel_rfl) ?_
  refine W_run 3 [] [0, 1, 2, 3, 17] [1000] (fr' := [(0, .one (.ptr 1000 0)), (1, aI a1), (2, aI a2), (3, aI a3), (17, aB (a3 == (0 : Int)))]) (L' := [(1000, .one (.pair (.slice (.slice tI)) tI) (c0.1, w64 (c0.2 + (1 : Int))))]) (obs := []) (by kernel_rfl) (by kernel_rfl) (by kernel_rfl) allP0 ?_
  refine seqQ_norm ?_
  refine W_cond (o := .tmp 17) (b := a3 == (0 : Int)) (by kernel_rfl) (by kernel_rfl) (fun h1 => ?_) (fun h1 => ?_)
  · replace h := ofT h1 h
    refine W_seq (by kernel_rfl) ?_
    refine W_run 4 [] [8] [1000] (fr' := [(8, aB (a1 == a2))]) (L' := [(1000, .one (.pair (.slice (.slice tI)) tI) (c0.1, w64 (c0.2 + (1 : Int))))]) (obs := []) (by kernel_rfl) (by kernel_rfl) (by kernel_rfl) allP0 ?_
    refine seqQ_norm ?_
    obtain rfl := Option.some.inj h
    refine W_ret [8] [1000] (fr' := [(8, aB (a1 == a2))]) (L' := [(1000, .one (.pair (.slice (.slice tI)) tI) (c0.1, w64 (c0.2 + (1 : Int))))]) (by kernel_rfl) (by kernel_rfl) ?_
    refine blockQ_ret ?_
    refine seqQ_ret ?_
    exact retQ_mk (by kernel_rfl) (by kernel_rfl) (by kernel_rfl)
  · replace h := ofF h1 h
    refine W_seq (by kernel_rfl) ?_
    refine W_run 3 [] [0, 1, 2, 3, 23] [1000] (fr' := [(0, .one (.ptr 1000 0)), (1, aI a1), (2, aI a2), (3, aI a3), (23, aB (a3 == (1 : Int)))]) (L' := [(1000, .one (.pair (.slice (.slice tI)) tI) (c0.1, w64 (c0.2 + (1 : Int))))]) (obs := []) (by kernel_rfl) (by kernel_rfl) (by kernel_rfl) allP0 ?_
    refine seqQ_norm ?_
    refine W_cond (o := .tmp 23) (b := a3 == (1 : Int)) (by kernel_rfl) (by kernel_rfl) (fun h2 => ?_) (fun h2 => ?_)
    · replace h := ofT h2 h
      refine W_seq (by kernel_rfl) ?_
      obtain ⟨v18, h19, h⟩ := bind_of h
      refine W_cutK (Q' := (exQ .normal (half_asker_can_s1 c0)) v18) ?_ ?_
      · replace h := h19
        refine W_region (by kernel_rfl) ?_
        refine WO_run (j := 4) (k := 4) (orcs := []) (kF := [0, 1, 2, 29]) (kL := [1000]) (fr' := [(0, .one (.ptr 1000 0)), (1, aI a1), (2, aI a2), (29, aB (a1 == a2))]) (L' := [(1000, .one (.pair (.slice (.slice tI)) tI) (c0.1, w64 (c0.2 + (1 : Int))))]) (obs := []) rfl (by kernel_rfl) allP0 ?_
        rcases Bool.eq_false_or_eq_true (a1 == a2) with h13 | h13
        · replace h := ofT h13 h
          refine WO_run (j := 15) (k := 11) (orcs := [(8, .known true), (10, .known true), (12, .known true), (14, .known true), (16, .known true), (18, .known true), (20, .known true), (22, .known true), (24, .known true), (27, .val (.dat .bool true))]) (kF := [8]) (kL := [1000]) (fr' := [(8, aB true)]) (L' := [(1000, .one (.pair (.slice (.slice tI)) tI) (c0.1, w64 (c0.2 + (1 : Int))))]) (obs := [((a1 == a2) = true), ((a1 == a2) = true), ((a1 == a2) = true), ((a1 == a2) = true), ((a1 == a2) = true), ((a1 == a2) = true), ((a1 == a2) = true), ((a1 == a2) = true), ((a1 == a2) = true), ((a1 == a2) = true)]) rfl (by kernel_rfl) (allP2 h13 (allP2 h13 (allP2 h13 (allP2 h13 (allP2 h13 (allP2 h13 (allP2 h13 (allP2 h13 (allP2 h13 (allP1 h13)))))))))) ?_
          obtain rfl := Option.some.inj h
          refine WO_fin [8] [1000] (fr' := [(8, aB true)]) (L' := [(1000, .one (.pair (.slice (.slice tI)) tI) (c0.1, w64 (c0.2 + (1 : Int))))]) (by kernel_rfl) (by kernel_rfl) ?_
          exact exQ_mk (by kernel_rfl) (by kernel_rfl)
        · replace h := ofF h13 h
          obtain ⟨v14, h15, h⟩ := bind_of h
          refine WO_run (j := 12) (k := 8) (orcs := [(8, .known false), (10, .known false), (12, .known false), (14, .known false), (16, .known false), (18, .known false), (19, .val (.dat (.slice tI) v14)), (20, .known false), (22, .known false)]) (kF := [29, 36, 37]) (kL := [1000]) (fr' := [(29, aB (a1 == a2)), (36, aD (.slice tI) v14), (37, aI a2)]) (L' := [(1000, .one (.pair (.slice (.slice tI)) tI) (c0.1, w64 (c0.2 + (1 : Int))))]) (obs := [((a1 == a2) = false), ((a1 == a2) = false), ((a1 == a2) = false), ((a1 == a2) = false), ((a1 == a2) = false), ((a1 == a2) = false), Idx c0.1 a1 v14, ((a1 == a2) = false), ((a1 == a2) = false)]) rfl (by kernel_rfl) (allP2 h13 (allP2 h13 (allP2 h13 (allP2 h13 (allP2 h13 (allP2 h13 (allP2 (Idx.of h15) (allP2 h13 (allP1 h13))))))))) ?_
          obtain ⟨r16, h17, h⟩ := bind_of h
          refine WO_call0 (us := [none, none]) (d := 38) (p := ((a1 == a2) = false)) (j := 13) rfl ⟨by kernel_rfl, by kernel_rfl, by kernel_rfl⟩ h13 (slices_Contains_Lintint_ok h17) (by kernel_rfl) ?_
          refine WO_run (j := 15) (k := 2) (orcs := [(27, .val (.dat .bool false))]) (kF := [8]) (kL := [1000]) (fr' := [(8, aB r16)]) (L' := [(1000, .one (.pair (.slice (.slice tI)) tI) (c0.1, w64 (c0.2 + (1 : Int))))]) (obs := [((a1 == a2) = false)]) rfl (by kernel_rfl) (allP1 h13) ?_
          obtain rfl := Option.some.inj h
          refine WO_fin [8] [1000] (fr' := [(8, aB r16)]) (L' := [(1000, .one (.pair (.slice (.slice tI)) tI) (c0.1, w64 (c0.2 + (1 : Int))))]) (by kernel_rfl) (by kernel_rfl) ?_
          exact exQ_mk (by kernel_rfl) (by kernel_rfl)
      · intro e fr L hJ
        obtain ⟨rfl, rfl, rfl⟩ := hJ
        refine LT_keep [8] [1000] (fr' := [(8, aB v18)]) (L' := [(1000, .one (.pair (.slice (.slice tI)) tI) (c0.1, w64 (c0.2 + (1 : Int))))]) (by kernel_rfl) ?_
        refine seqQ_norm ?_
        obtain rfl := Option.some.inj h
        refine W_ret [8] [1000] (fr' := [(8, aB v18)]) (L' := [(1000, .one (.pair (.slice (.slice tI)) tI) (c0.1, w64 (c0.2 + (1 : Int))))]) (by kernel_rfl) (by kernel_rfl) ?_
        refine blockQ_ret ?_
        refine seqQ_ret ?_
        exact retQ_mk (by kernel_rfl) (by kernel_rfl) (by kernel_rfl)
    · replace h := ofF h2 h
      refine W_skip [0, 1, 2, 3] [1000] (fr' := [(0, .one (.ptr 1000 0)), (1, aI a1), (2, aI a2), (3, aI a3)]) (L' := [(1000, .one (.pair (.slice (.slice tI)) tI) (c0.1, w64 (c0.2 + (1 : Int))))]) (by kernel_rfl) (by kernel_rfl) ?_
      refine blockQ_norm ?_
      refine seqQ_norm ?_
      refine W_seq (by kernel_rfl) ?_
      refine W_seq (by kernel_rfl) ?_
      refine W_run 6 [] [0, 1, 2, 3, 44, 45] [1000] (fr' := [(0, .one (.ptr 1000 0)), (1, aI a1), (2, aI a2), (3, aI a3), (44, aI (List.length c0.1 : Int)), (45, aI (0 : Int))]) (L' := [(1000, .one (.pair (.slice (.slice tI)) tI) (c0.1, w64 (c0.2 + (1 : Int))))]) (obs := []) (by kernel_rfl) (by kernel_rfl) (by kernel_rfl) allP0 ?_
      refine seqQ_norm ?_
      refine W_block (id := 1) (by kernel_rfl) ?_
      obtain ⟨v83, h84, h⟩ := bind_of h
      obtain ⟨h85, h86⟩ := forI_iter h84
      refine W_weaken [0, 1, 2, 3, 44, 45] [1000] (fr' := ((half_asker_can_s9 a1 a2 a3 c0) ((0 : Int), (c0.1, w64 (c0.2 + (1 : Int))))).1) (L' := ((half_asker_can_s9 a1 a2 a3 c0) ((0 : Int), (c0.1, w64 (c0.2 + (1 : Int))))).2) (by kernel_rfl) ?_
      refine W_cutK (W_loop (S := (half_asker_can_s9 a1 a2 a3 c0)) (J := (escQ (exQ .ret half_asker_can_s10) (exQ (.exit 1) half_asker_can_s11))) (by kernel_rfl) ?_ h85 _ v83 h86) ?_
      · rintro ⟨i60, x61⟩ s h
        refine W_seq (by kernel_rfl) ?_
        refine W_run 1 [] [0, 1, 2, 3, 44, 45, 46] [1000] (fr' := [(0, .one (.ptr 1000 0)), (1, aI a1), (2, aI a2), (3, aI a3), (44, aI (List.length c0.1 : Int)), (45, aI i60), (46, aB (decide (i60 < (List.length c0.1 : Int))))]) (L' := [(1000, .one (.pair (.slice (.slice tI)) tI) x61)]) (obs := []) (by kernel_rfl) (by kernel_rfl) (by kernel_rfl) allP0 ?_
        refine seqQ_norm ?_
        refine W_seq (by kernel_rfl) ?_
        refine W_cond (o := .tmp 46) (b := decide (i60 < (List.length c0.1 : Int))) (by kernel_rfl) (by kernel_rfl) (fun h63 => ?_) (fun h63 => ?_)
        · replace h := stepI_true h63 h
          obtain ⟨_, h, rfl⟩ := h
          refine W_skip [0, 1, 2, 3, 44, 45] [1000] (fr' := [(0, .one (.ptr 1000 0)), (1, aI a1), (2, aI a2), (3, aI a3), (44, aI (List.length c0.1 : Int)), (45, aI i60)]) (L' := [(1000, .one (.pair (.slice (.slice tI)) tI) x61)]) (by kernel_rfl) (by kernel_rfl) ?_
          refine seqQ_norm ?_
          refine W_seq (by kernel_rfl) ?_
          refine W_block (id := 2) (by kernel_rfl) ?_
          refine W_seq (by kernel_rfl) ?_
          refine W_run 2 [] [0, 1, 2, 3, 9, 44, 45] [1000] (fr' := [(0, .one (.ptr 1000 0)), (1, aI a1), (2, aI a2), (3, aI a3), (9, aI i60), (44, aI (List.length c0.1 : Int)), (45, aI i60)]) (L' := [(1000, .one (.pair (.slice (.slice tI)) tI) x61)]) (obs := []) (by kernel_rfl) (by kernel_rfl) (by kernel_rfl) allP0 ?_
          refine seqQ_norm ?_
          refine W_seq (by kernel_rfl) ?_
          obtain ⟨v79, h80, h⟩ := bind_of h
          refine W_cutK (Q' := (exQ .normal (half_asker_can_s7 a1 a2 a3 c0 i60)) v79) ?_ ?_
          · replace h := h80
            refine W_region (by kernel_rfl) ?_
            refine WO_run (j := 6) (k := 6) (orcs := []) (kF := [0, 1, 2, 3, 9, 44, 45, 48, 49, 50, 53]) (kL := [1000]) (fr' := [(0, .one (.ptr 1000 0)), (1, aI a1), (2, aI a2), (3, aI a3), (9, aI i60), (44, aI (List.length c0.1 : Int)), (45, aI i60), (48, .one (.ptr 1000 0)), (49, aI a1), (50, aI i60), (53, aI (w64 (Int.tdiv (w64 (a3 + (1 : Int))) (2 : Int))))]) (L' := [(1000, .one (.pair (.slice (.slice tI)) tI) x61)]) (obs := [((2 : Int) ≠ 0)]) rfl (by kernel_rfl) (allP1 (by decide)) ?_
            obtain ⟨r74, h75, h⟩ := bind_of h
            refine WO_lend [(1000, 1000)] (us := [none, none, none, none]) (d := 54) (p := True) (j := 7) rfl ⟨by kernel_rfl, by kernel_rfl, by kernel_rfl⟩ trivial (ih_half_asker_can h75) (by kernel_rfl) (by kernel_rfl) ?_
            refine WO_run (j := 8) (k := 1) (orcs := []) (kF := [0, 1, 2, 3, 9, 44, 45, 55]) (kL := [1000]) (fr' := [(0, .one (.ptr 1000 0)), (1, aI a1), (2, aI a2), (3, aI a3), (9, aI i60), (44, aI (List.length c0.1 : Int)), (45, aI i60), (55, aB r74.1)]) (L' := [(1000, .one (.pair (.slice (.slice tI)) tI) r74.2)]) (obs := []) rfl (by kernel_rfl) allP0 ?_
            rcases Bool.eq_false_or_eq_true (r74.1) with h76 | h76
            · replace h := ofT h76 h
              refine WO_run (j := 13) (k := 5) (orcs := [(16, .known true), (18, .known true), (20, .known true), (22, .known true), (24, .known true)]) (kF := [0, 1, 2, 3, 44, 45, 55, 56, 57, 58, 60]) (kL := [1000]) (fr' := [(0, .one (.ptr 1000 0)), (1, aI a1), (2, aI a2), (3, aI a3), (44, aI (List.length c0.1 : Int)), (45, aI i60), (55, aB r74.1), (56, .one (.ptr 1000 0)), (57, aI i60), (58, aI a2), (60, aI (w64 (Int.tdiv a3 (2 : Int))))]) (L' := [(1000, .one (.pair (.slice (.slice tI)) tI) r74.2)]) (obs := [(r74.1 = true), (r74.1 = true), (r74.1 = true), (r74.1 = true), (r74.1 = true), ((2 : Int) ≠ 0)]) rfl (by kernel_rfl) (allP2 h76 (allP2 h76 (allP2 h76 (allP2 h76 (allP2 h76 (allP1 (by decide))))))) ?_
              obtain ⟨r77, h78, h⟩ := bind_of h
              refine WO_lend [(1000, 1000)] (us := [none, none, none, none]) (d := 61) (p := (r74.1 = true)) (j := 14) rfl ⟨by kernel_rfl, by kernel_rfl, by kernel_rfl⟩ h76 (ih_half_asker_can h78) (by kernel_rfl) (by kernel_rfl) ?_
              refine WO_run (j := 15) (k := 1) (orcs := [(29, .val (.dat .bool true))]) (kF := [0, 1, 2, 3, 44, 45, 62]) (kL := [1000]) (fr' := [(0, .one (.ptr 1000 0)), (1, aI a1), (2, aI a2), (3, aI a3), (44, aI (List.length c0.1 : Int)), (45, aI i60), (62, aB r77.1)]) (L' := [(1000, .one (.pair (.slice (.slice tI)) tI) r77.2)]) (obs := [(r74.1 = true)]) rfl (by kernel_rfl) (allP1 h76) ?_
              obtain rfl := Option.some.inj h
              refine WO_fin [0, 1, 2, 3, 44, 45, 62] [1000] (fr' := [(0, .one (.ptr 1000 0)), (1, aI a1), (2, aI a2), (3, aI a3), (44, aI (List.length c0.1 : Int)), (45, aI i60), (62, aB r77.1)]) (L' := [(1000, .one (.pair (.slice (.slice tI)) tI) r77.2)]) (by kernel_rfl) (by kernel_rfl) ?_
              exact exQ_mk (by kernel_rfl) (by kernel_rfl)
            · replace h := ofF h76 h
              refine WO_run (j := 15) (k := 7) (orcs := [(16, .known false), (18, .known false), (20, .known false), (22, .known false), (24, .known false), (26, .known false), (29, .val (.dat .bool false))]) (kF := [0, 1, 2, 3, 44, 45, 62]) (kL := [1000]) (fr' := [(0, .one (.ptr 1000 0)), (1, aI a1), (2, aI a2), (3, aI a3), (44, aI (List.length c0.1 : Int)), (45, aI i60), (62, aB false)]) (L' := [(1000, .one (.pair (.slice (.slice tI)) tI) r74.2)]) (obs := [(r74.1 = false), (r74.1 = false), (r74.1 = false), (r74.1 = false), (r74.1 = false), (r74.1 = false), (r74.1 = false)]) rfl (by kernel_rfl) (allP2 h76 (allP2 h76 (allP2 h76 (allP2 h76 (allP2 h76 (allP2 h76 (allP1 h76))))))) ?_
              obtain rfl := Option.some.inj h
              refine WO_fin [0, 1, 2, 3, 44, 45, 62] [1000] (fr' := [(0, .one (.ptr 1000 0)), (1, aI a1), (2, aI a2), (3, aI a3), (44, aI (List.length c0.1 : Int)), (45, aI i60), (62, aB false)]) (L' := [(1000, .one (.pair (.slice (.slice tI)) tI) r74.2)]) (by kernel_rfl) (by kernel_rfl) ?_
              exact exQ_mk (by kernel_rfl) (by kernel_rfl)
          · intro e fr L hJ
            obtain ⟨rfl, rfl, rfl⟩ := hJ
            refine LT_keep [0, 1, 2, 3, 44, 45, 62] [1000] (fr' := [(0, .one (.ptr 1000 0)), (1, aI a1), (2, aI a2), (3, aI a3), (44, aI (List.length c0.1 : Int)), (45, aI i60), (62, aB v79.1)]) (L' := [(1000, .one (.pair (.slice (.slice tI)) tI) v79.2)]) (by kernel_rfl) ?_
            refine seqQ_norm ?_
            refine W_cond (o := .tmp 62) (b := v79.1) (by kernel_rfl) (by kernel_rfl) (fun h81 => ?_) (fun h81 => ?_)
            · replace h := ofT h81 h
              refine W_seq (by kernel_rfl) ?_
              refine W_run 1 [] [8] [1000] (fr' := [(8, aB true)]) (L' := [(1000, .one (.pair (.slice (.slice tI)) tI) v79.2)]) (obs := []) (by kernel_rfl) (by kernel_rfl) (by kernel_rfl) allP0 ?_
              refine seqQ_norm ?_
              obtain rfl := Option.some.inj h
              refine W_ret [8] [1000] (fr' := [(8, aB true)]) (L' := [(1000, .one (.pair (.slice (.slice tI)) tI) v79.2)]) (by kernel_rfl) (by kernel_rfl) ?_
              refine blockQ_ret ?_
              refine seqQ_ret ?_
              refine round_ret ?_
              refine escQ_ret ?_
              exact exQ_mk (by kernel_rfl) (by kernel_rfl)
            · replace h := ofF h81 h
              refine W_skip [0, 1, 2, 3, 44, 45] [1000] (fr' := [(0, .one (.ptr 1000 0)), (1, aI a1), (2, aI a2), (3, aI a3), (44, aI (List.length c0.1 : Int)), (45, aI i60)]) (L' := [(1000, .one (.pair (.slice (.slice tI)) tI) v79.2)]) (by kernel_rfl) (by kernel_rfl) ?_
              refine blockQ_norm ?_
              refine seqQ_norm ?_
              obtain rfl := Option.some.inj h
              refine W_run 2 [] [0, 1, 2, 3, 44, 45] [1000] (fr' := [(0, .one (.ptr 1000 0)), (1, aI a1), (2, aI a2), (3, aI a3), (44, aI (List.length c0.1 : Int)), (45, aI (w64 (i60 + (1 : Int))))]) (L' := [(1000, .one (.pair (.slice (.slice tI)) tI) v79.2)]) (obs := []) (by kernel_rfl) (by kernel_rfl) (by kernel_rfl) allP0 ?_
              exact round_next' (by kernel_rfl) (by kernel_rfl)
        · obtain rfl := stepI_false h63 h
          refine W_exit (id := 1) [] [1000] (fr' := []) (L' := [(1000, .one (.pair (.slice (.slice tI)) tI) x61)]) (by kernel_rfl) (by kernel_rfl) ?_
          refine seqQ_exit ?_
          refine round_exit ?_
          refine escQ_brk ?_
          exact exQ_mk (by kernel_rfl) (by kernel_rfl)
      · intro e fr L hJ
        rcases v83 with v87 | v88
        · obtain ⟨rfl, rfl, rfl⟩ := hJ
          obtain rfl := Option.some.inj h
          refine LT_keep [8] [1000] (fr' := [(8, aB v87.1)]) (L' := [(1000, .one (.pair (.slice (.slice tI)) tI) v87.2)]) (by kernel_rfl) ?_
          refine blockQ_ret ?_
          refine seqQ_ret ?_
          exact retQ_mk (by kernel_rfl) (by kernel_rfl) (by kernel_rfl)
        · obtain ⟨rfl, rfl, rfl⟩ := hJ
          refine LT_keep [] [1000] (fr' := []) (L' := [(1000, .one (.pair (.slice (.slice tI)) tI) v88)]) (by kernel_rfl) ?_
          refine blockQ_hit ?_
          refine seqQ_norm ?_
          refine W_seq (by kernel_rfl) ?_
          refine W_run 1 [] [8] [1000] (fr' := [(8, aB false)]) (L' := [(1000, .one (.pair (.slice (.slice tI)) tI) v88)]) (obs := []) (by kernel_rfl) (by kernel_rfl) (by kernel_rfl) allP0 ?_
          refine seqQ_norm ?_
          obtain rfl := Option.some.inj h
          refine W_ret [8] [1000] (fr' := [(8, aB false)]) (L' := [(1000, .one (.pair (.slice (.slice tI)) tI) v88)]) (by kernel_rfl) (by kernel_rfl) ?_
          exact retQ_mk (by kernel_rfl) (by kernel_rfl) (by kernel_rfl)
theorem half_asker_can_ok : ∀ {fuel : Nat} {a1 : Int} {a2 : Int} {a3 : Int} {c0 : ((List (List Int)) × Int)} {r : (Bool × ((List (List Int)) × Int))}, half_asker_can fuel a1 a2 a3 c0 = some r → FnC Try.prog 73 [.one (.ptr 1000 0), aI a1, aI a2, aI a3] [(1000, .one (.pair (.slice (.slice tI)) tI) c0)] (aB r.1) [(1000, .one (.pair (.slice (.slice tI)) tI) r.2)] := by
  intro fuel
  induction fuel with
  | zero => intros a1 a2 a3 c0 r h; cases h
  | succ fuel ih => intros a1 a2 a3 c0 r h; exact half_asker_can_step_ok (fun h => ih h) (show half_asker_can_step (half_asker_can fuel) fuel a1 a2 a3 c0 = some r from h)

def half_Can (fuel : Nat) (a0 : (List (List Int))) (a1 : Int) (a2 : Int) (a3 : Int) : Option (Bool × Int × Int) :=
(half_wrong a0 [a1, a2]).bind fun r1 =>
bif r1 != (0 : Int) then
(some (false, (0 : Int), r1))
else
(bif (decide (a3 < (0 : Int))) || (decide (a3 > (8 : Int))) then
(some (false, (0 : Int), (4 : Int)))
else
((half_asker_can fuel a1 a2 a3 (a0, (0 : Int))).bind fun r5 =>
some (r5.1, r5.2.2, (0 : Int))))
theorem half_Can_ok {fuel : Nat} {a0 : (List (List Int))} {a1 : Int} {a2 : Int} {a3 : Int} {r : (Bool × Int × Int)} (h : half_Can fuel a0 a1 a2 a3 = some r) : FnC Try.prog 40 [aD (.slice (.slice tI)) a0, aI a1, aI a2, aI a3] [] (.tup [.dat .bool r.1, .dat tI r.2.1, .dat tI r.2.2]) [] := by
  refine fnC_of_W (B := bodyOf Try.f40) (n := 41) Try.func40 (by kernel_rfl) (by kernel_rfl) (by kernel_rfl) (by kernel_rfl) (by kernel_rfl) ?_
  intro K
  refine W_seq (by kernel_rfl) ?_
  refine W_run 3 [] [0, 1, 2, 3] [] (fr' := [(0, aD (.slice (.slice tI)) a0), (1, aI a1), (2, aI a2), (3, aI a3)]) (L' := []) (obs := []) (by kernel_rfl) (by kernel_rfl) (by kernel_rfl) allP0 ?_
  refine seqQ_norm ?_
  refine W_seq (by kernel_rfl) ?_
  refine W_seq (by kernel_rfl) ?_
  refine W_region (by kernel_rfl) ?_
  refine WO_run (j := 4) (k := 4) (orcs := []) (kF := [0, 1, 2, 3, 14, 17]) (kL := [17]) (fr' := [(0, aD (.slice (.slice tI)) a0), (1, aI a1), (2, aI a2), (3, aI a3), (14, aD (.slice (.slice tI)) a0), (17, .one (.slc 17))]) (L' := [(17, .seq tI [a1, a2])]) (obs := []) rfl (by kernel_rfl) allP0 ?_
  obtain ⟨r1, h2, h⟩ := bind_of h
  refine WO_frz 17 (by kernel_rfl) ?_
  refine WO_call0 (us := [none, none]) (d := 18) (p := True) (j := 5) rfl ⟨by kernel_rfl, by kernel_rfl, by kernel_rfl⟩ trivial (half_wrong_ok h2) (by kernel_rfl) ?_
  refine WO_run (j := 6) (k := 1) (orcs := []) (kF := [0, 1, 2, 3, 11]) (kL := []) (fr' := [(0, aD (.slice (.slice tI)) a0), (1, aI a1), (2, aI a2), (3, aI a3), (11, aI r1)]) (L' := []) (obs := []) rfl (by kernel_rfl) allP0 ?_
  refine WO_fin [0, 1, 2, 3, 11] [] (fr' := [(0, aD (.slice (.slice tI)) a0), (1, aI a1), (2, aI a2), (3, aI a3), (11, aI r1)]) (L' := []) (by kernel_rfl) (by kernel_rfl) ?_
  refine seqQ_norm ?_
  refine W_seq (by kernel_rfl) ?_
  refine W_run 2 [] [0, 1, 2, 3, 11, 20] [] (fr' := [(0, aD (.slice (.slice tI)) a0), (1, aI a1), (2, aI a2), (3, aI a3), (11, aI r1), (20, aB (r1 != (0 : Int)))]) (L' := []) (obs := []) (by kernel_rfl) (by kernel_rfl) (by kernel_rfl) allP0 ?_
  refine seqQ_norm ?_
  refine W_cond (o := .tmp 20) (b := r1 != (0 : Int)) (by kernel_rfl) (by kernel_rfl) (fun h3 => ?_) (fun h3 => ?_)
  · replace h := ofT h3 h
    refine W_seq (by kernel_rfl) ?_
    refine W_run 4 [] [8, 9, 10] [] (fr' := [(8, aB false), (9, aI (0 : Int)), (10, aI r1)]) (L' := []) (obs := []) (by kernel_rfl) (by kernel_rfl) (by kernel_rfl) allP0 ?_
    refine seqQ_norm ?_
    obtain rfl := Option.some.inj h
    refine W_ret [8, 9, 10] [] (fr' := [(8, aB false), (9, aI (0 : Int)), (10, aI r1)]) (L' := []) (by kernel_rfl) (by kernel_rfl) ?_
    refine seqQ_ret ?_
    exact retQ_mk (by kernel_rfl) (by kernel_rfl) (by kernel_rfl)
  · replace h := ofF h3 h
    refine W_skip [0, 1, 2, 3] [] (fr' := [(0, aD (.slice (.slice tI)) a0), (1, aI a1), (2, aI a2), (3, aI a3)]) (L' := []) (by kernel_rfl) (by kernel_rfl) ?_
    refine seqQ_norm ?_
    refine W_seq (by kernel_rfl) ?_
    refine W_seq (by kernel_rfl) ?_
    refine W_run 6 [] [0, 1, 2, 3, 27] [] (fr' := [(0, aD (.slice (.slice tI)) a0), (1, aI a1), (2, aI a2), (3, aI a3), (27, aB ((decide (a3 < (0 : Int))) || (decide (a3 > (8 : Int)))))]) (L' := []) (obs := []) (by kernel_rfl) (by kernel_rfl) (by kernel_rfl) allP0 ?_
    refine seqQ_norm ?_
    refine W_cond (o := .tmp 27) (b := (decide (a3 < (0 : Int))) || (decide (a3 > (8 : Int)))) (by kernel_rfl) (by kernel_rfl) (fun h4 => ?_) (fun h4 => ?_)
    · replace h := ofT h4 h
      refine W_seq (by kernel_rfl) ?_
      refine W_run 3 [] [8, 9, 10] [] (fr' := [(8, aB false), (9, aI (0 : Int)), (10, aI (4 : Int))]) (L' := []) (obs := []) (by kernel_rfl) (by kernel_rfl) (by kernel_rfl) allP0 ?_
      refine seqQ_norm ?_
      obtain rfl := Option.some.inj h
      refine W_ret [8, 9, 10] [] (fr' := [(8, aB false), (9, aI (0 : Int)), (10, aI (4 : Int))]) (L' := []) (by kernel_rfl) (by kernel_rfl) ?_
      refine seqQ_ret ?_
      exact retQ_mk (by kernel_rfl) (by kernel_rfl) (by kernel_rfl)
    · replace h := ofF h4 h
      refine W_skip [0, 1, 2, 3] [] (fr' := [(0, aD (.slice (.slice tI)) a0), (1, aI a1), (2, aI a2), (3, aI a3)]) (L' := []) (by kernel_rfl) (by kernel_rfl) ?_
      refine seqQ_norm ?_
      refine W_seq (by kernel_rfl) ?_
      refine W_run 4 [] [1, 2, 3, 12] [30] (fr' := [(1, aI a1), (2, aI a2), (3, aI a3), (12, .one (.ptr 30 0))]) (L' := [(30, .one (.pair (.slice (.slice tI)) tI) (a0, (0 : Int)))]) (obs := []) (by kernel_rfl) (by kernel_rfl) (by kernel_rfl) allP0 ?_
      refine seqQ_norm ?_
      refine W_seq (by kernel_rfl) ?_
      refine W_region (by kernel_rfl) ?_
      refine WO_run (j := 4) (k := 4) (orcs := []) (kF := [12, 31, 32, 33, 34]) (kL := [30]) (fr' := [(12, .one (.ptr 30 0)), (31, .one (.ptr 30 0)), (32, aI a1), (33, aI a2), (34, aI a3)]) (L' := [(30, .one (.pair (.slice (.slice tI)) tI) (a0, (0 : Int)))]) (obs := []) rfl (by kernel_rfl) allP0 ?_
      obtain ⟨r5, h6, h⟩ := bind_of h
      refine WO_lend [(1000, 30)] (us := [none, none, none, none]) (d := 35) (p := True) (j := 5) rfl ⟨by kernel_rfl, by kernel_rfl, by kernel_rfl⟩ trivial (half_asker_can_ok h6) (by kernel_rfl) (by kernel_rfl) ?_
      refine WO_run (j := 6) (k := 1) (orcs := []) (kF := [12, 13]) (kL := [30]) (fr' := [(12, .one (.ptr 30 0)), (13, aB r5.1)]) (L' := [(30, .one (.pair (.slice (.slice tI)) tI) r5.2)]) (obs := []) rfl (by kernel_rfl) allP0 ?_
      refine WO_fin [12, 13] [30] (fr' := [(12, .one (.ptr 30 0)), (13, aB r5.1)]) (L' := [(30, .one (.pair (.slice (.slice tI)) tI) r5.2)]) (by kernel_rfl) (by kernel_rfl) ?_
      refine seqQ_norm ?_
      refine W_seq (by kernel_rfl) ?_
      refine W_draw2 6 [] [] [8, 9, 10] [] (fr' := [(8, aB r5.1), (9, aI r5.2.2), (10, aI (0 : Int))]) (L' := []) (out := [(36, aB r5.1), (37, .one (.ptr 30 0)), (38, .one (.ptr 30 0)), (39, .one (.ptr 30 1)), (40, aI r5.2.2), (8, aB r5.1)]) (obs := []) (obs2 := []) (calls := []) (by kernel_rfl) (by kernel_rfl) (by kernel_rfl) (by kernel_rfl) allP0 allC0 (by kernel_rfl) allP0 ?_
      refine seqQ_norm ?_
      obtain rfl := Option.some.inj h
      refine W_ret [8, 9, 10] [] (fr' := [(8, aB r5.1), (9, aI r5.2.2), (10, aI (0 : Int))]) (L' := []) (by kernel_rfl) (by kernel_rfl) ?_
      exact retQ_mk (by kernel_rfl) (by kernel_rfl) (by kernel_rfl)

def ref_Within (a0 : Int) (a1 : Int) (a2 : Int) : Option Bool :=
some ((decide (a0 ≤ a1)) && (decide (a1 ≤ a2)))
theorem ref_Within_ok {a0 : Int} {a1 : Int} {a2 : Int} {r : Bool} (h : ref_Within a0 a1 a2 = some r) : FnC Try.prog 20 [aI a0, aI a1, aI a2] [] (aB r) [] := by
  refine fnC_of_W (B := bodyOf Try.f20) (n := 15) Try.func20 (by kernel_rfl) (by kernel_rfl) (by kernel_rfl) (by kernel_rfl) (by kernel_rfl) ?_
  intro K
  refine W_seq (by kernel_rfl) ?_
  refine W_run 1 [] [0, 1, 2] [] (fr' := [(0, aI a0), (1, aI a1), (2, aI a2)]) (L' := []) (obs := []) (by kernel_rfl) (by kernel_rfl) (by kernel_rfl) allP0 ?_
  refine seqQ_norm ?_
  refine W_seq (by kernel_rfl) ?_
  refine W_run 9 [] [6] [] (fr' := [(6, aB ((decide (a0 ≤ a1)) && (decide (a1 ≤ a2))))]) (L' := []) (obs := []) (by kernel_rfl) (by kernel_rfl) (by kernel_rfl) allP0 ?_
  refine seqQ_norm ?_
  obtain rfl := Option.some.inj h
  refine W_ret [6] [] (fr' := [(6, aB ((decide (a0 ≤ a1)) && (decide (a1 ≤ a2))))]) (L' := []) (by kernel_rfl) (by kernel_rfl) ?_
  exact retQ_mk (by kernel_rfl) (by kernel_rfl) (by kernel_rfl)

def ref_Inside_b1 (a0 : Int) (i11 : Int) (v14 : Int) (x12 : Unit) : Option (Flow Unit (Esc Bool Unit)) :=
bif (decide (v14 < (0 : Int))) || (decide (v14 ≥ a0)) then
(some (.done (.ret false)))
else
(some (.next ()))
@[reducible] def ref_Inside_s2 (a0 : Int) (a1 : (List Int)) (v : Int × Unit) : Fr × LL := ([(0, aI a0), (7, aD (.slice tI) a1), (8, aI (List.length a1 : Int)), (9, aI v.1)], [])
@[reducible] def ref_Inside_s3 (v : Bool) : Fr × LL := ([(4, aB v)], [])
@[reducible] def ref_Inside_s4 (v : Unit) : Fr × LL := ([], [])
def ref_Inside (a0 : Int) (a1 : (List Int)) : Option Bool :=
(forL (ref_Inside_b1 a0) (fun x12 => (.brk ())) a1 0 ()).bind fun v19 =>
match v19 with
| .ret v24 =>
(some v24)
| .brk v25 =>
(some true)
theorem ref_Inside_ok {a0 : Int} {a1 : (List Int)} {r : Bool} (h : ref_Inside a0 a1 = some r) : FnC Try.prog 60 [aI a0, aD (.slice tI) a1] [] (aB r) [] := by
  refine fnC_of_W (B := bodyOf Try.f60) (n := 21) Try.func60 (by kernel_rfl) (by kernel_rfl) (by kernel_rfl) (by kernel_rfl) (by kernel_rfl) ?_
  intro K
  refine W_seq (by kernel_rfl) ?_
  refine W_run 1 [] [0, 1] [] (fr' := [(0, aI a0), (1, aD (.slice tI) a1)]) (L' := []) (obs := []) (by kernel_rfl) (by kernel_rfl) (by kernel_rfl) allP0 ?_
  refine seqQ_norm ?_
  refine W_seq (by kernel_rfl) ?_
  refine W_seq (by kernel_rfl) ?_
  refine W_run 3 [] [0, 7, 8, 9] [] (fr' := [(0, aI a0), (7, aD (.slice tI) a1), (8, aI (List.length a1 : Int)), (9, aI (0 : Int))]) (L' := []) (obs := []) (by kernel_rfl) (by kernel_rfl) (by kernel_rfl) allP0 ?_
  refine seqQ_norm ?_
  refine W_block (id := 0) (by kernel_rfl) ?_
  obtain ⟨v19, h20, h⟩ := bind_of h
  refine W_len (t := 7) (u := tI) (xs := a1) (by kernel_rfl) (fun h23 => ?_)
  obtain ⟨h21, h22⟩ := forL_iter h23 h20
  refine W_weaken [0, 7, 8, 9] [] (fr' := ((ref_Inside_s2 a0 a1) ((0 : Int), ())).1) (L' := ((ref_Inside_s2 a0 a1) ((0 : Int), ())).2) (by kernel_rfl) ?_
  refine W_cutK (W_loop (S := (ref_Inside_s2 a0 a1)) (J := (escQ (exQ .ret ref_Inside_s3) (exQ (.exit 0) ref_Inside_s4))) (by kernel_rfl) ?_ h21 _ v19 h22) ?_
  · rintro ⟨i11, x12⟩ s h
    refine W_seq (by kernel_rfl) ?_
    refine W_run 1 [] [0, 7, 8, 9, 10] [] (fr' := [(0, aI a0), (7, aD (.slice tI) a1), (8, aI (List.length a1 : Int)), (9, aI i11), (10, aB (decide (i11 < (List.length a1 : Int))))]) (L' := []) (obs := []) (by kernel_rfl) (by kernel_rfl) (by kernel_rfl) allP0 ?_
    refine seqQ_norm ?_
    refine W_seq (by kernel_rfl) ?_
    refine W_cond (o := .tmp 10) (b := decide (i11 < (List.length a1 : Int))) (by kernel_rfl) (by kernel_rfl) (fun h16 => ?_) (fun h16 => ?_)
    · replace h := stepL_true h16 h
      obtain ⟨v14, _, h15, h, rfl⟩ := h
      refine W_skip [0, 7, 8, 9] [] (fr' := [(0, aI a0), (7, aD (.slice tI) a1), (8, aI (List.length a1 : Int)), (9, aI i11)]) (L' := []) (by kernel_rfl) (by kernel_rfl) ?_
      refine seqQ_norm ?_
      refine W_seq (by kernel_rfl) ?_
      refine W_block (id := 1) (by kernel_rfl) ?_
      refine W_seq (by kernel_rfl) ?_
      refine W_run 3 [(1, .val (.dat tI v14))] [0, 6, 7, 8, 9] [] (fr' := [(0, aI a0), (6, aI v14), (7, aD (.slice tI) a1), (8, aI (List.length a1 : Int)), (9, aI i11)]) (L' := []) (obs := [Idx a1 i11 v14]) (by kernel_rfl) (by kernel_rfl) (by kernel_rfl) (allP1 (Idx.of h15)) ?_
      refine seqQ_norm ?_
      refine W_seq (by kernel_rfl) ?_
      refine W_run 7 [] [0, 7, 8, 9, 19] [] (fr' := [(0, aI a0), (7, aD (.slice tI) a1), (8, aI (List.length a1 : Int)), (9, aI i11), (19, aB ((decide (v14 < (0 : Int))) || (decide (v14 ≥ a0))))]) (L' := []) (obs := []) (by kernel_rfl) (by kernel_rfl) (by kernel_rfl) allP0 ?_
      refine seqQ_norm ?_
      refine W_cond (o := .tmp 19) (b := (decide (v14 < (0 : Int))) || (decide (v14 ≥ a0))) (by kernel_rfl) (by kernel_rfl) (fun h17 => ?_) (fun h17 => ?_)
      · replace h := ofT h17 h
        refine W_seq (by kernel_rfl) ?_
        refine W_run 1 [] [4] [] (fr' := [(4, aB false)]) (L' := []) (obs := []) (by kernel_rfl) (by kernel_rfl) (by kernel_rfl) allP0 ?_
        refine seqQ_norm ?_
        obtain rfl := Option.some.inj h
        refine W_ret [4] [] (fr' := [(4, aB false)]) (L' := []) (by kernel_rfl) (by kernel_rfl) ?_
        refine blockQ_ret ?_
        refine seqQ_ret ?_
        refine round_ret ?_
        refine escQ_ret ?_
        exact exQ_mk (by kernel_rfl) (by kernel_rfl)
      · replace h := ofF h17 h
        refine W_skip [0, 7, 8, 9] [] (fr' := [(0, aI a0), (7, aD (.slice tI) a1), (8, aI (List.length a1 : Int)), (9, aI i11)]) (L' := []) (by kernel_rfl) (by kernel_rfl) ?_
        refine blockQ_norm ?_
        refine seqQ_norm ?_
        obtain rfl := Option.some.inj h
        refine W_run 2 [] [0, 7, 8, 9] [] (fr' := [(0, aI a0), (7, aD (.slice tI) a1), (8, aI (List.length a1 : Int)), (9, aI (w64 (i11 + (1 : Int))))]) (L' := []) (obs := []) (by kernel_rfl) (by kernel_rfl) (by kernel_rfl) allP0 ?_
        exact round_next' (by kernel_rfl) (by kernel_rfl)
    · obtain rfl := stepL_false h16 h
      refine W_exit (id := 0) [] [] (fr' := []) (L' := []) (by kernel_rfl) (by kernel_rfl) ?_
      refine seqQ_exit ?_
      refine round_exit ?_
      refine escQ_brk ?_
      exact exQ_mk (by kernel_rfl) (by kernel_rfl)
  · intro e fr L hJ
    rcases v19 with v24 | v25
    · obtain ⟨rfl, rfl, rfl⟩ := hJ
      obtain rfl := Option.some.inj h
      refine LT_keep [4] [] (fr' := [(4, aB v24)]) (L' := []) (by kernel_rfl) ?_
      refine blockQ_ret ?_
      refine seqQ_ret ?_
      exact retQ_mk (by kernel_rfl) (by kernel_rfl) (by kernel_rfl)
    · obtain ⟨rfl, rfl, rfl⟩ := hJ
      refine LT_keep [] [] (fr' := []) (L' := []) (by kernel_rfl) ?_
      refine blockQ_hit ?_
      refine seqQ_norm ?_
      refine W_seq (by kernel_rfl) ?_
      refine W_run 1 [] [4] [] (fr' := [(4, aB true)]) (L' := []) (obs := []) (by kernel_rfl) (by kernel_rfl) (by kernel_rfl) allP0 ?_
      refine seqQ_norm ?_
      obtain rfl := Option.some.inj h
      refine W_ret [4] [] (fr' := [(4, aB true)]) (L' := []) (by kernel_rfl) (by kernel_rfl) ?_
      exact retQ_mk (by kernel_rfl) (by kernel_rfl) (by kernel_rfl)

def ref_NextsCheck_b1 (i14 : Int) (v17 : (List Int)) (x15 : Unit) : Option (Flow Unit (Esc Int Unit)) :=
bif decide ((List.length v17 : Int) > (4 : Int)) then
(some (.done (.ret (1 : Int))))
else
(some (.next ()))
@[reducible] def ref_NextsCheck_s2 (a0 : (List (List Int))) (a1 : (List Int)) (v : Int × Unit) : Fr × LL := ([(0, aD (.slice (.slice tI)) a0), (1, aD (.slice tI) a1), (13, aD (.slice (.slice tI)) a0), (14, aI (List.length a0 : Int)), (15, aI v.1)], [])
@[reducible] def ref_NextsCheck_s3 (v : Int) : Fr × LL := ([(4, aI v)], [])
@[reducible] def ref_NextsCheck_s4 (a0 : (List (List Int))) (a1 : (List Int)) (v : Unit) : Fr × LL := ([(0, aD (.slice (.slice tI)) a0), (1, aD (.slice tI) a1)], [])
def ref_NextsCheck_b5 (a0 : (List (List Int))) (i43 : Int) (v46 : (List Int)) (x44 : Unit) : Option (Flow Unit (Esc Int Unit)) :=
(ref_Inside (List.length a0 : Int) v46).bind fun r49 =>
bif !r49 then
(some (.done (.ret (2 : Int))))
else
(some (.next ()))
@[reducible] def ref_NextsCheck_s6 (a0 : (List (List Int))) (a1 : (List Int)) (v : Int × Unit) : Fr × LL := ([(0, aD (.slice (.slice tI)) a0), (1, aD (.slice tI) a1), (23, aD (.slice (.slice tI)) a0), (24, aI (List.length a0 : Int)), (25, aI v.1)], [])
@[reducible] def ref_NextsCheck_s7 (v : Int) : Fr × LL := ([(4, aI v)], [])
@[reducible] def ref_NextsCheck_s8 (a0 : (List (List Int))) (a1 : (List Int)) (v : Unit) : Fr × LL := ([(0, aD (.slice (.slice tI)) a0), (1, aD (.slice tI) a1)], [])
def ref_NextsCheck (a0 : (List (List Int))) (a1 : (List Int)) : Option Int :=
(ref_Within (1 : Int) (List.length a0 : Int) (8 : Int)).bind fun r1 =>
bif !r1 then
(some (1 : Int))
else
((forL ref_NextsCheck_b1 (fun x15 => (.brk ())) a0 0 ()).bind fun v22 =>
match v22 with
| .ret v27 =>
(some v27)
| .brk v28 =>
((forL (ref_NextsCheck_b5 a0) (fun x44 => (.brk ())) a0 0 ()).bind fun v53 =>
match v53 with
| .ret v58 =>
(some v58)
| .brk v59 =>
((ref_Inside (List.length a0 : Int) a1).bind fun r60 =>
bif !r60 then
(some (2 : Int))
else
(some (0 : Int)))))
theorem ref_NextsCheck_ok {a0 : (List (List Int))} {a1 : (List Int)} {r : Int} (h : ref_NextsCheck a0 a1 = some r) : FnC Try.prog 38 [aD (.slice (.slice tI)) a0, aD (.slice tI) a1] [] (aI r) [] := by
  refine fnC_of_W (B := bodyOf Try.f38) (n := 40) Try.func38 (by kernel_rfl) (by kernel_rfl) (by kernel_rfl) (by kernel_rfl) (by kernel_rfl) ?_
  intro K
  refine W_seq (by kernel_rfl) ?_
  refine W_run 1 [] [0, 1] [] (fr' := [(0, aD (.slice (.slice tI)) a0), (1, aD (.slice tI) a1)]) (L' := []) (obs := []) (by kernel_rfl) (by kernel_rfl) (by kernel_rfl) allP0 ?_
  refine seqQ_norm ?_
  refine W_seq (by kernel_rfl) ?_
  refine W_seq (by kernel_rfl) ?_
  refine W_region (by kernel_rfl) ?_
  refine WO_run (j := 2) (k := 2) (orcs := []) (kF := [0, 1, 10]) (kL := []) (fr' := [(0, aD (.slice (.slice tI)) a0), (1, aD (.slice tI) a1), (10, aI (List.length a0 : Int))]) (L' := []) (obs := []) rfl (by kernel_rfl) allP0 ?_
  obtain ⟨r1, h2, h⟩ := bind_of h
  refine WO_call0 (us := [none, none, none]) (d := 11) (p := True) (j := 3) rfl ⟨by kernel_rfl, by kernel_rfl, by kernel_rfl⟩ trivial (ref_Within_ok h2) (by kernel_rfl) ?_
  refine WO_run (j := 4) (k := 1) (orcs := []) (kF := [0, 1, 12]) (kL := []) (fr' := [(0, aD (.slice (.slice tI)) a0), (1, aD (.slice tI) a1), (12, aB (!r1))]) (L' := []) (obs := []) rfl (by kernel_rfl) allP0 ?_
  refine WO_fin [0, 1, 12] [] (fr' := [(0, aD (.slice (.slice tI)) a0), (1, aD (.slice tI) a1), (12, aB (!r1))]) (L' := []) (by kernel_rfl) (by kernel_rfl) ?_
  refine seqQ_norm ?_
  refine W_cond (o := .tmp 12) (b := !r1) (by kernel_rfl) (by kernel_rfl) (fun h3 => ?_) (fun h3 => ?_)
  · replace h := ofT h3 h
    refine W_seq (by kernel_rfl) ?_
    refine W_run 1 [] [4] [] (fr' := [(4, aI (1 : Int))]) (L' := []) (obs := []) (by kernel_rfl) (by kernel_rfl) (by kernel_rfl) allP0 ?_
    refine seqQ_norm ?_
    obtain rfl := Option.some.inj h
    refine W_ret [4] [] (fr' := [(4, aI (1 : Int))]) (L' := []) (by kernel_rfl) (by kernel_rfl) ?_
    refine seqQ_ret ?_
    exact retQ_mk (by kernel_rfl) (by kernel_rfl) (by kernel_rfl)
  · replace h := ofF h3 h
    refine W_skip [0, 1] [] (fr' := [(0, aD (.slice (.slice tI)) a0), (1, aD (.slice tI) a1)]) (L' := []) (by kernel_rfl) (by kernel_rfl) ?_
    refine seqQ_norm ?_
    refine W_seq (by kernel_rfl) ?_
    refine W_seq (by kernel_rfl) ?_
    refine W_run 3 [] [0, 1, 13, 14, 15] [] (fr' := [(0, aD (.slice (.slice tI)) a0), (1, aD (.slice tI) a1), (13, aD (.slice (.slice tI)) a0), (14, aI (List.length a0 : Int)), (15, aI (0 : Int))]) (L' := []) (obs := []) (by kernel_rfl) (by kernel_rfl) (by kernel_rfl) allP0 ?_
    refine seqQ_norm ?_
    refine W_block (id := 0) (by kernel_rfl) ?_
    obtain ⟨v22, h23, h⟩ := bind_of h
    refine W_len (t := 13) (u := (.slice tI)) (xs := a0) (by kernel_rfl) (fun h26 => ?_)
    obtain ⟨h24, h25⟩ := forL_iter h26 h23
    refine W_weaken [0, 1, 13, 14, 15] [] (fr' := ((ref_NextsCheck_s2 a0 a1) ((0 : Int), ())).1) (L' := ((ref_NextsCheck_s2 a0 a1) ((0 : Int), ())).2) (by kernel_rfl) ?_
    refine W_cutK (W_loop (S := (ref_NextsCheck_s2 a0 a1)) (J := (escQ (exQ .ret ref_NextsCheck_s3) (exQ (.exit 0) (ref_NextsCheck_s4 a0 a1)))) (by kernel_rfl) ?_ h24 _ v22 h25) ?_
    · rintro ⟨i14, x15⟩ s h
      refine W_seq (by kernel_rfl) ?_
      refine W_run 1 [] [0, 1, 13, 14, 15, 16] [] (fr' := [(0, aD (.slice (.slice tI)) a0), (1, aD (.slice tI) a1), (13, aD (.slice (.slice tI)) a0), (14, aI (List.length a0 : Int)), (15, aI i14), (16, aB (decide (i14 < (List.length a0 : Int))))]) (L' := []) (obs := []) (by kernel_rfl) (by kernel_rfl) (by kernel_rfl) allP0 ?_
      refine seqQ_norm ?_
      refine W_seq (by kernel_rfl) ?_
      refine W_cond (o := .tmp 16) (b := decide (i14 < (List.length a0 : Int))) (by kernel_rfl) (by kernel_rfl) (fun h19 => ?_) (fun h19 => ?_)
      · replace h := stepL_true h19 h
        obtain ⟨v17, _, h18, h, rfl⟩ := h
        refine W_skip [0, 1, 13, 14, 15] [] (fr' := [(0, aD (.slice (.slice tI)) a0), (1, aD (.slice tI) a1), (13, aD (.slice (.slice tI)) a0), (14, aI (List.length a0 : Int)), (15, aI i14)]) (L' := []) (by kernel_rfl) (by kernel_rfl) ?_
        refine seqQ_norm ?_
        refine W_seq (by kernel_rfl) ?_
        refine W_block (id := 1) (by kernel_rfl) ?_
        refine W_seq (by kernel_rfl) ?_
        refine W_run 3 [(1, .val (.dat (.slice tI) v17))] [0, 1, 6, 13, 14, 15] [] (fr' := [(0, aD (.slice (.slice tI)) a0), (1, aD (.slice tI) a1), (6, aD (.slice tI) v17), (13, aD (.slice (.slice tI)) a0), (14, aI (List.length a0 : Int)), (15, aI i14)]) (L' := []) (obs := [Idx a0 i14 v17]) (by kernel_rfl) (by kernel_rfl) (by kernel_rfl) (allP1 (Idx.of h18)) ?_
        refine seqQ_norm ?_
        refine W_seq (by kernel_rfl) ?_
        refine W_run 3 [] [0, 1, 13, 14, 15, 21] [] (fr' := [(0, aD (.slice (.slice tI)) a0), (1, aD (.slice tI) a1), (13, aD (.slice (.slice tI)) a0), (14, aI (List.length a0 : Int)), (15, aI i14), (21, aB (decide ((List.length v17 : Int) > (4 : Int))))]) (L' := []) (obs := []) (by kernel_rfl) (by kernel_rfl) (by kernel_rfl) allP0 ?_
        refine seqQ_norm ?_
        refine W_cond (o := .tmp 21) (b := decide ((List.length v17 : Int) > (4 : Int))) (by kernel_rfl) (by kernel_rfl) (fun h20 => ?_) (fun h20 => ?_)
        · replace h := ofT h20 h
          refine W_seq (by kernel_rfl) ?_
          refine W_run 1 [] [4] [] (fr' := [(4, aI (1 : Int))]) (L' := []) (obs := []) (by kernel_rfl) (by kernel_rfl) (by kernel_rfl) allP0 ?_
          refine seqQ_norm ?_
          obtain rfl := Option.some.inj h
          refine W_ret [4] [] (fr' := [(4, aI (1 : Int))]) (L' := []) (by kernel_rfl) (by kernel_rfl) ?_
          refine blockQ_ret ?_
          refine seqQ_ret ?_
          refine round_ret ?_
          refine escQ_ret ?_
          exact exQ_mk (by kernel_rfl) (by kernel_rfl)
        · replace h := ofF h20 h
          refine W_skip [0, 1, 13, 14, 15] [] (fr' := [(0, aD (.slice (.slice tI)) a0), (1, aD (.slice tI) a1), (13, aD (.slice (.slice tI)) a0), (14, aI (List.length a0 : Int)), (15, aI i14)]) (L' := []) (by kernel_rfl) (by kernel_rfl) ?_
          refine blockQ_norm ?_
          refine seqQ_norm ?_
          obtain rfl := Option.some.inj h
          refine W_run 2 [] [0, 1, 13, 14, 15] [] (fr' := [(0, aD (.slice (.slice tI)) a0), (1, aD (.slice tI) a1), (13, aD (.slice (.slice tI)) a0), (14, aI (List.length a0 : Int)), (15, aI (w64 (i14 + (1 : Int))))]) (L' := []) (obs := []) (by kernel_rfl) (by kernel_rfl) (by kernel_rfl) allP0 ?_
          exact round_next' (by kernel_rfl) (by kernel_rfl)
      · obtain rfl := stepL_false h19 h
        refine W_exit (id := 0) [0, 1] [] (fr' := [(0, aD (.slice (.slice tI)) a0), (1, aD (.slice tI) a1)]) (L' := []) (by kernel_rfl) (by kernel_rfl) ?_
        refine seqQ_exit ?_
        refine round_exit ?_
        refine escQ_brk ?_
        exact exQ_mk (by kernel_rfl) (by kernel_rfl)
    · intro e fr L hJ
      rcases v22 with v27 | v28
      · obtain ⟨rfl, rfl, rfl⟩ := hJ
        obtain rfl := Option.some.inj h
        refine LT_keep [4] [] (fr' := [(4, aI v27)]) (L' := []) (by kernel_rfl) ?_
        refine blockQ_ret ?_
        refine seqQ_ret ?_
        exact retQ_mk (by kernel_rfl) (by kernel_rfl) (by kernel_rfl)
      · obtain ⟨rfl, rfl, rfl⟩ := hJ
        refine LT_keep [0, 1] [] (fr' := [(0, aD (.slice (.slice tI)) a0), (1, aD (.slice tI) a1)]) (L' := []) (by kernel_rfl) ?_
        refine blockQ_hit ?_
        refine seqQ_norm ?_
        refine W_seq (by kernel_rfl) ?_
        refine W_seq (by kernel_rfl) ?_
        refine W_run 3 [] [0, 1, 23, 24, 25] [] (fr' := [(0, aD (.slice (.slice tI)) a0), (1, aD (.slice tI) a1), (23, aD (.slice (.slice tI)) a0), (24, aI (List.length a0 : Int)), (25, aI (0 : Int))]) (L' := []) (obs := []) (by kernel_rfl) (by kernel_rfl) (by kernel_rfl) allP0 ?_
        refine seqQ_norm ?_
        refine W_block (id := 2) (by kernel_rfl) ?_
        obtain ⟨v53, h54, h⟩ := bind_of h
        refine W_len (t := 23) (u := (.slice tI)) (xs := a0) (by kernel_rfl) (fun h57 => ?_)
        obtain ⟨h55, h56⟩ := forL_iter h57 h54
        refine W_weaken [0, 1, 23, 24, 25] [] (fr' := ((ref_NextsCheck_s6 a0 a1) ((0 : Int), ())).1) (L' := ((ref_NextsCheck_s6 a0 a1) ((0 : Int), ())).2) (by kernel_rfl) ?_
        refine W_cutK (W_loop (S := (ref_NextsCheck_s6 a0 a1)) (J := (escQ (exQ .ret ref_NextsCheck_s7) (exQ (.exit 2) (ref_NextsCheck_s8 a0 a1)))) (by kernel_rfl) ?_ h55 _ v53 h56) ?_
        · rintro ⟨i43, x44⟩ s h
          refine W_seq (by kernel_rfl) ?_
          refine W_run 1 [] [0, 1, 23, 24, 25, 26] [] (fr' := [(0, aD (.slice (.slice tI)) a0), (1, aD (.slice tI) a1), (23, aD (.slice (.slice tI)) a0), (24, aI (List.length a0 : Int)), (25, aI i43), (26, aB (decide (i43 < (List.length a0 : Int))))]) (L' := []) (obs := []) (by kernel_rfl) (by kernel_rfl) (by kernel_rfl) allP0 ?_
          refine seqQ_norm ?_
          refine W_seq (by kernel_rfl) ?_
          refine W_cond (o := .tmp 26) (b := decide (i43 < (List.length a0 : Int))) (by kernel_rfl) (by kernel_rfl) (fun h48 => ?_) (fun h48 => ?_)
          · replace h := stepL_true h48 h
            obtain ⟨v46, _, h47, h, rfl⟩ := h
            refine W_skip [0, 1, 23, 24, 25] [] (fr' := [(0, aD (.slice (.slice tI)) a0), (1, aD (.slice tI) a1), (23, aD (.slice (.slice tI)) a0), (24, aI (List.length a0 : Int)), (25, aI i43)]) (L' := []) (by kernel_rfl) (by kernel_rfl) ?_
            refine seqQ_norm ?_
            refine W_seq (by kernel_rfl) ?_
            refine W_block (id := 3) (by kernel_rfl) ?_
            refine W_seq (by kernel_rfl) ?_
            refine W_run 3 [(1, .val (.dat (.slice tI) v46))] [0, 1, 8, 23, 24, 25] [] (fr' := [(0, aD (.slice (.slice tI)) a0), (1, aD (.slice tI) a1), (8, aD (.slice tI) v46), (23, aD (.slice (.slice tI)) a0), (24, aI (List.length a0 : Int)), (25, aI i43)]) (L' := []) (obs := [Idx a0 i43 v46]) (by kernel_rfl) (by kernel_rfl) (by kernel_rfl) (allP1 (Idx.of h47)) ?_
            refine seqQ_norm ?_
            refine W_seq (by kernel_rfl) ?_
            refine W_region (by kernel_rfl) ?_
            refine WO_run (j := 3) (k := 3) (orcs := []) (kF := [0, 1, 23, 24, 25, 30, 31]) (kL := []) (fr' := [(0, aD (.slice (.slice tI)) a0), (1, aD (.slice tI) a1), (23, aD (.slice (.slice tI)) a0), (24, aI (List.length a0 : Int)), (25, aI i43), (30, aI (List.length a0 : Int)), (31, aD (.slice tI) v46)]) (L' := []) (obs := []) rfl (by kernel_rfl) allP0 ?_
            obtain ⟨r49, h50, h⟩ := bind_of h
            refine WO_call0 (us := [none, none]) (d := 32) (p := True) (j := 4) rfl ⟨by kernel_rfl, by kernel_rfl, by kernel_rfl⟩ trivial (ref_Inside_ok h50) (by kernel_rfl) ?_
            refine WO_run (j := 5) (k := 1) (orcs := []) (kF := [0, 1, 23, 24, 25, 33]) (kL := []) (fr' := [(0, aD (.slice (.slice tI)) a0), (1, aD (.slice tI) a1), (23, aD (.slice (.slice tI)) a0), (24, aI (List.length a0 : Int)), (25, aI i43), (33, aB (!r49))]) (L' := []) (obs := []) rfl (by kernel_rfl) allP0 ?_
            refine WO_fin [0, 1, 23, 24, 25, 33] [] (fr' := [(0, aD (.slice (.slice tI)) a0), (1, aD (.slice tI) a1), (23, aD (.slice (.slice tI)) a0), (24, aI (List.length a0 : Int)), (25, aI i43), (33, aB (!r49))]) (L' := []) (by kernel_rfl) (by kernel_rfl) ?_
            refine seqQ_norm ?_
            refine W_cond (o := .tmp 33) (b := !r49) (by kernel_rfl) (by kernel_rfl) (fun h51 => ?_) (fun h51 => ?_)
            · replace h := ofT h51 h
              refine W_seq (by kernel_rfl) ?_
              refine W_run 1 [] [4] [] (fr' := [(4, aI (2 : Int))]) (L' := []) (obs := []) (by kernel_rfl) (by kernel_rfl) (by kernel_rfl) allP0 ?_
              refine seqQ_norm ?_
              obtain rfl := Option.some.inj h
              refine W_ret [4] [] (fr' := [(4, aI (2 : Int))]) (L' := []) (by kernel_rfl) (by kernel_rfl) ?_
              refine blockQ_ret ?_
              refine seqQ_ret ?_
              refine round_ret ?_
              refine escQ_ret ?_
              exact exQ_mk (by kernel_rfl) (by kernel_rfl)
            · replace h := ofF h51 h
              refine W_skip [0, 1, 23, 24, 25] [] (fr' := [(0, aD (.slice (.slice tI)) a0), (1, aD (.slice tI) a1), (23, aD (.slice (.slice tI)) a0), (24, aI (List.length a0 : Int)), (25, aI i43)]) (L' := []) (by kernel_rfl) (by kernel_rfl) ?_
              refine blockQ_norm ?_
              refine seqQ_norm ?_
              obtain rfl := Option.some.inj h
              refine W_run 2 [] [0, 1, 23, 24, 25] [] (fr' := [(0, aD (.slice (.slice tI)) a0), (1, aD (.slice tI) a1), (23, aD (.slice (.slice tI)) a0), (24, aI (List.length a0 : Int)), (25, aI (w64 (i43 + (1 : Int))))]) (L' := []) (obs := []) (by kernel_rfl) (by kernel_rfl) (by kernel_rfl) allP0 ?_
              exact round_next' (by kernel_rfl) (by kernel_rfl)
          · obtain rfl := stepL_false h48 h
            refine W_exit (id := 2) [0, 1] [] (fr' := [(0, aD (.slice (.slice tI)) a0), (1, aD (.slice tI) a1)]) (L' := []) (by kernel_rfl) (by kernel_rfl) ?_
            refine seqQ_exit ?_
            refine round_exit ?_
            refine escQ_brk ?_
            exact exQ_mk (by kernel_rfl) (by kernel_rfl)
        · intro e fr L hJ
          rcases v53 with v58 | v59
          · obtain ⟨rfl, rfl, rfl⟩ := hJ
            obtain rfl := Option.some.inj h
            refine LT_keep [4] [] (fr' := [(4, aI v58)]) (L' := []) (by kernel_rfl) ?_
            refine blockQ_ret ?_
            refine seqQ_ret ?_
            exact retQ_mk (by kernel_rfl) (by kernel_rfl) (by kernel_rfl)
          · obtain ⟨rfl, rfl, rfl⟩ := hJ
            refine LT_keep [0, 1] [] (fr' := [(0, aD (.slice (.slice tI)) a0), (1, aD (.slice tI) a1)]) (L' := []) (by kernel_rfl) ?_
            refine blockQ_hit ?_
            refine seqQ_norm ?_
            refine W_seq (by kernel_rfl) ?_
            refine W_seq (by kernel_rfl) ?_
            refine W_region (by kernel_rfl) ?_
            refine WO_run (j := 3) (k := 3) (orcs := []) (kF := [36, 37]) (kL := []) (fr' := [(36, aI (List.length a0 : Int)), (37, aD (.slice tI) a1)]) (L' := []) (obs := []) rfl (by kernel_rfl) allP0 ?_
            obtain ⟨r60, h61, h⟩ := bind_of h
            refine WO_call0 (us := [none, none]) (d := 38) (p := True) (j := 4) rfl ⟨by kernel_rfl, by kernel_rfl, by kernel_rfl⟩ trivial (ref_Inside_ok h61) (by kernel_rfl) ?_
            refine WO_run (j := 5) (k := 1) (orcs := []) (kF := [39]) (kL := []) (fr' := [(39, aB (!r60))]) (L' := []) (obs := []) rfl (by kernel_rfl) allP0 ?_
            refine WO_fin [39] [] (fr' := [(39, aB (!r60))]) (L' := []) (by kernel_rfl) (by kernel_rfl) ?_
            refine seqQ_norm ?_
            refine W_cond (o := .tmp 39) (b := !r60) (by kernel_rfl) (by kernel_rfl) (fun h62 => ?_) (fun h62 => ?_)
            · replace h := ofT h62 h
              refine W_seq (by kernel_rfl) ?_
              refine W_run 1 [] [4] [] (fr' := [(4, aI (2 : Int))]) (L' := []) (obs := []) (by kernel_rfl) (by kernel_rfl) (by kernel_rfl) allP0 ?_
              refine seqQ_norm ?_
              obtain rfl := Option.some.inj h
              refine W_ret [4] [] (fr' := [(4, aI (2 : Int))]) (L' := []) (by kernel_rfl) (by kernel_rfl) ?_
              refine seqQ_ret ?_
              exact retQ_mk (by kernel_rfl) (by kernel_rfl) (by kernel_rfl)
            · replace h := ofF h62 h
              refine W_skip [] [] (fr' := []) (L' := []) (by kernel_rfl) (by kernel_rfl) ?_
              refine seqQ_norm ?_
              refine W_seq (by kernel_rfl) ?_
              refine W_run 1 [] [4] [] (fr' := [(4, aI (0 : Int))]) (L' := []) (obs := []) (by kernel_rfl) (by kernel_rfl) (by kernel_rfl) allP0 ?_
              refine seqQ_norm ?_
              obtain rfl := Option.some.inj h
              refine W_ret [4] [] (fr' := [(4, aI (0 : Int))]) (L' := []) (by kernel_rfl) (by kernel_rfl) ?_
              exact retQ_mk (by kernel_rfl) (by kernel_rfl) (by kernel_rfl)

@[reducible] def law_halfCode_s3 (r1 : Int) (v : Bool) : Fr × LL := ([(9, aI r1), (21, aB v)], [])
def law_halfCode_g4 (a3 : Int) (r1 : Int) : Option Int :=
(bif r1 == (0 : Int) then
((ref_Within (0 : Int) a3 (8 : Int)).bind fun r34 =>
some (!r34))
else
(some false)).bind fun v36 =>
bif v36 then
(some (4 : Int))
else
(some r1)
@[reducible] def law_halfCode_s5 (v : Int) : Fr × LL := ([(9, aI v)], [])
def law_halfCode (a0 : (List (List Int))) (a1 : Int) (a2 : Int) (a3 : Int) : Option Int :=
(ref_NextsCheck a0 [a1, a2]).bind fun r1 =>
(law_halfCode_g4 a3 r1).bind fun v39 =>
some v39
theorem law_halfCode_ok {a0 : (List (List Int))} {a1 : Int} {a2 : Int} {a3 : Int} {r : Int} (h : law_halfCode a0 a1 a2 a3 = some r) : FnC Try.prog 41 [aD (.slice (.slice tI)) a0, aI a1, aI a2, aI a3] [] (aI r) [] := by
  refine fnC_of_W (B := bodyOf Try.f41) (n := 23) Try.func41 (by kernel_rfl) (by kernel_rfl) (by kernel_rfl) (by kernel_rfl) (by kernel_rfl) ?_
  intro K
  refine W_seq (by kernel_rfl) ?_
  refine W_run 1 [] [0, 1, 2, 3] [] (fr' := [(0, aD (.slice (.slice tI)) a0), (1, aI a1), (2, aI a2), (3, aI a3)]) (L' := []) (obs := []) (by kernel_rfl) (by kernel_rfl) (by kernel_rfl) allP0 ?_
  refine seqQ_norm ?_
  refine W_seq (by kernel_rfl) ?_
  refine W_region (by kernel_rfl) ?_
  refine WO_run (j := 4) (k := 4) (orcs := []) (kF := [3, 10, 13]) (kL := [13]) (fr' := [(3, aI a3), (10, aD (.slice (.slice tI)) a0), (13, .one (.slc 13))]) (L' := [(13, .seq tI [a1, a2])]) (obs := []) rfl (by kernel_rfl) allP0 ?_
  obtain ⟨r1, h2, h⟩ := bind_of h
  refine WO_frz 13 (by kernel_rfl) ?_
  refine WO_call0 (us := [none, none]) (d := 14) (p := True) (j := 5) rfl ⟨by kernel_rfl, by kernel_rfl, by kernel_rfl⟩ trivial (ref_NextsCheck_ok h2) (by kernel_rfl) ?_
  refine WO_run (j := 6) (k := 1) (orcs := []) (kF := [3, 9]) (kL := []) (fr' := [(3, aI a3), (9, aI r1)]) (L' := []) (obs := []) rfl (by kernel_rfl) allP0 ?_
  refine WO_fin [3, 9] [] (fr' := [(3, aI a3), (9, aI r1)]) (L' := []) (by kernel_rfl) (by kernel_rfl) ?_
  refine seqQ_norm ?_
  refine W_seq (by kernel_rfl) ?_
  obtain ⟨v39, h40, h⟩ := bind_of h
  refine W_cutK (Q' := (exQ .normal law_halfCode_s5) v39) ?_ ?_
  · replace h := h40
    refine W_seq (by kernel_rfl) ?_
    obtain ⟨v36, h37, h⟩ := bind_of h
    refine W_cutK (Q' := (exQ .normal (law_halfCode_s3 r1)) v36) ?_ ?_
    · replace h := h37
      refine W_region (by kernel_rfl) ?_
      refine WO_run (j := 3) (k := 3) (orcs := []) (kF := [3, 9, 17]) (kL := []) (fr' := [(3, aI a3), (9, aI r1), (17, aB (r1 == (0 : Int)))]) (L' := []) (obs := []) rfl (by kernel_rfl) allP0 ?_
      rcases Bool.eq_false_or_eq_true (r1 == (0 : Int)) with h33 | h33
      · replace h := ofT h33 h
        refine WO_run (j := 4) (k := 1) (orcs := [(6, .known true)]) (kF := [9, 17, 18]) (kL := []) (fr' := [(9, aI r1), (17, aB (r1 == (0 : Int))), (18, aI a3)]) (L' := []) (obs := [((r1 == (0 : Int)) = true)]) rfl (by kernel_rfl) (allP1 h33) ?_
        obtain ⟨r34, h35, h⟩ := bind_of h
        refine WO_call0 (us := [none, none, none]) (d := 19) (p := ((r1 == (0 : Int)) = true)) (j := 5) rfl ⟨by kernel_rfl, by kernel_rfl, by kernel_rfl⟩ h33 (ref_Within_ok h35) (by kernel_rfl) ?_
        refine WO_run (j := 7) (k := 2) (orcs := [(10, .known true), (13, .val (.dat .bool true))]) (kF := [9, 21]) (kL := []) (fr' := [(9, aI r1), (21, aB (!r34))]) (L' := []) (obs := [((r1 == (0 : Int)) = true), ((r1 == (0 : Int)) = true)]) rfl (by kernel_rfl) (allP2 h33 (allP1 h33)) ?_
        obtain rfl := Option.some.inj h
        refine WO_fin [9, 21] [] (fr' := [(9, aI r1), (21, aB (!r34))]) (L' := []) (by kernel_rfl) (by kernel_rfl) ?_
        exact exQ_mk (by kernel_rfl) (by kernel_rfl)
      · replace h := ofF h33 h
        refine WO_run (j := 7) (k := 4) (orcs := [(6, .known false), (8, .known false), (10, .known false), (13, .val (.dat .bool false))]) (kF := [9, 21]) (kL := []) (fr' := [(9, aI r1), (21, aB false)]) (L' := []) (obs := [((r1 == (0 : Int)) = false), ((r1 == (0 : Int)) = false), ((r1 == (0 : Int)) = false), ((r1 == (0 : Int)) = false)]) rfl (by kernel_rfl) (allP2 h33 (allP2 h33 (allP2 h33 (allP1 h33)))) ?_
        obtain rfl := Option.some.inj h
        refine WO_fin [9, 21] [] (fr' := [(9, aI r1), (21, aB false)]) (L' := []) (by kernel_rfl) (by kernel_rfl) ?_
        exact exQ_mk (by kernel_rfl) (by kernel_rfl)
    · intro e fr L hJ
      obtain ⟨rfl, rfl, rfl⟩ := hJ
      refine LT_keep [9, 21] [] (fr' := [(9, aI r1), (21, aB v36)]) (L' := []) (by kernel_rfl) ?_
      refine seqQ_norm ?_
      refine W_cond (o := .tmp 21) (b := v36) (by kernel_rfl) (by kernel_rfl) (fun h38 => ?_) (fun h38 => ?_)
      · replace h := ofT h38 h
        obtain rfl := Option.some.inj h
        refine W_run 1 [] [9] [] (fr' := [(9, aI (4 : Int))]) (L' := []) (obs := []) (by kernel_rfl) (by kernel_rfl) (by kernel_rfl) allP0 ?_
        exact exQ_mk (by kernel_rfl) (by kernel_rfl)
      · replace h := ofF h38 h
        obtain rfl := Option.some.inj h
        refine W_skip [9] [] (fr' := [(9, aI r1)]) (L' := []) (by kernel_rfl) (by kernel_rfl) ?_
        exact exQ_mk (by kernel_rfl) (by kernel_rfl)
  · intro e fr L hJ
    obtain ⟨rfl, rfl, rfl⟩ := hJ
    refine LT_keep [9] [] (fr' := [(9, aI v39)]) (L' := []) (by kernel_rfl) ?_
    refine seqQ_norm ?_
    refine W_seq (by kernel_rfl) ?_
    refine W_run 2 [] [8] [] (fr' := [(8, aI v39)]) (L' := []) (obs := []) (by kernel_rfl) (by kernel_rfl) (by kernel_rfl) allP0 ?_
    refine seqQ_norm ?_
    obtain rfl := Option.some.inj h
    refine W_ret [8] [] (fr' := [(8, aI v39)]) (L' := []) (by kernel_rfl) (by kernel_rfl) ?_
    exact retQ_mk (by kernel_rfl) (by kernel_rfl) (by kernel_rfl)

def ref_Has_b1 (a1 : Int) (i11 : Int) (v14 : Int) (x12 : Unit) : Option (Flow Unit (Esc Bool Unit)) :=
bif a1 == v14 then
(some (.done (.ret true)))
else
(some (.next ()))
@[reducible] def ref_Has_s2 (a0 : (List Int)) (a1 : Int) (v : Int × Unit) : Fr × LL := ([(1, aI a1), (7, aD (.slice tI) a0), (8, aI (List.length a0 : Int)), (9, aI v.1)], [])
@[reducible] def ref_Has_s3 (v : Bool) : Fr × LL := ([(4, aB v)], [])
@[reducible] def ref_Has_s4 (v : Unit) : Fr × LL := ([], [])
def ref_Has (a0 : (List Int)) (a1 : Int) : Option Bool :=
(forL (ref_Has_b1 a1) (fun x12 => (.brk ())) a0 0 ()).bind fun v19 =>
match v19 with
| .ret v24 =>
(some v24)
| .brk v25 =>
(some false)
theorem ref_Has_ok {a0 : (List Int)} {a1 : Int} {r : Bool} (h : ref_Has a0 a1 = some r) : FnC Try.prog 47 [aD (.slice tI) a0, aI a1] [] (aB r) [] := by
  refine fnC_of_W (B := bodyOf Try.f47) (n := 17) Try.func47 (by kernel_rfl) (by kernel_rfl) (by kernel_rfl) (by kernel_rfl) (by kernel_rfl) ?_
  intro K
  refine W_seq (by kernel_rfl) ?_
  refine W_run 1 [] [0, 1] [] (fr' := [(0, aD (.slice tI) a0), (1, aI a1)]) (L' := []) (obs := []) (by kernel_rfl) (by kernel_rfl) (by kernel_rfl) allP0 ?_
  refine seqQ_norm ?_
  refine W_seq (by kernel_rfl) ?_
  refine W_seq (by kernel_rfl) ?_
  refine W_run 3 [] [1, 7, 8, 9] [] (fr' := [(1, aI a1), (7, aD (.slice tI) a0), (8, aI (List.length a0 : Int)), (9, aI (0 : Int))]) (L' := []) (obs := []) (by kernel_rfl) (by kernel_rfl) (by kernel_rfl) allP0 ?_
  refine seqQ_norm ?_
  refine W_block (id := 0) (by kernel_rfl) ?_
  obtain ⟨v19, h20, h⟩ := bind_of h
  refine W_len (t := 7) (u := tI) (xs := a0) (by kernel_rfl) (fun h23 => ?_)
  obtain ⟨h21, h22⟩ := forL_iter h23 h20
  refine W_weaken [1, 7, 8, 9] [] (fr' := ((ref_Has_s2 a0 a1) ((0 : Int), ())).1) (L' := ((ref_Has_s2 a0 a1) ((0 : Int), ())).2) (by kernel_rfl) ?_
  refine W_cutK (W_loop (S := (ref_Has_s2 a0 a1)) (J := (escQ (exQ .ret ref_Has_s3) (exQ (.exit 0) ref_Has_s4))) (by kernel_rfl) ?_ h21 _ v19 h22) ?_
  · rintro ⟨i11, x12⟩ s h
    refine W_seq (by kernel_rfl) ?_
    refine W_run 1 [] [1, 7, 8, 9, 10] [] (fr' := [(1, aI a1), (7, aD (.slice tI) a0), (8, aI (List.length a0 : Int)), (9, aI i11), (10, aB (decide (i11 < (List.length a0 : Int))))]) (L' := []) (obs := []) (by kernel_rfl) (by kernel_rfl) (by kernel_rfl) allP0 ?_
    refine seqQ_norm ?_
    refine W_seq (by kernel_rfl) ?_
    refine W_cond (o := .tmp 10) (b := decide (i11 < (List.length a0 : Int))) (by kernel_rfl) (by kernel_rfl) (fun h16 => ?_) (fun h16 => ?_)
    · replace h := stepL_true h16 h
      obtain ⟨v14, _, h15, h, rfl⟩ := h
      refine W_skip [1, 7, 8, 9] [] (fr' := [(1, aI a1), (7, aD (.slice tI) a0), (8, aI (List.length a0 : Int)), (9, aI i11)]) (L' := []) (by kernel_rfl) (by kernel_rfl) ?_
      refine seqQ_norm ?_
      refine W_seq (by kernel_rfl) ?_
      refine W_block (id := 1) (by kernel_rfl) ?_
      refine W_seq (by kernel_rfl) ?_
      refine W_run 3 [(1, .val (.dat tI v14))] [1, 6, 7, 8, 9] [] (fr' := [(1, aI a1), (6, aI v14), (7, aD (.slice tI) a0), (8, aI (List.length a0 : Int)), (9, aI i11)]) (L' := []) (obs := [Idx a0 i11 v14]) (by kernel_rfl) (by kernel_rfl) (by kernel_rfl) (allP1 (Idx.of h15)) ?_
      refine seqQ_norm ?_
      refine W_seq (by kernel_rfl) ?_
      refine W_run 3 [] [1, 7, 8, 9, 15] [] (fr' := [(1, aI a1), (7, aD (.slice tI) a0), (8, aI (List.length a0 : Int)), (9, aI i11), (15, aB (a1 == v14))]) (L' := []) (obs := []) (by kernel_rfl) (by kernel_rfl) (by kernel_rfl) allP0 ?_
      refine seqQ_norm ?_
      refine W_cond (o := .tmp 15) (b := a1 == v14) (by kernel_rfl) (by kernel_rfl) (fun h17 => ?_) (fun h17 => ?_)
      · replace h := ofT h17 h
        refine W_seq (by kernel_rfl) ?_
        refine W_run 1 [] [4] [] (fr' := [(4, aB true)]) (L' := []) (obs := []) (by kernel_rfl) (by kernel_rfl) (by kernel_rfl) allP0 ?_
        refine seqQ_norm ?_
        obtain rfl := Option.some.inj h
        refine W_ret [4] [] (fr' := [(4, aB true)]) (L' := []) (by kernel_rfl) (by kernel_rfl) ?_
        refine blockQ_ret ?_
        refine seqQ_ret ?_
        refine round_ret ?_
        refine escQ_ret ?_
        exact exQ_mk (by kernel_rfl) (by kernel_rfl)
      · replace h := ofF h17 h
        refine W_skip [1, 7, 8, 9] [] (fr' := [(1, aI a1), (7, aD (.slice tI) a0), (8, aI (List.length a0 : Int)), (9, aI i11)]) (L' := []) (by kernel_rfl) (by kernel_rfl) ?_
        refine blockQ_norm ?_
        refine seqQ_norm ?_
        obtain rfl := Option.some.inj h
        refine W_run 2 [] [1, 7, 8, 9] [] (fr' := [(1, aI a1), (7, aD (.slice tI) a0), (8, aI (List.length a0 : Int)), (9, aI (w64 (i11 + (1 : Int))))]) (L' := []) (obs := []) (by kernel_rfl) (by kernel_rfl) (by kernel_rfl) allP0 ?_
        exact round_next' (by kernel_rfl) (by kernel_rfl)
    · obtain rfl := stepL_false h16 h
      refine W_exit (id := 0) [] [] (fr' := []) (L' := []) (by kernel_rfl) (by kernel_rfl) ?_
      refine seqQ_exit ?_
      refine round_exit ?_
      refine escQ_brk ?_
      exact exQ_mk (by kernel_rfl) (by kernel_rfl)
  · intro e fr L hJ
    rcases v19 with v24 | v25
    · obtain ⟨rfl, rfl, rfl⟩ := hJ
      obtain rfl := Option.some.inj h
      refine LT_keep [4] [] (fr' := [(4, aB v24)]) (L' := []) (by kernel_rfl) ?_
      refine blockQ_ret ?_
      refine seqQ_ret ?_
      exact retQ_mk (by kernel_rfl) (by kernel_rfl) (by kernel_rfl)
    · obtain ⟨rfl, rfl, rfl⟩ := hJ
      refine LT_keep [] [] (fr' := []) (L' := []) (by kernel_rfl) ?_
      refine blockQ_hit ?_
      refine seqQ_norm ?_
      refine W_seq (by kernel_rfl) ?_
      refine W_run 1 [] [4] [] (fr' := [(4, aB false)]) (L' := []) (obs := []) (by kernel_rfl) (by kernel_rfl) (by kernel_rfl) allP0 ?_
      refine seqQ_norm ?_
      obtain rfl := Option.some.inj h
      refine W_ret [4] [] (fr' := [(4, aB false)]) (L' := []) (by kernel_rfl) (by kernel_rfl) ?_
      exact retQ_mk (by kernel_rfl) (by kernel_rfl) (by kernel_rfl)

@[reducible] def ref_Halves_s1 (v : Bool) : Fr × LL := ([(8, aB v), (9, aI (1 : Int))], [])
def ref_Halves_g7 (a0 : (List (List Int))) (a1 : Int) (a2 : Int) (a3 : Int) (rf_ref_Halves : (List (List Int)) → Int → Int → Int → Option (Bool × Int)) (i68 : Int) (x69 : Int) : Option (Esc (Bool × Int) Int) :=
(rf_ref_Halves a0 a1 i68 (w64 (a3 - (w64 (Int.tdiv a3 (2 : Int)))))).bind fun r86 =>
bif !r86.1 then
(some (.brk (w64 (x69 + r86.2))))
else
((rf_ref_Halves a0 i68 a2 (w64 (Int.tdiv a3 (2 : Int)))).bind fun r89 =>
bif r89.1 then
(some (.ret (true, w64 ((w64 (x69 + r86.2)) + r89.2))))
else
(some (.brk (w64 ((w64 (x69 + r86.2)) + r89.2)))))
@[reducible] def ref_Halves_s8 (v : (Bool × Int)) : Fr × LL := ([(8, aB v.1), (9, aI v.2)], [])
@[reducible] def ref_Halves_s9 (a0 : (List (List Int))) (a1 : Int) (a2 : Int) (a3 : Int) (i68 : Int) (v : Int) : Fr × LL := ([(0, aD (.slice (.slice tI)) a0), (1, aI a1), (2, aI a2), (3, aI a3), (10, aI v), (11, aI i68)], [])
def ref_Halves_b10 (a0 : (List (List Int))) (a1 : Int) (a2 : Int) (a3 : Int) (rf_ref_Halves : (List (List Int)) → Int → Int → Int → Option (Bool × Int)) (i68 : Int) (v71 : (List Int)) (x69 : Int) : Option (Flow Int (Esc (Bool × Int) Int)) :=
(ref_Halves_g7 a0 a1 a2 a3 rf_ref_Halves i68 x69).bind fun v92 =>
match v92 with
| .ret v94 =>
(some (.done (.ret (v94.1, v94.2))))
| .brk v95 =>
(some (.next v95))
@[reducible] def ref_Halves_s11 (a0 : (List (List Int))) (a1 : Int) (a2 : Int) (a3 : Int) (v : Int × Int) : Fr × LL := ([(0, aD (.slice (.slice tI)) a0), (1, aI a1), (2, aI a2), (3, aI a3), (10, aI v.2), (11, aI v.1)], [])
@[reducible] def ref_Halves_s12 (v : (Bool × Int)) : Fr × LL := ([(8, aB v.1), (9, aI v.2)], [])
@[reducible] def ref_Halves_s13 (v : Int) : Fr × LL := ([(10, aI v)], [])
def ref_Halves_step (rf_ref_Halves : (List (List Int)) → Int → Int → Int → Option (Bool × Int)) (fuel : Nat) (a0 : (List (List Int))) (a1 : Int) (a2 : Int) (a3 : Int) : Option (Bool × Int) :=
bif a3 == (0 : Int) then
(some (a1 == a2, (1 : Int)))
else
(bif a3 == (1 : Int) then
((bif a1 == a2 then
(some true)
else
((idx a0 a1).bind fun v14 =>
(ref_Has v14 a2).bind fun r16 =>
some r16)).bind fun v18 =>
some (v18, (1 : Int)))
else
((forL (ref_Halves_b10 a0 a1 a2 a3 rf_ref_Halves) (fun x69 => (.brk x69)) a0 0 (1 : Int)).bind fun v97 =>
match v97 with
| .ret v102 =>
(some (v102.1, v102.2))
| .brk v103 =>
(some (false, v103))))
def ref_Halves : Nat → (List (List Int)) → Int → Int → Int → Option (Bool × Int)
  | 0 => fun _ _ _ _ => none
  | fuel + 1 => fun a0 a1 a2 a3 => ref_Halves_step (ref_Halves fuel) fuel a0 a1 a2 a3
theorem ref_Halves_step_ok {rf_ref_Halves : (List (List Int)) → Int → Int → Int → Option (Bool × Int)} (ih_ref_Halves : ∀ {a0 : (List (List Int))} {a1 : Int} {a2 : Int} {a3 : Int} {r : (Bool × Int)}, rf_ref_Halves a0 a1 a2 a3 = some r → FnC Try.prog 42 [aD (.slice (.slice tI)) a0, aI a1, aI a2, aI a3] [] (.tup [.dat .bool r.1, .dat tI r.2]) []) {fuel : Nat} {a0 : (List (List Int))} {a1 : Int} {a2 : Int} {a3 : Int} {r : (Bool × Int)} (h : ref_Halves_step rf_ref_Halves fuel a0 a1 a2 a3 = some r) : FnC Try.prog 42 [aD (.slice (.slice tI)) a0, aI a1, aI a2, aI a3] [] (.tup [.dat .bool r.1, .dat tI r.2]) [] := by
  refine fnC_of_W (B := bodyOf Try.f42) (n := 71) Try.func42 (by kernel_rfl) (by kernel_rfl) (by kernel_rfl) (by kernel_rfl) (by kernel_rfl) ?_
  intro K
  refine W_seq (by kernel_rfl) ?_
  refine W_run 2 [] [0, 1, 2, 3] [] (fr' := [(0, aD (.slice (.slice tI)) a0), (1, aI a1), (2, aI a2), (3, aI a3)]) (L' := []) (obs := []) (by kernel_rfl) (by kernel_rfl) (by kernel_rfl) allP0 ?_
  refine seqQ_norm ?_
  refine W_seq (by kernel_rfl) ?_
  refine W_seq (by kernel_rfl) ?_
  refine W_run 2 [] [0, 1, 2, 3, 17] [] (fr' := [(0, aD (.slice (.slice tI)) a0), (1, aI a1), (2, aI a2), (3, aI a3), (17, aB (a3 == (0 : Int)))]) (L' := []) (obs := []) (by kernel_rfl) (by kernel_rfl) (by kernel_rfl) allP0 ?_
  refine seqQ_norm ?_
  refine W_cond (o := .tmp 17) (b := a3 == (0 : Int)) (by kernel_rfl) (by kernel_rfl) (fun h1 => ?_) (fun h1 => ?_)
  · replace h := ofT h1 h
    refine W_seq (by kernel_rfl) ?_
    refine W_run 5 [] [8, 9] [] (fr' := [(8, aB (a1 == a2)), (9, aI (1 : Int))]) (L' := []) (obs := []) (by kernel_rfl) (by kernel_rfl) (by kernel_rfl) allP0 ?_
    refine seqQ_norm ?_
    obtain rfl := Option.some.inj h
    refine W_ret [8, 9] [] (fr' := [(8, aB (a1 == a2)), (9, aI (1 : Int))]) (L' := []) (by kernel_rfl) (by kernel_rfl) ?_
    refine seqQ_ret ?_
    exact retQ_mk (by kernel_rfl) (by kernel_rfl) (by kernel_rfl)
  · replace h := ofF h1 h
    refine W_skip [0, 1, 2, 3] [] (fr' := [(0, aD (.slice (.slice tI)) a0), (1, aI a1), (2, aI a2), (3, aI a3)]) (L' := []) (by kernel_rfl) (by kernel_rfl) ?_
    refine seqQ_norm ?_
    refine W_seq (by kernel_rfl) ?_
    refine W_seq (by kernel_rfl) ?_
    refine W_run 2 [] [0, 1, 2, 3, 22] [] (fr' := [(0, aD (.slice (.slice tI)) a0), (1, aI a1), (2, aI a2), (3, aI a3), (22, aB (a3 == (1 : Int)))]) (L' := []) (obs := []) (by kernel_rfl) (by kernel_rfl) (by kernel_rfl) allP0 ?_
    refine seqQ_norm ?_
    refine W_cond (o := .tmp 22) (b := a3 == (1 : Int)) (by kernel_rfl) (by kernel_rfl) (fun h2 => ?_) (fun h2 => ?_)
    · replace h := ofT h2 h
      refine W_seq (by kernel_rfl) ?_
      obtain ⟨v18, h19, h⟩ := bind_of h
      refine W_cutK (Q' := (exQ .normal ref_Halves_s1) v18) ?_ ?_
      · replace h := h19
        refine W_region (by kernel_rfl) ?_
        refine WO_run (j := 4) (k := 4) (orcs := []) (kF := [0, 1, 2, 26]) (kL := []) (fr' := [(0, aD (.slice (.slice tI)) a0), (1, aI a1), (2, aI a2), (26, aB (a1 == a2))]) (L' := []) (obs := []) rfl (by kernel_rfl) allP0 ?_
        rcases Bool.eq_false_or_eq_true (a1 == a2) with h13 | h13
        · replace h := ofT h13 h
          refine WO_run (j := 13) (k := 9) (orcs := [(8, .known true), (10, .known true), (12, .known true), (14, .known true), (16, .known true), (18, .known true), (21, .val (.dat .bool true))]) (kF := [8, 9]) (kL := []) (fr' := [(8, aB true), (9, aI (1 : Int))]) (L' := []) (obs := [((a1 == a2) = true), ((a1 == a2) = true), ((a1 == a2) = true), ((a1 == a2) = true), ((a1 == a2) = true), ((a1 == a2) = true), ((a1 == a2) = true)]) rfl (by kernel_rfl) (allP2 h13 (allP2 h13 (allP2 h13 (allP2 h13 (allP2 h13 (allP2 h13 (allP1 h13))))))) ?_
          obtain rfl := Option.some.inj h
          refine WO_fin [8, 9] [] (fr' := [(8, aB true), (9, aI (1 : Int))]) (L' := []) (by kernel_rfl) (by kernel_rfl) ?_
          exact exQ_mk (by kernel_rfl) (by kernel_rfl)
        · replace h := ofF h13 h
          obtain ⟨v14, h15, h⟩ := bind_of h
          refine WO_run (j := 9) (k := 5) (orcs := [(8, .known false), (10, .known false), (12, .known false), (13, .val (.dat (.slice tI) v14)), (14, .known false), (16, .known false)]) (kF := [26, 30, 31]) (kL := []) (fr' := [(26, aB (a1 == a2)), (30, aD (.slice tI) v14), (31, aI a2)]) (L' := []) (obs := [((a1 == a2) = false), ((a1 == a2) = false), ((a1 == a2) = false), Idx a0 a1 v14, ((a1 == a2) = false), ((a1 == a2) = false)]) rfl (by kernel_rfl) (allP2 h13 (allP2 h13 (allP2 h13 (allP2 (Idx.of h15) (allP2 h13 (allP1 h13)))))) ?_
          obtain ⟨r16, h17, h⟩ := bind_of h
          refine WO_call0 (us := [none, none]) (d := 32) (p := ((a1 == a2) = false)) (j := 10) rfl ⟨by kernel_rfl, by kernel_rfl, by kernel_rfl⟩ h13 (ref_Has_ok h17) (by kernel_rfl) ?_
          refine WO_run (j := 13) (k := 3) (orcs := [(21, .val (.dat .bool false))]) (kF := [8, 9]) (kL := []) (fr' := [(8, aB r16), (9, aI (1 : Int))]) (L' := []) (obs := [((a1 == a2) = false)]) rfl (by kernel_rfl) (allP1 h13) ?_
          obtain rfl := Option.some.inj h
          refine WO_fin [8, 9] [] (fr' := [(8, aB r16), (9, aI (1 : Int))]) (L' := []) (by kernel_rfl) (by kernel_rfl) ?_
          exact exQ_mk (by kernel_rfl) (by kernel_rfl)
      · intro e fr L hJ
        obtain ⟨rfl, rfl, rfl⟩ := hJ
        refine LT_keep [8, 9] [] (fr' := [(8, aB v18), (9, aI (1 : Int))]) (L' := []) (by kernel_rfl) ?_
        refine seqQ_norm ?_
        obtain rfl := Option.some.inj h
        refine W_ret [8, 9] [] (fr' := [(8, aB v18), (9, aI (1 : Int))]) (L' := []) (by kernel_rfl) (by kernel_rfl) ?_
        refine seqQ_ret ?_
        exact retQ_mk (by kernel_rfl) (by kernel_rfl) (by kernel_rfl)
    · replace h := ofF h2 h
      refine W_skip [0, 1, 2, 3] [] (fr' := [(0, aD (.slice (.slice tI)) a0), (1, aI a1), (2, aI a2), (3, aI a3)]) (L' := []) (by kernel_rfl) (by kernel_rfl) ?_
      refine seqQ_norm ?_
      refine W_seq (by kernel_rfl) ?_
      refine W_run 1 [] [0, 1, 2, 3, 10] [] (fr' := [(0, aD (.slice (.slice tI)) a0), (1, aI a1), (2, aI a2), (3, aI a3), (10, aI (1 : Int))]) (L' := []) (obs := []) (by kernel_rfl) (by kernel_rfl) (by kernel_rfl) allP0 ?_
      refine seqQ_norm ?_
      refine W_seq (by kernel_rfl) ?_
      refine W_seq (by kernel_rfl) ?_
      refine W_run 1 [] [0, 1, 2, 3, 10, 11] [] (fr' := [(0, aD (.slice (.slice tI)) a0), (1, aI a1), (2, aI a2), (3, aI a3), (10, aI (1 : Int)), (11, aI (0 : Int))]) (L' := []) (obs := []) (by kernel_rfl) (by kernel_rfl) (by kernel_rfl) allP0 ?_
      refine seqQ_norm ?_
      refine W_block (id := 0) (by kernel_rfl) ?_
      obtain ⟨v97, h98, h⟩ := bind_of h
      refine W_len (t := 0) (u := (.slice tI)) (xs := a0) (by kernel_rfl) (fun h101 => ?_)
      obtain ⟨h99, h100⟩ := forL_iter h101 h98
      refine W_weaken [0, 1, 2, 3, 10, 11] [] (fr' := ((ref_Halves_s11 a0 a1 a2 a3) ((0 : Int), (1 : Int))).1) (L' := ((ref_Halves_s11 a0 a1 a2 a3) ((0 : Int), (1 : Int))).2) (by kernel_rfl) ?_
      refine W_cutK (W_loop (S := (ref_Halves_s11 a0 a1 a2 a3)) (J := (escQ (exQ .ret ref_Halves_s12) (exQ (.exit 0) ref_Halves_s13))) (by kernel_rfl) ?_ h99 _ v97 h100) ?_
      · rintro ⟨i68, x69⟩ s h
        refine W_seq (by kernel_rfl) ?_
        refine W_seq (by kernel_rfl) ?_
        refine W_run 4 [] [0, 1, 2, 3, 10, 11, 37] [] (fr' := [(0, aD (.slice (.slice tI)) a0), (1, aI a1), (2, aI a2), (3, aI a3), (10, aI x69), (11, aI i68), (37, aB (decide (i68 < (List.length a0 : Int))))]) (L' := []) (obs := []) (by kernel_rfl) (by kernel_rfl) (by kernel_rfl) allP0 ?_
        refine seqQ_norm ?_
        refine W_cond (o := .tmp 37) (b := decide (i68 < (List.length a0 : Int))) (by kernel_rfl) (by kernel_rfl) (fun h73 => ?_) (fun h73 => ?_)
        · replace h := stepL_true h73 h
          obtain ⟨v71, _, h72, h, rfl⟩ := h
          refine W_skip [0, 1, 2, 3, 10, 11] [] (fr' := [(0, aD (.slice (.slice tI)) a0), (1, aI a1), (2, aI a2), (3, aI a3), (10, aI x69), (11, aI i68)]) (L' := []) (by kernel_rfl) (by kernel_rfl) ?_
          refine seqQ_norm ?_
          refine W_seq (by kernel_rfl) ?_
          obtain ⟨v92, h93, h⟩ := bind_of h
          refine W_cutK (Q' := (escQ (exQ .ret ref_Halves_s8) (exQ .normal (ref_Halves_s9 a0 a1 a2 a3 i68))) v92) ?_ ?_
          · replace h := h93
            refine W_block (id := 1) (by kernel_rfl) ?_
            refine W_seq (by kernel_rfl) ?_
            refine W_region (by kernel_rfl) ?_
            refine WO_run (j := 7) (k := 7) (orcs := []) (kF := [0, 1, 2, 3, 10, 11, 41, 42, 43, 47]) (kL := []) (fr' := [(0, aD (.slice (.slice tI)) a0), (1, aI a1), (2, aI a2), (3, aI a3), (10, aI x69), (11, aI i68), (41, aD (.slice (.slice tI)) a0), (42, aI a1), (43, aI i68), (47, aI (w64 (a3 - (w64 (Int.tdiv a3 (2 : Int))))))]) (L' := []) (obs := [((2 : Int) ≠ 0)]) rfl (by kernel_rfl) (allP1 (by decide)) ?_
            obtain ⟨r86, h87, h⟩ := bind_of h
            refine WO_call0 (us := [none, none, none, none]) (d := 48) (p := True) (j := 8) rfl ⟨by kernel_rfl, by kernel_rfl, by kernel_rfl⟩ trivial (ih_ref_Halves h87) (by kernel_rfl) ?_
            refine WO_run (j := 13) (k := 5) (orcs := []) (kF := [0, 1, 2, 3, 10, 11, 12, 13]) (kL := []) (fr' := [(0, aD (.slice (.slice tI)) a0), (1, aI a1), (2, aI a2), (3, aI a3), (10, aI x69), (11, aI i68), (12, aB r86.1), (13, aI r86.2)]) (L' := []) (obs := []) rfl (by kernel_rfl) allP0 ?_
            refine WO_fin [0, 1, 2, 3, 10, 11, 12, 13] [] (fr' := [(0, aD (.slice (.slice tI)) a0), (1, aI a1), (2, aI a2), (3, aI a3), (10, aI x69), (11, aI i68), (12, aB r86.1), (13, aI r86.2)]) (L' := []) (by kernel_rfl) (by kernel_rfl) ?_
            refine seqQ_norm ?_
            refine W_seq (by kernel_rfl) ?_
            refine W_run 4 [] [0, 1, 2, 3, 10, 11, 12] [] (fr' := [(0, aD (.slice (.slice tI)) a0), (1, aI a1), (2, aI a2), (3, aI a3), (10, aI (w64 (x69 + r86.2))), (11, aI i68), (12, aB r86.1)]) (L' := []) (obs := []) (by kernel_rfl) (by kernel_rfl) (by kernel_rfl) allP0 ?_
            refine seqQ_norm ?_
            refine W_seq (by kernel_rfl) ?_
            refine W_seq (by kernel_rfl) ?_
            refine W_run 2 [] [0, 1, 2, 3, 10, 11, 55] [] (fr' := [(0, aD (.slice (.slice tI)) a0), (1, aI a1), (2, aI a2), (3, aI a3), (10, aI (w64 (x69 + r86.2))), (11, aI i68), (55, aB (!r86.1))]) (L' := []) (obs := []) (by kernel_rfl) (by kernel_rfl) (by kernel_rfl) allP0 ?_
            refine seqQ_norm ?_
            refine W_cond (o := .tmp 55) (b := !r86.1) (by kernel_rfl) (by kernel_rfl) (fun h88 => ?_) (fun h88 => ?_)
            · replace h := ofT h88 h
              obtain rfl := Option.some.inj h
              refine W_exit (id := 1) [0, 1, 2, 3, 10, 11] [] (fr' := [(0, aD (.slice (.slice tI)) a0), (1, aI a1), (2, aI a2), (3, aI a3), (10, aI (w64 (x69 + r86.2))), (11, aI i68)]) (L' := []) (by kernel_rfl) (by kernel_rfl) ?_
              refine seqQ_exit ?_
              refine blockQ_hit ?_
              refine escQ_brk ?_
              exact exQ_mk (by kernel_rfl) (by kernel_rfl)
            · replace h := ofF h88 h
              refine W_skip [0, 1, 2, 3, 10, 11] [] (fr' := [(0, aD (.slice (.slice tI)) a0), (1, aI a1), (2, aI a2), (3, aI a3), (10, aI (w64 (x69 + r86.2))), (11, aI i68)]) (L' := []) (by kernel_rfl) (by kernel_rfl) ?_
              refine seqQ_norm ?_
              refine W_seq (by kernel_rfl) ?_
              refine W_region (by kernel_rfl) ?_
              refine WO_run (j := 5) (k := 5) (orcs := []) (kF := [0, 1, 2, 3, 10, 11, 57, 58, 59, 61]) (kL := []) (fr' := [(0, aD (.slice (.slice tI)) a0), (1, aI a1), (2, aI a2), (3, aI a3), (10, aI (w64 (x69 + r86.2))), (11, aI i68), (57, aD (.slice (.slice tI)) a0), (58, aI i68), (59, aI a2), (61, aI (w64 (Int.tdiv a3 (2 : Int))))]) (L' := []) (obs := [((2 : Int) ≠ 0)]) rfl (by kernel_rfl) (allP1 (by decide)) ?_
              obtain ⟨r89, h90, h⟩ := bind_of h
              refine WO_call0 (us := [none, none, none, none]) (d := 62) (p := True) (j := 6) rfl ⟨by kernel_rfl, by kernel_rfl, by kernel_rfl⟩ trivial (ih_ref_Halves h90) (by kernel_rfl) ?_
              refine WO_run (j := 11) (k := 5) (orcs := []) (kF := [0, 1, 2, 3, 10, 11, 14, 15]) (kL := []) (fr' := [(0, aD (.slice (.slice tI)) a0), (1, aI a1), (2, aI a2), (3, aI a3), (10, aI (w64 (x69 + r86.2))), (11, aI i68), (14, aB r89.1), (15, aI r89.2)]) (L' := []) (obs := []) rfl (by kernel_rfl) allP0 ?_
              refine WO_fin [0, 1, 2, 3, 10, 11, 14, 15] [] (fr' := [(0, aD (.slice (.slice tI)) a0), (1, aI a1), (2, aI a2), (3, aI a3), (10, aI (w64 (x69 + r86.2))), (11, aI i68), (14, aB r89.1), (15, aI r89.2)]) (L' := []) (by kernel_rfl) (by kernel_rfl) ?_
              refine seqQ_norm ?_
              refine W_seq (by kernel_rfl) ?_
              refine W_run 4 [] [0, 1, 2, 3, 10, 11, 14] [] (fr' := [(0, aD (.slice (.slice tI)) a0), (1, aI a1), (2, aI a2), (3, aI a3), (10, aI (w64 ((w64 (x69 + r86.2)) + r89.2))), (11, aI i68), (14, aB r89.1)]) (L' := []) (obs := []) (by kernel_rfl) (by kernel_rfl) (by kernel_rfl) allP0 ?_
              refine seqQ_norm ?_
              refine W_seq (by kernel_rfl) ?_
              refine W_run 1 [] [0, 1, 2, 3, 10, 11, 68] [] (fr' := [(0, aD (.slice (.slice tI)) a0), (1, aI a1), (2, aI a2), (3, aI a3), (10, aI (w64 ((w64 (x69 + r86.2)) + r89.2))), (11, aI i68), (68, aB r89.1)]) (L' := []) (obs := []) (by kernel_rfl) (by kernel_rfl) (by kernel_rfl) allP0 ?_
              refine seqQ_norm ?_
              refine W_cond (o := .tmp 68) (b := r89.1) (by kernel_rfl) (by kernel_rfl) (fun h91 => ?_) (fun h91 => ?_)
              · replace h := ofT h91 h
                refine W_seq (by kernel_rfl) ?_
                refine W_run 3 [] [8, 9] [] (fr' := [(8, aB true), (9, aI (w64 ((w64 (x69 + r86.2)) + r89.2)))]) (L' := []) (obs := []) (by kernel_rfl) (by kernel_rfl) (by kernel_rfl) allP0 ?_
                refine seqQ_norm ?_
                obtain rfl := Option.some.inj h
                refine W_ret [8, 9] [] (fr' := [(8, aB true), (9, aI (w64 ((w64 (x69 + r86.2)) + r89.2)))]) (L' := []) (by kernel_rfl) (by kernel_rfl) ?_
                refine blockQ_ret ?_
                refine escQ_ret ?_
                exact exQ_mk (by kernel_rfl) (by kernel_rfl)
              · replace h := ofF h91 h
                obtain rfl := Option.some.inj h
                refine W_skip [0, 1, 2, 3, 10, 11] [] (fr' := [(0, aD (.slice (.slice tI)) a0), (1, aI a1), (2, aI a2), (3, aI a3), (10, aI (w64 ((w64 (x69 + r86.2)) + r89.2))), (11, aI i68)]) (L' := []) (by kernel_rfl) (by kernel_rfl) ?_
                refine blockQ_norm ?_
                refine escQ_brk ?_
                exact exQ_mk (by kernel_rfl) (by kernel_rfl)
          · intro e fr L hJ
            rcases v92 with v94 | v95
            · obtain ⟨rfl, rfl, rfl⟩ := hJ
              obtain rfl := Option.some.inj h
              refine LT_keep [8, 9] [] (fr' := [(8, aB v94.1), (9, aI v94.2)]) (L' := []) (by kernel_rfl) ?_
              refine seqQ_ret ?_
              refine round_ret ?_
              refine escQ_ret ?_
              exact exQ_mk (by kernel_rfl) (by kernel_rfl)
            · obtain ⟨rfl, rfl, rfl⟩ := hJ
              refine LT_keep [0, 1, 2, 3, 10, 11] [] (fr' := [(0, aD (.slice (.slice tI)) a0), (1, aI a1), (2, aI a2), (3, aI a3), (10, aI v95), (11, aI i68)]) (L' := []) (by kernel_rfl) ?_
              refine seqQ_norm ?_
              obtain rfl := Option.some.inj h
              refine W_run 3 [] [0, 1, 2, 3, 10, 11] [] (fr' := [(0, aD (.slice (.slice tI)) a0), (1, aI a1), (2, aI a2), (3, aI a3), (10, aI v95), (11, aI (w64 (i68 + (1 : Int))))]) (L' := []) (obs := []) (by kernel_rfl) (by kernel_rfl) (by kernel_rfl) allP0 ?_
              exact round_next' (by kernel_rfl) (by kernel_rfl)
        · obtain rfl := stepL_false h73 h
          refine W_exit (id := 0) [10] [] (fr' := [(10, aI x69)]) (L' := []) (by kernel_rfl) (by kernel_rfl) ?_
          refine seqQ_exit ?_
          refine round_exit ?_
          refine escQ_brk ?_
          exact exQ_mk (by kernel_rfl) (by kernel_rfl)
      · intro e fr L hJ
        rcases v97 with v102 | v103
        · obtain ⟨rfl, rfl, rfl⟩ := hJ
          obtain rfl := Option.some.inj h
          refine LT_keep [8, 9] [] (fr' := [(8, aB v102.1), (9, aI v102.2)]) (L' := []) (by kernel_rfl) ?_
          refine blockQ_ret ?_
          refine seqQ_ret ?_
          exact retQ_mk (by kernel_rfl) (by kernel_rfl) (by kernel_rfl)
        · obtain ⟨rfl, rfl, rfl⟩ := hJ
          refine LT_keep [10] [] (fr' := [(10, aI v103)]) (L' := []) (by kernel_rfl) ?_
          refine blockQ_hit ?_
          refine seqQ_norm ?_
          refine W_seq (by kernel_rfl) ?_
          refine W_run 3 [] [8, 9] [] (fr' := [(8, aB false), (9, aI v103)]) (L' := []) (obs := []) (by kernel_rfl) (by kernel_rfl) (by kernel_rfl) allP0 ?_
          refine seqQ_norm ?_
          obtain rfl := Option.some.inj h
          refine W_ret [8, 9] [] (fr' := [(8, aB false), (9, aI v103)]) (L' := []) (by kernel_rfl) (by kernel_rfl) ?_
          exact retQ_mk (by kernel_rfl) (by kernel_rfl) (by kernel_rfl)
theorem ref_Halves_ok : ∀ {fuel : Nat} {a0 : (List (List Int))} {a1 : Int} {a2 : Int} {a3 : Int} {r : (Bool × Int)}, ref_Halves fuel a0 a1 a2 a3 = some r → FnC Try.prog 42 [aD (.slice (.slice tI)) a0, aI a1, aI a2, aI a3] [] (.tup [.dat .bool r.1, .dat tI r.2]) [] := by
  intro fuel
  induction fuel with
  | zero => intros a0 a1 a2 a3 r h; cases h
  | succ fuel ih => intros a0 a1 a2 a3 r h; exact ref_Halves_step_ok (fun h => ih h) (show ref_Halves_step (ref_Halves fuel) fuel a0 a1 a2 a3 = some r from h)

def law_HalfCans (fuel : Nat) (a0 : (List (List Int))) (a1 : Int) (a2 : Int) (a3 : Int) : Option Bool :=
(half_Can fuel a0 a1 a2 a3).bind fun r1 =>
(law_halfCode a0 a1 a2 a3).bind fun r3 =>
bif r3 != (0 : Int) then
(some (((r1.2.2 == r3) && (!r1.1)) && (r1.2.1 == (0 : Int))))
else
((ref_Halves fuel a0 a1 a2 a3).bind fun r6 =>
some (((r1.2.2 == (0 : Int)) && (r1.1 == r6.1)) && (r1.2.1 == r6.2)))
theorem law_HalfCans_ok {fuel : Nat} {a0 : (List (List Int))} {a1 : Int} {a2 : Int} {a3 : Int} {r : Bool} (h : law_HalfCans fuel a0 a1 a2 a3 = some r) : FnC Try.prog 12 [aD (.slice (.slice tI)) a0, aI a1, aI a2, aI a3] [] (aB r) [] := by
  refine fnC_of_W (B := bodyOf Try.f12) (n := 62) Try.func12 (by kernel_rfl) (by kernel_rfl) (by kernel_rfl) (by kernel_rfl) (by kernel_rfl) ?_
  intro K
  refine W_seq (by kernel_rfl) ?_
  refine W_run 1 [] [0, 1, 2, 3] [] (fr' := [(0, aD (.slice (.slice tI)) a0), (1, aI a1), (2, aI a2), (3, aI a3)]) (L' := []) (obs := []) (by kernel_rfl) (by kernel_rfl) (by kernel_rfl) allP0 ?_
  refine seqQ_norm ?_
  refine W_seq (by kernel_rfl) ?_
  refine W_region (by kernel_rfl) ?_
  refine WO_run (j := 4) (k := 4) (orcs := []) (kF := [0, 1, 2, 3, 16, 17, 18, 19]) (kL := []) (fr' := [(0, aD (.slice (.slice tI)) a0), (1, aI a1), (2, aI a2), (3, aI a3), (16, aD (.slice (.slice tI)) a0), (17, aI a1), (18, aI a2), (19, aI a3)]) (L' := []) (obs := []) rfl (by kernel_rfl) allP0 ?_
  obtain ⟨r1, h2, h⟩ := bind_of h
  refine WO_call0 (us := [none, none, none, none]) (d := 20) (p := True) (j := 5) rfl ⟨by kernel_rfl, by kernel_rfl, by kernel_rfl⟩ trivial (half_Can_ok h2) (by kernel_rfl) ?_
  refine WO_run (j := 12) (k := 7) (orcs := []) (kF := [0, 1, 2, 3, 9, 10, 11]) (kL := []) (fr' := [(0, aD (.slice (.slice tI)) a0), (1, aI a1), (2, aI a2), (3, aI a3), (9, aB r1.1), (10, aI r1.2.1), (11, aI r1.2.2)]) (L' := []) (obs := []) rfl (by kernel_rfl) allP0 ?_
  refine WO_fin [0, 1, 2, 3, 9, 10, 11] [] (fr' := [(0, aD (.slice (.slice tI)) a0), (1, aI a1), (2, aI a2), (3, aI a3), (9, aB r1.1), (10, aI r1.2.1), (11, aI r1.2.2)]) (L' := []) (by kernel_rfl) (by kernel_rfl) ?_
  refine seqQ_norm ?_
  refine W_seq (by kernel_rfl) ?_
  refine W_region (by kernel_rfl) ?_
  refine WO_run (j := 4) (k := 4) (orcs := []) (kF := [0, 1, 2, 3, 9, 10, 11, 24, 25, 26, 27]) (kL := []) (fr' := [(0, aD (.slice (.slice tI)) a0), (1, aI a1), (2, aI a2), (3, aI a3), (9, aB r1.1), (10, aI r1.2.1), (11, aI r1.2.2), (24, aD (.slice (.slice tI)) a0), (25, aI a1), (26, aI a2), (27, aI a3)]) (L' := []) (obs := []) rfl (by kernel_rfl) allP0 ?_
  obtain ⟨r3, h4, h⟩ := bind_of h
  refine WO_call0 (us := [none, none, none, none]) (d := 28) (p := True) (j := 5) rfl ⟨by kernel_rfl, by kernel_rfl, by kernel_rfl⟩ trivial (law_halfCode_ok h4) (by kernel_rfl) ?_
  refine WO_run (j := 6) (k := 1) (orcs := []) (kF := [0, 1, 2, 3, 9, 10, 11, 12]) (kL := []) (fr' := [(0, aD (.slice (.slice tI)) a0), (1, aI a1), (2, aI a2), (3, aI a3), (9, aB r1.1), (10, aI r1.2.1), (11, aI r1.2.2), (12, aI r3)]) (L' := []) (obs := []) rfl (by kernel_rfl) allP0 ?_
  refine WO_fin [0, 1, 2, 3, 9, 10, 11, 12] [] (fr' := [(0, aD (.slice (.slice tI)) a0), (1, aI a1), (2, aI a2), (3, aI a3), (9, aB r1.1), (10, aI r1.2.1), (11, aI r1.2.2), (12, aI r3)]) (L' := []) (by kernel_rfl) (by kernel_rfl) ?_
  refine seqQ_norm ?_
  refine W_seq (by kernel_rfl) ?_
  refine W_seq (by kernel_rfl) ?_
  refine W_run 2 [] [0, 1, 2, 3, 9, 10, 11, 12, 30] [] (fr' := [(0, aD (.slice (.slice tI)) a0), (1, aI a1), (2, aI a2), (3, aI a3), (9, aB r1.1), (10, aI r1.2.1), (11, aI r1.2.2), (12, aI r3), (30, aB (r3 != (0 : Int)))]) (L' := []) (obs := []) (by kernel_rfl) (by kernel_rfl) (by kernel_rfl) allP0 ?_
  refine seqQ_norm ?_
  refine W_cond (o := .tmp 30) (b := r3 != (0 : Int)) (by kernel_rfl) (by kernel_rfl) (fun h5 => ?_) (fun h5 => ?_)
  · replace h := ofT h5 h
    refine W_seq (by kernel_rfl) ?_
    refine W_run 12 [] [8] [] (fr' := [(8, aB (((r1.2.2 == r3) && (!r1.1)) && (r1.2.1 == (0 : Int))))]) (L' := []) (obs := []) (by kernel_rfl) (by kernel_rfl) (by kernel_rfl) allP0 ?_
    refine seqQ_norm ?_
    obtain rfl := Option.some.inj h
    refine W_ret [8] [] (fr' := [(8, aB (((r1.2.2 == r3) && (!r1.1)) && (r1.2.1 == (0 : Int))))]) (L' := []) (by kernel_rfl) (by kernel_rfl) ?_
    refine seqQ_ret ?_
    exact retQ_mk (by kernel_rfl) (by kernel_rfl) (by kernel_rfl)
  · replace h := ofF h5 h
    refine W_skip [0, 1, 2, 3, 9, 10, 11] [] (fr' := [(0, aD (.slice (.slice tI)) a0), (1, aI a1), (2, aI a2), (3, aI a3), (9, aB r1.1), (10, aI r1.2.1), (11, aI r1.2.2)]) (L' := []) (by kernel_rfl) (by kernel_rfl) ?_
    refine seqQ_norm ?_
    refine W_seq (by kernel_rfl) ?_
    refine W_region (by kernel_rfl) ?_
    refine WO_run (j := 4) (k := 4) (orcs := []) (kF := [9, 10, 11, 43, 44, 45, 46]) (kL := []) (fr' := [(9, aB r1.1), (10, aI r1.2.1), (11, aI r1.2.2), (43, aD (.slice (.slice tI)) a0), (44, aI a1), (45, aI a2), (46, aI a3)]) (L' := []) (obs := []) rfl (by kernel_rfl) allP0 ?_
    obtain ⟨r6, h7, h⟩ := bind_of h
    refine WO_call0 (us := [none, none, none, none]) (d := 47) (p := True) (j := 5) rfl ⟨by kernel_rfl, by kernel_rfl, by kernel_rfl⟩ trivial (ref_Halves_ok h7) (by kernel_rfl) ?_
    refine WO_run (j := 10) (k := 5) (orcs := []) (kF := [9, 10, 11, 13, 14]) (kL := []) (fr' := [(9, aB r1.1), (10, aI r1.2.1), (11, aI r1.2.2), (13, aB r6.1), (14, aI r6.2)]) (L' := []) (obs := []) rfl (by kernel_rfl) allP0 ?_
    refine WO_fin [9, 10, 11, 13, 14] [] (fr' := [(9, aB r1.1), (10, aI r1.2.1), (11, aI r1.2.2), (13, aB r6.1), (14, aI r6.2)]) (L' := []) (by kernel_rfl) (by kernel_rfl) ?_
    refine seqQ_norm ?_
    refine W_seq (by kernel_rfl) ?_
    refine W_run 13 [] [8] [] (fr' := [(8, aB (((r1.2.2 == (0 : Int)) && (r1.1 == r6.1)) && (r1.2.1 == r6.2)))]) (L' := []) (obs := []) (by kernel_rfl) (by kernel_rfl) (by kernel_rfl) allP0 ?_
    refine seqQ_norm ?_
    obtain rfl := Option.some.inj h
    refine W_ret [8] [] (fr' := [(8, aB (((r1.2.2 == (0 : Int)) && (r1.1 == r6.1)) && (r1.2.1 == r6.2)))]) (L' := []) (by kernel_rfl) (by kernel_rfl) ?_
    exact retQ_mk (by kernel_rfl) (by kernel_rfl) (by kernel_rfl)
end Go.Proofs.Ytkkmiclmbhbmjaa.halfCans
