/- What the functions that HalfWays calls compute, as models, and that they compute it: written by a program of mine. -/
import Derived.Test.YtkkmiclmbhbmjaaProg
import Derived.Test.YtkkmiclmbhbmjaaSl5
set_option linter.all false
set_option maxRecDepth 100000
namespace Go.Proofs.Ytkkmiclmbhbmjaa.halfWays
open Go Go.Sl
def half_wrong_1 (a0 : (List Int)) : Option Bool :=
some (decide ((List.length a0 : Int) > (4 : Int)))
theorem half_wrong_1_ok {a0 : (List Int)} {r : Bool} (h : half_wrong_1 a0 = some r) : FnC Try.prog 88 [aD (.slice tI) a0] [] (aB r) [] := by
  refine fnC_of_W (B := bodyOf Try.f88) (n := 6) Try.func88 (by kernel_rfl) (by kernel_rfl) (by kernel_rfl) (by kernel_rfl) (by kernel_rfl) ?_
  intro K
  refine W_seq (by kernel_rfl) ?_
  refine W_run 1 [] [0] [] (fr' := [(0, aD (.slice tI) a0)]) (L' := []) (obs := []) (by kernel_rfl) (by kernel_rfl) (by kernel_rfl) allP0 ?_
  refine seqQ_norm ?_
  refine W_seq (by kernel_rfl) ?_
  refine W_run 4 [] [2] [] (fr' := [(2, aB (decide ((List.length a0 : Int) > (4 : Int))))]) (L' := []) (obs := []) (by kernel_rfl) (by kernel_rfl) (by kernel_rfl) allP0 ?_
  refine seqQ_norm ?_
  obtain rfl := Option.some.inj h
  refine W_ret [2] [] (fr' := [(2, aB (decide ((List.length a0 : Int) > (4 : Int))))]) (L' := []) (by kernel_rfl) (by kernel_rfl) ?_
  exact retQ_mk (by kernel_rfl) (by kernel_rfl) (by kernel_rfl)

def slices_IndexFunc_LLintLint_with_half_wrong_1_b1 (i15 : Int) (v18 : (List Int)) (x16 : Unit) : Option (Flow Unit (Esc Int Unit)) :=
(half_wrong_1 v18).bind fun r21 =>
bif r21 then
(some (.done (.ret i15)))
else
(some (.next ()))
@[reducible] def slices_IndexFunc_LLintLint_with_half_wrong_1_s2 (a0 : (List (List Int))) (v : Int × Unit) : Fr × LL := ([(0, aD (.slice (.slice tI)) a0), (1, .one (.fn 88 [])), (7, aI (List.length a0 : Int)), (8, aI v.1)], [])
@[reducible] def slices_IndexFunc_LLintLint_with_half_wrong_1_s3 (v : Int) : Fr × LL := ([(4, aI v)], [])
@[reducible] def slices_IndexFunc_LLintLint_with_half_wrong_1_s4 (v : Unit) : Fr × LL := ([], [])
def slices_IndexFunc_LLintLint_with_half_wrong_1 (a0 : (List (List Int))) : Option Int :=
(forL slices_IndexFunc_LLintLint_with_half_wrong_1_b1 (fun x16 => (.brk ())) a0 0 ()).bind fun v25 =>
match v25 with
| .ret v30 =>
(some v30)
| .brk v31 =>
(some (-1 : Int))
theorem slices_IndexFunc_LLintLint_with_half_wrong_1_ok {a0 : (List (List Int))} {r : Int} (h : slices_IndexFunc_LLintLint_with_half_wrong_1 a0 = some r) : FnC Try.prog 95 [aD (.slice (.slice tI)) a0, .one (.fn 88 [])] [] (aI r) [] := by
  refine fnC_of_W (B := bodyOf Try.f95) (n := 19) Try.func95 (by kernel_rfl) (by kernel_rfl) (by kernel_rfl) (by kernel_rfl) (by kernel_rfl) ?_
  intro K
  refine W_seq (by kernel_rfl) ?_
  refine W_run 1 [] [0, 1] [] (fr' := [(0, aD (.slice (.slice tI)) a0), (1, .one (.fn 88 []))]) (L' := []) (obs := []) (by kernel_rfl) (by kernel_rfl) (by kernel_rfl) allP0 ?_
  refine seqQ_norm ?_
  refine W_seq (by kernel_rfl) ?_
  refine W_seq (by kernel_rfl) ?_
  refine W_run 3 [] [0, 1, 7, 8] [] (fr' := [(0, aD (.slice (.slice tI)) a0), (1, .one (.fn 88 [])), (7, aI (List.length a0 : Int)), (8, aI (0 : Int))]) (L' := []) (obs := []) (by kernel_rfl) (by kernel_rfl) (by kernel_rfl) allP0 ?_
  refine seqQ_norm ?_
  refine W_block (id := 0) (by kernel_rfl) ?_
  obtain ⟨v25, h26, h⟩ := bind_of h
  refine W_len (t := 0) (u := (.slice tI)) (xs := a0) (by kernel_rfl) (fun h29 => ?_)
  obtain ⟨h27, h28⟩ := forL_iter h29 h26
  refine W_weaken [0, 1, 7, 8] [] (fr' := ((slices_IndexFunc_LLintLint_with_half_wrong_1_s2 a0) ((0 : Int), ())).1) (L' := ((slices_IndexFunc_LLintLint_with_half_wrong_1_s2 a0) ((0 : Int), ())).2) (by kernel_rfl) ?_
  refine W_cutK (W_loop (S := (slices_IndexFunc_LLintLint_with_half_wrong_1_s2 a0)) (J := (escQ (exQ .ret slices_IndexFunc_LLintLint_with_half_wrong_1_s3) (exQ (.exit 0) slices_IndexFunc_LLintLint_with_half_wrong_1_s4))) (by kernel_rfl) ?_ h27 _ v25 h28) ?_
  · rintro ⟨i15, x16⟩ s h
    refine W_seq (by kernel_rfl) ?_
    refine W_run 1 [] [0, 1, 7, 8, 9] [] (fr' := [(0, aD (.slice (.slice tI)) a0), (1, .one (.fn 88 [])), (7, aI (List.length a0 : Int)), (8, aI i15), (9, aB (decide (i15 < (List.length a0 : Int))))]) (L' := []) (obs := []) (by kernel_rfl) (by kernel_rfl) (by kernel_rfl) allP0 ?_
    refine seqQ_norm ?_
    refine W_seq (by kernel_rfl) ?_
    refine W_cond (o := .tmp 9) (b := decide (i15 < (List.length a0 : Int))) (by kernel_rfl) (by kernel_rfl) (fun h20 => ?_) (fun h20 => ?_)
    · replace h := stepL_true h20 h
      obtain ⟨v18, _, h19, h, rfl⟩ := h
      refine W_skip [0, 1, 7, 8] [] (fr' := [(0, aD (.slice (.slice tI)) a0), (1, .one (.fn 88 [])), (7, aI (List.length a0 : Int)), (8, aI i15)]) (L' := []) (by kernel_rfl) (by kernel_rfl) ?_
      refine seqQ_norm ?_
      refine W_seq (by kernel_rfl) ?_
      refine W_block (id := 1) (by kernel_rfl) ?_
      refine W_seq (by kernel_rfl) ?_
      refine W_run 2 [] [0, 1, 5, 7, 8] [] (fr' := [(0, aD (.slice (.slice tI)) a0), (1, .one (.fn 88 [])), (5, aI i15), (7, aI (List.length a0 : Int)), (8, aI i15)]) (L' := []) (obs := []) (by kernel_rfl) (by kernel_rfl) (by kernel_rfl) allP0 ?_
      refine seqQ_norm ?_
      refine W_seq (by kernel_rfl) ?_
      refine W_region (by kernel_rfl) ?_
      refine WO_run (j := 5) (k := 5) (orcs := [(7, .val (.dat (.slice tI) v18))]) (kF := [0, 1, 5, 7, 8, 11, 15]) (kL := []) (fr' := [(0, aD (.slice (.slice tI)) a0), (1, .one (.fn 88 [])), (5, aI i15), (7, aI (List.length a0 : Int)), (8, aI i15), (11, .one (.fn 88 [])), (15, aD (.slice tI) v18)]) (L' := []) (obs := [Idx a0 i15 v18]) rfl (by kernel_rfl) (allP1 (Idx.of h19)) ?_
      obtain ⟨r21, h22, h⟩ := bind_of h
      refine WO_call0 (us := [none]) (d := 16) (p := True) (j := 6) rfl ⟨by kernel_rfl, by kernel_rfl, by kernel_rfl⟩ trivial (half_wrong_1_ok h22) (by kernel_rfl) ?_
      refine WO_fin [0, 1, 5, 7, 8, 16] [] (fr' := [(0, aD (.slice (.slice tI)) a0), (1, .one (.fn 88 [])), (5, aI i15), (7, aI (List.length a0 : Int)), (8, aI i15), (16, aB r21)]) (L' := []) (by kernel_rfl) (by kernel_rfl) ?_
      refine seqQ_norm ?_
      refine W_cond (o := .tmp 16) (b := r21) (by kernel_rfl) (by kernel_rfl) (fun h23 => ?_) (fun h23 => ?_)
      · replace h := ofT h23 h
        refine W_seq (by kernel_rfl) ?_
        refine W_run 2 [] [4] [] (fr' := [(4, aI i15)]) (L' := []) (obs := []) (by kernel_rfl) (by kernel_rfl) (by kernel_rfl) allP0 ?_
        refine seqQ_norm ?_
        obtain rfl := Option.some.inj h
        refine W_ret [4] [] (fr' := [(4, aI i15)]) (L' := []) (by kernel_rfl) (by kernel_rfl) ?_
        refine blockQ_ret ?_
        refine seqQ_ret ?_
        refine round_ret ?_
        refine escQ_ret ?_
        exact exQ_mk (by kernel_rfl) (by kernel_rfl)
      · replace h := ofF h23 h
        refine W_skip [0, 1, 7, 8] [] (fr' := [(0, aD (.slice (.slice tI)) a0), (1, .one (.fn 88 [])), (7, aI (List.length a0 : Int)), (8, aI i15)]) (L' := []) (by kernel_rfl) (by kernel_rfl) ?_
        refine blockQ_norm ?_
        refine seqQ_norm ?_
        obtain rfl := Option.some.inj h
        refine W_run 2 [] [0, 1, 7, 8] [] (fr' := [(0, aD (.slice (.slice tI)) a0), (1, .one (.fn 88 [])), (7, aI (List.length a0 : Int)), (8, aI (w64 (i15 + (1 : Int))))]) (L' := []) (obs := []) (by kernel_rfl) (by kernel_rfl) (by kernel_rfl) allP0 ?_
        exact round_next' (by kernel_rfl) (by kernel_rfl)
    · obtain rfl := stepL_false h20 h
      refine W_exit (id := 0) [] [] (fr' := []) (L' := []) (by kernel_rfl) (by kernel_rfl) ?_
      refine seqQ_exit ?_
      refine round_exit ?_
      refine escQ_brk ?_
      exact exQ_mk (by kernel_rfl) (by kernel_rfl)
  · intro e fr L hJ
    rcases v25 with v30 | v31
    · obtain ⟨rfl, rfl, rfl⟩ := hJ
      obtain rfl := Option.some.inj h
      refine LT_keep [4] [] (fr' := [(4, aI v30)]) (L' := []) (by kernel_rfl) ?_
      refine blockQ_ret ?_
      refine seqQ_ret ?_
      exact retQ_mk (by kernel_rfl) (by kernel_rfl) (by kernel_rfl)
    · obtain ⟨rfl, rfl, rfl⟩ := hJ
      refine LT_keep [] [] (fr' := []) (L' := []) (by kernel_rfl) ?_
      refine blockQ_hit ?_
      refine seqQ_norm ?_
      refine W_seq (by kernel_rfl) ?_
      refine W_run 1 [] [4] [] (fr' := [(4, aI (-1 : Int))]) (L' := []) (obs := []) (by kernel_rfl) (by kernel_rfl) (by kernel_rfl) allP0 ?_
      refine seqQ_norm ?_
      obtain rfl := Option.some.inj h
      refine W_ret [4] [] (fr' := [(4, aI (-1 : Int))]) (L' := []) (by kernel_rfl) (by kernel_rfl) ?_
      exact retQ_mk (by kernel_rfl) (by kernel_rfl) (by kernel_rfl)

def slices_ContainsFunc_LLintLint_with_half_wrong_1 (a0 : (List (List Int))) : Option Bool :=
(slices_IndexFunc_LLintLint_with_half_wrong_1 a0).bind fun r1 =>
some (decide (r1 ≥ (0 : Int)))
theorem slices_ContainsFunc_LLintLint_with_half_wrong_1_ok {a0 : (List (List Int))} {r : Bool} (h : slices_ContainsFunc_LLintLint_with_half_wrong_1 a0 = some r) : FnC Try.prog 87 [aD (.slice (.slice tI)) a0, .one (.fn 88 [])] [] (aB r) [] := by
  refine fnC_of_W (B := bodyOf Try.f87) (n := 9) Try.func87 (by kernel_rfl) (by kernel_rfl) (by kernel_rfl) (by kernel_rfl) (by kernel_rfl) ?_
  intro K
  refine W_seq (by kernel_rfl) ?_
  refine W_run 1 [] [0, 1] [] (fr' := [(0, aD (.slice (.slice tI)) a0), (1, .one (.fn 88 []))]) (L' := []) (obs := []) (by kernel_rfl) (by kernel_rfl) (by kernel_rfl) allP0 ?_
  refine seqQ_norm ?_
  refine W_seq (by kernel_rfl) ?_
  refine W_region (by kernel_rfl) ?_
  refine WO_run (j := 2) (k := 2) (orcs := []) (kF := [5, 6]) (kL := []) (fr' := [(5, aD (.slice (.slice tI)) a0), (6, .one (.fn 88 []))]) (L' := []) (obs := []) rfl (by kernel_rfl) allP0 ?_
  obtain ⟨r1, h2, h⟩ := bind_of h
  refine WO_call0 (us := [none, none]) (d := 7) (p := True) (j := 3) rfl ⟨by kernel_rfl, by kernel_rfl, by kernel_rfl⟩ trivial (slices_IndexFunc_LLintLint_with_half_wrong_1_ok h2) (by kernel_rfl) ?_
  refine WO_run (j := 5) (k := 2) (orcs := []) (kF := [4]) (kL := []) (fr' := [(4, aB (decide (r1 ≥ (0 : Int))))]) (L' := []) (obs := []) rfl (by kernel_rfl) allP0 ?_
  refine WO_fin [4] [] (fr' := [(4, aB (decide (r1 ≥ (0 : Int))))]) (L' := []) (by kernel_rfl) (by kernel_rfl) ?_
  refine seqQ_norm ?_
  obtain rfl := Option.some.inj h
  refine W_ret [4] [] (fr' := [(4, aB (decide (r1 ≥ (0 : Int))))]) (L' := []) (by kernel_rfl) (by kernel_rfl) ?_
  exact retQ_mk (by kernel_rfl) (by kernel_rfl) (by kernel_rfl)

@[reducible] def slices_Grow_Lintint_s2 (v : (List Int)) : Fr × LL := ([(0, .one (.slc 22))], [(22, .seq tI v)])
def slices_Grow_Lintint (a1 : Int) : Option (List Int) :=
bif decide (a1 < (0 : Int)) then
(none)
else
((bif decide ((w64 (a1 - (0 : Int))) > (0 : Int)) then
((ck (0 ≤ w64 (a1 - (0 : Int)) ∧ w64 (a1 - (0 : Int)) ≤ 4294967296)).bind fun _ =>
some [])
else
(some [])).bind fun v19 =>
some v19)
theorem slices_Grow_Lintint_ok {a1 : Int} {r : (List Int)} (h : slices_Grow_Lintint a1 = some r) : FnC Try.prog 96 [.one (.nilS), aI a1] [] (.one (.slc 22)) [(22, .seq tI r)] := by
  refine fnC_of_W (B := bodyOf Try.f96) (n := 27) Try.func96 (by kernel_rfl) (by kernel_rfl) (by kernel_rfl) (by kernel_rfl) (by kernel_rfl) ?_
  intro K
  refine W_seq (by kernel_rfl) ?_
  refine W_run 1 [] [0, 1] [] (fr' := [(0, .one (.nilS)), (1, aI a1)]) (L' := []) (obs := []) (by kernel_rfl) (by kernel_rfl) (by kernel_rfl) allP0 ?_
  refine seqQ_norm ?_
  refine W_seq (by kernel_rfl) ?_
  refine W_seq (by kernel_rfl) ?_
  refine W_run 2 [] [0, 1, 6] [] (fr' := [(0, .one (.nilS)), (1, aI a1), (6, aB (decide (a1 < (0 : Int))))]) (L' := []) (obs := []) (by kernel_rfl) (by kernel_rfl) (by kernel_rfl) allP0 ?_
  refine seqQ_norm ?_
  refine W_cond (o := .tmp 6) (b := decide (a1 < (0 : Int))) (by kernel_rfl) (by kernel_rfl) (fun h12 => ?_) (fun h12 => ?_)
  · replace h := ofT h12 h
    cases h
  · replace h := ofF h12 h
    refine W_skip [0, 1] [] (fr' := [(0, .one (.nilS)), (1, aI a1)]) (L' := []) (by kernel_rfl) (by kernel_rfl) ?_
    refine seqQ_norm ?_
    refine W_seq (by kernel_rfl) ?_
    obtain ⟨v19, h20, h⟩ := bind_of h
    refine W_cutK (Q' := (exQ .normal slices_Grow_Lintint_s2) v19) ?_ ?_
    · replace h := h20
      refine W_seq (by kernel_rfl) ?_
      refine W_region (by kernel_rfl) ?_
      refine WO_run (j := 2) (k := 2) (orcs := []) (kF := [0, 1, 8, 9]) (kL := []) (fr' := [(0, .one (.nilS)), (1, aI a1), (8, aI a1), (9, .one (.nilS))]) (L' := []) (obs := []) rfl (by kernel_rfl) allP0 ?_
      refine WO_g [0, 1, 8, 9, 10] [] (fr' := [(0, .one (.nilS)), (1, aI a1), (8, aI a1), (9, .one (.nilS)), (10, aI (0 : Int))]) (L' := []) (p := True) (j := 3) rfl (by kernel_rfl) trivial ?_
      refine WO_run (j := 8) (k := 5) (orcs := []) (kF := [0, 1]) (kL := []) (fr' := [(0, .one (.nilS)), (1, aI (w64 (a1 - (0 : Int))))]) (L' := []) (obs := []) rfl (by kernel_rfl) allP0 ?_
      refine WO_fin [0, 1] [] (fr' := [(0, .one (.nilS)), (1, aI (w64 (a1 - (0 : Int))))]) (L' := []) (by kernel_rfl) (by kernel_rfl) ?_
      refine seqQ_norm ?_
      refine W_seq (by kernel_rfl) ?_
      refine W_run 2 [] [0, 1, 16] [] (fr' := [(0, .one (.nilS)), (1, aI (w64 (a1 - (0 : Int)))), (16, aB (decide ((w64 (a1 - (0 : Int))) > (0 : Int))))]) (L' := []) (obs := []) (by kernel_rfl) (by kernel_rfl) (by kernel_rfl) allP0 ?_
      refine seqQ_norm ?_
      refine W_cond (o := .tmp 16) (b := decide ((w64 (a1 - (0 : Int))) > (0 : Int))) (by kernel_rfl) (by kernel_rfl) (fun h17 => ?_) (fun h17 => ?_)
      · replace h := ofT h17 h
        refine W_region (by kernel_rfl) ?_
        refine WO_run (j := 2) (k := 2) (orcs := []) (kF := [0, 1, 17, 18]) (kL := []) (fr' := [(0, .one (.nilS)), (1, aI (w64 (a1 - (0 : Int)))), (17, .one (.nilS)), (18, .one (.nilS))]) (L' := []) (obs := []) rfl (by kernel_rfl) allP0 ?_
        refine WO_g [0, 1, 17, 18, 19] [] (fr' := [(0, .one (.nilS)), (1, aI (w64 (a1 - (0 : Int)))), (17, .one (.nilS)), (18, .one (.nilS)), (19, aI (0 : Int))]) (L' := []) (p := True) (j := 3) rfl (by kernel_rfl) trivial ?_
        refine WO_g [0, 1, 17, 18, 19, 20] [] (fr' := [(0, .one (.nilS)), (1, aI (w64 (a1 - (0 : Int)))), (17, .one (.nilS)), (18, .one (.nilS)), (19, aI (0 : Int)), (20, .one (.nilS))]) (L' := []) (p := True) (j := 4) rfl (by kernel_rfl) trivial ?_
        obtain ⟨_, h18, h⟩ := bind_of h
        replace h18 := ck_some h18
        refine WO_run (j := 5) (k := 1) (orcs := []) (kF := [0, 20, 21]) (kL := []) (fr' := [(0, .one (.nilS)), (20, .one (.nilS)), (21, aI (w64 (a1 - (0 : Int))))]) (L' := []) (obs := []) rfl (by kernel_rfl) allP0 ?_
        refine WO_g [0, 20, 21, 22] [22] (fr' := [(0, .one (.nilS)), (20, .one (.nilS)), (21, aI (w64 (a1 - (0 : Int)))), (22, .one (.slc 22))]) (L' := [(22, .seq tI (List.replicate (Int.toNat (w64 (a1 - (0 : Int)))) (0 : Int)))]) (p := 0 ≤ w64 (a1 - (0 : Int)) ∧ SmallLen (w64 (a1 - (0 : Int)))) (j := 6) rfl (by kernel_rfl) h18 ?_
        refine WO_run (j := 8) (k := 2) (orcs := []) (kF := [0, 22, 24]) (kL := [22]) (fr' := [(0, .one (.nilS)), (22, .one (.slc 22)), (24, aI (0 : Int))]) (L' := [(22, .seq tI (List.replicate (Int.toNat (w64 (a1 - (0 : Int)))) (0 : Int)))]) (obs := []) rfl (by kernel_rfl) allP0 ?_
        refine WO_g [0, 24, 25] [22] (fr' := [(0, .one (.nilS)), (24, aI (0 : Int)), (25, .one (.slc 22))]) (L' := [(22, .seq tI [])]) (p := 0 ≤ (0 : Int) ∧ (0 : Int) ≤ (List.length (List.replicate (Int.toNat (w64 (a1 - (0 : Int)))) (0 : Int) : (List Int)) : Int)) (j := 9) rfl (by kernel_rfl) ⟨(by decide), (by omega)⟩ ?_
        refine WO_run (j := 10) (k := 1) (orcs := []) (kF := [0]) (kL := [22]) (fr' := [(0, .one (.slc 22))]) (L' := [(22, .seq tI [])]) (obs := []) rfl (by kernel_rfl) allP0 ?_
        obtain rfl := Option.some.inj h
        refine WO_fin [0] [22] (fr' := [(0, .one (.slc 22))]) (L' := [(22, .seq tI [])]) (by kernel_rfl) (by kernel_rfl) ?_
        exact exQ_mk (by kernel_rfl) (by kernel_rfl)
      · replace h := ofF h17 h
        obtain rfl := Option.some.inj h
        refine W_mine 0 22 tI (by kernel_rfl) ?_
        refine W_skip [0] [22] (fr' := [(0, .one (.slc 22))]) (L' := [(22, .seq tI [])]) (by kernel_rfl) (by kernel_rfl) ?_
        exact exQ_mk (by kernel_rfl) (by kernel_rfl)
    · intro e fr L hJ
      obtain ⟨rfl, rfl, rfl⟩ := hJ
      refine LT_keep [0] [22] (fr' := [(0, .one (.slc 22))]) (L' := [(22, .seq tI v19)]) (by kernel_rfl) ?_
      refine seqQ_norm ?_
      refine W_seq (by kernel_rfl) ?_
      refine W_run 2 [] [4] [22] (fr' := [(4, .one (.slc 22))]) (L' := [(22, .seq tI v19)]) (obs := []) (by kernel_rfl) (by kernel_rfl) (by kernel_rfl) allP0 ?_
      refine seqQ_norm ?_
      obtain rfl := Option.some.inj h
      refine W_ret [4] [22] (fr' := [(4, .one (.slc 22))]) (L' := [(22, .seq tI v19)]) (by kernel_rfl) (by kernel_rfl) ?_
      exact retQ_mk (by kernel_rfl) (by kernel_rfl) (by kernel_rfl)

def slices_Concat_Lintint_b7 (i72 : Int) (v75 : (List Int)) (x73 : Int) : Option (Flow Int Int) :=
bif decide ((w64 (x73 + (List.length v75 : Int))) < (0 : Int)) then
(none)
else
(some (.next (w64 (x73 + (List.length v75 : Int)))))
@[reducible] def slices_Concat_Lintint_s8 (a0 : (List (List Int))) (v : Int × Int) : Fr × LL := ([(0, aD (.slice (.slice tI)) a0), (3, aI v.2), (9, aD (.slice (.slice tI)) a0), (10, aI (List.length a0 : Int)), (11, aI v.1)], [])
@[reducible] def slices_Concat_Lintint_s9 (a0 : (List (List Int))) (v : Int) : Fr × LL := ([(0, aD (.slice (.slice tI)) a0), (3, aI v)], [])
def slices_Concat_Lintint_b10 (i98 : Int) (v101 : (List Int)) (x99 : (List Int)) : Option (Flow (List Int) (List Int)) :=
(ck ((List.length x99 : Int) + (List.length v101 : Int) ≤ 4294967296)).bind fun _ =>
some (.next (x99 ++ v101))
@[reducible] def slices_Concat_Lintint_s11 (a0 : (List (List Int))) (v : Int × (List Int)) : Fr × LL := ([(6, .one (.slc 24)), (25, aD (.slice (.slice tI)) a0), (26, aI (List.length a0 : Int)), (27, aI v.1)], [(24, .seq tI v.2)])
@[reducible] def slices_Concat_Lintint_s12 (v : (List Int)) : Fr × LL := ([(6, .one (.slc 24))], [(24, .seq tI v)])
def slices_Concat_Lintint (a0 : (List (List Int))) : Option (List Int) :=
(forL slices_Concat_Lintint_b7 (fun x73 => x73) a0 0 (0 : Int)).bind fun v81 =>
(slices_Grow_Lintint v81).bind fun r86 =>
(forL slices_Concat_Lintint_b10 (fun x99 => x99) a0 0 r86).bind fun v106 =>
some v106
theorem slices_Concat_Lintint_ok {a0 : (List (List Int))} {r : (List Int)} (h : slices_Concat_Lintint a0 = some r) : FnC Try.prog 89 [aD (.slice (.slice tI)) a0] [] (.one (.slc 24)) [(24, .seq tI r)] := by
  refine fnC_of_W (B := bodyOf Try.f89) (n := 36) Try.func89 (by kernel_rfl) (by kernel_rfl) (by kernel_rfl) (by kernel_rfl) (by kernel_rfl) ?_
  intro K
  refine W_seq (by kernel_rfl) ?_
  refine W_run 1 [] [0] [] (fr' := [(0, aD (.slice (.slice tI)) a0)]) (L' := []) (obs := []) (by kernel_rfl) (by kernel_rfl) (by kernel_rfl) allP0 ?_
  refine seqQ_norm ?_
  refine W_seq (by kernel_rfl) ?_
  refine W_run 1 [] [0, 3] [] (fr' := [(0, aD (.slice (.slice tI)) a0), (3, aI (0 : Int))]) (L' := []) (obs := []) (by kernel_rfl) (by kernel_rfl) (by kernel_rfl) allP0 ?_
  refine seqQ_norm ?_
  refine W_seq (by kernel_rfl) ?_
  refine W_seq (by kernel_rfl) ?_
  refine W_run 3 [] [0, 3, 9, 10, 11] [] (fr' := [(0, aD (.slice (.slice tI)) a0), (3, aI (0 : Int)), (9, aD (.slice (.slice tI)) a0), (10, aI (List.length a0 : Int)), (11, aI (0 : Int))]) (L' := []) (obs := []) (by kernel_rfl) (by kernel_rfl) (by kernel_rfl) allP0 ?_
  refine seqQ_norm ?_
  refine W_block (id := 0) (by kernel_rfl) ?_
  obtain ⟨v81, h82, h⟩ := bind_of h
  refine W_len (t := 9) (u := (.slice tI)) (xs := a0) (by kernel_rfl) (fun h85 => ?_)
  obtain ⟨h83, h84⟩ := forL_iter h85 h82
  refine W_weaken [0, 3, 9, 10, 11] [] (fr' := ((slices_Concat_Lintint_s8 a0) ((0 : Int), (0 : Int))).1) (L' := ((slices_Concat_Lintint_s8 a0) ((0 : Int), (0 : Int))).2) (by kernel_rfl) ?_
  refine W_cutK (W_loop (S := (slices_Concat_Lintint_s8 a0)) (J := (exQ (.exit 0) (slices_Concat_Lintint_s9 a0))) (by kernel_rfl) ?_ h83 _ v81 h84) ?_
  · rintro ⟨i72, x73⟩ s h
    refine W_seq (by kernel_rfl) ?_
    refine W_run 1 [] [0, 3, 9, 10, 11, 12] [] (fr' := [(0, aD (.slice (.slice tI)) a0), (3, aI x73), (9, aD (.slice (.slice tI)) a0), (10, aI (List.length a0 : Int)), (11, aI i72), (12, aB (decide (i72 < (List.length a0 : Int))))]) (L' := []) (obs := []) (by kernel_rfl) (by kernel_rfl) (by kernel_rfl) allP0 ?_
    refine seqQ_norm ?_
    refine W_seq (by kernel_rfl) ?_
    refine W_cond (o := .tmp 12) (b := decide (i72 < (List.length a0 : Int))) (by kernel_rfl) (by kernel_rfl) (fun h77 => ?_) (fun h77 => ?_)
    · replace h := stepL_true h77 h
      obtain ⟨v75, _, h76, h, rfl⟩ := h
      refine W_skip [0, 3, 9, 10, 11] [] (fr' := [(0, aD (.slice (.slice tI)) a0), (3, aI x73), (9, aD (.slice (.slice tI)) a0), (10, aI (List.length a0 : Int)), (11, aI i72)]) (L' := []) (by kernel_rfl) (by kernel_rfl) ?_
      refine seqQ_norm ?_
      refine W_seq (by kernel_rfl) ?_
      refine W_block (id := 1) (by kernel_rfl) ?_
      refine W_seq (by kernel_rfl) ?_
      refine W_run 3 [(1, .val (.dat (.slice tI) v75))] [0, 3, 5, 9, 10, 11] [] (fr' := [(0, aD (.slice (.slice tI)) a0), (3, aI x73), (5, aD (.slice tI) v75), (9, aD (.slice (.slice tI)) a0), (10, aI (List.length a0 : Int)), (11, aI i72)]) (L' := []) (obs := [Idx a0 i72 v75]) (by kernel_rfl) (by kernel_rfl) (by kernel_rfl) (allP1 (Idx.of h76)) ?_
      refine seqQ_norm ?_
      refine W_seq (by kernel_rfl) ?_
      refine W_run 5 [] [0, 3, 9, 10, 11] [] (fr' := [(0, aD (.slice (.slice tI)) a0), (3, aI (w64 (x73 + (List.length v75 : Int)))), (9, aD (.slice (.slice tI)) a0), (10, aI (List.length a0 : Int)), (11, aI i72)]) (L' := []) (obs := []) (by kernel_rfl) (by kernel_rfl) (by kernel_rfl) allP0 ?_
      refine seqQ_norm ?_
      refine W_seq (by kernel_rfl) ?_
      refine W_run 2 [] [0, 3, 9, 10, 11, 20] [] (fr' := [(0, aD (.slice (.slice tI)) a0), (3, aI (w64 (x73 + (List.length v75 : Int)))), (9, aD (.slice (.slice tI)) a0), (10, aI (List.length a0 : Int)), (11, aI i72), (20, aB (decide ((w64 (x73 + (List.length v75 : Int))) < (0 : Int))))]) (L' := []) (obs := []) (by kernel_rfl) (by kernel_rfl) (by kernel_rfl) allP0 ?_
      refine seqQ_norm ?_
      refine W_cond (o := .tmp 20) (b := decide ((w64 (x73 + (List.length v75 : Int))) < (0 : Int))) (by kernel_rfl) (by kernel_rfl) (fun h79 => ?_) (fun h79 => ?_)
      · replace h := ofT h79 h
        cases h
      · replace h := ofF h79 h
        refine W_skip [0, 3, 9, 10, 11] [] (fr' := [(0, aD (.slice (.slice tI)) a0), (3, aI (w64 (x73 + (List.length v75 : Int)))), (9, aD (.slice (.slice tI)) a0), (10, aI (List.length a0 : Int)), (11, aI i72)]) (L' := []) (by kernel_rfl) (by kernel_rfl) ?_
        refine blockQ_norm ?_
        refine seqQ_norm ?_
        obtain rfl := Option.some.inj h
        refine W_run 2 [] [0, 3, 9, 10, 11] [] (fr' := [(0, aD (.slice (.slice tI)) a0), (3, aI (w64 (x73 + (List.length v75 : Int)))), (9, aD (.slice (.slice tI)) a0), (10, aI (List.length a0 : Int)), (11, aI (w64 (i72 + (1 : Int))))]) (L' := []) (obs := []) (by kernel_rfl) (by kernel_rfl) (by kernel_rfl) allP0 ?_
        exact round_next' (by kernel_rfl) (by kernel_rfl)
    · obtain rfl := stepL_false h77 h
      refine W_exit (id := 0) [0, 3] [] (fr' := [(0, aD (.slice (.slice tI)) a0), (3, aI x73)]) (L' := []) (by kernel_rfl) (by kernel_rfl) ?_
      refine seqQ_exit ?_
      refine round_exit ?_
      exact exQ_mk (by kernel_rfl) (by kernel_rfl)
  · intro e fr L hJ
    obtain ⟨rfl, rfl, rfl⟩ := hJ
    refine LT_keep [0, 3] [] (fr' := [(0, aD (.slice (.slice tI)) a0), (3, aI v81)]) (L' := []) (by kernel_rfl) ?_
    refine blockQ_hit ?_
    refine seqQ_norm ?_
    refine W_seq (by kernel_rfl) ?_
    refine W_region (by kernel_rfl) ?_
    refine WO_run (j := 1) (k := 1) (orcs := []) (kF := [0, 23]) (kL := []) (fr' := [(0, aD (.slice (.slice tI)) a0), (23, aI v81)]) (L' := []) (obs := []) rfl (by kernel_rfl) allP0 ?_
    obtain ⟨r86, h87, h⟩ := bind_of h
    refine WO_call1 (us := [none, none]) (d := 24) (t := 24) (p := True) (j := 2) rfl ⟨by kernel_rfl, by kernel_rfl, by kernel_rfl⟩ trivial (slices_Grow_Lintint_ok h87) (by kernel_rfl) ?_
    refine WO_run (j := 3) (k := 1) (orcs := []) (kF := [0, 6]) (kL := [24]) (fr' := [(0, aD (.slice (.slice tI)) a0), (6, .one (.slc 24))]) (L' := [(24, .seq tI r86)]) (obs := []) rfl (by kernel_rfl) allP0 ?_
    refine WO_fin [0, 6] [24] (fr' := [(0, aD (.slice (.slice tI)) a0), (6, .one (.slc 24))]) (L' := [(24, .seq tI r86)]) (by kernel_rfl) (by kernel_rfl) ?_
    refine seqQ_norm ?_
    refine W_seq (by kernel_rfl) ?_
    refine W_seq (by kernel_rfl) ?_
    refine W_run 3 [] [6, 25, 26, 27] [24] (fr' := [(6, .one (.slc 24)), (25, aD (.slice (.slice tI)) a0), (26, aI (List.length a0 : Int)), (27, aI (0 : Int))]) (L' := [(24, .seq tI r86)]) (obs := []) (by kernel_rfl) (by kernel_rfl) (by kernel_rfl) allP0 ?_
    refine seqQ_norm ?_
    refine W_block (id := 2) (by kernel_rfl) ?_
    obtain ⟨v106, h107, h⟩ := bind_of h
    refine W_len (t := 25) (u := (.slice tI)) (xs := a0) (by kernel_rfl) (fun h110 => ?_)
    obtain ⟨h108, h109⟩ := forL_iter h110 h107
    refine W_weaken [6, 25, 26, 27] [24] (fr' := ((slices_Concat_Lintint_s11 a0) ((0 : Int), r86)).1) (L' := ((slices_Concat_Lintint_s11 a0) ((0 : Int), r86)).2) (by kernel_rfl) ?_
    refine W_cutK (W_loop (S := (slices_Concat_Lintint_s11 a0)) (J := (exQ (.exit 2) slices_Concat_Lintint_s12)) (by kernel_rfl) ?_ h108 _ v106 h109) ?_
    · rintro ⟨i98, x99⟩ s h
      refine W_seq (by kernel_rfl) ?_
      refine W_run 1 [] [6, 25, 26, 27, 28] [24] (fr' := [(6, .one (.slc 24)), (25, aD (.slice (.slice tI)) a0), (26, aI (List.length a0 : Int)), (27, aI i98), (28, aB (decide (i98 < (List.length a0 : Int))))]) (L' := [(24, .seq tI x99)]) (obs := []) (by kernel_rfl) (by kernel_rfl) (by kernel_rfl) allP0 ?_
      refine seqQ_norm ?_
      refine W_seq (by kernel_rfl) ?_
      refine W_cond (o := .tmp 28) (b := decide (i98 < (List.length a0 : Int))) (by kernel_rfl) (by kernel_rfl) (fun h103 => ?_) (fun h103 => ?_)
      · replace h := stepL_true h103 h
        obtain ⟨v101, _, h102, h, rfl⟩ := h
        refine W_skip [6, 25, 26, 27] [24] (fr' := [(6, .one (.slc 24)), (25, aD (.slice (.slice tI)) a0), (26, aI (List.length a0 : Int)), (27, aI i98)]) (L' := [(24, .seq tI x99)]) (by kernel_rfl) (by kernel_rfl) ?_
        refine seqQ_norm ?_
        refine W_seq (by kernel_rfl) ?_
        refine W_block (id := 3) (by kernel_rfl) ?_
        refine W_seq (by kernel_rfl) ?_
        refine W_run 3 [(1, .val (.dat (.slice tI) v101))] [6, 8, 25, 26, 27] [24] (fr' := [(6, .one (.slc 24)), (8, aD (.slice tI) v101), (25, aD (.slice (.slice tI)) a0), (26, aI (List.length a0 : Int)), (27, aI i98)]) (L' := [(24, .seq tI x99)]) (obs := [Idx a0 i98 v101]) (by kernel_rfl) (by kernel_rfl) (by kernel_rfl) (allP1 (Idx.of h102)) ?_
        refine seqQ_norm ?_
        obtain ⟨_, h104, h⟩ := bind_of h
        replace h104 := ck_some h104
        refine W_run 4 [] [6, 25, 26, 27] [24] (fr' := [(6, .one (.slc 24)), (25, aD (.slice (.slice tI)) a0), (26, aI (List.length a0 : Int)), (27, aI i98)]) (L' := [(24, .seq tI (x99 ++ v101))]) (obs := [SmallLen (List.length x99 + List.length v101)]) (by kernel_rfl) (by kernel_rfl) (by kernel_rfl) (allP1 h104) ?_
        refine blockQ_norm ?_
        refine seqQ_norm ?_
        obtain rfl := Option.some.inj h
        refine W_run 2 [] [6, 25, 26, 27] [24] (fr' := [(6, .one (.slc 24)), (25, aD (.slice (.slice tI)) a0), (26, aI (List.length a0 : Int)), (27, aI (w64 (i98 + (1 : Int))))]) (L' := [(24, .seq tI (x99 ++ v101))]) (obs := []) (by kernel_rfl) (by kernel_rfl) (by kernel_rfl) allP0 ?_
        exact round_next' (by kernel_rfl) (by kernel_rfl)
      · obtain rfl := stepL_false h103 h
        refine W_exit (id := 2) [6] [24] (fr' := [(6, .one (.slc 24))]) (L' := [(24, .seq tI x99)]) (by kernel_rfl) (by kernel_rfl) ?_
        refine seqQ_exit ?_
        refine round_exit ?_
        exact exQ_mk (by kernel_rfl) (by kernel_rfl)
    · intro e fr L hJ
      obtain ⟨rfl, rfl, rfl⟩ := hJ
      refine LT_keep [6] [24] (fr' := [(6, .one (.slc 24))]) (L' := [(24, .seq tI v106)]) (by kernel_rfl) ?_
      refine blockQ_hit ?_
      refine seqQ_norm ?_
      refine W_seq (by kernel_rfl) ?_
      refine W_run 2 [] [2] [24] (fr' := [(2, .one (.slc 24))]) (L' := [(24, .seq tI v106)]) (obs := []) (by kernel_rfl) (by kernel_rfl) (by kernel_rfl) allP0 ?_
      refine seqQ_norm ?_
      obtain rfl := Option.some.inj h
      refine W_ret [2] [24] (fr' := [(2, .one (.slc 24))]) (L' := [(24, .seq tI v106)]) (by kernel_rfl) (by kernel_rfl) ?_
      exact retQ_mk (by kernel_rfl) (by kernel_rfl) (by kernel_rfl)

def half_wrong_2 (a0 : Int) (c0 : Int) : Option Bool :=
some ((decide (a0 < (0 : Int))) || (decide (a0 ≥ c0)))
theorem half_wrong_2_ok {a0 : Int} {c0 : Int} {r : Bool} (h : half_wrong_2 a0 c0 = some r) : FnC Try.prog 90 [aI a0, .one (.ptr 1000 0)] [(1000, .cells [.dat tI c0])] (aB r) [(1000, .cells [.dat tI c0])] := by
  refine fnC_of_W (B := bodyOf Try.f90) (n := 11) Try.func90 (by kernel_rfl) (by kernel_rfl) (by kernel_rfl) (by kernel_rfl) (by kernel_rfl) ?_
  intro K
  refine W_seq (by kernel_rfl) ?_
  refine W_run 1 [] [0, 1] [1000] (fr' := [(0, aI a0), (1, .one (.ptr 1000 0))]) (L' := [(1000, .cells [.dat tI c0])]) (obs := []) (by kernel_rfl) (by kernel_rfl) (by kernel_rfl) allP0 ?_
  refine seqQ_norm ?_
  refine W_seq (by kernel_rfl) ?_
  refine W_run 8 [] [3] [1000] (fr' := [(3, aB ((decide (a0 < (0 : Int))) || (decide (a0 ≥ c0))))]) (L' := [(1000, .cells [.dat tI c0])]) (obs := []) (by kernel_rfl) (by kernel_rfl) (by kernel_rfl) allP0 ?_
  refine seqQ_norm ?_
  obtain rfl := Option.some.inj h
  refine W_ret [3] [1000] (fr' := [(3, aB ((decide (a0 < (0 : Int))) || (decide (a0 ≥ c0))))]) (L' := [(1000, .cells [.dat tI c0])]) (by kernel_rfl) (by kernel_rfl) ?_
  exact retQ_mk (by kernel_rfl) (by kernel_rfl) (by kernel_rfl)

def slices_IndexFunc_Lintint_with_half_wrong_2_b1 (c0 : Int) (i15 : Int) (v18 : Int) (x16 : Unit) : Option (Flow Unit (Esc Int Unit)) :=
(half_wrong_2 v18 c0).bind fun r21 =>
bif r21 then
(some (.done (.ret i15)))
else
(some (.next ()))
@[reducible] def slices_IndexFunc_Lintint_with_half_wrong_2_s2 (a0 : (List Int)) (c0 : Int) (v : Int × Unit) : Fr × LL := ([(0, aD (.slice tI) a0), (1, .one (.fn 90 [(1000, 0)])), (7, aI (List.length a0 : Int)), (8, aI v.1)], [(1000, .cells [.dat tI c0])])
@[reducible] def slices_IndexFunc_Lintint_with_half_wrong_2_s3 (c0 : Int) (v : Int) : Fr × LL := ([(4, aI v)], [(1000, .cells [.dat tI c0])])
@[reducible] def slices_IndexFunc_Lintint_with_half_wrong_2_s4 (c0 : Int) (v : Unit) : Fr × LL := ([], [(1000, .cells [.dat tI c0])])
def slices_IndexFunc_Lintint_with_half_wrong_2 (a0 : (List Int)) (c0 : Int) : Option Int :=
(forL (slices_IndexFunc_Lintint_with_half_wrong_2_b1 c0) (fun x16 => (.brk ())) a0 0 ()).bind fun v25 =>
match v25 with
| .ret v30 =>
(some v30)
| .brk v31 =>
(some (-1 : Int))
theorem slices_IndexFunc_Lintint_with_half_wrong_2_ok {a0 : (List Int)} {c0 : Int} {r : Int} (h : slices_IndexFunc_Lintint_with_half_wrong_2 a0 c0 = some r) : FnC Try.prog 81 [aD (.slice tI) a0, .one (.fn 90 [(1000, 0)])] [(1000, .cells [.dat tI c0])] (aI r) [(1000, .cells [.dat tI c0])] := by
  refine fnC_of_W (B := bodyOf Try.f81) (n := 19) Try.func81 (by kernel_rfl) (by kernel_rfl) (by kernel_rfl) (by kernel_rfl) (by kernel_rfl) ?_
  intro K
  refine W_seq (by kernel_rfl) ?_
  refine W_run 1 [] [0, 1] [1000] (fr' := [(0, aD (.slice tI) a0), (1, .one (.fn 90 [(1000, 0)]))]) (L' := [(1000, .cells [.dat tI c0])]) (obs := []) (by kernel_rfl) (by kernel_rfl) (by kernel_rfl) allP0 ?_
  refine seqQ_norm ?_
  refine W_seq (by kernel_rfl) ?_
  refine W_seq (by kernel_rfl) ?_
  refine W_run 3 [] [0, 1, 7, 8] [1000] (fr' := [(0, aD (.slice tI) a0), (1, .one (.fn 90 [(1000, 0)])), (7, aI (List.length a0 : Int)), (8, aI (0 : Int))]) (L' := [(1000, .cells [.dat tI c0])]) (obs := []) (by kernel_rfl) (by kernel_rfl) (by kernel_rfl) allP0 ?_
  refine seqQ_norm ?_
  refine W_block (id := 0) (by kernel_rfl) ?_
  obtain ⟨v25, h26, h⟩ := bind_of h
  refine W_len (t := 0) (u := tI) (xs := a0) (by kernel_rfl) (fun h29 => ?_)
  obtain ⟨h27, h28⟩ := forL_iter h29 h26
  refine W_weaken [0, 1, 7, 8] [1000] (fr' := ((slices_IndexFunc_Lintint_with_half_wrong_2_s2 a0 c0) ((0 : Int), ())).1) (L' := ((slices_IndexFunc_Lintint_with_half_wrong_2_s2 a0 c0) ((0 : Int), ())).2) (by kernel_rfl) ?_
  refine W_cutK (W_loop (S := (slices_IndexFunc_Lintint_with_half_wrong_2_s2 a0 c0)) (J := (escQ (exQ .ret (slices_IndexFunc_Lintint_with_half_wrong_2_s3 c0)) (exQ (.exit 0) (slices_IndexFunc_Lintint_with_half_wrong_2_s4 c0)))) (by kernel_rfl) ?_ h27 _ v25 h28) ?_
  · rintro ⟨i15, x16⟩ s h
    refine W_seq (by kernel_rfl) ?_
    refine W_run 1 [] [0, 1, 7, 8, 9] [1000] (fr' := [(0, aD (.slice tI) a0), (1, .one (.fn 90 [(1000, 0)])), (7, aI (List.length a0 : Int)), (8, aI i15), (9, aB (decide (i15 < (List.length a0 : Int))))]) (L' := [(1000, .cells [.dat tI c0])]) (obs := []) (by kernel_rfl) (by kernel_rfl) (by kernel_rfl) allP0 ?_
    refine seqQ_norm ?_
    refine W_seq (by kernel_rfl) ?_
    refine W_cond (o := .tmp 9) (b := decide (i15 < (List.length a0 : Int))) (by kernel_rfl) (by kernel_rfl) (fun h20 => ?_) (fun h20 => ?_)
    · replace h := stepL_true h20 h
      obtain ⟨v18, _, h19, h, rfl⟩ := h
      refine W_skip [0, 1, 7, 8] [1000] (fr' := [(0, aD (.slice tI) a0), (1, .one (.fn 90 [(1000, 0)])), (7, aI (List.length a0 : Int)), (8, aI i15)]) (L' := [(1000, .cells [.dat tI c0])]) (by kernel_rfl) (by kernel_rfl) ?_
      refine seqQ_norm ?_
      refine W_seq (by kernel_rfl) ?_
      refine W_block (id := 1) (by kernel_rfl) ?_
      refine W_seq (by kernel_rfl) ?_
      refine W_run 2 [] [0, 1, 5, 7, 8] [1000] (fr' := [(0, aD (.slice tI) a0), (1, .one (.fn 90 [(1000, 0)])), (5, aI i15), (7, aI (List.length a0 : Int)), (8, aI i15)]) (L' := [(1000, .cells [.dat tI c0])]) (obs := []) (by kernel_rfl) (by kernel_rfl) (by kernel_rfl) allP0 ?_
      refine seqQ_norm ?_
      refine W_seq (by kernel_rfl) ?_
      refine W_region (by kernel_rfl) ?_
      refine WO_run (j := 5) (k := 5) (orcs := [(7, .val (.dat tI v18))]) (kF := [0, 1, 5, 7, 8, 11, 15]) (kL := [1000]) (fr' := [(0, aD (.slice tI) a0), (1, .one (.fn 90 [(1000, 0)])), (5, aI i15), (7, aI (List.length a0 : Int)), (8, aI i15), (11, .one (.fn 90 [(1000, 0)])), (15, aI v18)]) (L' := [(1000, .cells [.dat tI c0])]) (obs := [Idx a0 i15 v18]) rfl (by kernel_rfl) (allP1 (Idx.of h19)) ?_
      obtain ⟨r21, h22, h⟩ := bind_of h
      refine WO_lend [(1000, 1000)] (us := [none, none]) (d := 16) (p := True) (j := 6) rfl ⟨by kernel_rfl, by kernel_rfl, by kernel_rfl⟩ trivial (half_wrong_2_ok h22) (by kernel_rfl) (by kernel_rfl) ?_
      refine WO_fin [0, 1, 5, 7, 8, 16] [1000] (fr' := [(0, aD (.slice tI) a0), (1, .one (.fn 90 [(1000, 0)])), (5, aI i15), (7, aI (List.length a0 : Int)), (8, aI i15), (16, aB r21)]) (L' := [(1000, .cells [.dat tI c0])]) (by kernel_rfl) (by kernel_rfl) ?_
      refine seqQ_norm ?_
      refine W_cond (o := .tmp 16) (b := r21) (by kernel_rfl) (by kernel_rfl) (fun h23 => ?_) (fun h23 => ?_)
      · replace h := ofT h23 h
        refine W_seq (by kernel_rfl) ?_
        refine W_run 2 [] [4] [1000] (fr' := [(4, aI i15)]) (L' := [(1000, .cells [.dat tI c0])]) (obs := []) (by kernel_rfl) (by kernel_rfl) (by kernel_rfl) allP0 ?_
        refine seqQ_norm ?_
        obtain rfl := Option.some.inj h
        refine W_ret [4] [1000] (fr' := [(4, aI i15)]) (L' := [(1000, .cells [.dat tI c0])]) (by kernel_rfl) (by kernel_rfl) ?_
        refine blockQ_ret ?_
        refine seqQ_ret ?_
        refine round_ret ?_
        refine escQ_ret ?_
        exact exQ_mk (by kernel_rfl) (by kernel_rfl)
      · replace h := ofF h23 h
        refine W_skip [0, 1, 7, 8] [1000] (fr' := [(0, aD (.slice tI) a0), (1, .one (.fn 90 [(1000, 0)])), (7, aI (List.length a0 : Int)), (8, aI i15)]) (L' := [(1000, .cells [.dat tI c0])]) (by kernel_rfl) (by kernel_rfl) ?_
        refine blockQ_norm ?_
        refine seqQ_norm ?_
        obtain rfl := Option.some.inj h
        refine W_run 2 [] [0, 1, 7, 8] [1000] (fr' := [(0, aD (.slice tI) a0), (1, .one (.fn 90 [(1000, 0)])), (7, aI (List.length a0 : Int)), (8, aI (w64 (i15 + (1 : Int))))]) (L' := [(1000, .cells [.dat tI c0])]) (obs := []) (by kernel_rfl) (by kernel_rfl) (by kernel_rfl) allP0 ?_
        exact round_next' (by kernel_rfl) (by kernel_rfl)
    · obtain rfl := stepL_false h20 h
      refine W_exit (id := 0) [] [1000] (fr' := []) (L' := [(1000, .cells [.dat tI c0])]) (by kernel_rfl) (by kernel_rfl) ?_
      refine seqQ_exit ?_
      refine round_exit ?_
      refine escQ_brk ?_
      exact exQ_mk (by kernel_rfl) (by kernel_rfl)
  · intro e fr L hJ
    rcases v25 with v30 | v31
    · obtain ⟨rfl, rfl, rfl⟩ := hJ
      obtain rfl := Option.some.inj h
      refine LT_keep [4] [1000] (fr' := [(4, aI v30)]) (L' := [(1000, .cells [.dat tI c0])]) (by kernel_rfl) ?_
      refine blockQ_ret ?_
      refine seqQ_ret ?_
      exact retQ_mk (by kernel_rfl) (by kernel_rfl) (by kernel_rfl)
    · obtain ⟨rfl, rfl, rfl⟩ := hJ
      refine LT_keep [] [1000] (fr' := []) (L' := [(1000, .cells [.dat tI c0])]) (by kernel_rfl) ?_
      refine blockQ_hit ?_
      refine seqQ_norm ?_
      refine W_seq (by kernel_rfl) ?_
      refine W_run 1 [] [4] [1000] (fr' := [(4, aI (-1 : Int))]) (L' := [(1000, .cells [.dat tI c0])]) (obs := []) (by kernel_rfl) (by kernel_rfl) (by kernel_rfl) allP0 ?_
      refine seqQ_norm ?_
      obtain rfl := Option.some.inj h
      refine W_ret [4] [1000] (fr' := [(4, aI (-1 : Int))]) (L' := [(1000, .cells [.dat tI c0])]) (by kernel_rfl) (by kernel_rfl) ?_
      exact retQ_mk (by kernel_rfl) (by kernel_rfl) (by kernel_rfl)

def slices_ContainsFunc_Lintint_with_half_wrong_2 (a0 : (List Int)) (c0 : Int) : Option Bool :=
(slices_IndexFunc_Lintint_with_half_wrong_2 a0 c0).bind fun r1 =>
some (decide (r1 ≥ (0 : Int)))
theorem slices_ContainsFunc_Lintint_with_half_wrong_2_ok {a0 : (List Int)} {c0 : Int} {r : Bool} (h : slices_ContainsFunc_Lintint_with_half_wrong_2 a0 c0 = some r) : FnC Try.prog 53 [aD (.slice tI) a0, .one (.fn 90 [(1000, 0)])] [(1000, .cells [.dat tI c0])] (aB r) [(1000, .cells [.dat tI c0])] := by
  refine fnC_of_W (B := bodyOf Try.f53) (n := 9) Try.func53 (by kernel_rfl) (by kernel_rfl) (by kernel_rfl) (by kernel_rfl) (by kernel_rfl) ?_
  intro K
  refine W_seq (by kernel_rfl) ?_
  refine W_run 1 [] [0, 1] [1000] (fr' := [(0, aD (.slice tI) a0), (1, .one (.fn 90 [(1000, 0)]))]) (L' := [(1000, .cells [.dat tI c0])]) (obs := []) (by kernel_rfl) (by kernel_rfl) (by kernel_rfl) allP0 ?_
  refine seqQ_norm ?_
  refine W_seq (by kernel_rfl) ?_
  refine W_region (by kernel_rfl) ?_
  refine WO_run (j := 2) (k := 2) (orcs := []) (kF := [5, 6]) (kL := [1000]) (fr' := [(5, aD (.slice tI) a0), (6, .one (.fn 90 [(1000, 0)]))]) (L' := [(1000, .cells [.dat tI c0])]) (obs := []) rfl (by kernel_rfl) allP0 ?_
  obtain ⟨r1, h2, h⟩ := bind_of h
  refine WO_lend [(1000, 1000)] (us := [none, none]) (d := 7) (p := True) (j := 3) rfl ⟨by kernel_rfl, by kernel_rfl, by kernel_rfl⟩ trivial (slices_IndexFunc_Lintint_with_half_wrong_2_ok h2) (by kernel_rfl) (by kernel_rfl) ?_
  refine WO_run (j := 5) (k := 2) (orcs := []) (kF := [4]) (kL := [1000]) (fr' := [(4, aB (decide (r1 ≥ (0 : Int))))]) (L' := [(1000, .cells [.dat tI c0])]) (obs := []) rfl (by kernel_rfl) allP0 ?_
  refine WO_fin [4] [1000] (fr' := [(4, aB (decide (r1 ≥ (0 : Int))))]) (L' := [(1000, .cells [.dat tI c0])]) (by kernel_rfl) (by kernel_rfl) ?_
  refine seqQ_norm ?_
  obtain rfl := Option.some.inj h
  refine W_ret [4] [1000] (fr' := [(4, aB (decide (r1 ≥ (0 : Int))))]) (L' := [(1000, .cells [.dat tI c0])]) (by kernel_rfl) (by kernel_rfl) ?_
  exact retQ_mk (by kernel_rfl) (by kernel_rfl) (by kernel_rfl)

def half_wrong_g1 (a0 : (List (List Int))) : Option Bool :=
bif (decide ((List.length a0 : Int) < (1 : Int))) || (decide ((List.length a0 : Int) > (8 : Int))) then
(some true)
else
((slices_ContainsFunc_LLintLint_with_half_wrong_1 a0).bind fun r8 =>
some r8)
@[reducible] def half_wrong_s2 (a0 : (List (List Int))) (a1 : (List Int)) (v : Bool) : Fr × LL := ([(0, aD (.slice (.slice tI)) a0), (1, aD (.slice tI) a1), (5, .one (.ptr 5 0)), (17, aB v)], [(5, .cells [.dat tI (List.length a0 : Int)])])
def half_wrong (a0 : (List (List Int))) (a1 : (List Int)) : Option Int :=
(half_wrong_g1 a0).bind fun v10 =>
bif v10 then
(some (1 : Int))
else
((slices_Concat_Lintint a0).bind fun r13 =>
(slices_Concat_Lintint [r13, a1]).bind fun r15 =>
(slices_ContainsFunc_Lintint_with_half_wrong_2 r15 (List.length a0 : Int)).bind fun r17 =>
bif r17 then
(some (2 : Int))
else
(some (0 : Int)))
theorem half_wrong_ok {a0 : (List (List Int))} {a1 : (List Int)} {r : Int} (h : half_wrong a0 a1 = some r) : FnC Try.prog 70 [aD (.slice (.slice tI)) a0, aD (.slice tI) a1] [] (aI r) [] := by
  refine fnC_of_W (B := bodyOf Try.f70) (n := 25) Try.func70 (by kernel_rfl) (by kernel_rfl) (by kernel_rfl) (by kernel_rfl) (by kernel_rfl) ?_
  intro K
  refine W_seq (by kernel_rfl) ?_
  refine W_run 1 [] [0, 1] [] (fr' := [(0, aD (.slice (.slice tI)) a0), (1, aD (.slice tI) a1)]) (L' := []) (obs := []) (by kernel_rfl) (by kernel_rfl) (by kernel_rfl) allP0 ?_
  refine seqQ_norm ?_
  refine W_seq (by kernel_rfl) ?_
  refine W_run 4 [] [0, 1, 5] [5] (fr' := [(0, aD (.slice (.slice tI)) a0), (1, aD (.slice tI) a1), (5, .one (.ptr 5 0))]) (L' := [(5, .cells [.dat tI (List.length a0 : Int)])]) (obs := [True]) (by kernel_rfl) (by kernel_rfl) (by kernel_rfl) (allP1 trivial) ?_
  refine seqQ_norm ?_
  refine W_seq (by kernel_rfl) ?_
  refine W_seq (by kernel_rfl) ?_
  obtain ⟨v10, h11, h⟩ := bind_of h
  refine W_cutK (Q' := (exQ .normal (half_wrong_s2 a0 a1)) v10) ?_ ?_
  · replace h := h11
    refine W_region (by kernel_rfl) ?_
    refine WO_run (j := 7) (k := 7) (orcs := []) (kF := [0, 1, 5, 14]) (kL := [5]) (fr' := [(0, aD (.slice (.slice tI)) a0), (1, aD (.slice tI) a1), (5, .one (.ptr 5 0)), (14, aB ((decide ((List.length a0 : Int) < (1 : Int))) || (decide ((List.length a0 : Int) > (8 : Int)))))]) (L' := [(5, .cells [.dat tI (List.length a0 : Int)])]) (obs := []) rfl (by kernel_rfl) allP0 ?_
    rcases Bool.eq_false_or_eq_true ((decide ((List.length a0 : Int) < (1 : Int))) || (decide ((List.length a0 : Int) > (8 : Int)))) with h7 | h7
    · replace h := ofT h7 h
      refine WO_run (j := 10) (k := 3) (orcs := [(14, .known true), (16, .known true), (19, .val (.dat .bool true))]) (kF := [0, 1, 5, 17]) (kL := [5]) (fr' := [(0, aD (.slice (.slice tI)) a0), (1, aD (.slice tI) a1), (5, .one (.ptr 5 0)), (17, aB true)]) (L' := [(5, .cells [.dat tI (List.length a0 : Int)])]) (obs := [(((decide ((List.length a0 : Int) < (1 : Int))) || (decide ((List.length a0 : Int) > (8 : Int)))) = true), (((decide ((List.length a0 : Int) < (1 : Int))) || (decide ((List.length a0 : Int) > (8 : Int)))) = true), (((decide ((List.length a0 : Int) < (1 : Int))) || (decide ((List.length a0 : Int) > (8 : Int)))) = true)]) rfl (by kernel_rfl) (allP2 h7 (allP2 h7 (allP1 h7))) ?_
      obtain rfl := Option.some.inj h
      refine WO_fin [0, 1, 5, 17] [5] (fr' := [(0, aD (.slice (.slice tI)) a0), (1, aD (.slice tI) a1), (5, .one (.ptr 5 0)), (17, aB true)]) (L' := [(5, .cells [.dat tI (List.length a0 : Int)])]) (by kernel_rfl) (by kernel_rfl) ?_
      exact exQ_mk (by kernel_rfl) (by kernel_rfl)
    · replace h := ofF h7 h
      refine WO_run (j := 8) (k := 1) (orcs := [(14, .known false)]) (kF := [0, 1, 5, 14, 15]) (kL := [5]) (fr' := [(0, aD (.slice (.slice tI)) a0), (1, aD (.slice tI) a1), (5, .one (.ptr 5 0)), (14, aB ((decide ((List.length a0 : Int) < (1 : Int))) || (decide ((List.length a0 : Int) > (8 : Int))))), (15, aD (.slice (.slice tI)) a0)]) (L' := [(5, .cells [.dat tI (List.length a0 : Int)])]) (obs := [(((decide ((List.length a0 : Int) < (1 : Int))) || (decide ((List.length a0 : Int) > (8 : Int)))) = false)]) rfl (by kernel_rfl) (allP1 h7) ?_
      obtain ⟨r8, h9, h⟩ := bind_of h
      refine WO_call0 (us := [none, none]) (d := 16) (p := (((decide ((List.length a0 : Int) < (1 : Int))) || (decide ((List.length a0 : Int) > (8 : Int)))) = false)) (j := 9) rfl ⟨by kernel_rfl, by kernel_rfl, by kernel_rfl⟩ h7 (slices_ContainsFunc_LLintLint_with_half_wrong_1_ok h9) (by kernel_rfl) ?_
      refine WO_run (j := 10) (k := 1) (orcs := [(19, .val (.dat .bool false))]) (kF := [0, 1, 5, 17]) (kL := [5]) (fr' := [(0, aD (.slice (.slice tI)) a0), (1, aD (.slice tI) a1), (5, .one (.ptr 5 0)), (17, aB r8)]) (L' := [(5, .cells [.dat tI (List.length a0 : Int)])]) (obs := [(((decide ((List.length a0 : Int) < (1 : Int))) || (decide ((List.length a0 : Int) > (8 : Int)))) = false)]) rfl (by kernel_rfl) (allP1 h7) ?_
      obtain rfl := Option.some.inj h
      refine WO_fin [0, 1, 5, 17] [5] (fr' := [(0, aD (.slice (.slice tI)) a0), (1, aD (.slice tI) a1), (5, .one (.ptr 5 0)), (17, aB r8)]) (L' := [(5, .cells [.dat tI (List.length a0 : Int)])]) (by kernel_rfl) (by kernel_rfl) ?_
      exact exQ_mk (by kernel_rfl) (by kernel_rfl)
  · intro e fr L hJ
    obtain ⟨rfl, rfl, rfl⟩ := hJ
    refine LT_keep [0, 1, 5, 17] [5] (fr' := [(0, aD (.slice (.slice tI)) a0), (1, aD (.slice tI) a1), (5, .one (.ptr 5 0)), (17, aB v10)]) (L' := [(5, .cells [.dat tI (List.length a0 : Int)])]) (by kernel_rfl) ?_
    refine seqQ_norm ?_
    refine W_cond (o := .tmp 17) (b := v10) (by kernel_rfl) (by kernel_rfl) (fun h12 => ?_) (fun h12 => ?_)
    · replace h := ofT h12 h
      refine W_seq (by kernel_rfl) ?_
      refine W_run 1 [] [4] [] (fr' := [(4, aI (1 : Int))]) (L' := []) (obs := []) (by kernel_rfl) (by kernel_rfl) (by kernel_rfl) allP0 ?_
      refine seqQ_norm ?_
      obtain rfl := Option.some.inj h
      refine W_ret [4] [] (fr' := [(4, aI (1 : Int))]) (L' := []) (by kernel_rfl) (by kernel_rfl) ?_
      refine seqQ_ret ?_
      exact retQ_mk (by kernel_rfl) (by kernel_rfl) (by kernel_rfl)
    · replace h := ofF h12 h
      refine W_skip [0, 1, 5] [5] (fr' := [(0, aD (.slice (.slice tI)) a0), (1, aD (.slice tI) a1), (5, .one (.ptr 5 0))]) (L' := [(5, .cells [.dat tI (List.length a0 : Int)])]) (by kernel_rfl) (by kernel_rfl) ?_
      refine seqQ_norm ?_
      refine W_seq (by kernel_rfl) ?_
      refine W_seq (by kernel_rfl) ?_
      refine W_region (by kernel_rfl) ?_
      refine WO_run (j := 1) (k := 1) (orcs := []) (kF := [1, 5, 18]) (kL := [5]) (fr' := [(1, aD (.slice tI) a1), (5, .one (.ptr 5 0)), (18, aD (.slice (.slice tI)) a0)]) (L' := [(5, .cells [.dat tI (List.length a0 : Int)])]) (obs := []) rfl (by kernel_rfl) allP0 ?_
      obtain ⟨r13, h14, h⟩ := bind_of h
      refine WO_call1 (us := [none]) (d := 19) (t := 19) (p := True) (j := 2) rfl ⟨by kernel_rfl, by kernel_rfl, by kernel_rfl⟩ trivial (slices_Concat_Lintint_ok h14) (by kernel_rfl) ?_
      refine WO_run (j := 3) (k := 1) (orcs := []) (kF := [5, 19, 20]) (kL := [5, 19]) (fr' := [(5, .one (.ptr 5 0)), (19, .one (.slc 19)), (20, aD (.slice tI) a1)]) (L' := [(5, .cells [.dat tI (List.length a0 : Int)]), (19, .seq tI r13)]) (obs := []) rfl (by kernel_rfl) allP0 ?_
      refine WO_frz 19 (by kernel_rfl) ?_
      refine WO_run (j := 4) (k := 1) (orcs := []) (kF := [5, 21]) (kL := [5, 21]) (fr' := [(5, .one (.ptr 5 0)), (21, .one (.slc 21))]) (L' := [(5, .cells [.dat tI (List.length a0 : Int)]), (21, .seq (.slice tI) [r13, a1])]) (obs := []) rfl (by kernel_rfl) allP0 ?_
      obtain ⟨r15, h16, h⟩ := bind_of h
      refine WO_frz 21 (by kernel_rfl) ?_
      refine WO_call1 (us := [none]) (d := 22) (t := 22) (p := True) (j := 5) rfl ⟨by kernel_rfl, by kernel_rfl, by kernel_rfl⟩ trivial (slices_Concat_Lintint_ok h16) (by kernel_rfl) ?_
      refine WO_run (j := 6) (k := 1) (orcs := []) (kF := [22, 23]) (kL := [5, 22]) (fr' := [(22, .one (.slc 22)), (23, .one (.fn 90 [(5, 0)]))]) (L' := [(5, .cells [.dat tI (List.length a0 : Int)]), (22, .seq tI r15)]) (obs := []) rfl (by kernel_rfl) allP0 ?_
      obtain ⟨r17, h18, h⟩ := bind_of h
      refine WO_frz 22 (by kernel_rfl) ?_
      refine WO_lend [(1000, 5)] (us := [none, none]) (d := 24) (p := True) (j := 7) rfl ⟨by kernel_rfl, by kernel_rfl, by kernel_rfl⟩ trivial (slices_ContainsFunc_Lintint_with_half_wrong_2_ok h18) (by kernel_rfl) (by kernel_rfl) ?_
      refine WO_fin [24] [] (fr' := [(24, aB r17)]) (L' := []) (by kernel_rfl) (by kernel_rfl) ?_
      refine seqQ_norm ?_
      refine W_cond (o := .tmp 24) (b := r17) (by kernel_rfl) (by kernel_rfl) (fun h19 => ?_) (fun h19 => ?_)
      · replace h := ofT h19 h
        refine W_seq (by kernel_rfl) ?_
        refine W_run 1 [] [4] [] (fr' := [(4, aI (2 : Int))]) (L' := []) (obs := []) (by kernel_rfl) (by kernel_rfl) (by kernel_rfl) allP0 ?_
        refine seqQ_norm ?_
        obtain rfl := Option.some.inj h
        refine W_ret [4] [] (fr' := [(4, aI (2 : Int))]) (L' := []) (by kernel_rfl) (by kernel_rfl) ?_
        refine seqQ_ret ?_
        exact retQ_mk (by kernel_rfl) (by kernel_rfl) (by kernel_rfl)
      · replace h := ofF h19 h
        refine W_skip [] [] (fr' := []) (L' := []) (by kernel_rfl) (by kernel_rfl) ?_
        refine seqQ_norm ?_
        refine W_seq (by kernel_rfl) ?_
        refine W_run 1 [] [4] [] (fr' := [(4, aI (0 : Int))]) (L' := []) (obs := []) (by kernel_rfl) (by kernel_rfl) (by kernel_rfl) allP0 ?_
        refine seqQ_norm ?_
        obtain rfl := Option.some.inj h
        refine W_ret [4] [] (fr' := [(4, aI (0 : Int))]) (L' := []) (by kernel_rfl) (by kernel_rfl) ?_
        exact retQ_mk (by kernel_rfl) (by kernel_rfl) (by kernel_rfl)

def math_bits_Mul64 (a0 : Int) (a1 : Int) : Option (Int × Int) :=
some (IntKind.wrap .u64 ((IntKind.wrap .u64 ((IntKind.wrap .u64 ((bShr .u64 a0 (32 : Int)) * (bShr .u64 a1 (32 : Int)))) + (bShr .u64 (IntKind.wrap .u64 ((IntKind.wrap .u64 ((bShr .u64 a0 (32 : Int)) * (bAnd .u64 a1 (4294967295 : Int)))) + (bShr .u64 (IntKind.wrap .u64 ((bAnd .u64 a0 (4294967295 : Int)) * (bAnd .u64 a1 (4294967295 : Int)))) (32 : Int)))) (32 : Int)))) + (bShr .u64 (IntKind.wrap .u64 ((bAnd .u64 (IntKind.wrap .u64 ((IntKind.wrap .u64 ((bShr .u64 a0 (32 : Int)) * (bAnd .u64 a1 (4294967295 : Int)))) + (bShr .u64 (IntKind.wrap .u64 ((bAnd .u64 a0 (4294967295 : Int)) * (bAnd .u64 a1 (4294967295 : Int)))) (32 : Int)))) (4294967295 : Int)) + (IntKind.wrap .u64 ((bAnd .u64 a0 (4294967295 : Int)) * (bShr .u64 a1 (32 : Int)))))) (32 : Int))), IntKind.wrap .u64 (a0 * a1))
theorem math_bits_Mul64_ok {a0 : Int} {a1 : Int} {r : (Int × Int)} (h : math_bits_Mul64 a0 a1 = some r) : FnC Try.prog 99 [aD (.int .u64) a0, aD (.int .u64) a1] [] (.tup [.dat (.int .u64) r.1, .dat (.int .u64) r.2]) [] := by
  refine fnC_of_W (B := bodyOf Try.f99) (n := 51) Try.func99 (by kernel_rfl) (by kernel_rfl) (by kernel_rfl) (by kernel_rfl) (by kernel_rfl) ?_
  intro K
  refine W_seq (by kernel_rfl) ?_
  refine W_run 2 [] [0, 1] [] (fr' := [(0, aD (.int .u64) a0), (1, aD (.int .u64) a1)]) (L' := []) (obs := []) (by kernel_rfl) (by kernel_rfl) (by kernel_rfl) allP0 ?_
  refine seqQ_norm ?_
  refine W_seq (by kernel_rfl) ?_
  refine W_run 3 [] [0, 1, 6] [] (fr' := [(0, aD (.int .u64) a0), (1, aD (.int .u64) a1), (6, aD (.int .u64) (bAnd .u64 a0 (4294967295 : Int)))]) (L' := []) (obs := []) (by kernel_rfl) (by kernel_rfl) (by kernel_rfl) allP0 ?_
  refine seqQ_norm ?_
  refine W_seq (by kernel_rfl) ?_
  refine W_run 3 [] [0, 1, 6, 7] [] (fr' := [(0, aD (.int .u64) a0), (1, aD (.int .u64) a1), (6, aD (.int .u64) (bAnd .u64 a0 (4294967295 : Int))), (7, aD (.int .u64) (bShr .u64 a0 (32 : Int)))]) (L' := []) (obs := [(0 ≤ (32 : Int))]) (by kernel_rfl) (by kernel_rfl) (by kernel_rfl) (allP1 (by decide)) ?_
  refine seqQ_norm ?_
  refine W_seq (by kernel_rfl) ?_
  refine W_run 3 [] [0, 1, 6, 7, 8] [] (fr' := [(0, aD (.int .u64) a0), (1, aD (.int .u64) a1), (6, aD (.int .u64) (bAnd .u64 a0 (4294967295 : Int))), (7, aD (.int .u64) (bShr .u64 a0 (32 : Int))), (8, aD (.int .u64) (bAnd .u64 a1 (4294967295 : Int)))]) (L' := []) (obs := []) (by kernel_rfl) (by kernel_rfl) (by kernel_rfl) allP0 ?_
  refine seqQ_norm ?_
  refine W_seq (by kernel_rfl) ?_
  refine W_run 3 [] [0, 1, 6, 7, 8, 9] [] (fr' := [(0, aD (.int .u64) a0), (1, aD (.int .u64) a1), (6, aD (.int .u64) (bAnd .u64 a0 (4294967295 : Int))), (7, aD (.int .u64) (bShr .u64 a0 (32 : Int))), (8, aD (.int .u64) (bAnd .u64 a1 (4294967295 : Int))), (9, aD (.int .u64) (bShr .u64 a1 (32 : Int)))]) (L' := []) (obs := [(0 ≤ (32 : Int))]) (by kernel_rfl) (by kernel_rfl) (by kernel_rfl) (allP1 (by decide)) ?_
  refine seqQ_norm ?_
  refine W_seq (by kernel_rfl) ?_
  refine W_run 4 [] [0, 1, 6, 7, 8, 9, 10] [] (fr' := [(0, aD (.int .u64) a0), (1, aD (.int .u64) a1), (6, aD (.int .u64) (bAnd .u64 a0 (4294967295 : Int))), (7, aD (.int .u64) (bShr .u64 a0 (32 : Int))), (8, aD (.int .u64) (bAnd .u64 a1 (4294967295 : Int))), (9, aD (.int .u64) (bShr .u64 a1 (32 : Int))), (10, aD (.int .u64) (IntKind.wrap .u64 ((bAnd .u64 a0 (4294967295 : Int)) * (bAnd .u64 a1 (4294967295 : Int)))))]) (L' := []) (obs := []) (by kernel_rfl) (by kernel_rfl) (by kernel_rfl) allP0 ?_
  refine seqQ_norm ?_
  refine W_seq (by kernel_rfl) ?_
  refine W_run 7 [] [0, 1, 6, 7, 9, 11] [] (fr' := [(0, aD (.int .u64) a0), (1, aD (.int .u64) a1), (6, aD (.int .u64) (bAnd .u64 a0 (4294967295 : Int))), (7, aD (.int .u64) (bShr .u64 a0 (32 : Int))), (9, aD (.int .u64) (bShr .u64 a1 (32 : Int))), (11, aD (.int .u64) (IntKind.wrap .u64 ((IntKind.wrap .u64 ((bShr .u64 a0 (32 : Int)) * (bAnd .u64 a1 (4294967295 : Int)))) + (bShr .u64 (IntKind.wrap .u64 ((bAnd .u64 a0 (4294967295 : Int)) * (bAnd .u64 a1 (4294967295 : Int)))) (32 : Int)))))]) (L' := []) (obs := [(0 ≤ (32 : Int))]) (by kernel_rfl) (by kernel_rfl) (by kernel_rfl) (allP1 (by decide)) ?_
  refine seqQ_norm ?_
  refine W_seq (by kernel_rfl) ?_
  refine W_run 3 [] [0, 1, 6, 7, 9, 11, 12] [] (fr' := [(0, aD (.int .u64) a0), (1, aD (.int .u64) a1), (6, aD (.int .u64) (bAnd .u64 a0 (4294967295 : Int))), (7, aD (.int .u64) (bShr .u64 a0 (32 : Int))), (9, aD (.int .u64) (bShr .u64 a1 (32 : Int))), (11, aD (.int .u64) (IntKind.wrap .u64 ((IntKind.wrap .u64 ((bShr .u64 a0 (32 : Int)) * (bAnd .u64 a1 (4294967295 : Int)))) + (bShr .u64 (IntKind.wrap .u64 ((bAnd .u64 a0 (4294967295 : Int)) * (bAnd .u64 a1 (4294967295 : Int)))) (32 : Int))))), (12, aD (.int .u64) (bAnd .u64 (IntKind.wrap .u64 ((IntKind.wrap .u64 ((bShr .u64 a0 (32 : Int)) * (bAnd .u64 a1 (4294967295 : Int)))) + (bShr .u64 (IntKind.wrap .u64 ((bAnd .u64 a0 (4294967295 : Int)) * (bAnd .u64 a1 (4294967295 : Int)))) (32 : Int)))) (4294967295 : Int)))]) (L' := []) (obs := []) (by kernel_rfl) (by kernel_rfl) (by kernel_rfl) allP0 ?_
  refine seqQ_norm ?_
  refine W_seq (by kernel_rfl) ?_
  refine W_run 3 [] [0, 1, 6, 7, 9, 12, 13] [] (fr' := [(0, aD (.int .u64) a0), (1, aD (.int .u64) a1), (6, aD (.int .u64) (bAnd .u64 a0 (4294967295 : Int))), (7, aD (.int .u64) (bShr .u64 a0 (32 : Int))), (9, aD (.int .u64) (bShr .u64 a1 (32 : Int))), (12, aD (.int .u64) (bAnd .u64 (IntKind.wrap .u64 ((IntKind.wrap .u64 ((bShr .u64 a0 (32 : Int)) * (bAnd .u64 a1 (4294967295 : Int)))) + (bShr .u64 (IntKind.wrap .u64 ((bAnd .u64 a0 (4294967295 : Int)) * (bAnd .u64 a1 (4294967295 : Int)))) (32 : Int)))) (4294967295 : Int))), (13, aD (.int .u64) (bShr .u64 (IntKind.wrap .u64 ((IntKind.wrap .u64 ((bShr .u64 a0 (32 : Int)) * (bAnd .u64 a1 (4294967295 : Int)))) + (bShr .u64 (IntKind.wrap .u64 ((bAnd .u64 a0 (4294967295 : Int)) * (bAnd .u64 a1 (4294967295 : Int)))) (32 : Int)))) (32 : Int)))]) (L' := []) (obs := [(0 ≤ (32 : Int))]) (by kernel_rfl) (by kernel_rfl) (by kernel_rfl) (allP1 (by decide)) ?_
  refine seqQ_norm ?_
  refine W_seq (by kernel_rfl) ?_
  refine W_run 6 [] [0, 1, 7, 9, 12, 13] [] (fr' := [(0, aD (.int .u64) a0), (1, aD (.int .u64) a1), (7, aD (.int .u64) (bShr .u64 a0 (32 : Int))), (9, aD (.int .u64) (bShr .u64 a1 (32 : Int))), (12, aD (.int .u64) (IntKind.wrap .u64 ((bAnd .u64 (IntKind.wrap .u64 ((IntKind.wrap .u64 ((bShr .u64 a0 (32 : Int)) * (bAnd .u64 a1 (4294967295 : Int)))) + (bShr .u64 (IntKind.wrap .u64 ((bAnd .u64 a0 (4294967295 : Int)) * (bAnd .u64 a1 (4294967295 : Int)))) (32 : Int)))) (4294967295 : Int)) + (IntKind.wrap .u64 ((bAnd .u64 a0 (4294967295 : Int)) * (bShr .u64 a1 (32 : Int))))))), (13, aD (.int .u64) (bShr .u64 (IntKind.wrap .u64 ((IntKind.wrap .u64 ((bShr .u64 a0 (32 : Int)) * (bAnd .u64 a1 (4294967295 : Int)))) + (bShr .u64 (IntKind.wrap .u64 ((bAnd .u64 a0 (4294967295 : Int)) * (bAnd .u64 a1 (4294967295 : Int)))) (32 : Int)))) (32 : Int)))]) (L' := []) (obs := []) (by kernel_rfl) (by kernel_rfl) (by kernel_rfl) allP0 ?_
  refine seqQ_norm ?_
  refine W_seq (by kernel_rfl) ?_
  refine W_run 9 [] [0, 1, 4] [] (fr' := [(0, aD (.int .u64) a0), (1, aD (.int .u64) a1), (4, aD (.int .u64) (IntKind.wrap .u64 ((IntKind.wrap .u64 ((IntKind.wrap .u64 ((bShr .u64 a0 (32 : Int)) * (bShr .u64 a1 (32 : Int)))) + (bShr .u64 (IntKind.wrap .u64 ((IntKind.wrap .u64 ((bShr .u64 a0 (32 : Int)) * (bAnd .u64 a1 (4294967295 : Int)))) + (bShr .u64 (IntKind.wrap .u64 ((bAnd .u64 a0 (4294967295 : Int)) * (bAnd .u64 a1 (4294967295 : Int)))) (32 : Int)))) (32 : Int)))) + (bShr .u64 (IntKind.wrap .u64 ((bAnd .u64 (IntKind.wrap .u64 ((IntKind.wrap .u64 ((bShr .u64 a0 (32 : Int)) * (bAnd .u64 a1 (4294967295 : Int)))) + (bShr .u64 (IntKind.wrap .u64 ((bAnd .u64 a0 (4294967295 : Int)) * (bAnd .u64 a1 (4294967295 : Int)))) (32 : Int)))) (4294967295 : Int)) + (IntKind.wrap .u64 ((bAnd .u64 a0 (4294967295 : Int)) * (bShr .u64 a1 (32 : Int)))))) (32 : Int)))))]) (L' := []) (obs := [(0 ≤ (32 : Int))]) (by kernel_rfl) (by kernel_rfl) (by kernel_rfl) (allP1 (by decide)) ?_
  refine seqQ_norm ?_
  refine W_seq (by kernel_rfl) ?_
  refine W_run 4 [] [4, 5] [] (fr' := [(4, aD (.int .u64) (IntKind.wrap .u64 ((IntKind.wrap .u64 ((IntKind.wrap .u64 ((bShr .u64 a0 (32 : Int)) * (bShr .u64 a1 (32 : Int)))) + (bShr .u64 (IntKind.wrap .u64 ((IntKind.wrap .u64 ((bShr .u64 a0 (32 : Int)) * (bAnd .u64 a1 (4294967295 : Int)))) + (bShr .u64 (IntKind.wrap .u64 ((bAnd .u64 a0 (4294967295 : Int)) * (bAnd .u64 a1 (4294967295 : Int)))) (32 : Int)))) (32 : Int)))) + (bShr .u64 (IntKind.wrap .u64 ((bAnd .u64 (IntKind.wrap .u64 ((IntKind.wrap .u64 ((bShr .u64 a0 (32 : Int)) * (bAnd .u64 a1 (4294967295 : Int)))) + (bShr .u64 (IntKind.wrap .u64 ((bAnd .u64 a0 (4294967295 : Int)) * (bAnd .u64 a1 (4294967295 : Int)))) (32 : Int)))) (4294967295 : Int)) + (IntKind.wrap .u64 ((bAnd .u64 a0 (4294967295 : Int)) * (bShr .u64 a1 (32 : Int)))))) (32 : Int))))), (5, aD (.int .u64) (IntKind.wrap .u64 (a0 * a1)))]) (L' := []) (obs := []) (by kernel_rfl) (by kernel_rfl) (by kernel_rfl) allP0 ?_
  refine seqQ_norm ?_
  obtain rfl := Option.some.inj h
  refine W_ret [4, 5] [] (fr' := [(4, aD (.int .u64) (IntKind.wrap .u64 ((IntKind.wrap .u64 ((IntKind.wrap .u64 ((bShr .u64 a0 (32 : Int)) * (bShr .u64 a1 (32 : Int)))) + (bShr .u64 (IntKind.wrap .u64 ((IntKind.wrap .u64 ((bShr .u64 a0 (32 : Int)) * (bAnd .u64 a1 (4294967295 : Int)))) + (bShr .u64 (IntKind.wrap .u64 ((bAnd .u64 a0 (4294967295 : Int)) * (bAnd .u64 a1 (4294967295 : Int)))) (32 : Int)))) (32 : Int)))) + (bShr .u64 (IntKind.wrap .u64 ((bAnd .u64 (IntKind.wrap .u64 ((IntKind.wrap .u64 ((bShr .u64 a0 (32 : Int)) * (bAnd .u64 a1 (4294967295 : Int)))) + (bShr .u64 (IntKind.wrap .u64 ((bAnd .u64 a0 (4294967295 : Int)) * (bAnd .u64 a1 (4294967295 : Int)))) (32 : Int)))) (4294967295 : Int)) + (IntKind.wrap .u64 ((bAnd .u64 a0 (4294967295 : Int)) * (bShr .u64 a1 (32 : Int)))))) (32 : Int))))), (5, aD (.int .u64) (IntKind.wrap .u64 (a0 * a1)))]) (L' := []) (by kernel_rfl) (by kernel_rfl) ?_
  exact retQ_mk (by kernel_rfl) (by kernel_rfl) (by kernel_rfl)

def math_bits_Mul (a0 : Int) (a1 : Int) : Option (Int × Int) :=
(math_bits_Mul64 a0 a1).bind fun r2 =>
some (r2.1, r2.2)
theorem math_bits_Mul_ok {a0 : Int} {a1 : Int} {r : (Int × Int)} (h : math_bits_Mul a0 a1 = some r) : FnC Try.prog 97 [aD (.int .u64) a0, aD (.int .u64) a1] [] (.tup [.dat (.int .u64) r.1, .dat (.int .u64) r.2]) [] := by
  refine fnC_of_W (B := bodyOf Try.f97) (n := 30) Try.func97 (by kernel_rfl) (by kernel_rfl) (by kernel_rfl) (by kernel_rfl) (by kernel_rfl) ?_
  intro K
  refine W_seq (by kernel_rfl) ?_
  refine W_run 2 [] [0, 1] [] (fr' := [(0, aD (.int .u64) a0), (1, aD (.int .u64) a1)]) (L' := []) (obs := []) (by kernel_rfl) (by kernel_rfl) (by kernel_rfl) allP0 ?_
  refine seqQ_norm ?_
  refine W_seq (by kernel_rfl) ?_
  refine W_cond (o := .const (.bool false)) (b := false) (by kernel_rfl) (by kernel_rfl) (fun h1 => by have := (rfl : false = false).symm.trans h1; cases this) (fun h1 => ?_)
  refine W_skip [0, 1] [] (fr' := [(0, aD (.int .u64) a0), (1, aD (.int .u64) a1)]) (L' := []) (by kernel_rfl) (by kernel_rfl) ?_
  refine seqQ_norm ?_
  refine W_seq (by kernel_rfl) ?_
  refine W_region (by kernel_rfl) ?_
  refine WO_run (j := 2) (k := 2) (orcs := []) (kF := [23, 24]) (kL := []) (fr' := [(23, aD (.int .u64) a0), (24, aD (.int .u64) a1)]) (L' := []) (obs := []) rfl (by kernel_rfl) allP0 ?_
  obtain ⟨r2, h3, h⟩ := bind_of h
  refine WO_call0 (us := [none, none]) (d := 25) (p := True) (j := 3) rfl ⟨by kernel_rfl, by kernel_rfl, by kernel_rfl⟩ trivial (math_bits_Mul64_ok h3) (by kernel_rfl) ?_
  refine WO_run (j := 8) (k := 5) (orcs := []) (kF := [8, 9]) (kL := []) (fr' := [(8, aD (.int .u64) r2.1), (9, aD (.int .u64) r2.2)]) (L' := []) (obs := []) rfl (by kernel_rfl) allP0 ?_
  refine WO_fin [8, 9] [] (fr' := [(8, aD (.int .u64) r2.1), (9, aD (.int .u64) r2.2)]) (L' := []) (by kernel_rfl) (by kernel_rfl) ?_
  refine seqQ_norm ?_
  refine W_seq (by kernel_rfl) ?_
  refine W_run 4 [] [4, 5] [] (fr' := [(4, aD (.int .u64) r2.1), (5, aD (.int .u64) r2.2)]) (L' := []) (obs := []) (by kernel_rfl) (by kernel_rfl) (by kernel_rfl) allP0 ?_
  refine seqQ_norm ?_
  obtain rfl := Option.some.inj h
  refine W_ret [4, 5] [] (fr' := [(4, aD (.int .u64) r2.1), (5, aD (.int .u64) r2.2)]) (L' := []) (by kernel_rfl) (by kernel_rfl) ?_
  exact retQ_mk (by kernel_rfl) (by kernel_rfl) (by kernel_rfl)

def slices_Repeat_Lintint_b4 (x42 : (Int × (List Int))) : Option (Flow (Int × (List Int)) (List Int)) :=
bif decide (x42.1 < (List.length x42.2 : Int)) then
((ck (0 ≤ x42.1 ∧ x42.1 ≤ (List.length x42.2 : Int) ∧ (List.length x42.2 : Int) ≤ (List.length x42.2 : Int))).bind fun _ =>
(ck (0 ≤ (0 : Int) ∧ (0 : Int) ≤ x42.1 ∧ x42.1 ≤ (List.length x42.2 : Int))).bind fun _ =>
some (.next (w64 (x42.1 + (min (x42.1 - (0 : Int)) ((List.length x42.2 : Int) - x42.1) : Int)), over x42.2 (Int.toNat x42.1) (List.take (Int.toNat (List.length x42.2 : Int) - Int.toNat x42.1) (List.take (Int.toNat x42.1 - Int.toNat (0 : Int)) (List.drop (Int.toNat (0 : Int)) x42.2))))))
else
(some (.done x42.2))
@[reducible] def slices_Repeat_Lintint_s5 (v : (Int × (List Int))) : Fr × LL := ([(7, .one (.slc 30)), (8, aI v.1)], [(30, .seq tI v.2)])
@[reducible] def slices_Repeat_Lintint_s6 (v : (List Int)) : Fr × LL := ([(7, .one (.slc 30))], [(30, .seq tI v)])
def slices_Repeat_Lintint (fuel : Nat) (a0 : (List Int)) (a1 : Int) : Option (List Int) :=
bif decide (a1 < (0 : Int)) then
(none)
else
((math_bits_Mul (IntKind.wrap .u64 ((List.length a0 : Int))) (IntKind.wrap .u64 (a1))).bind fun r30 =>
bif (decide (r30.1 > (0 : Int))) || (decide (r30.2 > (9223372036854775807 : Int))) then
(none)
else
((ck (0 ≤ w64 (r30.2) ∧ w64 (r30.2) = w64 (r30.2) ∧ w64 (r30.2) ≤ 4294967296)).bind fun _ =>
(ck (List.length (a0 : (List Int)) ≤ List.length (List.replicate (Int.toNat (w64 (r30.2))) (0 : Int) : (List Int)))).bind fun _ =>
(iter slices_Repeat_Lintint_b4 fuel ((List.length a0 : Int), over (List.replicate (Int.toNat (w64 (r30.2))) (0 : Int)) 0 a0)).bind fun v53 =>
some v53))
theorem slices_Repeat_Lintint_ok {fuel : Nat} {a0 : (List Int)} {a1 : Int} {r : (List Int)} (h : slices_Repeat_Lintint fuel a0 a1 = some r) : FnC Try.prog 91 [aD (.slice tI) a0, aI a1] [] (.one (.slc 30)) [(30, .seq tI r)] := by
  refine fnC_of_W (B := bodyOf Try.f91) (n := 48) Try.func91 (by kernel_rfl) (by kernel_rfl) (by kernel_rfl) (by kernel_rfl) (by kernel_rfl) ?_
  intro K
  refine W_seq (by kernel_rfl) ?_
  refine W_run 1 [] [0, 1] [] (fr' := [(0, aD (.slice tI) a0), (1, aI a1)]) (L' := []) (obs := []) (by kernel_rfl) (by kernel_rfl) (by kernel_rfl) allP0 ?_
  refine seqQ_norm ?_
  refine W_seq (by kernel_rfl) ?_
  refine W_seq (by kernel_rfl) ?_
  refine W_run 2 [] [0, 1, 10] [] (fr' := [(0, aD (.slice tI) a0), (1, aI a1), (10, aB (decide (a1 < (0 : Int))))]) (L' := []) (obs := []) (by kernel_rfl) (by kernel_rfl) (by kernel_rfl) allP0 ?_
  refine seqQ_norm ?_
  refine W_cond (o := .tmp 10) (b := decide (a1 < (0 : Int))) (by kernel_rfl) (by kernel_rfl) (fun h29 => ?_) (fun h29 => ?_)
  · replace h := ofT h29 h
    cases h
  · replace h := ofF h29 h
    refine W_skip [0, 1] [] (fr' := [(0, aD (.slice tI) a0), (1, aI a1)]) (L' := []) (by kernel_rfl) (by kernel_rfl) ?_
    refine seqQ_norm ?_
    refine W_seq (by kernel_rfl) ?_
    refine W_region (by kernel_rfl) ?_
    refine WO_run (j := 5) (k := 5) (orcs := []) (kF := [0, 15, 17]) (kL := []) (fr' := [(0, aD (.slice tI) a0), (15, aD (.int .u64) (IntKind.wrap .u64 ((List.length a0 : Int)))), (17, aD (.int .u64) (IntKind.wrap .u64 (a1)))]) (L' := []) (obs := []) rfl (by kernel_rfl) allP0 ?_
    obtain ⟨r30, h31, h⟩ := bind_of h
    refine WO_call0 (us := [none, none]) (d := 18) (p := True) (j := 6) rfl ⟨by kernel_rfl, by kernel_rfl, by kernel_rfl⟩ trivial (math_bits_Mul_ok h31) (by kernel_rfl) ?_
    refine WO_run (j := 11) (k := 5) (orcs := []) (kF := [0, 5, 6]) (kL := []) (fr' := [(0, aD (.slice tI) a0), (5, aD (.int .u64) r30.1), (6, aD (.int .u64) r30.2)]) (L' := []) (obs := []) rfl (by kernel_rfl) allP0 ?_
    refine WO_fin [0, 5, 6] [] (fr' := [(0, aD (.slice tI) a0), (5, aD (.int .u64) r30.1), (6, aD (.int .u64) r30.2)]) (L' := []) (by kernel_rfl) (by kernel_rfl) ?_
    refine seqQ_norm ?_
    refine W_seq (by kernel_rfl) ?_
    refine W_seq (by kernel_rfl) ?_
    refine W_run 6 [] [0, 6, 26] [] (fr' := [(0, aD (.slice tI) a0), (6, aD (.int .u64) r30.2), (26, aB ((decide (r30.1 > (0 : Int))) || (decide (r30.2 > (9223372036854775807 : Int)))))]) (L' := []) (obs := []) (by kernel_rfl) (by kernel_rfl) (by kernel_rfl) allP0 ?_
    refine seqQ_norm ?_
    refine W_cond (o := .tmp 26) (b := (decide (r30.1 > (0 : Int))) || (decide (r30.2 > (9223372036854775807 : Int)))) (by kernel_rfl) (by kernel_rfl) (fun h33 => ?_) (fun h33 => ?_)
    · replace h := ofT h33 h
      cases h
    · replace h := ofF h33 h
      refine W_skip [0, 6] [] (fr' := [(0, aD (.slice tI) a0), (6, aD (.int .u64) r30.2)]) (L' := []) (by kernel_rfl) (by kernel_rfl) ?_
      refine seqQ_norm ?_
      refine W_seq (by kernel_rfl) ?_
      obtain ⟨_, h34, h⟩ := bind_of h
      replace h34 := ck_some h34
      refine W_run 4 [] [0, 7] [30] (fr' := [(0, aD (.slice tI) a0), (7, .one (.slc 30))]) (L' := [(30, .seq tI (List.replicate (Int.toNat (w64 (r30.2))) (0 : Int)))]) (obs := [0 ≤ w64 (r30.2) ∧ w64 (r30.2) = w64 (r30.2) ∧ SmallLen (w64 (r30.2))]) (by kernel_rfl) (by kernel_rfl) (by kernel_rfl) (allP1 h34) ?_
      refine seqQ_norm ?_
      refine W_seq (by kernel_rfl) ?_
      obtain ⟨_, h35, h⟩ := bind_of h
      replace h35 := ck_some h35
      refine W_region (by kernel_rfl) ?_
      refine WO_run (j := 2) (k := 2) (orcs := []) (kF := [7, 31, 32]) (kL := [30]) (fr' := [(7, .one (.slc 30)), (31, .one (.slc 30)), (32, aD (.slice tI) a0)]) (L' := [(30, .seq tI (List.replicate (Int.toNat (w64 (r30.2))) (0 : Int)))]) (obs := []) rfl (by kernel_rfl) allP0 ?_
      refine WO_copy (d := 33) (s := 30) (o' := .seq tI (over (List.replicate (Int.toNat (w64 (r30.2))) (0 : Int)) 0 a0)) (r := (List.length a0 : Int)) (p := List.length (a0 : (List Int)) ≤ List.length (List.replicate (Int.toNat (w64 (r30.2))) (0 : Int) : (List Int))) (j := 3) rfl (by kernel_rfl) h35 ?_
      refine WO_run (j := 4) (k := 1) (orcs := []) (kF := [7, 8]) (kL := [30]) (fr' := [(7, .one (.slc 30)), (8, aI (List.length a0 : Int))]) (L' := [(30, .seq tI (over (List.replicate (Int.toNat (w64 (r30.2))) (0 : Int)) 0 a0))]) (obs := []) rfl (by kernel_rfl) allP0 ?_
      refine WO_fin [7, 8] [30] (fr' := [(7, .one (.slc 30)), (8, aI (List.length a0 : Int))]) (L' := [(30, .seq tI (over (List.replicate (Int.toNat (w64 (r30.2))) (0 : Int)) 0 a0))]) (by kernel_rfl) (by kernel_rfl) ?_
      refine seqQ_norm ?_
      refine W_seq (by kernel_rfl) ?_
      refine W_block (id := 0) (by kernel_rfl) ?_
      obtain ⟨v53, h54, h⟩ := bind_of h
      refine W_weaken [7, 8] [30] (fr' := (slices_Repeat_Lintint_s5 ((List.length a0 : Int), over (List.replicate (Int.toNat (w64 (r30.2))) (0 : Int)) 0 a0)).1) (L' := (slices_Repeat_Lintint_s5 ((List.length a0 : Int), over (List.replicate (Int.toNat (w64 (r30.2))) (0 : Int)) 0 a0)).2) (by kernel_rfl) ?_
      refine W_cutK (W_loop (S := slices_Repeat_Lintint_s5) (J := (exQ (.exit 0) slices_Repeat_Lintint_s6)) (by kernel_rfl) ?_ fuel _ v53 h54) ?_
      · rintro x42 s h
        refine W_seq (by kernel_rfl) ?_
        refine W_seq (by kernel_rfl) ?_
        refine W_run 4 [] [7, 8, 37] [30] (fr' := [(7, .one (.slc 30)), (8, aI x42.1), (37, aB (decide (x42.1 < (List.length x42.2 : Int))))]) (L' := [(30, .seq tI x42.2)]) (obs := []) (by kernel_rfl) (by kernel_rfl) (by kernel_rfl) allP0 ?_
        refine seqQ_norm ?_
        refine W_cond (o := .tmp 37) (b := decide (x42.1 < (List.length x42.2 : Int))) (by kernel_rfl) (by kernel_rfl) (fun h48 => ?_) (fun h48 => ?_)
        · replace h := ofT h48 h
          refine W_skip [7, 8] [30] (fr' := [(7, .one (.slc 30)), (8, aI x42.1)]) (L' := [(30, .seq tI x42.2)]) (by kernel_rfl) (by kernel_rfl) ?_
          refine seqQ_norm ?_
          refine W_block (id := 1) (by kernel_rfl) ?_
          obtain ⟨_, h51, h⟩ := bind_of h
          replace h51 := ck_some h51
          obtain ⟨_, h52, h⟩ := bind_of h
          replace h52 := ck_some h52
          refine W_drawT5 7 [0] [] [] [7, 8, 38, 41, 44] [30] (out := [(38, aI x42.1), (39, .one (.slc 30)), (40, aI x42.1), (41, .one (.sub 30 1 x42.1 (List.length x42.2 : Int))), (42, .one (.slc 30)), (43, aI x42.1), (44, .one (.sub 30 1 (0 : Int) x42.1))]) (obs := [Cuts x42.1 (List.length x42.2 : Int) (List.length x42.2), Cuts (0 : Int) x42.1 (List.length x42.2)]) (calls := []) (fr' := [(7, .one (.slc 30)), (8, aI x42.1), (38, aI x42.1), (41, .one (.sub 30 1 x42.1 (List.length x42.2 : Int))), (44, .one (.sub 30 1 (0 : Int) x42.1))]) (L' := [(30, .seq tI x42.2)]) (by kernel_rfl) (by kernel_rfl) (by kernel_rfl) (by kernel_rfl) (allP2 h51 (allP1 h52)) allD0 (by kernel_rfl) ?_
          refine WO_copy (d := 45) (s := 30) (o' := .seq tI (over x42.2 (Int.toNat x42.1) (List.take (Int.toNat (List.length x42.2 : Int) - Int.toNat x42.1) (List.take (Int.toNat x42.1 - Int.toNat (0 : Int)) (List.drop (Int.toNat (0 : Int)) x42.2))))) (r := (min (x42.1 - (0 : Int)) ((List.length x42.2 : Int) - x42.1) : Int)) (p := True) (j := 8) rfl (by kernel_rfl) trivial ?_
          refine WO_run (j := 10) (k := 2) (orcs := []) (kF := [7, 8]) (kL := [30]) (fr' := [(7, .one (.slc 30)), (8, aI (w64 (x42.1 + (min (x42.1 - (0 : Int)) ((List.length x42.2 : Int) - x42.1) : Int))))]) (L' := [(30, .seq tI (over x42.2 (Int.toNat x42.1) (List.take (Int.toNat (List.length x42.2 : Int) - Int.toNat x42.1) (List.take (Int.toNat x42.1 - Int.toNat (0 : Int)) (List.drop (Int.toNat (0 : Int)) x42.2)))))]) (obs := []) rfl (by kernel_rfl) allP0 ?_
          obtain rfl := Option.some.inj h
          refine WO_fin [7, 8] [30] (fr' := [(7, .one (.slc 30)), (8, aI (w64 (x42.1 + (min (x42.1 - (0 : Int)) ((List.length x42.2 : Int) - x42.1) : Int))))]) (L' := [(30, .seq tI (over x42.2 (Int.toNat x42.1) (List.take (Int.toNat (List.length x42.2 : Int) - Int.toNat x42.1) (List.take (Int.toNat x42.1 - Int.toNat (0 : Int)) (List.drop (Int.toNat (0 : Int)) x42.2)))))]) (by kernel_rfl) (by kernel_rfl) ?_
          refine ⟨rfl, ?_⟩
          refine blockQ_norm ?_
          exact round_next' (by kernel_rfl) (by kernel_rfl)
        · replace h := ofF h48 h
          obtain rfl := Option.some.inj h
          refine W_exit (id := 0) [7] [30] (fr' := [(7, .one (.slc 30))]) (L' := [(30, .seq tI x42.2)]) (by kernel_rfl) (by kernel_rfl) ?_
          refine seqQ_exit ?_
          refine round_exit ?_
          exact exQ_mk (by kernel_rfl) (by kernel_rfl)
      · intro e fr L hJ
        obtain ⟨rfl, rfl, rfl⟩ := hJ
        refine LT_keep [7] [30] (fr' := [(7, .one (.slc 30))]) (L' := [(30, .seq tI v53)]) (by kernel_rfl) ?_
        refine blockQ_hit ?_
        refine seqQ_norm ?_
        refine W_seq (by kernel_rfl) ?_
        refine W_run 2 [] [4] [30] (fr' := [(4, .one (.slc 30))]) (L' := [(30, .seq tI v53)]) (obs := []) (by kernel_rfl) (by kernel_rfl) (by kernel_rfl) allP0 ?_
        refine seqQ_norm ?_
        obtain rfl := Option.some.inj h
        refine W_ret [4] [30] (fr' := [(4, .one (.slc 30))]) (L' := [(30, .seq tI v53)]) (by kernel_rfl) (by kernel_rfl) ?_
        exact retQ_mk (by kernel_rfl) (by kernel_rfl) (by kernel_rfl)

def half_far_1 (a0 : Int) (c0 : Int) (c1 : (List Int)) : Option Bool :=
(idx c1 a0).bind fun v1 =>
some (v1 == c0)
theorem half_far_1_ok {a0 : Int} {c0 : Int} {c1 : (List Int)} {r : Bool} (h : half_far_1 a0 c0 c1 = some r) : FnC Try.prog 92 [aI a0, .one (.ptr 1000 0), .one (.ptr 1001 0)] [(1000, .cells [.slc 1002]), (1001, .cells [.dat tI c0]), (1002, .seq tI c1)] (aB r) [(1000, .cells [.slc 1002]), (1001, .cells [.dat tI c0]), (1002, .seq tI c1)] := by
  refine fnC_of_W (B := bodyOf Try.f92) (n := 11) Try.func92 (by kernel_rfl) (by kernel_rfl) (by kernel_rfl) (by kernel_rfl) (by kernel_rfl) ?_
  intro K
  refine W_seq (by kernel_rfl) ?_
  refine W_run 1 [] [0, 1, 2] [1000, 1001, 1002] (fr' := [(0, aI a0), (1, .one (.ptr 1000 0)), (2, .one (.ptr 1001 0))]) (L' := [(1000, .cells [.slc 1002]), (1001, .cells [.dat tI c0]), (1002, .seq tI c1)]) (obs := []) (by kernel_rfl) (by kernel_rfl) (by kernel_rfl) allP0 ?_
  refine seqQ_norm ?_
  refine W_seq (by kernel_rfl) ?_
  obtain ⟨v1, h2, h⟩ := bind_of h
  refine W_draw2 6 [(7, .val (.dat tI v1))] [] [4] [1000, 1001, 1002] (fr' := [(4, aB (v1 == c0))]) (L' := [(1000, .cells [.slc 1002]), (1001, .cells [.dat tI c0]), (1002, .seq tI c1)]) (out := [(5, .one (.slc 1002)), (6, aI a0), (7, .one (.eptr 1002 1 a0 0)), (8, aI v1), (9, aI c0), (10, aB (v1 == c0))]) (obs := [InR a0 (List.length c1), Idx c1 a0 v1]) (obs2 := []) (calls := []) (by kernel_rfl) (by kernel_rfl) (by kernel_rfl) (by kernel_rfl) (allP2 (InR.of h2) (allP1 (Idx.of h2))) allC0 (by kernel_rfl) allP0 ?_
  refine seqQ_norm ?_
  obtain rfl := Option.some.inj h
  refine W_ret [4] [1000, 1001, 1002] (fr' := [(4, aB (v1 == c0))]) (L' := [(1000, .cells [.slc 1002]), (1001, .cells [.dat tI c0]), (1002, .seq tI c1)]) (by kernel_rfl) (by kernel_rfl) ?_
  exact retQ_mk (by kernel_rfl) (by kernel_rfl) (by kernel_rfl)

def slices_IndexFunc_Lintint_with_half_far_1_b1 (c0 : Int) (c1 : (List Int)) (i15 : Int) (v18 : Int) (x16 : Unit) : Option (Flow Unit (Esc Int Unit)) :=
(half_far_1 v18 c0 c1).bind fun r21 =>
bif r21 then
(some (.done (.ret i15)))
else
(some (.next ()))
@[reducible] def slices_IndexFunc_Lintint_with_half_far_1_s2 (a0 : (List Int)) (c0 : Int) (c1 : (List Int)) (v : Int × Unit) : Fr × LL := ([(0, aD (.slice tI) a0), (1, .one (.fn 92 [(1000, 0), (1001, 0)])), (7, aI (List.length a0 : Int)), (8, aI v.1)], [(1000, .cells [.slc 1002]), (1001, .cells [.dat tI c0]), (1002, .seq tI c1)])
@[reducible] def slices_IndexFunc_Lintint_with_half_far_1_s3 (c0 : Int) (c1 : (List Int)) (v : Int) : Fr × LL := ([(4, aI v)], [(1000, .cells [.slc 1002]), (1001, .cells [.dat tI c0]), (1002, .seq tI c1)])
@[reducible] def slices_IndexFunc_Lintint_with_half_far_1_s4 (c0 : Int) (c1 : (List Int)) (v : Unit) : Fr × LL := ([], [(1000, .cells [.slc 1002]), (1001, .cells [.dat tI c0]), (1002, .seq tI c1)])
def slices_IndexFunc_Lintint_with_half_far_1 (a0 : (List Int)) (c0 : Int) (c1 : (List Int)) : Option Int :=
(forL (slices_IndexFunc_Lintint_with_half_far_1_b1 c0 c1) (fun x16 => (.brk ())) a0 0 ()).bind fun v25 =>
match v25 with
| .ret v30 =>
(some v30)
| .brk v31 =>
(some (-1 : Int))
theorem slices_IndexFunc_Lintint_with_half_far_1_ok {a0 : (List Int)} {c0 : Int} {c1 : (List Int)} {r : Int} (h : slices_IndexFunc_Lintint_with_half_far_1 a0 c0 c1 = some r) : FnC Try.prog 81 [aD (.slice tI) a0, .one (.fn 92 [(1000, 0), (1001, 0)])] [(1000, .cells [.slc 1002]), (1001, .cells [.dat tI c0]), (1002, .seq tI c1)] (aI r) [(1000, .cells [.slc 1002]), (1001, .cells [.dat tI c0]), (1002, .seq tI c1)] := by
  refine fnC_of_W (B := bodyOf Try.f81) (n := 19) Try.func81 (by kernel_rfl) (by kernel_rfl) (by kernel_rfl) (by kernel_rfl) (by kernel_rfl) ?_
  intro K
  refine W_seq (by kernel_rfl) ?_
  refine W_run 1 [] [0, 1] [1000, 1001, 1002] (fr' := [(0, aD (.slice tI) a0), (1, .one (.fn 92 [(1000, 0), (1001, 0)]))]) (L' := [(1000, .cells [.slc 1002]), (1001, .cells [.dat tI c0]), (1002, .seq tI c1)]) (obs := []) (by kernel_rfl) (by kernel_rfl) (by kernel_rfl) allP0 ?_
  refine seqQ_norm ?_
  refine W_seq (by kernel_rfl) ?_
  refine W_seq (by kernel_rfl) ?_
  refine W_run 3 [] [0, 1, 7, 8] [1000, 1001, 1002] (fr' := [(0, aD (.slice tI) a0), (1, .one (.fn 92 [(1000, 0), (1001, 0)])), (7, aI (List.length a0 : Int)), (8, aI (0 : Int))]) (L' := [(1000, .cells [.slc 1002]), (1001, .cells [.dat tI c0]), (1002, .seq tI c1)]) (obs := []) (by kernel_rfl) (by kernel_rfl) (by kernel_rfl) allP0 ?_
  refine seqQ_norm ?_
  refine W_block (id := 0) (by kernel_rfl) ?_
  obtain ⟨v25, h26, h⟩ := bind_of h
  refine W_len (t := 0) (u := tI) (xs := a0) (by kernel_rfl) (fun h29 => ?_)
  obtain ⟨h27, h28⟩ := forL_iter h29 h26
  refine W_weaken [0, 1, 7, 8] [1000, 1001, 1002] (fr' := ((slices_IndexFunc_Lintint_with_half_far_1_s2 a0 c0 c1) ((0 : Int), ())).1) (L' := ((slices_IndexFunc_Lintint_with_half_far_1_s2 a0 c0 c1) ((0 : Int), ())).2) (by kernel_rfl) ?_
  refine W_cutK (W_loop (S := (slices_IndexFunc_Lintint_with_half_far_1_s2 a0 c0 c1)) (J := (escQ (exQ .ret (slices_IndexFunc_Lintint_with_half_far_1_s3 c0 c1)) (exQ (.exit 0) (slices_IndexFunc_Lintint_with_half_far_1_s4 c0 c1)))) (by kernel_rfl) ?_ h27 _ v25 h28) ?_
  · rintro ⟨i15, x16⟩ s h
    refine W_seq (by kernel_rfl) ?_
    refine W_run 1 [] [0, 1, 7, 8, 9] [1000, 1001, 1002] (fr' := [(0, aD (.slice tI) a0), (1, .one (.fn 92 [(1000, 0), (1001, 0)])), (7, aI (List.length a0 : Int)), (8, aI i15), (9, aB (decide (i15 < (List.length a0 : Int))))]) (L' := [(1000, .cells [.slc 1002]), (1001, .cells [.dat tI c0]), (1002, .seq tI c1)]) (obs := []) (by kernel_rfl) (by kernel_rfl) (by kernel_rfl) allP0 ?_
    refine seqQ_norm ?_
    refine W_seq (by kernel_rfl) ?_
    refine W_cond (o := .tmp 9) (b := decide (i15 < (List.length a0 : Int))) (by kernel_rfl) (by kernel_rfl) (fun h20 => ?_) (fun h20 => ?_)
    · replace h := stepL_true h20 h
      obtain ⟨v18, _, h19, h, rfl⟩ := h
      refine W_skip [0, 1, 7, 8] [1000, 1001, 1002] (fr' := [(0, aD (.slice tI) a0), (1, .one (.fn 92 [(1000, 0), (1001, 0)])), (7, aI (List.length a0 : Int)), (8, aI i15)]) (L' := [(1000, .cells [.slc 1002]), (1001, .cells [.dat tI c0]), (1002, .seq tI c1)]) (by kernel_rfl) (by kernel_rfl) ?_
      refine seqQ_norm ?_
      refine W_seq (by kernel_rfl) ?_
      refine W_block (id := 1) (by kernel_rfl) ?_
      refine W_seq (by kernel_rfl) ?_
      refine W_run 2 [] [0, 1, 5, 7, 8] [1000, 1001, 1002] (fr' := [(0, aD (.slice tI) a0), (1, .one (.fn 92 [(1000, 0), (1001, 0)])), (5, aI i15), (7, aI (List.length a0 : Int)), (8, aI i15)]) (L' := [(1000, .cells [.slc 1002]), (1001, .cells [.dat tI c0]), (1002, .seq tI c1)]) (obs := []) (by kernel_rfl) (by kernel_rfl) (by kernel_rfl) allP0 ?_
      refine seqQ_norm ?_
      refine W_seq (by kernel_rfl) ?_
      refine W_region (by kernel_rfl) ?_
      refine WO_run (j := 5) (k := 5) (orcs := [(7, .val (.dat tI v18))]) (kF := [0, 1, 5, 7, 8, 11, 15]) (kL := [1000, 1001, 1002]) (fr' := [(0, aD (.slice tI) a0), (1, .one (.fn 92 [(1000, 0), (1001, 0)])), (5, aI i15), (7, aI (List.length a0 : Int)), (8, aI i15), (11, .one (.fn 92 [(1000, 0), (1001, 0)])), (15, aI v18)]) (L' := [(1000, .cells [.slc 1002]), (1001, .cells [.dat tI c0]), (1002, .seq tI c1)]) (obs := [Idx a0 i15 v18]) rfl (by kernel_rfl) (allP1 (Idx.of h19)) ?_
      obtain ⟨r21, h22, h⟩ := bind_of h
      refine WO_lend [(1000, 1000), (1001, 1001), (1002, 1002)] (us := [none, none, none]) (d := 16) (p := True) (j := 6) rfl ⟨by kernel_rfl, by kernel_rfl, by kernel_rfl⟩ trivial (half_far_1_ok h22) (by kernel_rfl) (by kernel_rfl) ?_
      refine WO_fin [0, 1, 5, 7, 8, 16] [1000, 1001, 1002] (fr' := [(0, aD (.slice tI) a0), (1, .one (.fn 92 [(1000, 0), (1001, 0)])), (5, aI i15), (7, aI (List.length a0 : Int)), (8, aI i15), (16, aB r21)]) (L' := [(1000, .cells [.slc 1002]), (1001, .cells [.dat tI c0]), (1002, .seq tI c1)]) (by kernel_rfl) (by kernel_rfl) ?_
      refine seqQ_norm ?_
      refine W_cond (o := .tmp 16) (b := r21) (by kernel_rfl) (by kernel_rfl) (fun h23 => ?_) (fun h23 => ?_)
      · replace h := ofT h23 h
        refine W_seq (by kernel_rfl) ?_
        refine W_run 2 [] [4] [1000, 1001, 1002] (fr' := [(4, aI i15)]) (L' := [(1000, .cells [.slc 1002]), (1001, .cells [.dat tI c0]), (1002, .seq tI c1)]) (obs := []) (by kernel_rfl) (by kernel_rfl) (by kernel_rfl) allP0 ?_
        refine seqQ_norm ?_
        obtain rfl := Option.some.inj h
        refine W_ret [4] [1000, 1001, 1002] (fr' := [(4, aI i15)]) (L' := [(1000, .cells [.slc 1002]), (1001, .cells [.dat tI c0]), (1002, .seq tI c1)]) (by kernel_rfl) (by kernel_rfl) ?_
        refine blockQ_ret ?_
        refine seqQ_ret ?_
        refine round_ret ?_
        refine escQ_ret ?_
        exact exQ_mk (by kernel_rfl) (by kernel_rfl)
      · replace h := ofF h23 h
        refine W_skip [0, 1, 7, 8] [1000, 1001, 1002] (fr' := [(0, aD (.slice tI) a0), (1, .one (.fn 92 [(1000, 0), (1001, 0)])), (7, aI (List.length a0 : Int)), (8, aI i15)]) (L' := [(1000, .cells [.slc 1002]), (1001, .cells [.dat tI c0]), (1002, .seq tI c1)]) (by kernel_rfl) (by kernel_rfl) ?_
        refine blockQ_norm ?_
        refine seqQ_norm ?_
        obtain rfl := Option.some.inj h
        refine W_run 2 [] [0, 1, 7, 8] [1000, 1001, 1002] (fr' := [(0, aD (.slice tI) a0), (1, .one (.fn 92 [(1000, 0), (1001, 0)])), (7, aI (List.length a0 : Int)), (8, aI (w64 (i15 + (1 : Int))))]) (L' := [(1000, .cells [.slc 1002]), (1001, .cells [.dat tI c0]), (1002, .seq tI c1)]) (obs := []) (by kernel_rfl) (by kernel_rfl) (by kernel_rfl) allP0 ?_
        exact round_next' (by kernel_rfl) (by kernel_rfl)
    · obtain rfl := stepL_false h20 h
      refine W_exit (id := 0) [] [1000, 1001, 1002] (fr' := []) (L' := [(1000, .cells [.slc 1002]), (1001, .cells [.dat tI c0]), (1002, .seq tI c1)]) (by kernel_rfl) (by kernel_rfl) ?_
      refine seqQ_exit ?_
      refine round_exit ?_
      refine escQ_brk ?_
      exact exQ_mk (by kernel_rfl) (by kernel_rfl)
  · intro e fr L hJ
    rcases v25 with v30 | v31
    · obtain ⟨rfl, rfl, rfl⟩ := hJ
      obtain rfl := Option.some.inj h
      refine LT_keep [4] [1000, 1001, 1002] (fr' := [(4, aI v30)]) (L' := [(1000, .cells [.slc 1002]), (1001, .cells [.dat tI c0]), (1002, .seq tI c1)]) (by kernel_rfl) ?_
      refine blockQ_ret ?_
      refine seqQ_ret ?_
      exact retQ_mk (by kernel_rfl) (by kernel_rfl) (by kernel_rfl)
    · obtain ⟨rfl, rfl, rfl⟩ := hJ
      refine LT_keep [] [1000, 1001, 1002] (fr' := []) (L' := [(1000, .cells [.slc 1002]), (1001, .cells [.dat tI c0]), (1002, .seq tI c1)]) (by kernel_rfl) ?_
      refine blockQ_hit ?_
      refine seqQ_norm ?_
      refine W_seq (by kernel_rfl) ?_
      refine W_run 1 [] [4] [1000, 1001, 1002] (fr' := [(4, aI (-1 : Int))]) (L' := [(1000, .cells [.slc 1002]), (1001, .cells [.dat tI c0]), (1002, .seq tI c1)]) (obs := []) (by kernel_rfl) (by kernel_rfl) (by kernel_rfl) allP0 ?_
      refine seqQ_norm ?_
      obtain rfl := Option.some.inj h
      refine W_ret [4] [1000, 1001, 1002] (fr' := [(4, aI (-1 : Int))]) (L' := [(1000, .cells [.slc 1002]), (1001, .cells [.dat tI c0]), (1002, .seq tI c1)]) (by kernel_rfl) (by kernel_rfl) ?_
      exact retQ_mk (by kernel_rfl) (by kernel_rfl) (by kernel_rfl)

def slices_ContainsFunc_Lintint_with_half_far_1 (a0 : (List Int)) (c0 : Int) (c1 : (List Int)) : Option Bool :=
(slices_IndexFunc_Lintint_with_half_far_1 a0 c0 c1).bind fun r1 =>
some (decide (r1 ≥ (0 : Int)))
theorem slices_ContainsFunc_Lintint_with_half_far_1_ok {a0 : (List Int)} {c0 : Int} {c1 : (List Int)} {r : Bool} (h : slices_ContainsFunc_Lintint_with_half_far_1 a0 c0 c1 = some r) : FnC Try.prog 53 [aD (.slice tI) a0, .one (.fn 92 [(1000, 0), (1001, 0)])] [(1000, .cells [.slc 1002]), (1001, .cells [.dat tI c0]), (1002, .seq tI c1)] (aB r) [(1000, .cells [.slc 1002]), (1001, .cells [.dat tI c0]), (1002, .seq tI c1)] := by
  refine fnC_of_W (B := bodyOf Try.f53) (n := 9) Try.func53 (by kernel_rfl) (by kernel_rfl) (by kernel_rfl) (by kernel_rfl) (by kernel_rfl) ?_
  intro K
  refine W_seq (by kernel_rfl) ?_
  refine W_run 1 [] [0, 1] [1000, 1001, 1002] (fr' := [(0, aD (.slice tI) a0), (1, .one (.fn 92 [(1000, 0), (1001, 0)]))]) (L' := [(1000, .cells [.slc 1002]), (1001, .cells [.dat tI c0]), (1002, .seq tI c1)]) (obs := []) (by kernel_rfl) (by kernel_rfl) (by kernel_rfl) allP0 ?_
  refine seqQ_norm ?_
  refine W_seq (by kernel_rfl) ?_
  refine W_region (by kernel_rfl) ?_
  refine WO_run (j := 2) (k := 2) (orcs := []) (kF := [5, 6]) (kL := [1000, 1001, 1002]) (fr' := [(5, aD (.slice tI) a0), (6, .one (.fn 92 [(1000, 0), (1001, 0)]))]) (L' := [(1000, .cells [.slc 1002]), (1001, .cells [.dat tI c0]), (1002, .seq tI c1)]) (obs := []) rfl (by kernel_rfl) allP0 ?_
  obtain ⟨r1, h2, h⟩ := bind_of h
  refine WO_lend [(1000, 1000), (1001, 1001), (1002, 1002)] (us := [none, none]) (d := 7) (p := True) (j := 3) rfl ⟨by kernel_rfl, by kernel_rfl, by kernel_rfl⟩ trivial (slices_IndexFunc_Lintint_with_half_far_1_ok h2) (by kernel_rfl) (by kernel_rfl) ?_
  refine WO_run (j := 5) (k := 2) (orcs := []) (kF := [4]) (kL := [1000, 1001, 1002]) (fr' := [(4, aB (decide (r1 ≥ (0 : Int))))]) (L' := [(1000, .cells [.slc 1002]), (1001, .cells [.dat tI c0]), (1002, .seq tI c1)]) (obs := []) rfl (by kernel_rfl) allP0 ?_
  refine WO_fin [4] [1000, 1001, 1002] (fr' := [(4, aB (decide (r1 ≥ (0 : Int))))]) (L' := [(1000, .cells [.slc 1002]), (1001, .cells [.dat tI c0]), (1002, .seq tI c1)]) (by kernel_rfl) (by kernel_rfl) ?_
  refine seqQ_norm ?_
  obtain rfl := Option.some.inj h
  refine W_ret [4] [1000, 1001, 1002] (fr' := [(4, aB (decide (r1 ≥ (0 : Int))))]) (L' := [(1000, .cells [.slc 1002]), (1001, .cells [.dat tI c0]), (1002, .seq tI c1)]) (by kernel_rfl) (by kernel_rfl) ?_
  exact retQ_mk (by kernel_rfl) (by kernel_rfl) (by kernel_rfl)

def half_far_g75 (i437 : Int) (i583 : Int) (x584 : (List Int)) (v586 : (List Int)) : Option Bool :=
(idx x584 i583).bind fun v639 =>
bif decide (v639 < (0 : Int)) then
((slices_ContainsFunc_Lintint_with_half_far_1 v586 i437 x584).bind fun r642 =>
some r642)
else
(some false)
@[reducible] def half_far_s76 (a0 : (List (List Int))) (i437 : Int) (i583 : Int) (x584 : (List Int)) (v : Bool) : Fr × LL := ([(0, aD (.slice (.slice tI)) a0), (5, .one (.ptr 5 0)), (6, .one (.ptr 6 0)), (7, aI i583), (17, aI (List.length a0 : Int)), (18, aI i437), (21, aD (.slice (.slice tI)) a0), (22, aI (List.length a0 : Int)), (23, aI i583), (37, aB v)], [(5, .cells [.slc 12]), (6, .cells [.dat tI i437]), (12, .seq tI x584)])
def half_far_g77 (i437 : Int) (i583 : Int) (x584 : (List Int)) (v586 : (List Int)) : Option (List Int) :=
(half_far_g75 i437 i583 x584 v586).bind fun v644 =>
bif v644 then
((idx x584 i583).bind fun v647 =>
some (List.set x584 (Int.toNat i583) (w64 (i437 + (1 : Int)))))
else
(some x584)
@[reducible] def half_far_s78 (a0 : (List (List Int))) (i437 : Int) (i583 : Int) (v : (List Int)) : Fr × LL := ([(0, aD (.slice (.slice tI)) a0), (5, .one (.ptr 5 0)), (6, .one (.ptr 6 0)), (17, aI (List.length a0 : Int)), (18, aI i437), (21, aD (.slice (.slice tI)) a0), (22, aI (List.length a0 : Int)), (23, aI i583)], [(5, .cells [.slc 12]), (6, .cells [.dat tI i437]), (12, .seq tI v)])
def half_far_b79 (i437 : Int) (i583 : Int) (v586 : (List Int)) (x584 : (List Int)) : Option (Flow (List Int) (List Int)) :=
(half_far_g77 i437 i583 x584 v586).bind fun v649 =>
some (.next v649)
@[reducible] def half_far_s80 (a0 : (List (List Int))) (i437 : Int) (v : Int × (List Int)) : Fr × LL := ([(0, aD (.slice (.slice tI)) a0), (5, .one (.ptr 5 0)), (6, .one (.ptr 6 0)), (17, aI (List.length a0 : Int)), (18, aI i437), (21, aD (.slice (.slice tI)) a0), (22, aI (List.length a0 : Int)), (23, aI v.1)], [(5, .cells [.slc 12]), (6, .cells [.dat tI i437]), (12, .seq tI v.2)])
@[reducible] def half_far_s81 (a0 : (List (List Int))) (i437 : Int) (v : (List Int)) : Fr × LL := ([(0, aD (.slice (.slice tI)) a0), (5, .one (.ptr 5 0)), (17, aI (List.length a0 : Int)), (18, aI i437)], [(5, .cells [.slc 12]), (12, .seq tI v)])
def half_far_b82 (a0 : (List (List Int))) (i437 : Int) (v440 : (List Int)) (x438 : (List Int)) : Option (Flow (List Int) (List Int)) :=
(forL (half_far_b79 i437) (fun x584 => x584) a0 0 x438).bind fun v652 =>
some (.next v652)
@[reducible] def half_far_s83 (a0 : (List (List Int))) (v : Int × (List Int)) : Fr × LL := ([(0, aD (.slice (.slice tI)) a0), (5, .one (.ptr 5 0)), (17, aI (List.length a0 : Int)), (18, aI v.1)], [(5, .cells [.slc 12]), (12, .seq tI v.2)])
@[reducible] def half_far_s84 (v : (List Int)) : Fr × LL := ([(5, .one (.ptr 5 0))], [(5, .cells [.slc 12]), (12, .seq tI v)])
def half_far (fuel : Nat) (a0 : (List (List Int))) (a1 : Int) : Option (List Int) :=
(slices_Repeat_Lintint fuel [(-1 : Int)] (List.length a0 : Int)).bind fun r1 =>
(idx r1 a1).bind fun v3 =>
(forL (half_far_b82 a0) (fun x438 => x438) a0 0 (List.set r1 (Int.toNat a1) (0 : Int))).bind fun v658 =>
some v658
theorem half_far_ok {fuel : Nat} {a0 : (List (List Int))} {a1 : Int} {r : (List Int)} (h : half_far fuel a0 a1 = some r) : FnC Try.prog 74 [aD (.slice (.slice tI)) a0, aI a1] [] (aD (.slice tI) r) [] := by
  refine fnC_of_W (B := bodyOf Try.f74) (n := 46) Try.func74 (by kernel_rfl) (by kernel_rfl) (by kernel_rfl) (by kernel_rfl) (by kernel_rfl) ?_
  intro K
  refine W_seq (by kernel_rfl) ?_
  refine W_run 1 [] [0, 1] [] (fr' := [(0, aD (.slice (.slice tI)) a0), (1, aI a1)]) (L' := []) (obs := []) (by kernel_rfl) (by kernel_rfl) (by kernel_rfl) allP0 ?_
  refine seqQ_norm ?_
  refine W_seq (by kernel_rfl) ?_
  refine W_region (by kernel_rfl) ?_
  refine WO_run (j := 3) (k := 3) (orcs := []) (kF := [0, 1, 9, 11]) (kL := [9]) (fr' := [(0, aD (.slice (.slice tI)) a0), (1, aI a1), (9, .one (.slc 9)), (11, aI (List.length a0 : Int))]) (L' := [(9, .seq tI [(-1 : Int)])]) (obs := []) rfl (by kernel_rfl) allP0 ?_
  obtain ⟨r1, h2, h⟩ := bind_of h
  refine WO_frz 9 (by kernel_rfl) ?_
  refine WO_call1 (us := [none, none]) (d := 12) (t := 12) (p := True) (j := 4) rfl ⟨by kernel_rfl, by kernel_rfl, by kernel_rfl⟩ trivial (slices_Repeat_Lintint_ok h2) (by kernel_rfl) ?_
  refine WO_run (j := 6) (k := 2) (orcs := []) (kF := [0, 1, 5]) (kL := [5, 12]) (fr' := [(0, aD (.slice (.slice tI)) a0), (1, aI a1), (5, .one (.ptr 5 0))]) (L' := [(5, .cells [.slc 12]), (12, .seq tI r1)]) (obs := [True]) rfl (by kernel_rfl) (allP1 trivial) ?_
  refine WO_fin [0, 1, 5] [5, 12] (fr' := [(0, aD (.slice (.slice tI)) a0), (1, aI a1), (5, .one (.ptr 5 0))]) (L' := [(5, .cells [.slc 12]), (12, .seq tI r1)]) (by kernel_rfl) (by kernel_rfl) ?_
  refine seqQ_norm ?_
  refine W_seq (by kernel_rfl) ?_
  obtain ⟨v3, h4, h⟩ := bind_of h
  refine W_run 4 [] [0, 5] [5, 12] (fr' := [(0, aD (.slice (.slice tI)) a0), (5, .one (.ptr 5 0))]) (L' := [(5, .cells [.slc 12]), (12, .seq tI (List.set r1 (Int.toNat a1) (0 : Int)))]) (obs := [InR a1 (List.length r1), InR a1 (List.length r1)]) (by kernel_rfl) (by kernel_rfl) (by kernel_rfl) (allP2 (InR.of h4) (allP1 (InR.of h4))) ?_
  refine seqQ_norm ?_
  refine W_seq (by kernel_rfl) ?_
  refine W_seq (by kernel_rfl) ?_
  refine W_run 3 [] [0, 5, 17, 18] [5, 12] (fr' := [(0, aD (.slice (.slice tI)) a0), (5, .one (.ptr 5 0)), (17, aI (List.length a0 : Int)), (18, aI (0 : Int))]) (L' := [(5, .cells [.slc 12]), (12, .seq tI (List.set r1 (Int.toNat a1) (0 : Int)))]) (obs := []) (by kernel_rfl) (by kernel_rfl) (by kernel_rfl) allP0 ?_
  refine seqQ_norm ?_
  refine W_block (id := 0) (by kernel_rfl) ?_
  obtain ⟨v658, h659, h⟩ := bind_of h
  refine W_len (t := 0) (u := (.slice tI)) (xs := a0) (by kernel_rfl) (fun h662 => ?_)
  obtain ⟨h660, h661⟩ := forL_iter h662 h659
  refine W_weaken [0, 5, 17, 18] [5, 12] (fr' := ((half_far_s83 a0) ((0 : Int), List.set r1 (Int.toNat a1) (0 : Int))).1) (L' := ((half_far_s83 a0) ((0 : Int), List.set r1 (Int.toNat a1) (0 : Int))).2) (by kernel_rfl) ?_
  refine W_cutK (W_loop (S := (half_far_s83 a0)) (J := (exQ (.exit 0) half_far_s84)) (by kernel_rfl) ?_ h660 _ v658 h661) ?_
  · rintro ⟨i437, x438⟩ s h
    refine W_seq (by kernel_rfl) ?_
    refine W_run 1 [] [0, 5, 17, 18, 19] [5, 12] (fr' := [(0, aD (.slice (.slice tI)) a0), (5, .one (.ptr 5 0)), (17, aI (List.length a0 : Int)), (18, aI i437), (19, aB (decide (i437 < (List.length a0 : Int))))]) (L' := [(5, .cells [.slc 12]), (12, .seq tI x438)]) (obs := []) (by kernel_rfl) (by kernel_rfl) (by kernel_rfl) allP0 ?_
    refine seqQ_norm ?_
    refine W_seq (by kernel_rfl) ?_
    refine W_cond (o := .tmp 19) (b := decide (i437 < (List.length a0 : Int))) (by kernel_rfl) (by kernel_rfl) (fun h442 => ?_) (fun h442 => ?_)
    · replace h := stepL_true h442 h
      obtain ⟨v440, _, h441, h, rfl⟩ := h
      refine W_skip [0, 5, 17, 18] [5, 12] (fr' := [(0, aD (.slice (.slice tI)) a0), (5, .one (.ptr 5 0)), (17, aI (List.length a0 : Int)), (18, aI i437)]) (L' := [(5, .cells [.slc 12]), (12, .seq tI x438)]) (by kernel_rfl) (by kernel_rfl) ?_
      refine seqQ_norm ?_
      refine W_seq (by kernel_rfl) ?_
      refine W_block (id := 1) (by kernel_rfl) ?_
      refine W_seq (by kernel_rfl) ?_
      refine W_run 3 [] [0, 5, 6, 17, 18] [5, 6, 12] (fr' := [(0, aD (.slice (.slice tI)) a0), (5, .one (.ptr 5 0)), (6, .one (.ptr 6 0)), (17, aI (List.length a0 : Int)), (18, aI i437)]) (L' := [(5, .cells [.slc 12]), (6, .cells [.dat tI i437]), (12, .seq tI x438)]) (obs := [True]) (by kernel_rfl) (by kernel_rfl) (by kernel_rfl) (allP1 trivial) ?_
      refine seqQ_norm ?_
      refine W_seq (by kernel_rfl) ?_
      refine W_run 3 [] [0, 5, 6, 17, 18, 21, 22, 23] [5, 6, 12] (fr' := [(0, aD (.slice (.slice tI)) a0), (5, .one (.ptr 5 0)), (6, .one (.ptr 6 0)), (17, aI (List.length a0 : Int)), (18, aI i437), (21, aD (.slice (.slice tI)) a0), (22, aI (List.length a0 : Int)), (23, aI (0 : Int))]) (L' := [(5, .cells [.slc 12]), (6, .cells [.dat tI i437]), (12, .seq tI x438)]) (obs := []) (by kernel_rfl) (by kernel_rfl) (by kernel_rfl) allP0 ?_
      refine seqQ_norm ?_
      refine W_block (id := 2) (by kernel_rfl) ?_
      obtain ⟨v652, h653, h⟩ := bind_of h
      refine W_len (t := 21) (u := (.slice tI)) (xs := a0) (by kernel_rfl) (fun h656 => ?_)
      obtain ⟨h654, h655⟩ := forL_iter h656 h653
      refine W_weaken [0, 5, 6, 17, 18, 21, 22, 23] [5, 6, 12] (fr' := ((half_far_s80 a0 i437) ((0 : Int), x438)).1) (L' := ((half_far_s80 a0 i437) ((0 : Int), x438)).2) (by kernel_rfl) ?_
      refine W_cutK (W_loop (S := (half_far_s80 a0 i437)) (J := (exQ (.exit 2) (half_far_s81 a0 i437))) (by kernel_rfl) ?_ h654 _ v652 h655) ?_
      · rintro ⟨i583, x584⟩ s h
        refine W_seq (by kernel_rfl) ?_
        refine W_run 1 [] [0, 5, 6, 17, 18, 21, 22, 23, 24] [5, 6, 12] (fr' := [(0, aD (.slice (.slice tI)) a0), (5, .one (.ptr 5 0)), (6, .one (.ptr 6 0)), (17, aI (List.length a0 : Int)), (18, aI i437), (21, aD (.slice (.slice tI)) a0), (22, aI (List.length a0 : Int)), (23, aI i583), (24, aB (decide (i583 < (List.length a0 : Int))))]) (L' := [(5, .cells [.slc 12]), (6, .cells [.dat tI i437]), (12, .seq tI x584)]) (obs := []) (by kernel_rfl) (by kernel_rfl) (by kernel_rfl) allP0 ?_
        refine seqQ_norm ?_
        refine W_seq (by kernel_rfl) ?_
        refine W_cond (o := .tmp 24) (b := decide (i583 < (List.length a0 : Int))) (by kernel_rfl) (by kernel_rfl) (fun h588 => ?_) (fun h588 => ?_)
        · replace h := stepL_true h588 h
          obtain ⟨v586, _, h587, h, rfl⟩ := h
          refine W_skip [0, 5, 6, 17, 18, 21, 22, 23] [5, 6, 12] (fr' := [(0, aD (.slice (.slice tI)) a0), (5, .one (.ptr 5 0)), (6, .one (.ptr 6 0)), (17, aI (List.length a0 : Int)), (18, aI i437), (21, aD (.slice (.slice tI)) a0), (22, aI (List.length a0 : Int)), (23, aI i583)]) (L' := [(5, .cells [.slc 12]), (6, .cells [.dat tI i437]), (12, .seq tI x584)]) (by kernel_rfl) (by kernel_rfl) ?_
          refine seqQ_norm ?_
          refine W_seq (by kernel_rfl) ?_
          obtain ⟨v649, h650, h⟩ := bind_of h
          refine W_cutK (Q' := (exQ .normal (half_far_s78 a0 i437 i583)) v649) ?_ ?_
          · replace h := h650
            refine W_block (id := 3) (by kernel_rfl) ?_
            refine W_seq (by kernel_rfl) ?_
            refine W_run 5 [(3, .val (.dat (.slice tI) v586))] [0, 5, 6, 7, 8, 17, 18, 21, 22, 23] [5, 6, 12] (fr' := [(0, aD (.slice (.slice tI)) a0), (5, .one (.ptr 5 0)), (6, .one (.ptr 6 0)), (7, aI i583), (8, aD (.slice tI) v586), (17, aI (List.length a0 : Int)), (18, aI i437), (21, aD (.slice (.slice tI)) a0), (22, aI (List.length a0 : Int)), (23, aI i583)]) (L' := [(5, .cells [.slc 12]), (6, .cells [.dat tI i437]), (12, .seq tI x584)]) (obs := [Idx a0 i583 v586]) (by kernel_rfl) (by kernel_rfl) (by kernel_rfl) (allP1 (Idx.of h587)) ?_
            refine seqQ_norm ?_
            refine W_seq (by kernel_rfl) ?_
            obtain ⟨v644, h645, h⟩ := bind_of h
            refine W_cutK (Q' := (exQ .normal (half_far_s76 a0 i437 i583 x584)) v644) ?_ ?_
            · replace h := h645
              obtain ⟨v639, h640, h⟩ := bind_of h
              refine W_region (by kernel_rfl) ?_
              refine WO_run (j := 6) (k := 6) (orcs := [(7, .val (.dat tI v639))]) (kF := [0, 5, 6, 7, 8, 17, 18, 21, 22, 23, 33]) (kL := [5, 6, 12]) (fr' := [(0, aD (.slice (.slice tI)) a0), (5, .one (.ptr 5 0)), (6, .one (.ptr 6 0)), (7, aI i583), (8, aD (.slice tI) v586), (17, aI (List.length a0 : Int)), (18, aI i437), (21, aD (.slice (.slice tI)) a0), (22, aI (List.length a0 : Int)), (23, aI i583), (33, aB (decide (v639 < (0 : Int))))]) (L' := [(5, .cells [.slc 12]), (6, .cells [.dat tI i437]), (12, .seq tI x584)]) (obs := [InR i583 (List.length x584), Idx x584 i583 v639]) rfl (by kernel_rfl) (allP2 (InR.of h640) (allP1 (Idx.of h640))) ?_
              rcases Bool.eq_false_or_eq_true (decide (v639 < (0 : Int))) with h641 | h641
              · replace h := ofT h641 h
                refine WO_run (j := 8) (k := 2) (orcs := [(12, .known true), (14, .known true)]) (kF := [0, 5, 6, 7, 17, 18, 21, 22, 23, 33, 34, 35]) (kL := [5, 6, 12]) (fr' := [(0, aD (.slice (.slice tI)) a0), (5, .one (.ptr 5 0)), (6, .one (.ptr 6 0)), (7, aI i583), (17, aI (List.length a0 : Int)), (18, aI i437), (21, aD (.slice (.slice tI)) a0), (22, aI (List.length a0 : Int)), (23, aI i583), (33, aB (decide (v639 < (0 : Int)))), (34, aD (.slice tI) v586), (35, .one (.fn 92 [(5, 0), (6, 0)]))]) (L' := [(5, .cells [.slc 12]), (6, .cells [.dat tI i437]), (12, .seq tI x584)]) (obs := [((decide (v639 < (0 : Int))) = true), ((decide (v639 < (0 : Int))) = true)]) rfl (by kernel_rfl) (allP2 h641 (allP1 h641)) ?_
                obtain ⟨r642, h643, h⟩ := bind_of h
                refine WO_lend [(1000, 5), (1001, 6), (1002, 12)] (us := [none, none]) (d := 36) (p := ((decide (v639 < (0 : Int))) = true)) (j := 9) rfl ⟨by kernel_rfl, by kernel_rfl, by kernel_rfl⟩ h641 (slices_ContainsFunc_Lintint_with_half_far_1_ok h643) (by kernel_rfl) (by kernel_rfl) ?_
                refine WO_run (j := 10) (k := 1) (orcs := [(19, .val (.dat .bool true))]) (kF := [0, 5, 6, 7, 17, 18, 21, 22, 23, 37]) (kL := [5, 6, 12]) (fr' := [(0, aD (.slice (.slice tI)) a0), (5, .one (.ptr 5 0)), (6, .one (.ptr 6 0)), (7, aI i583), (17, aI (List.length a0 : Int)), (18, aI i437), (21, aD (.slice (.slice tI)) a0), (22, aI (List.length a0 : Int)), (23, aI i583), (37, aB r642)]) (L' := [(5, .cells [.slc 12]), (6, .cells [.dat tI i437]), (12, .seq tI x584)]) (obs := [((decide (v639 < (0 : Int))) = true)]) rfl (by kernel_rfl) (allP1 h641) ?_
                obtain rfl := Option.some.inj h
                refine WO_fin [0, 5, 6, 7, 17, 18, 21, 22, 23, 37] [5, 6, 12] (fr' := [(0, aD (.slice (.slice tI)) a0), (5, .one (.ptr 5 0)), (6, .one (.ptr 6 0)), (7, aI i583), (17, aI (List.length a0 : Int)), (18, aI i437), (21, aD (.slice (.slice tI)) a0), (22, aI (List.length a0 : Int)), (23, aI i583), (37, aB r642)]) (L' := [(5, .cells [.slc 12]), (6, .cells [.dat tI i437]), (12, .seq tI x584)]) (by kernel_rfl) (by kernel_rfl) ?_
                exact exQ_mk (by kernel_rfl) (by kernel_rfl)
              · replace h := ofF h641 h
                refine WO_run (j := 10) (k := 4) (orcs := [(12, .known false), (14, .known false), (16, .known false), (19, .val (.dat .bool false))]) (kF := [0, 5, 6, 7, 17, 18, 21, 22, 23, 37]) (kL := [5, 6, 12]) (fr' := [(0, aD (.slice (.slice tI)) a0), (5, .one (.ptr 5 0)), (6, .one (.ptr 6 0)), (7, aI i583), (17, aI (List.length a0 : Int)), (18, aI i437), (21, aD (.slice (.slice tI)) a0), (22, aI (List.length a0 : Int)), (23, aI i583), (37, aB false)]) (L' := [(5, .cells [.slc 12]), (6, .cells [.dat tI i437]), (12, .seq tI x584)]) (obs := [((decide (v639 < (0 : Int))) = false), ((decide (v639 < (0 : Int))) = false), ((decide (v639 < (0 : Int))) = false), ((decide (v639 < (0 : Int))) = false)]) rfl (by kernel_rfl) (allP2 h641 (allP2 h641 (allP2 h641 (allP1 h641)))) ?_
                obtain rfl := Option.some.inj h
                refine WO_fin [0, 5, 6, 7, 17, 18, 21, 22, 23, 37] [5, 6, 12] (fr' := [(0, aD (.slice (.slice tI)) a0), (5, .one (.ptr 5 0)), (6, .one (.ptr 6 0)), (7, aI i583), (17, aI (List.length a0 : Int)), (18, aI i437), (21, aD (.slice (.slice tI)) a0), (22, aI (List.length a0 : Int)), (23, aI i583), (37, aB false)]) (L' := [(5, .cells [.slc 12]), (6, .cells [.dat tI i437]), (12, .seq tI x584)]) (by kernel_rfl) (by kernel_rfl) ?_
                exact exQ_mk (by kernel_rfl) (by kernel_rfl)
            · intro e fr L hJ
              obtain ⟨rfl, rfl, rfl⟩ := hJ
              refine LT_keep [0, 5, 6, 7, 17, 18, 21, 22, 23, 37] [5, 6, 12] (fr' := [(0, aD (.slice (.slice tI)) a0), (5, .one (.ptr 5 0)), (6, .one (.ptr 6 0)), (7, aI i583), (17, aI (List.length a0 : Int)), (18, aI i437), (21, aD (.slice (.slice tI)) a0), (22, aI (List.length a0 : Int)), (23, aI i583), (37, aB v644)]) (L' := [(5, .cells [.slc 12]), (6, .cells [.dat tI i437]), (12, .seq tI x584)]) (by kernel_rfl) ?_
              refine seqQ_norm ?_
              refine W_cond (o := .tmp 37) (b := v644) (by kernel_rfl) (by kernel_rfl) (fun h646 => ?_) (fun h646 => ?_)
              · replace h := ofT h646 h
                obtain ⟨v647, h648, h⟩ := bind_of h
                obtain rfl := Option.some.inj h
                refine W_run 6 [] [0, 5, 6, 17, 18, 21, 22, 23] [5, 6, 12] (fr' := [(0, aD (.slice (.slice tI)) a0), (5, .one (.ptr 5 0)), (6, .one (.ptr 6 0)), (17, aI (List.length a0 : Int)), (18, aI i437), (21, aD (.slice (.slice tI)) a0), (22, aI (List.length a0 : Int)), (23, aI i583)]) (L' := [(5, .cells [.slc 12]), (6, .cells [.dat tI i437]), (12, .seq tI (List.set x584 (Int.toNat i583) (w64 (i437 + (1 : Int)))))]) (obs := [InR i583 (List.length x584), InR i583 (List.length x584)]) (by kernel_rfl) (by kernel_rfl) (by kernel_rfl) (allP2 (InR.of h648) (allP1 (InR.of h648))) ?_
                refine blockQ_norm ?_
                exact exQ_mk (by kernel_rfl) (by kernel_rfl)
              · replace h := ofF h646 h
                obtain rfl := Option.some.inj h
                refine W_skip [0, 5, 6, 17, 18, 21, 22, 23] [5, 6, 12] (fr' := [(0, aD (.slice (.slice tI)) a0), (5, .one (.ptr 5 0)), (6, .one (.ptr 6 0)), (17, aI (List.length a0 : Int)), (18, aI i437), (21, aD (.slice (.slice tI)) a0), (22, aI (List.length a0 : Int)), (23, aI i583)]) (L' := [(5, .cells [.slc 12]), (6, .cells [.dat tI i437]), (12, .seq tI x584)]) (by kernel_rfl) (by kernel_rfl) ?_
                refine blockQ_norm ?_
                exact exQ_mk (by kernel_rfl) (by kernel_rfl)
          · intro e fr L hJ
            obtain ⟨rfl, rfl, rfl⟩ := hJ
            refine LT_keep [0, 5, 6, 17, 18, 21, 22, 23] [5, 6, 12] (fr' := [(0, aD (.slice (.slice tI)) a0), (5, .one (.ptr 5 0)), (6, .one (.ptr 6 0)), (17, aI (List.length a0 : Int)), (18, aI i437), (21, aD (.slice (.slice tI)) a0), (22, aI (List.length a0 : Int)), (23, aI i583)]) (L' := [(5, .cells [.slc 12]), (6, .cells [.dat tI i437]), (12, .seq tI v649)]) (by kernel_rfl) ?_
            refine seqQ_norm ?_
            obtain rfl := Option.some.inj h
            refine W_run 2 [] [0, 5, 6, 17, 18, 21, 22, 23] [5, 6, 12] (fr' := [(0, aD (.slice (.slice tI)) a0), (5, .one (.ptr 5 0)), (6, .one (.ptr 6 0)), (17, aI (List.length a0 : Int)), (18, aI i437), (21, aD (.slice (.slice tI)) a0), (22, aI (List.length a0 : Int)), (23, aI (w64 (i583 + (1 : Int))))]) (L' := [(5, .cells [.slc 12]), (6, .cells [.dat tI i437]), (12, .seq tI v649)]) (obs := []) (by kernel_rfl) (by kernel_rfl) (by kernel_rfl) allP0 ?_
            exact round_next' (by kernel_rfl) (by kernel_rfl)
        · obtain rfl := stepL_false h588 h
          refine W_exit (id := 2) [0, 5, 17, 18] [5, 12] (fr' := [(0, aD (.slice (.slice tI)) a0), (5, .one (.ptr 5 0)), (17, aI (List.length a0 : Int)), (18, aI i437)]) (L' := [(5, .cells [.slc 12]), (12, .seq tI x584)]) (by kernel_rfl) (by kernel_rfl) ?_
          refine seqQ_exit ?_
          refine round_exit ?_
          exact exQ_mk (by kernel_rfl) (by kernel_rfl)
      · intro e fr L hJ
        obtain ⟨rfl, rfl, rfl⟩ := hJ
        refine LT_keep [0, 5, 17, 18] [5, 12] (fr' := [(0, aD (.slice (.slice tI)) a0), (5, .one (.ptr 5 0)), (17, aI (List.length a0 : Int)), (18, aI i437)]) (L' := [(5, .cells [.slc 12]), (12, .seq tI v652)]) (by kernel_rfl) ?_
        refine blockQ_hit ?_
        refine blockQ_norm ?_
        refine seqQ_norm ?_
        obtain rfl := Option.some.inj h
        refine W_run 2 [] [0, 5, 17, 18] [5, 12] (fr' := [(0, aD (.slice (.slice tI)) a0), (5, .one (.ptr 5 0)), (17, aI (List.length a0 : Int)), (18, aI (w64 (i437 + (1 : Int))))]) (L' := [(5, .cells [.slc 12]), (12, .seq tI v652)]) (obs := []) (by kernel_rfl) (by kernel_rfl) (by kernel_rfl) allP0 ?_
        exact round_next' (by kernel_rfl) (by kernel_rfl)
    · obtain rfl := stepL_false h442 h
      refine W_exit (id := 0) [5] [5, 12] (fr' := [(5, .one (.ptr 5 0))]) (L' := [(5, .cells [.slc 12]), (12, .seq tI x438)]) (by kernel_rfl) (by kernel_rfl) ?_
      refine seqQ_exit ?_
      refine round_exit ?_
      exact exQ_mk (by kernel_rfl) (by kernel_rfl)
  · intro e fr L hJ
    obtain ⟨rfl, rfl, rfl⟩ := hJ
    refine LT_keep [5] [5, 12] (fr' := [(5, .one (.ptr 5 0))]) (L' := [(5, .cells [.slc 12]), (12, .seq tI v658)]) (by kernel_rfl) ?_
    refine blockQ_hit ?_
    refine seqQ_norm ?_
    refine W_seq (by kernel_rfl) ?_
    refine W_run 2 [] [4] [12] (fr' := [(4, .one (.slc 12))]) (L' := [(12, .seq tI v658)]) (obs := []) (by kernel_rfl) (by kernel_rfl) (by kernel_rfl) allP0 ?_
    refine seqQ_norm ?_
    obtain rfl := Option.some.inj h
    refine W_frz 12 (by kernel_rfl) ?_
    refine W_ret [4] [] (fr' := [(4, aD (.slice tI) v658)]) (L' := []) (by kernel_rfl) (by kernel_rfl) ?_
    exact retQ_mk (by kernel_rfl) (by kernel_rfl) (by kernel_rfl)

def half_Way_g21 (r4 : (List Int)) (x74 : (Int × (List Int))) (x212 : Int) (v214 : Int) : Option Int :=
(idx r4 v214).bind fun v227 =>
(idx r4 x74.1).bind fun v229 =>
bif (v227 == (w64 (v229 - (1 : Int)))) && ((decide (x212 < (0 : Int))) || (decide (v214 < x212))) then
(some v214)
else
(some x212)
@[reducible] def half_Way_s22 (a0 : (List (List Int))) (a2 : Int) (r4 : (List Int)) (x74 : (Int × (List Int))) (v159 : (List Int)) (i211 : Int) (v : Int) : Fr × LL := ([(0, aD (.slice (.slice tI)) a0), (1, aI x74.1), (2, aI a2), (9, aD (.slice tI) r4), (10, .one (.slc 31)), (11, aI v), (38, aD (.slice tI) v159), (39, aI (List.length v159 : Int)), (40, aI i211)], [(31, .seq tI x74.2)])
def half_Way_b23 (r4 : (List Int)) (x74 : (Int × (List Int))) (i211 : Int) (v214 : Int) (x212 : Int) : Option (Flow Int Int) :=
(half_Way_g21 r4 x74 x212 v214).bind fun v232 =>
some (.next v232)
@[reducible] def half_Way_s24 (a0 : (List (List Int))) (a2 : Int) (r4 : (List Int)) (x74 : (Int × (List Int))) (v159 : (List Int)) (v : Int × Int) : Fr × LL := ([(0, aD (.slice (.slice tI)) a0), (1, aI x74.1), (2, aI a2), (9, aD (.slice tI) r4), (10, .one (.slc 31)), (11, aI v.2), (38, aD (.slice tI) v159), (39, aI (List.length v159 : Int)), (40, aI v.1)], [(31, .seq tI x74.2)])
@[reducible] def half_Way_s25 (a0 : (List (List Int))) (a2 : Int) (r4 : (List Int)) (x74 : (Int × (List Int))) (v : Int) : Fr × LL := ([(0, aD (.slice (.slice tI)) a0), (2, aI a2), (9, aD (.slice tI) r4), (10, .one (.slc 31)), (11, aI v)], [(31, .seq tI x74.2)])
def half_Way_b26 (a0 : (List (List Int))) (a2 : Int) (r4 : (List Int)) (x74 : (Int × (List Int))) : Option (Flow (Int × (List Int)) (List Int)) :=
bif x74.1 != a2 then
((idx a0 x74.1).bind fun v159 =>
(forL (half_Way_b23 r4 x74) (fun x212 => x212) v159 0 (-1 : Int)).bind fun v235 =>
(ck ((List.length x74.2 : Int) + 1 ≤ 4294967296)).bind fun _ =>
some (.next (v235, x74.2 ++ [v235])))
else
(some (.done x74.2))
@[reducible] def half_Way_s27 (a0 : (List (List Int))) (a2 : Int) (r4 : (List Int)) (v : (Int × (List Int))) : Fr × LL := ([(0, aD (.slice (.slice tI)) a0), (1, aI v.1), (2, aI a2), (9, aD (.slice tI) r4), (10, .one (.slc 31))], [(31, .seq tI v.2)])
@[reducible] def half_Way_s28 (v : (List Int)) : Fr × LL := ([(10, .one (.slc 31))], [(31, .seq tI v)])
def half_Way (fuel : Nat) (a0 : (List (List Int))) (a1 : Int) (a2 : Int) : Option ((List Int) × Int) :=
(half_wrong a0 [a1, a2]).bind fun r1 =>
bif r1 != (0 : Int) then
(some ([], r1))
else
((half_far fuel a0 a2).bind fun r4 =>
(idx r4 a1).bind fun v6 =>
bif decide (v6 < (0 : Int)) then
(some ([], (5 : Int)))
else
((iter (half_Way_b26 a0 a2 r4) fuel (a1, [a1])).bind fun v241 =>
some (v241, (0 : Int))))
theorem half_Way_ok {fuel : Nat} {a0 : (List (List Int))} {a1 : Int} {a2 : Int} {r : ((List Int) × Int)} (h : half_Way fuel a0 a1 a2 = some r) : FnC Try.prog 43 [aD (.slice (.slice tI)) a0, aI a1, aI a2] [] (.tup [.dat (.slice tI) r.1, .dat tI r.2]) [] := by
  refine fnC_of_W (B := bodyOf Try.f43) (n := 71) Try.func43 (by kernel_rfl) (by kernel_rfl) (by kernel_rfl) (by kernel_rfl) (by kernel_rfl) ?_
  intro K
  refine W_seq (by kernel_rfl) ?_
  refine W_run 2 [] [0, 1, 2] [] (fr' := [(0, aD (.slice (.slice tI)) a0), (1, aI a1), (2, aI a2)]) (L' := []) (obs := []) (by kernel_rfl) (by kernel_rfl) (by kernel_rfl) allP0 ?_
  refine seqQ_norm ?_
  refine W_seq (by kernel_rfl) ?_
  refine W_seq (by kernel_rfl) ?_
  refine W_region (by kernel_rfl) ?_
  refine WO_run (j := 4) (k := 4) (orcs := []) (kF := [0, 1, 2, 14, 17]) (kL := [17]) (fr' := [(0, aD (.slice (.slice tI)) a0), (1, aI a1), (2, aI a2), (14, aD (.slice (.slice tI)) a0), (17, .one (.slc 17))]) (L' := [(17, .seq tI [a1, a2])]) (obs := []) rfl (by kernel_rfl) allP0 ?_
  obtain ⟨r1, h2, h⟩ := bind_of h
  refine WO_frz 17 (by kernel_rfl) ?_
  refine WO_call0 (us := [none, none]) (d := 18) (p := True) (j := 5) rfl ⟨by kernel_rfl, by kernel_rfl, by kernel_rfl⟩ trivial (half_wrong_ok h2) (by kernel_rfl) ?_
  refine WO_run (j := 6) (k := 1) (orcs := []) (kF := [0, 1, 2, 8]) (kL := []) (fr' := [(0, aD (.slice (.slice tI)) a0), (1, aI a1), (2, aI a2), (8, aI r1)]) (L' := []) (obs := []) rfl (by kernel_rfl) allP0 ?_
  refine WO_fin [0, 1, 2, 8] [] (fr' := [(0, aD (.slice (.slice tI)) a0), (1, aI a1), (2, aI a2), (8, aI r1)]) (L' := []) (by kernel_rfl) (by kernel_rfl) ?_
  refine seqQ_norm ?_
  refine W_seq (by kernel_rfl) ?_
  refine W_run 2 [] [0, 1, 2, 8, 20] [] (fr' := [(0, aD (.slice (.slice tI)) a0), (1, aI a1), (2, aI a2), (8, aI r1), (20, aB (r1 != (0 : Int)))]) (L' := []) (obs := []) (by kernel_rfl) (by kernel_rfl) (by kernel_rfl) allP0 ?_
  refine seqQ_norm ?_
  refine W_cond (o := .tmp 20) (b := r1 != (0 : Int)) (by kernel_rfl) (by kernel_rfl) (fun h3 => ?_) (fun h3 => ?_)
  · replace h := ofT h3 h
    refine W_seq (by kernel_rfl) ?_
    refine W_run 3 [] [6, 7] [] (fr' := [(6, .one (.nilS)), (7, aI r1)]) (L' := []) (obs := []) (by kernel_rfl) (by kernel_rfl) (by kernel_rfl) allP0 ?_
    refine seqQ_norm ?_
    obtain rfl := Option.some.inj h
    refine W_cnv 6 (.slice tI) (by kernel_rfl) ?_
    refine W_ret [6, 7] [] (fr' := [(6, aD (.slice tI) []), (7, aI r1)]) (L' := []) (by kernel_rfl) (by kernel_rfl) ?_
    refine seqQ_ret ?_
    exact retQ_mk (by kernel_rfl) (by kernel_rfl) (by kernel_rfl)
  · replace h := ofF h3 h
    refine W_skip [0, 1, 2] [] (fr' := [(0, aD (.slice (.slice tI)) a0), (1, aI a1), (2, aI a2)]) (L' := []) (by kernel_rfl) (by kernel_rfl) ?_
    refine seqQ_norm ?_
    refine W_seq (by kernel_rfl) ?_
    refine W_region (by kernel_rfl) ?_
    refine WO_run (j := 2) (k := 2) (orcs := []) (kF := [0, 1, 2, 22, 23]) (kL := []) (fr' := [(0, aD (.slice (.slice tI)) a0), (1, aI a1), (2, aI a2), (22, aD (.slice (.slice tI)) a0), (23, aI a2)]) (L' := []) (obs := []) rfl (by kernel_rfl) allP0 ?_
    obtain ⟨r4, h5, h⟩ := bind_of h
    refine WO_call0 (us := [none, none]) (d := 24) (p := True) (j := 3) rfl ⟨by kernel_rfl, by kernel_rfl, by kernel_rfl⟩ trivial (half_far_ok h5) (by kernel_rfl) ?_
    refine WO_run (j := 4) (k := 1) (orcs := []) (kF := [0, 1, 2, 9]) (kL := []) (fr' := [(0, aD (.slice (.slice tI)) a0), (1, aI a1), (2, aI a2), (9, aD (.slice tI) r4)]) (L' := []) (obs := []) rfl (by kernel_rfl) allP0 ?_
    refine WO_fin [0, 1, 2, 9] [] (fr' := [(0, aD (.slice (.slice tI)) a0), (1, aI a1), (2, aI a2), (9, aD (.slice tI) r4)]) (L' := []) (by kernel_rfl) (by kernel_rfl) ?_
    refine seqQ_norm ?_
    refine W_seq (by kernel_rfl) ?_
    refine W_seq (by kernel_rfl) ?_
    obtain ⟨v6, h7, h⟩ := bind_of h
    refine W_run 5 [(5, .val (.dat tI v6))] [0, 1, 2, 9, 29] [] (fr' := [(0, aD (.slice (.slice tI)) a0), (1, aI a1), (2, aI a2), (9, aD (.slice tI) r4), (29, aB (decide (v6 < (0 : Int))))]) (L' := []) (obs := [Idx r4 a1 v6]) (by kernel_rfl) (by kernel_rfl) (by kernel_rfl) (allP1 (Idx.of h7)) ?_
    refine seqQ_norm ?_
    refine W_cond (o := .tmp 29) (b := decide (v6 < (0 : Int))) (by kernel_rfl) (by kernel_rfl) (fun h8 => ?_) (fun h8 => ?_)
    · replace h := ofT h8 h
      refine W_seq (by kernel_rfl) ?_
      refine W_run 2 [] [6, 7] [] (fr' := [(6, .one (.nilS)), (7, aI (5 : Int))]) (L' := []) (obs := []) (by kernel_rfl) (by kernel_rfl) (by kernel_rfl) allP0 ?_
      refine seqQ_norm ?_
      obtain rfl := Option.some.inj h
      refine W_cnv 6 (.slice tI) (by kernel_rfl) ?_
      refine W_ret [6, 7] [] (fr' := [(6, aD (.slice tI) []), (7, aI (5 : Int))]) (L' := []) (by kernel_rfl) (by kernel_rfl) ?_
      refine seqQ_ret ?_
      exact retQ_mk (by kernel_rfl) (by kernel_rfl) (by kernel_rfl)
    · replace h := ofF h8 h
      refine W_skip [0, 1, 2, 9] [] (fr' := [(0, aD (.slice (.slice tI)) a0), (1, aI a1), (2, aI a2), (9, aD (.slice tI) r4)]) (L' := []) (by kernel_rfl) (by kernel_rfl) ?_
      refine seqQ_norm ?_
      refine W_seq (by kernel_rfl) ?_
      refine W_run 3 [] [0, 1, 2, 9, 10] [31] (fr' := [(0, aD (.slice (.slice tI)) a0), (1, aI a1), (2, aI a2), (9, aD (.slice tI) r4), (10, .one (.slc 31))]) (L' := [(31, .seq tI [a1])]) (obs := []) (by kernel_rfl) (by kernel_rfl) (by kernel_rfl) allP0 ?_
      refine seqQ_norm ?_
      refine W_seq (by kernel_rfl) ?_
      refine W_block (id := 0) (by kernel_rfl) ?_
      obtain ⟨v241, h242, h⟩ := bind_of h
      refine W_weaken [0, 1, 2, 9, 10] [31] (fr' := ((half_Way_s27 a0 a2 r4) (a1, [a1])).1) (L' := ((half_Way_s27 a0 a2 r4) (a1, [a1])).2) (by kernel_rfl) ?_
      refine W_cutK (W_loop (S := (half_Way_s27 a0 a2 r4)) (J := (exQ (.exit 0) half_Way_s28)) (by kernel_rfl) ?_ fuel _ v241 h242) ?_
      · rintro x74 s h
        refine W_seq (by kernel_rfl) ?_
        refine W_seq (by kernel_rfl) ?_
        refine W_run 3 [] [0, 1, 2, 9, 10, 34] [31] (fr' := [(0, aD (.slice (.slice tI)) a0), (1, aI x74.1), (2, aI a2), (9, aD (.slice tI) r4), (10, .one (.slc 31)), (34, aB (x74.1 != a2))]) (L' := [(31, .seq tI x74.2)]) (obs := []) (by kernel_rfl) (by kernel_rfl) (by kernel_rfl) allP0 ?_
        refine seqQ_norm ?_
        refine W_cond (o := .tmp 34) (b := x74.1 != a2) (by kernel_rfl) (by kernel_rfl) (fun h158 => ?_) (fun h158 => ?_)
        · replace h := ofT h158 h
          refine W_skip [0, 1, 2, 9, 10] [31] (fr' := [(0, aD (.slice (.slice tI)) a0), (1, aI x74.1), (2, aI a2), (9, aD (.slice tI) r4), (10, .one (.slc 31))]) (L' := [(31, .seq tI x74.2)]) (by kernel_rfl) (by kernel_rfl) ?_
          refine seqQ_norm ?_
          refine W_block (id := 1) (by kernel_rfl) ?_
          refine W_seq (by kernel_rfl) ?_
          refine W_run 1 [] [0, 1, 2, 9, 10, 11] [31] (fr' := [(0, aD (.slice (.slice tI)) a0), (1, aI x74.1), (2, aI a2), (9, aD (.slice tI) r4), (10, .one (.slc 31)), (11, aI (-1 : Int))]) (L' := [(31, .seq tI x74.2)]) (obs := []) (by kernel_rfl) (by kernel_rfl) (by kernel_rfl) allP0 ?_
          refine seqQ_norm ?_
          refine W_seq (by kernel_rfl) ?_
          refine W_seq (by kernel_rfl) ?_
          obtain ⟨v159, h160, h⟩ := bind_of h
          refine W_run 6 [(5, .val (.dat (.slice tI) v159))] [0, 1, 2, 9, 10, 11, 38, 39, 40] [31] (fr' := [(0, aD (.slice (.slice tI)) a0), (1, aI x74.1), (2, aI a2), (9, aD (.slice tI) r4), (10, .one (.slc 31)), (11, aI (-1 : Int)), (38, aD (.slice tI) v159), (39, aI (List.length v159 : Int)), (40, aI (0 : Int))]) (L' := [(31, .seq tI x74.2)]) (obs := [Idx a0 x74.1 v159]) (by kernel_rfl) (by kernel_rfl) (by kernel_rfl) (allP1 (Idx.of h160)) ?_
          refine seqQ_norm ?_
          refine W_block (id := 2) (by kernel_rfl) ?_
          obtain ⟨v235, h236, h⟩ := bind_of h
          refine W_len (t := 38) (u := tI) (xs := v159) (by kernel_rfl) (fun h239 => ?_)
          obtain ⟨h237, h238⟩ := forL_iter h239 h236
          refine W_weaken [0, 1, 2, 9, 10, 11, 38, 39, 40] [31] (fr' := ((half_Way_s24 a0 a2 r4 x74 v159) ((0 : Int), (-1 : Int))).1) (L' := ((half_Way_s24 a0 a2 r4 x74 v159) ((0 : Int), (-1 : Int))).2) (by kernel_rfl) ?_
          refine W_cutK (W_loop (S := (half_Way_s24 a0 a2 r4 x74 v159)) (J := (exQ (.exit 2) (half_Way_s25 a0 a2 r4 x74))) (by kernel_rfl) ?_ h237 _ v235 h238) ?_
          · rintro ⟨i211, x212⟩ s h
            refine W_seq (by kernel_rfl) ?_
            refine W_run 1 [] [0, 1, 2, 9, 10, 11, 38, 39, 40, 41] [31] (fr' := [(0, aD (.slice (.slice tI)) a0), (1, aI x74.1), (2, aI a2), (9, aD (.slice tI) r4), (10, .one (.slc 31)), (11, aI x212), (38, aD (.slice tI) v159), (39, aI (List.length v159 : Int)), (40, aI i211), (41, aB (decide (i211 < (List.length v159 : Int))))]) (L' := [(31, .seq tI x74.2)]) (obs := []) (by kernel_rfl) (by kernel_rfl) (by kernel_rfl) allP0 ?_
            refine seqQ_norm ?_
            refine W_seq (by kernel_rfl) ?_
            refine W_cond (o := .tmp 41) (b := decide (i211 < (List.length v159 : Int))) (by kernel_rfl) (by kernel_rfl) (fun h216 => ?_) (fun h216 => ?_)
            · replace h := stepL_true h216 h
              obtain ⟨v214, _, h215, h, rfl⟩ := h
              refine W_skip [0, 1, 2, 9, 10, 11, 38, 39, 40] [31] (fr' := [(0, aD (.slice (.slice tI)) a0), (1, aI x74.1), (2, aI a2), (9, aD (.slice tI) r4), (10, .one (.slc 31)), (11, aI x212), (38, aD (.slice tI) v159), (39, aI (List.length v159 : Int)), (40, aI i211)]) (L' := [(31, .seq tI x74.2)]) (by kernel_rfl) (by kernel_rfl) ?_
              refine seqQ_norm ?_
              refine W_seq (by kernel_rfl) ?_
              obtain ⟨v232, h233, h⟩ := bind_of h
              refine W_cutK (Q' := (exQ .normal (half_Way_s22 a0 a2 r4 x74 v159 i211)) v232) ?_ ?_
              · replace h := h233
                refine W_block (id := 3) (by kernel_rfl) ?_
                refine W_seq (by kernel_rfl) ?_
                refine W_run 3 [(1, .val (.dat tI v214))] [0, 1, 2, 9, 10, 11, 13, 38, 39, 40] [31] (fr' := [(0, aD (.slice (.slice tI)) a0), (1, aI x74.1), (2, aI a2), (9, aD (.slice tI) r4), (10, .one (.slc 31)), (11, aI x212), (13, aI v214), (38, aD (.slice tI) v159), (39, aI (List.length v159 : Int)), (40, aI i211)]) (L' := [(31, .seq tI x74.2)]) (obs := [Idx v159 i211 v214]) (by kernel_rfl) (by kernel_rfl) (by kernel_rfl) (allP1 (Idx.of h215)) ?_
                refine seqQ_norm ?_
                refine W_seq (by kernel_rfl) ?_
                obtain ⟨v227, h228, h⟩ := bind_of h
                obtain ⟨v229, h230, h⟩ := bind_of h
                refine W_draw2 19 [(5, .val (.dat tI v227)), (13, .val (.dat tI v229))] [] [0, 1, 2, 9, 10, 11, 13, 38, 39, 40, 62] [31] (fr' := [(0, aD (.slice (.slice tI)) a0), (1, aI x74.1), (2, aI a2), (9, aD (.slice tI) r4), (10, .one (.slc 31)), (11, aI x212), (13, aI v214), (38, aD (.slice tI) v159), (39, aI (List.length v159 : Int)), (40, aI i211), (62, aB ((v227 == (w64 (v229 - (1 : Int)))) && ((decide (x212 < (0 : Int))) || (decide (v214 < x212)))))]) (L' := [(31, .seq tI x74.2)]) (out := [(44, aD (.slice tI) r4), (45, aI v214), (46, .one (.dptr tI v227)), (47, aI v227), (48, aD (.slice tI) r4), (49, aI x74.1), (50, .one (.dptr tI v229)), (51, aI v229), (52, aI (w64 (v229 - (1 : Int)))), (53, aB (v227 == (w64 (v229 - (1 : Int))))), (54, aB (v227 == (w64 (v229 - (1 : Int))))), (55, .mb 54 true (.dat tI x212)), (56, .mb 54 true (.dat .bool (decide (x212 < (0 : Int))))), (57, .mb 54 true (.dat .bool (decide (x212 < (0 : Int))))), (58, .mb 57 false (.dat tI v214)), (59, .mb 57 false (.dat tI x212)), (60, .mb 57 false (.dat .bool (decide (v214 < x212)))), (61, .mb 54 true (.dat .bool ((decide (x212 < (0 : Int))) || (decide (v214 < x212))))), (62, aB ((v227 == (w64 (v229 - (1 : Int)))) && ((decide (x212 < (0 : Int))) || (decide (v214 < x212)))))]) (obs := [Idx r4 v214 v227, Idx r4 x74.1 v229]) (obs2 := []) (calls := []) (by kernel_rfl) (by kernel_rfl) (by kernel_rfl) (by kernel_rfl) (allP2 (Idx.of h228) (allP1 (Idx.of h230))) allC0 (by kernel_rfl) allP0 ?_
                refine seqQ_norm ?_
                refine W_cond (o := .tmp 62) (b := (v227 == (w64 (v229 - (1 : Int)))) && ((decide (x212 < (0 : Int))) || (decide (v214 < x212)))) (by kernel_rfl) (by kernel_rfl) (fun h231 => ?_) (fun h231 => ?_)
                · replace h := ofT h231 h
                  obtain rfl := Option.some.inj h
                  refine W_run 2 [] [0, 1, 2, 9, 10, 11, 38, 39, 40] [31] (fr' := [(0, aD (.slice (.slice tI)) a0), (1, aI x74.1), (2, aI a2), (9, aD (.slice tI) r4), (10, .one (.slc 31)), (11, aI v214), (38, aD (.slice tI) v159), (39, aI (List.length v159 : Int)), (40, aI i211)]) (L' := [(31, .seq tI x74.2)]) (obs := []) (by kernel_rfl) (by kernel_rfl) (by kernel_rfl) allP0 ?_
                  refine blockQ_norm ?_
                  exact exQ_mk (by kernel_rfl) (by kernel_rfl)
                · replace h := ofF h231 h
                  obtain rfl := Option.some.inj h
                  refine W_skip [0, 1, 2, 9, 10, 11, 38, 39, 40] [31] (fr' := [(0, aD (.slice (.slice tI)) a0), (1, aI x74.1), (2, aI a2), (9, aD (.slice tI) r4), (10, .one (.slc 31)), (11, aI x212), (38, aD (.slice tI) v159), (39, aI (List.length v159 : Int)), (40, aI i211)]) (L' := [(31, .seq tI x74.2)]) (by kernel_rfl) (by kernel_rfl) ?_
                  refine blockQ_norm ?_
                  exact exQ_mk (by kernel_rfl) (by kernel_rfl)
              · intro e fr L hJ
                obtain ⟨rfl, rfl, rfl⟩ := hJ
                refine LT_keep [0, 1, 2, 9, 10, 11, 38, 39, 40] [31] (fr' := [(0, aD (.slice (.slice tI)) a0), (1, aI x74.1), (2, aI a2), (9, aD (.slice tI) r4), (10, .one (.slc 31)), (11, aI v232), (38, aD (.slice tI) v159), (39, aI (List.length v159 : Int)), (40, aI i211)]) (L' := [(31, .seq tI x74.2)]) (by kernel_rfl) ?_
                refine seqQ_norm ?_
                obtain rfl := Option.some.inj h
                refine W_run 2 [] [0, 1, 2, 9, 10, 11, 38, 39, 40] [31] (fr' := [(0, aD (.slice (.slice tI)) a0), (1, aI x74.1), (2, aI a2), (9, aD (.slice tI) r4), (10, .one (.slc 31)), (11, aI v232), (38, aD (.slice tI) v159), (39, aI (List.length v159 : Int)), (40, aI (w64 (i211 + (1 : Int))))]) (L' := [(31, .seq tI x74.2)]) (obs := []) (by kernel_rfl) (by kernel_rfl) (by kernel_rfl) allP0 ?_
                exact round_next' (by kernel_rfl) (by kernel_rfl)
            · obtain rfl := stepL_false h216 h
              refine W_exit (id := 2) [0, 2, 9, 10, 11] [31] (fr' := [(0, aD (.slice (.slice tI)) a0), (2, aI a2), (9, aD (.slice tI) r4), (10, .one (.slc 31)), (11, aI x212)]) (L' := [(31, .seq tI x74.2)]) (by kernel_rfl) (by kernel_rfl) ?_
              refine seqQ_exit ?_
              refine round_exit ?_
              exact exQ_mk (by kernel_rfl) (by kernel_rfl)
          · intro e fr L hJ
            obtain ⟨rfl, rfl, rfl⟩ := hJ
            refine LT_keep [0, 2, 9, 10, 11] [31] (fr' := [(0, aD (.slice (.slice tI)) a0), (2, aI a2), (9, aD (.slice tI) r4), (10, .one (.slc 31)), (11, aI v235)]) (L' := [(31, .seq tI x74.2)]) (by kernel_rfl) ?_
            refine blockQ_hit ?_
            refine seqQ_norm ?_
            refine W_seq (by kernel_rfl) ?_
            refine W_run 2 [] [0, 1, 2, 9, 10] [31] (fr' := [(0, aD (.slice (.slice tI)) a0), (1, aI v235), (2, aI a2), (9, aD (.slice tI) r4), (10, .one (.slc 31))]) (L' := [(31, .seq tI x74.2)]) (obs := []) (by kernel_rfl) (by kernel_rfl) (by kernel_rfl) allP0 ?_
            refine seqQ_norm ?_
            obtain ⟨_, h240, h⟩ := bind_of h
            replace h240 := ck_some h240
            obtain rfl := Option.some.inj h
            refine W_run 5 [] [0, 1, 2, 9, 10] [31] (fr' := [(0, aD (.slice (.slice tI)) a0), (1, aI v235), (2, aI a2), (9, aD (.slice tI) r4), (10, .one (.slc 31))]) (L' := [(31, .seq tI (x74.2 ++ [v235]))]) (obs := [SmallLen (List.length x74.2 + List.length [v235])]) (by kernel_rfl) (by kernel_rfl) (by kernel_rfl) (allP1 h240) ?_
            refine blockQ_norm ?_
            exact round_next' (by kernel_rfl) (by kernel_rfl)
        · replace h := ofF h158 h
          obtain rfl := Option.some.inj h
          refine W_exit (id := 0) [10] [31] (fr' := [(10, .one (.slc 31))]) (L' := [(31, .seq tI x74.2)]) (by kernel_rfl) (by kernel_rfl) ?_
          refine seqQ_exit ?_
          refine round_exit ?_
          exact exQ_mk (by kernel_rfl) (by kernel_rfl)
      · intro e fr L hJ
        obtain ⟨rfl, rfl, rfl⟩ := hJ
        refine LT_keep [10] [31] (fr' := [(10, .one (.slc 31))]) (L' := [(31, .seq tI v241)]) (by kernel_rfl) ?_
        refine blockQ_hit ?_
        refine seqQ_norm ?_
        refine W_seq (by kernel_rfl) ?_
        refine W_run 3 [] [6, 7] [31] (fr' := [(6, .one (.slc 31)), (7, aI (0 : Int))]) (L' := [(31, .seq tI v241)]) (obs := []) (by kernel_rfl) (by kernel_rfl) (by kernel_rfl) allP0 ?_
        refine seqQ_norm ?_
        obtain rfl := Option.some.inj h
        refine W_frz 31 (by kernel_rfl) ?_
        refine W_ret [6, 7] [] (fr' := [(6, aD (.slice tI) v241), (7, aI (0 : Int))]) (L' := []) (by kernel_rfl) (by kernel_rfl) ?_
        exact retQ_mk (by kernel_rfl) (by kernel_rfl) (by kernel_rfl)

def ref_Within (a0 : Int) (a1 : Int) (a2 : Int) : Option Bool :=
some ((decide (a0 ≤ a1)) && (decide (a1 ≤ a2)))
theorem ref_Within_ok {a0 : Int} {a1 : Int} {a2 : Int} {r : Bool} (h : ref_Within a0 a1 a2 = some r) : FnC Try.prog 20 [aI a0, aI a1, aI a2] [] (aB r) [] := by
  refine fnC_of_W (B := bodyOf Try.f20) (n := 15) Try.func20 (by kernel_rfl) (by kernel_rfl) (by kernel_rfl) (by kernel_rfl) (by kernel_rfl) ?_
  intro K
  refine W_seq (by kernel_rfl) ?_
  refine W_run 1 [] [0, 1, 2] [] (fr' := [(0, aI a0), (1, aI a1), (2, aI a2)]) (L' := []) (obs := []) (by kernel_rfl) (by kernel_rfl) (by kernel_rfl) allP0 ?_
  refine seqQ_norm ?_
  refine W_seq (by kernel_rfl) ?_
  refine W_run 9 [] [6] [] (fr' := [(6, aB ((decide (a0 ≤ a1)) && (decide (a1 ≤ a2))))]) (L' := []) (obs := []) (by kernel_rfl) (by kernel_rfl) (by kernel_rfl) allP0 ?_
  refine seqQ_norm ?_
  obtain rfl := Option.some.inj h
  refine W_ret [6] [] (fr' := [(6, aB ((decide (a0 ≤ a1)) && (decide (a1 ≤ a2))))]) (L' := []) (by kernel_rfl) (by kernel_rfl) ?_
  exact retQ_mk (by kernel_rfl) (by kernel_rfl) (by kernel_rfl)

def ref_Inside_b1 (a0 : Int) (i11 : Int) (v14 : Int) (x12 : Unit) : Option (Flow Unit (Esc Bool Unit)) :=
bif (decide (v14 < (0 : Int))) || (decide (v14 ≥ a0)) then
(some (.done (.ret false)))
else
(some (.next ()))
@[reducible] def ref_Inside_s2 (a0 : Int) (a1 : (List Int)) (v : Int × Unit) : Fr × LL := ([(0, aI a0), (7, aD (.slice tI) a1), (8, aI (List.length a1 : Int)), (9, aI v.1)], [])
@[reducible] def ref_Inside_s3 (v : Bool) : Fr × LL := ([(4, aB v)], [])
@[reducible] def ref_Inside_s4 (v : Unit) : Fr × LL := ([], [])
def ref_Inside (a0 : Int) (a1 : (List Int)) : Option Bool :=
(forL (ref_Inside_b1 a0) (fun x12 => (.brk ())) a1 0 ()).bind fun v19 =>
match v19 with
| .ret v24 =>
(some v24)
| .brk v25 =>
(some true)
theorem ref_Inside_ok {a0 : Int} {a1 : (List Int)} {r : Bool} (h : ref_Inside a0 a1 = some r) : FnC Try.prog 60 [aI a0, aD (.slice tI) a1] [] (aB r) [] := by
  refine fnC_of_W (B := bodyOf Try.f60) (n := 21) Try.func60 (by kernel_rfl) (by kernel_rfl) (by kernel_rfl) (by kernel_rfl) (by kernel_rfl) ?_
  intro K
  refine W_seq (by kernel_rfl) ?_
  refine W_run 1 [] [0, 1] [] (fr' := [(0, aI a0), (1, aD (.slice tI) a1)]) (L' := []) (obs := []) (by kernel_rfl) (by kernel_rfl) (by kernel_rfl) allP0 ?_
  refine seqQ_norm ?_
  refine W_seq (by kernel_rfl) ?_
  refine W_seq (by kernel_rfl) ?_
  refine W_run 3 [] [0, 7, 8, 9] [] (fr' := [(0, aI a0), (7, aD (.slice tI) a1), (8, aI (List.length a1 : Int)), (9, aI (0 : Int))]) (L' := []) (obs := []) (by kernel_rfl) (by kernel_rfl) (by kernel_rfl) allP0 ?_
  refine seqQ_norm ?_
  refine W_block (id := 0) (by kernel_rfl) ?_
  obtain ⟨v19, h20, h⟩ := bind_of h
  refine W_len (t := 7) (u := tI) (xs := a1) (by kernel_rfl) (fun h23 => ?_)
  obtain ⟨h21, h22⟩ := forL_iter h23 h20
  refine W_weaken [0, 7, 8, 9] [] (fr' := ((ref_Inside_s2 a0 a1) ((0 : Int), ())).1) (L' := ((ref_Inside_s2 a0 a1) ((0 : Int), ())).2) (by kernel_rfl) ?_
  refine W_cutK (W_loop (S := (ref_Inside_s2 a0 a1)) (J := (escQ (exQ .ret ref_Inside_s3) (exQ (.exit 0) ref_Inside_s4))) (by kernel_rfl) ?_ h21 _ v19 h22) ?_
  · rintro ⟨i11, x12⟩ s h
    refine W_seq (by kernel_rfl) ?_
    refine W_run 1 [] [0, 7, 8, 9, 10] [] (fr' := [(0, aI a0), (7, aD (.slice tI) a1), (8, aI (List.length a1 : Int)), (9, aI i11), (10, aB (decide (i11 < (List.length a1 : Int))))]) (L' := []) (obs := []) (by kernel_rfl) (by kernel_rfl) (by kernel_rfl) allP0 ?_
    refine seqQ_norm ?_
    refine W_seq (by kernel_rfl) ?_
    refine W_cond (o := .tmp 10) (b := decide (i11 < (List.length a1 : Int))) (by kernel_rfl) (by kernel_rfl) (fun h16 => ?_) (fun h16 => ?_)
    · replace h := stepL_true h16 h
      obtain ⟨v14, _, h15, h, rfl⟩ := h
      refine W_skip [0, 7, 8, 9] [] (fr' := [(0, aI a0), (7, aD (.slice tI) a1), (8, aI (List.length a1 : Int)), (9, aI i11)]) (L' := []) (by kernel_rfl) (by kernel_rfl) ?_
      refine seqQ_norm ?_
      refine W_seq (by kernel_rfl) ?_
      refine W_block (id := 1) (by kernel_rfl) ?_
      refine W_seq (by kernel_rfl) ?_
      refine W_run 3 [(1, .val (.dat tI v14))] [0, 6, 7, 8, 9] [] (fr' := [(0, aI a0), (6, aI v14), (7, aD (.slice tI) a1), (8, aI (List.length a1 : Int)), (9, aI i11)]) (L' := []) (obs := [Idx a1 i11 v14]) (by kernel_rfl) (by kernel_rfl) (by kernel_rfl) (allP1 (Idx.of h15)) ?_
      refine seqQ_norm ?_
      refine W_seq (by kernel_rfl) ?_
      refine W_run 7 [] [0, 7, 8, 9, 19] [] (fr' := [(0, aI a0), (7, aD (.slice tI) a1), (8, aI (List.length a1 : Int)), (9, aI i11), (19, aB ((decide (v14 < (0 : Int))) || (decide (v14 ≥ a0))))]) (L' := []) (obs := []) (by kernel_rfl) (by kernel_rfl) (by kernel_rfl) allP0 ?_
      refine seqQ_norm ?_
      refine W_cond (o := .tmp 19) (b := (decide (v14 < (0 : Int))) || (decide (v14 ≥ a0))) (by kernel_rfl) (by kernel_rfl) (fun h17 => ?_) (fun h17 => ?_)
      · replace h := ofT h17 h
        refine W_seq (by kernel_rfl) ?_
        refine W_run 1 [] [4] [] (fr' := [(4, aB false)]) (L' := []) (obs := []) (by kernel_rfl) (by kernel_rfl) (by kernel_rfl) allP0 ?_
        refine seqQ_norm ?_
        obtain rfl := Option.some.inj h
        refine W_ret [4] [] (fr' := [(4, aB false)]) (L' := []) (by kernel_rfl) (by kernel_rfl) ?_
        refine blockQ_ret ?_
        refine seqQ_ret ?_
        refine round_ret ?_
        refine escQ_ret ?_
        exact exQ_mk (by kernel_rfl) (by kernel_rfl)
      · replace h := ofF h17 h
        refine W_skip [0, 7, 8, 9] [] (fr' := [(0, aI a0), (7, aD (.slice tI) a1), (8, aI (List.length a1 : Int)), (9, aI i11)]) (L' := []) (by kernel_rfl) (by kernel_rfl) ?_
        refine blockQ_norm ?_
        refine seqQ_norm ?_
        obtain rfl := Option.some.inj h
        refine W_run 2 [] [0, 7, 8, 9] [] (fr' := [(0, aI a0), (7, aD (.slice tI) a1), (8, aI (List.length a1 : Int)), (9, aI (w64 (i11 + (1 : Int))))]) (L' := []) (obs := []) (by kernel_rfl) (by kernel_rfl) (by kernel_rfl) allP0 ?_
        exact round_next' (by kernel_rfl) (by kernel_rfl)
    · obtain rfl := stepL_false h16 h
      refine W_exit (id := 0) [] [] (fr' := []) (L' := []) (by kernel_rfl) (by kernel_rfl) ?_
      refine seqQ_exit ?_
      refine round_exit ?_
      refine escQ_brk ?_
      exact exQ_mk (by kernel_rfl) (by kernel_rfl)
  · intro e fr L hJ
    rcases v19 with v24 | v25
    · obtain ⟨rfl, rfl, rfl⟩ := hJ
      obtain rfl := Option.some.inj h
      refine LT_keep [4] [] (fr' := [(4, aB v24)]) (L' := []) (by kernel_rfl) ?_
      refine blockQ_ret ?_
      refine seqQ_ret ?_
      exact retQ_mk (by kernel_rfl) (by kernel_rfl) (by kernel_rfl)
    · obtain ⟨rfl, rfl, rfl⟩ := hJ
      refine LT_keep [] [] (fr' := []) (L' := []) (by kernel_rfl) ?_
      refine blockQ_hit ?_
      refine seqQ_norm ?_
      refine W_seq (by kernel_rfl) ?_
      refine W_run 1 [] [4] [] (fr' := [(4, aB true)]) (L' := []) (obs := []) (by kernel_rfl) (by kernel_rfl) (by kernel_rfl) allP0 ?_
      refine seqQ_norm ?_
      obtain rfl := Option.some.inj h
      refine W_ret [4] [] (fr' := [(4, aB true)]) (L' := []) (by kernel_rfl) (by kernel_rfl) ?_
      exact retQ_mk (by kernel_rfl) (by kernel_rfl) (by kernel_rfl)

def ref_NextsCheck_b1 (i14 : Int) (v17 : (List Int)) (x15 : Unit) : Option (Flow Unit (Esc Int Unit)) :=
bif decide ((List.length v17 : Int) > (4 : Int)) then
(some (.done (.ret (1 : Int))))
else
(some (.next ()))
@[reducible] def ref_NextsCheck_s2 (a0 : (List (List Int))) (a1 : (List Int)) (v : Int × Unit) : Fr × LL := ([(0, aD (.slice (.slice tI)) a0), (1, aD (.slice tI) a1), (13, aD (.slice (.slice tI)) a0), (14, aI (List.length a0 : Int)), (15, aI v.1)], [])
@[reducible] def ref_NextsCheck_s3 (v : Int) : Fr × LL := ([(4, aI v)], [])
@[reducible] def ref_NextsCheck_s4 (a0 : (List (List Int))) (a1 : (List Int)) (v : Unit) : Fr × LL := ([(0, aD (.slice (.slice tI)) a0), (1, aD (.slice tI) a1)], [])
def ref_NextsCheck_b5 (a0 : (List (List Int))) (i43 : Int) (v46 : (List Int)) (x44 : Unit) : Option (Flow Unit (Esc Int Unit)) :=
(ref_Inside (List.length a0 : Int) v46).bind fun r49 =>
bif !r49 then
(some (.done (.ret (2 : Int))))
else
(some (.next ()))
@[reducible] def ref_NextsCheck_s6 (a0 : (List (List Int))) (a1 : (List Int)) (v : Int × Unit) : Fr × LL := ([(0, aD (.slice (.slice tI)) a0), (1, aD (.slice tI) a1), (23, aD (.slice (.slice tI)) a0), (24, aI (List.length a0 : Int)), (25, aI v.1)], [])
@[reducible] def ref_NextsCheck_s7 (v : Int) : Fr × LL := ([(4, aI v)], [])
@[reducible] def ref_NextsCheck_s8 (a0 : (List (List Int))) (a1 : (List Int)) (v : Unit) : Fr × LL := ([(0, aD (.slice (.slice tI)) a0), (1, aD (.slice tI) a1)], [])
def ref_NextsCheck (a0 : (List (List Int))) (a1 : (List Int)) : Option Int :=
(ref_Within (1 : Int) (List.length a0 : Int) (8 : Int)).bind fun r1 =>
bif !r1 then
(some (1 : Int))
else
((forL ref_NextsCheck_b1 (fun x15 => (.brk ())) a0 0 ()).bind fun v22 =>
match v22 with
| .ret v27 =>
(some v27)
| .brk v28 =>
((forL (ref_NextsCheck_b5 a0) (fun x44 => (.brk ())) a0 0 ()).bind fun v53 =>
match v53 with
| .ret v58 =>
(some v58)
| .brk v59 =>
((ref_Inside (List.length a0 : Int) a1).bind fun r60 =>
bif !r60 then
(some (2 : Int))
else
(some (0 : Int)))))
theorem ref_NextsCheck_ok {a0 : (List (List Int))} {a1 : (List Int)} {r : Int} (h : ref_NextsCheck a0 a1 = some r) : FnC Try.prog 38 [aD (.slice (.slice tI)) a0, aD (.slice tI) a1] [] (aI r) [] := by
  refine fnC_of_W (B := bodyOf Try.f38) (n := 40) Try.func38 (by kernel_rfl) (by kernel_rfl) (by kernel_rfl) (by kernel_rfl) (by kernel_rfl) ?_
  intro K
  refine W_seq (by kernel_rfl) ?_
  refine W_run 1 [] [0, 1] [] (fr' := [(0, aD (.slice (.slice tI)) a0), (1, aD (.slice tI) a1)]) (L' := []) (obs := []) (by kernel_rfl) (by kernel_rfl) (by kernel_rfl) allP0 ?_
  refine seqQ_norm ?_
  refine W_seq (by kernel_rfl) ?_
  refine W_seq (by kernel_rfl) ?_
  refine W_region (by kernel_rfl) ?_
  refine WO_run (j := 2) (k := 2) (orcs := []) (kF := [0, 1, 10]) (kL := []) (fr' := [(0, aD (.slice (.slice tI)) a0), (1, aD (.slice tI) a1), (10, aI (List.length a0 : Int))]) (L' := []) (obs := []) rfl (by kernel_rfl) allP0 ?_
  obtain ⟨r1, h2, h⟩ := bind_of h
  refine WO_call0 (us := [none, none, none]) (d := 11) (p := True) (j := 3) rfl ⟨by kernel_rfl, by kernel_rfl, by kernel_rfl⟩ trivial (ref_Within_ok h2) (by kernel_rfl) ?_
  refine WO_run (j := 4) (k := 1) (orcs := []) (kF := [0, 1, 12]) (kL := []) (fr' := [(0, aD (.slice (.slice tI)) a0), (1, aD (.slice tI) a1), (12, aB (!r1))]) (L' := []) (obs := []) rfl (by kernel_rfl) allP0 ?_
  refine WO_fin [0, 1, 12] [] (fr' := [(0, aD (.slice (.slice tI)) a0), (1, aD (.slice tI) a1), (12, aB (!r1))]) (L' := []) (by kernel_rfl) (by kernel_rfl) ?_
  refine seqQ_norm ?_
  refine W_cond (o := .tmp 12) (b := !r1) (by kernel_rfl) (by kernel_rfl) (fun h3 => ?_) (fun h3 => ?_)
  · replace h := ofT h3 h
    refine W_seq (by kernel_rfl) ?_
    refine W_run 1 [] [4] [] (fr' := [(4, aI (1 : Int))]) (L' := []) (obs := []) (by kernel_rfl) (by kernel_rfl) (by kernel_rfl) allP0 ?_
    refine seqQ_norm ?_
    obtain rfl := Option.some.inj h
    refine W_ret [4] [] (fr' := [(4, aI (1 : Int))]) (L' := []) (by kernel_rfl) (by kernel_rfl) ?_
    refine seqQ_ret ?_
    exact retQ_mk (by kernel_rfl) (by kernel_rfl) (by kernel_rfl)
  · replace h := ofF h3 h
    refine W_skip [0, 1] [] (fr' := [(0, aD (.slice (.slice tI)) a0), (1, aD (.slice tI) a1)]) (L' := []) (by kernel_rfl) (by kernel_rfl) ?_
    refine seqQ_norm ?_
    refine W_seq (by kernel_rfl) ?_
    refine W_seq (by kernel_rfl) ?_
    refine W_run 3 [] [0, 1, 13, 14, 15] [] (fr' := [(0, aD (.slice (.slice tI)) a0), (1, aD (.slice tI) a1), (13, aD (.slice (.slice tI)) a0), (14, aI (List.length a0 : Int)), (15, aI (0 : Int))]) (L' := []) (obs := []) (by kernel_rfl) (by kernel_rfl) (by kernel_rfl) allP0 ?_
    refine seqQ_norm ?_
    refine W_block (id := 0) (by kernel_rfl) ?_
    obtain ⟨v22, h23, h⟩ := bind_of h
    refine W_len (t := 13) (u := (.slice tI)) (xs := a0) (by kernel_rfl) (fun h26 => ?_)
    obtain ⟨h24, h25⟩ := forL_iter h26 h23
    refine W_weaken [0, 1, 13, 14, 15] [] (fr' := ((ref_NextsCheck_s2 a0 a1) ((0 : Int), ())).1) (L' := ((ref_NextsCheck_s2 a0 a1) ((0 : Int), ())).2) (by kernel_rfl) ?_
    refine W_cutK (W_loop (S := (ref_NextsCheck_s2 a0 a1)) (J := (escQ (exQ .ret ref_NextsCheck_s3) (exQ (.exit 0) (ref_NextsCheck_s4 a0 a1)))) (by kernel_rfl) ?_ h24 _ v22 h25) ?_
    · rintro ⟨i14, x15⟩ s h
      refine W_seq (by kernel_rfl) ?_
      refine W_run 1 [] [0, 1, 13, 14, 15, 16] [] (fr' := [(0, aD (.slice (.slice tI)) a0), (1, aD (.slice tI) a1), (13, aD (.slice (.slice tI)) a0), (14, aI (List.length a0 : Int)), (15, aI i14), (16, aB (decide (i14 < (List.length a0 : Int))))]) (L' := []) (obs := []) (by kernel_rfl) (by kernel_rfl) (by kernel_rfl) allP0 ?_
      refine seqQ_norm ?_
      refine W_seq (by kernel_rfl) ?_
      refine W_cond (o := .tmp 16) (b := decide (i14 < (List.length a0 : Int))) (by kernel_rfl) (by kernel_rfl) (fun h19 => ?_) (fun h19 => ?_)
      · replace h := stepL_true h19 h
        obtain ⟨v17, _, h18, h, rfl⟩ := h
        refine W_skip [0, 1, 13, 14, 15] [] (fr' := [(0, aD (.slice (.slice tI)) a0), (1, aD (.slice tI) a1), (13, aD (.slice (.slice tI)) a0), (14, aI (List.length a0 : Int)), (15, aI i14)]) (L' := []) (by kernel_rfl) (by kernel_rfl) ?_
        refine seqQ_norm ?_
        refine W_seq (by kernel_rfl) ?_
        refine W_block (id := 1) (by kernel_rfl) ?_
        refine W_seq (by kernel_rfl) ?_
        refine W_run 3 [(1, .val (.dat (.slice tI) v17))] [0, 1, 6, 13, 14, 15] [] (fr' := [(0, aD (.slice (.slice tI)) a0), (1, aD (.slice tI) a1), (6, aD (.slice tI) v17), (13, aD (.slice (.slice tI)) a0), (14, aI (List.length a0 : Int)), (15, aI i14)]) (L' := []) (obs := [Idx a0 i14 v17]) (by kernel_rfl) (by kernel_rfl) (by kernel_rfl) (allP1 (Idx.of h18)) ?_
        refine seqQ_norm ?_
        refine W_seq (by kernel_rfl) ?_
        refine W_run 3 [] [0, 1, 13, 14, 15, 21] [] (fr' := [(0, aD (.slice (.slice tI)) a0), (1, aD (.slice tI) a1), (13, aD (.slice (.slice tI)) a0), (14, aI (List.length a0 : Int)), (15, aI i14), (21, aB (decide ((List.length v17 : Int) > (4 : Int))))]) (L' := []) (obs := []) (by kernel_rfl) (by kernel_rfl) (by kernel_rfl) allP0 ?_
        refine seqQ_norm ?_
        refine W_cond (o := .tmp 21) (b := decide ((List.length v17 : Int) > (4 : Int))) (by kernel_rfl) (by kernel_rfl) (fun h20 => ?_) (fun h20 => ?_)
        · replace h := ofT h20 h
          refine W_seq (by kernel_rfl) ?_
          refine W_run 1 [] [4] [] (fr' := [(4, aI (1 : Int))]) (L' := []) (obs := []) (by kernel_rfl) (by kernel_rfl) (by kernel_rfl) allP0 ?_
          refine seqQ_norm ?_
          obtain rfl := Option.some.inj h
          refine W_ret [4] [] (fr' := [(4, aI (1 : Int))]) (L' := []) (by kernel_rfl) (by kernel_rfl) ?_
          refine blockQ_ret ?_
          refine seqQ_ret ?_
          refine round_ret ?_
          refine escQ_ret ?_
          exact exQ_mk (by kernel_rfl) (by kernel_rfl)
        · replace h := ofF h20 h
          refine W_skip [0, 1, 13, 14, 15] [] (fr' := [(0, aD (.slice (.slice tI)) a0), (1, aD (.slice tI) a1), (13, aD (.slice (.slice tI)) a0), (14, aI (List.length a0 : Int)), (15, aI i14)]) (L' := []) (by kernel_rfl) (by kernel_rfl) ?_
          refine blockQ_norm ?_
          refine seqQ_norm ?_
          obtain rfl := Option.some.inj h
          refine W_run 2 [] [0, 1, 13, 14, 15] [] (fr' := [(0, aD (.slice (.slice tI)) a0), (1, aD (.slice tI) a1), (13, aD (.slice (.slice tI)) a0), (14, aI (List.length a0 : Int)), (15, aI (w64 (i14 + (1 : Int))))]) (L' := []) (obs := []) (by kernel_rfl) (by kernel_rfl) (by kernel_rfl) allP0 ?_
          exact round_next' (by kernel_rfl) (by kernel_rfl)
      · obtain rfl := stepL_false h19 h
        refine W_exit (id := 0) [0, 1] [] (fr' := [(0, aD (.slice (.slice tI)) a0), (1, aD (.slice tI) a1)]) (L' := []) (by kernel_rfl) (by kernel_rfl) ?_
        refine seqQ_exit ?_
        refine round_exit ?_
        refine escQ_brk ?_
        exact exQ_mk (by kernel_rfl) (by kernel_rfl)
    · intro e fr L hJ
      rcases v22 with v27 | v28
      · obtain ⟨rfl, rfl, rfl⟩ := hJ
        obtain rfl := Option.some.inj h
        refine LT_keep [4] [] (fr' := [(4, aI v27)]) (L' := []) (by kernel_rfl) ?_
        refine blockQ_ret ?_
        refine seqQ_ret ?_
        exact retQ_mk (by kernel_rfl) (by kernel_rfl) (by kernel_rfl)
      · obtain ⟨rfl, rfl, rfl⟩ := hJ
        refine LT_keep [0, 1] [] (fr' := [(0, aD (.slice (.slice tI)) a0), (1, aD (.slice tI) a1)]) (L' := []) (by kernel_rfl) ?_
        refine blockQ_hit ?_
        refine seqQ_norm ?_
        refine W_seq (by kernel_rfl) ?_
        refine W_seq (by kernel_rfl) ?_
        refine W_run 3 [] [0, 1, 23, 24, 25] [] (fr' := [(0, aD (.slice (.slice tI)) a0), (1, aD (.slice tI) a1), (23, aD (.slice (.slice tI)) a0), (24, aI (List.length a0 : Int)), (25, aI (0 : Int))]) (L' := []) (obs := []) (by kernel_rfl) (by kernel_rfl) (by kernel_rfl) allP0 ?_
        refine seqQ_norm ?_
        refine W_block (id := 2) (by kernel_rfl) ?_
        obtain ⟨v53, h54, h⟩ := bind_of h
        refine W_len (t := 23) (u := (.slice tI)) (xs := a0) (by kernel_rfl) (fun h57 => ?_)
        obtain ⟨h55, h56⟩ := forL_iter h57 h54
        refine W_weaken [0, 1, 23, 24, 25] [] (fr' := ((ref_NextsCheck_s6 a0 a1) ((0 : Int), ())).1) (L' := ((ref_NextsCheck_s6 a0 a1) ((0 : Int), ())).2) (by kernel_rfl) ?_
        refine W_cutK (W_loop (S := (ref_NextsCheck_s6 a0 a1)) (J := (escQ (exQ .ret ref_NextsCheck_s7) (exQ (.exit 2) (ref_NextsCheck_s8 a0 a1)))) (by kernel_rfl) ?_ h55 _ v53 h56) ?_
        · rintro ⟨i43, x44⟩ s h
          refine W_seq (by kernel_rfl) ?_
          refine W_run 1 [] [0, 1, 23, 24, 25, 26] [] (fr' := [(0, aD (.slice (.slice tI)) a0), (1, aD (.slice tI) a1), (23, aD (.slice (.slice tI)) a0), (24, aI (List.length a0 : Int)), (25, aI i43), (26, aB (decide (i43 < (List.length a0 : Int))))]) (L' := []) (obs := []) (by kernel_rfl) (by kernel_rfl) (by kernel_rfl) allP0 ?_
          refine seqQ_norm ?_
          refine W_seq (by kernel_rfl) ?_
          refine W_cond (o := .tmp 26) (b := decide (i43 < (List.length a0 : Int))) (by kernel_rfl) (by kernel_rfl) (fun h48 => ?_) (fun h48 => ?_)
          · replace h := stepL_true h48 h
            obtain ⟨v46, _, h47, h, rfl⟩ := h
            refine W_skip [0, 1, 23, 24, 25] [] (fr' := [(0, aD (.slice (.slice tI)) a0), (1, aD (.slice tI) a1), (23, aD (.slice (.slice tI)) a0), (24, aI (List.length a0 : Int)), (25, aI i43)]) (L' := []) (by kernel_rfl) (by kernel_rfl) ?_
            refine seqQ_norm ?_
            refine W_seq (by kernel_rfl) ?_
            refine W_block (id := 3) (by kernel_rfl) ?_
            refine W_seq (by kernel_rfl) ?_
            refine W_run 3 [(1, .val (.dat (.slice tI) v46))] [0, 1, 8, 23, 24, 25] [] (fr' := [(0, aD (.slice (.slice tI)) a0), (1, aD (.slice tI) a1), (8, aD (.slice tI) v46), (23, aD (.slice (.slice tI)) a0), (24, aI (List.length a0 : Int)), (25, aI i43)]) (L' := []) (obs := [Idx a0 i43 v46]) (by kernel_rfl) (by kernel_rfl) (by kernel_rfl) (allP1 (Idx.of h47)) ?_
            refine seqQ_norm ?_
            refine W_seq (by kernel_rfl) ?_
            refine W_region (by kernel_rfl) ?_
            refine WO_run (j := 3) (k := 3) (orcs := []) (kF := [0, 1, 23, 24, 25, 30, 31]) (kL := []) (fr' := [(0, aD (.slice (.slice tI)) a0), (1, aD (.slice tI) a1), (23, aD (.slice (.slice tI)) a0), (24, aI (List.length a0 : Int)), (25, aI i43), (30, aI (List.length a0 : Int)), (31, aD (.slice tI) v46)]) (L' := []) (obs := []) rfl (by kernel_rfl) allP0 ?_
            obtain ⟨r49, h50, h⟩ := bind_of h
            refine WO_call0 (us := [none, none]) (d := 32) (p := True) (j := 4) rfl ⟨by kernel_rfl, by kernel_rfl, by kernel_rfl⟩ trivial (ref_Inside_ok h50) (by kernel_rfl) ?_
            refine WO_run (j := 5) (k := 1) (orcs := []) (kF := [0, 1, 23, 24, 25, 33]) (kL := []) (fr' := [(0, aD (.slice (.slice tI)) a0), (1, aD (.slice tI) a1), (23, aD (.slice (.slice tI)) a0), (24, aI (List.length a0 : Int)), (25, aI i43), (33, aB (!r49))]) (L' := []) (obs := []) rfl (by kernel_rfl) allP0 ?_
            refine WO_fin [0, 1, 23, 24, 25, 33] [] (fr' := [(0, aD (.slice (.slice tI)) a0), (1, aD (.slice tI) a1), (23, aD (.slice (.slice tI)) a0), (24, aI (List.length a0 : Int)), (25, aI i43), (33, aB (!r49))]) (L' := []) (by kernel_rfl) (by kernel_rfl) ?_
            refine seqQ_norm ?_
            refine W_cond (o := .tmp 33) (b := !r49) (by kernel_rfl) (by kernel_rfl) (fun h51 => ?_) (fun h51 => ?_)
            · replace h := ofT h51 h
              refine W_seq (by kernel_rfl) ?_
              refine W_run 1 [] [4] [] (fr' := [(4, aI (2 : Int))]) (L' := []) (obs := []) (by kernel_rfl) (by kernel_rfl) (by kernel_rfl) allP0 ?_
              refine seqQ_norm ?_
              obtain rfl := Option.some.inj h
              refine W_ret [4] [] (fr' := [(4, aI (2 : Int))]) (L' := []) (by kernel_rfl) (by kernel_rfl) ?_
              refine blockQ_ret ?_
              refine seqQ_ret ?_
              refine round_ret ?_
              refine escQ_ret ?_
              exact exQ_mk (by kernel_rfl) (by kernel_rfl)
            · replace h := ofF h51 h
              refine W_skip [0, 1, 23, 24, 25] [] (fr' := [(0, aD (.slice (.slice tI)) a0), (1, aD (.slice tI) a1), (23, aD (.slice (.slice tI)) a0), (24, aI (List.length a0 : Int)), (25, aI i43)]) (L' := []) (by kernel_rfl) (by kernel_rfl) ?_
              refine blockQ_norm ?_
              refine seqQ_norm ?_
              obtain rfl := Option.some.inj h
              refine W_run 2 [] [0, 1, 23, 24, 25] [] (fr' := [(0, aD (.slice (.slice tI)) a0), (1, aD (.slice tI) a1), (23, aD (.slice (.slice tI)) a0), (24, aI (List.length a0 : Int)), (25, aI (w64 (i43 + (1 : Int))))]) (L' := []) (obs := []) (by kernel_rfl) (by kernel_rfl) (by kernel_rfl) allP0 ?_
              exact round_next' (by kernel_rfl) (by kernel_rfl)
          · obtain rfl := stepL_false h48 h
            refine W_exit (id := 2) [0, 1] [] (fr' := [(0, aD (.slice (.slice tI)) a0), (1, aD (.slice tI) a1)]) (L' := []) (by kernel_rfl) (by kernel_rfl) ?_
            refine seqQ_exit ?_
            refine round_exit ?_
            refine escQ_brk ?_
            exact exQ_mk (by kernel_rfl) (by kernel_rfl)
        · intro e fr L hJ
          rcases v53 with v58 | v59
          · obtain ⟨rfl, rfl, rfl⟩ := hJ
            obtain rfl := Option.some.inj h
            refine LT_keep [4] [] (fr' := [(4, aI v58)]) (L' := []) (by kernel_rfl) ?_
            refine blockQ_ret ?_
            refine seqQ_ret ?_
            exact retQ_mk (by kernel_rfl) (by kernel_rfl) (by kernel_rfl)
          · obtain ⟨rfl, rfl, rfl⟩ := hJ
            refine LT_keep [0, 1] [] (fr' := [(0, aD (.slice (.slice tI)) a0), (1, aD (.slice tI) a1)]) (L' := []) (by kernel_rfl) ?_
            refine blockQ_hit ?_
            refine seqQ_norm ?_
            refine W_seq (by kernel_rfl) ?_
            refine W_seq (by kernel_rfl) ?_
            refine W_region (by kernel_rfl) ?_
            refine WO_run (j := 3) (k := 3) (orcs := []) (kF := [36, 37]) (kL := []) (fr' := [(36, aI (List.length a0 : Int)), (37, aD (.slice tI) a1)]) (L' := []) (obs := []) rfl (by kernel_rfl) allP0 ?_
            obtain ⟨r60, h61, h⟩ := bind_of h
            refine WO_call0 (us := [none, none]) (d := 38) (p := True) (j := 4) rfl ⟨by kernel_rfl, by kernel_rfl, by kernel_rfl⟩ trivial (ref_Inside_ok h61) (by kernel_rfl) ?_
            refine WO_run (j := 5) (k := 1) (orcs := []) (kF := [39]) (kL := []) (fr' := [(39, aB (!r60))]) (L' := []) (obs := []) rfl (by kernel_rfl) allP0 ?_
            refine WO_fin [39] [] (fr' := [(39, aB (!r60))]) (L' := []) (by kernel_rfl) (by kernel_rfl) ?_
            refine seqQ_norm ?_
            refine W_cond (o := .tmp 39) (b := !r60) (by kernel_rfl) (by kernel_rfl) (fun h62 => ?_) (fun h62 => ?_)
            · replace h := ofT h62 h
              refine W_seq (by kernel_rfl) ?_
              refine W_run 1 [] [4] [] (fr' := [(4, aI (2 : Int))]) (L' := []) (obs := []) (by kernel_rfl) (by kernel_rfl) (by kernel_rfl) allP0 ?_
              refine seqQ_norm ?_
              obtain rfl := Option.some.inj h
              refine W_ret [4] [] (fr' := [(4, aI (2 : Int))]) (L' := []) (by kernel_rfl) (by kernel_rfl) ?_
              refine seqQ_ret ?_
              exact retQ_mk (by kernel_rfl) (by kernel_rfl) (by kernel_rfl)
            · replace h := ofF h62 h
              refine W_skip [] [] (fr' := []) (L' := []) (by kernel_rfl) (by kernel_rfl) ?_
              refine seqQ_norm ?_
              refine W_seq (by kernel_rfl) ?_
              refine W_run 1 [] [4] [] (fr' := [(4, aI (0 : Int))]) (L' := []) (obs := []) (by kernel_rfl) (by kernel_rfl) (by kernel_rfl) allP0 ?_
              refine seqQ_norm ?_
              obtain rfl := Option.some.inj h
              refine W_ret [4] [] (fr' := [(4, aI (0 : Int))]) (L' := []) (by kernel_rfl) (by kernel_rfl) ?_
              exact retQ_mk (by kernel_rfl) (by kernel_rfl) (by kernel_rfl)

def ref_Has_b1 (a1 : Int) (i11 : Int) (v14 : Int) (x12 : Unit) : Option (Flow Unit (Esc Bool Unit)) :=
bif a1 == v14 then
(some (.done (.ret true)))
else
(some (.next ()))
@[reducible] def ref_Has_s2 (a1 : Int) (c0 : (List Int)) (v : Int × Unit) : Fr × LL := ([(1, aI a1), (7, .one (.slc 1000)), (8, aI (List.length c0 : Int)), (9, aI v.1)], [(1000, .seq tI c0)])
@[reducible] def ref_Has_s3 (c0 : (List Int)) (v : Bool) : Fr × LL := ([(4, aB v)], [(1000, .seq tI c0)])
@[reducible] def ref_Has_s4 (c0 : (List Int)) (v : Unit) : Fr × LL := ([], [(1000, .seq tI c0)])
def ref_Has (a1 : Int) (c0 : (List Int)) : Option Bool :=
(forL (ref_Has_b1 a1) (fun x12 => (.brk ())) c0 0 ()).bind fun v19 =>
match v19 with
| .ret v24 =>
(some v24)
| .brk v25 =>
(some false)
theorem ref_Has_ok {a1 : Int} {c0 : (List Int)} {r : Bool} (h : ref_Has a1 c0 = some r) : FnC Try.prog 47 [.one (.slc 1000), aI a1] [(1000, .seq tI c0)] (aB r) [(1000, .seq tI c0)] := by
  refine fnC_of_W (B := bodyOf Try.f47) (n := 17) Try.func47 (by kernel_rfl) (by kernel_rfl) (by kernel_rfl) (by kernel_rfl) (by kernel_rfl) ?_
  intro K
  refine W_seq (by kernel_rfl) ?_
  refine W_run 1 [] [0, 1] [1000] (fr' := [(0, .one (.slc 1000)), (1, aI a1)]) (L' := [(1000, .seq tI c0)]) (obs := []) (by kernel_rfl) (by kernel_rfl) (by kernel_rfl) allP0 ?_
  refine seqQ_norm ?_
  refine W_seq (by kernel_rfl) ?_
  refine W_seq (by kernel_rfl) ?_
  refine W_run 3 [] [1, 7, 8, 9] [1000] (fr' := [(1, aI a1), (7, .one (.slc 1000)), (8, aI (List.length c0 : Int)), (9, aI (0 : Int))]) (L' := [(1000, .seq tI c0)]) (obs := []) (by kernel_rfl) (by kernel_rfl) (by kernel_rfl) allP0 ?_
  refine seqQ_norm ?_
  refine W_block (id := 0) (by kernel_rfl) ?_
  obtain ⟨v19, h20, h⟩ := bind_of h
  refine W_lenS (s := 1000) (u := tI) (xs := c0) (by kernel_rfl) (fun h23 => ?_)
  obtain ⟨h21, h22⟩ := forL_iter h23 h20
  refine W_weaken [1, 7, 8, 9] [1000] (fr' := ((ref_Has_s2 a1 c0) ((0 : Int), ())).1) (L' := ((ref_Has_s2 a1 c0) ((0 : Int), ())).2) (by kernel_rfl) ?_
  refine W_cutK (W_loop (S := (ref_Has_s2 a1 c0)) (J := (escQ (exQ .ret (ref_Has_s3 c0)) (exQ (.exit 0) (ref_Has_s4 c0)))) (by kernel_rfl) ?_ h21 _ v19 h22) ?_
  · rintro ⟨i11, x12⟩ s h
    refine W_seq (by kernel_rfl) ?_
    refine W_run 1 [] [1, 7, 8, 9, 10] [1000] (fr' := [(1, aI a1), (7, .one (.slc 1000)), (8, aI (List.length c0 : Int)), (9, aI i11), (10, aB (decide (i11 < (List.length c0 : Int))))]) (L' := [(1000, .seq tI c0)]) (obs := []) (by kernel_rfl) (by kernel_rfl) (by kernel_rfl) allP0 ?_
    refine seqQ_norm ?_
    refine W_seq (by kernel_rfl) ?_
    refine W_cond (o := .tmp 10) (b := decide (i11 < (List.length c0 : Int))) (by kernel_rfl) (by kernel_rfl) (fun h16 => ?_) (fun h16 => ?_)
    · replace h := stepL_true h16 h
      obtain ⟨v14, _, h15, h, rfl⟩ := h
      refine W_skip [1, 7, 8, 9] [1000] (fr' := [(1, aI a1), (7, .one (.slc 1000)), (8, aI (List.length c0 : Int)), (9, aI i11)]) (L' := [(1000, .seq tI c0)]) (by kernel_rfl) (by kernel_rfl) ?_
      refine seqQ_norm ?_
      refine W_seq (by kernel_rfl) ?_
      refine W_block (id := 1) (by kernel_rfl) ?_
      refine W_seq (by kernel_rfl) ?_
      refine W_run 3 [(3, .val (.dat tI v14))] [1, 6, 7, 8, 9] [1000] (fr' := [(1, aI a1), (6, aI v14), (7, .one (.slc 1000)), (8, aI (List.length c0 : Int)), (9, aI i11)]) (L' := [(1000, .seq tI c0)]) (obs := [InR i11 (List.length c0), Idx c0 i11 v14]) (by kernel_rfl) (by kernel_rfl) (by kernel_rfl) (allP2 (InR.of h15) (allP1 (Idx.of h15))) ?_
      refine seqQ_norm ?_
      refine W_seq (by kernel_rfl) ?_
      refine W_run 3 [] [1, 7, 8, 9, 15] [1000] (fr' := [(1, aI a1), (7, .one (.slc 1000)), (8, aI (List.length c0 : Int)), (9, aI i11), (15, aB (a1 == v14))]) (L' := [(1000, .seq tI c0)]) (obs := []) (by kernel_rfl) (by kernel_rfl) (by kernel_rfl) allP0 ?_
      refine seqQ_norm ?_
      refine W_cond (o := .tmp 15) (b := a1 == v14) (by kernel_rfl) (by kernel_rfl) (fun h17 => ?_) (fun h17 => ?_)
      · replace h := ofT h17 h
        refine W_seq (by kernel_rfl) ?_
        refine W_run 1 [] [4] [1000] (fr' := [(4, aB true)]) (L' := [(1000, .seq tI c0)]) (obs := []) (by kernel_rfl) (by kernel_rfl) (by kernel_rfl) allP0 ?_
        refine seqQ_norm ?_
        obtain rfl := Option.some.inj h
        refine W_ret [4] [1000] (fr' := [(4, aB true)]) (L' := [(1000, .seq tI c0)]) (by kernel_rfl) (by kernel_rfl) ?_
        refine blockQ_ret ?_
        refine seqQ_ret ?_
        refine round_ret ?_
        refine escQ_ret ?_
        exact exQ_mk (by kernel_rfl) (by kernel_rfl)
      · replace h := ofF h17 h
        refine W_skip [1, 7, 8, 9] [1000] (fr' := [(1, aI a1), (7, .one (.slc 1000)), (8, aI (List.length c0 : Int)), (9, aI i11)]) (L' := [(1000, .seq tI c0)]) (by kernel_rfl) (by kernel_rfl) ?_
        refine blockQ_norm ?_
        refine seqQ_norm ?_
        obtain rfl := Option.some.inj h
        refine W_run 2 [] [1, 7, 8, 9] [1000] (fr' := [(1, aI a1), (7, .one (.slc 1000)), (8, aI (List.length c0 : Int)), (9, aI (w64 (i11 + (1 : Int))))]) (L' := [(1000, .seq tI c0)]) (obs := []) (by kernel_rfl) (by kernel_rfl) (by kernel_rfl) allP0 ?_
        exact round_next' (by kernel_rfl) (by kernel_rfl)
    · obtain rfl := stepL_false h16 h
      refine W_exit (id := 0) [] [1000] (fr' := []) (L' := [(1000, .seq tI c0)]) (by kernel_rfl) (by kernel_rfl) ?_
      refine seqQ_exit ?_
      refine round_exit ?_
      refine escQ_brk ?_
      exact exQ_mk (by kernel_rfl) (by kernel_rfl)
  · intro e fr L hJ
    rcases v19 with v24 | v25
    · obtain ⟨rfl, rfl, rfl⟩ := hJ
      obtain rfl := Option.some.inj h
      refine LT_keep [4] [1000] (fr' := [(4, aB v24)]) (L' := [(1000, .seq tI c0)]) (by kernel_rfl) ?_
      refine blockQ_ret ?_
      refine seqQ_ret ?_
      exact retQ_mk (by kernel_rfl) (by kernel_rfl) (by kernel_rfl)
    · obtain ⟨rfl, rfl, rfl⟩ := hJ
      refine LT_keep [] [1000] (fr' := []) (L' := [(1000, .seq tI c0)]) (by kernel_rfl) ?_
      refine blockQ_hit ?_
      refine seqQ_norm ?_
      refine W_seq (by kernel_rfl) ?_
      refine W_run 1 [] [4] [1000] (fr' := [(4, aB false)]) (L' := [(1000, .seq tI c0)]) (obs := []) (by kernel_rfl) (by kernel_rfl) (by kernel_rfl) allP0 ?_
      refine seqQ_norm ?_
      obtain rfl := Option.some.inj h
      refine W_ret [4] [1000] (fr' := [(4, aB false)]) (L' := [(1000, .seq tI c0)]) (by kernel_rfl) (by kernel_rfl) ?_
      exact retQ_mk (by kernel_rfl) (by kernel_rfl) (by kernel_rfl)

def ref_Has_i2_b1 (a1 : Int) (i11 : Int) (v14 : Int) (x12 : Unit) : Option (Flow Unit (Esc Bool Unit)) :=
bif a1 == v14 then
(some (.done (.ret true)))
else
(some (.next ()))
@[reducible] def ref_Has_i2_s2 (a0 : (List Int)) (a1 : Int) (v : Int × Unit) : Fr × LL := ([(1, aI a1), (7, aD (.slice tI) a0), (8, aI (List.length a0 : Int)), (9, aI v.1)], [])
@[reducible] def ref_Has_i2_s3 (v : Bool) : Fr × LL := ([(4, aB v)], [])
@[reducible] def ref_Has_i2_s4 (v : Unit) : Fr × LL := ([], [])
def ref_Has_i2 (a0 : (List Int)) (a1 : Int) : Option Bool :=
(forL (ref_Has_i2_b1 a1) (fun x12 => (.brk ())) a0 0 ()).bind fun v19 =>
match v19 with
| .ret v24 =>
(some v24)
| .brk v25 =>
(some false)
theorem ref_Has_i2_ok {a0 : (List Int)} {a1 : Int} {r : Bool} (h : ref_Has_i2 a0 a1 = some r) : FnC Try.prog 47 [aD (.slice tI) a0, aI a1] [] (aB r) [] := by
  refine fnC_of_W (B := bodyOf Try.f47) (n := 17) Try.func47 (by kernel_rfl) (by kernel_rfl) (by kernel_rfl) (by kernel_rfl) (by kernel_rfl) ?_
  intro K
  refine W_seq (by kernel_rfl) ?_
  refine W_run 1 [] [0, 1] [] (fr' := [(0, aD (.slice tI) a0), (1, aI a1)]) (L' := []) (obs := []) (by kernel_rfl) (by kernel_rfl) (by kernel_rfl) allP0 ?_
  refine seqQ_norm ?_
  refine W_seq (by kernel_rfl) ?_
  refine W_seq (by kernel_rfl) ?_
  refine W_run 3 [] [1, 7, 8, 9] [] (fr' := [(1, aI a1), (7, aD (.slice tI) a0), (8, aI (List.length a0 : Int)), (9, aI (0 : Int))]) (L' := []) (obs := []) (by kernel_rfl) (by kernel_rfl) (by kernel_rfl) allP0 ?_
  refine seqQ_norm ?_
  refine W_block (id := 0) (by kernel_rfl) ?_
  obtain ⟨v19, h20, h⟩ := bind_of h
  refine W_len (t := 7) (u := tI) (xs := a0) (by kernel_rfl) (fun h23 => ?_)
  obtain ⟨h21, h22⟩ := forL_iter h23 h20
  refine W_weaken [1, 7, 8, 9] [] (fr' := ((ref_Has_i2_s2 a0 a1) ((0 : Int), ())).1) (L' := ((ref_Has_i2_s2 a0 a1) ((0 : Int), ())).2) (by kernel_rfl) ?_
  refine W_cutK (W_loop (S := (ref_Has_i2_s2 a0 a1)) (J := (escQ (exQ .ret ref_Has_i2_s3) (exQ (.exit 0) ref_Has_i2_s4))) (by kernel_rfl) ?_ h21 _ v19 h22) ?_
  · rintro ⟨i11, x12⟩ s h
    refine W_seq (by kernel_rfl) ?_
    refine W_run 1 [] [1, 7, 8, 9, 10] [] (fr' := [(1, aI a1), (7, aD (.slice tI) a0), (8, aI (List.length a0 : Int)), (9, aI i11), (10, aB (decide (i11 < (List.length a0 : Int))))]) (L' := []) (obs := []) (by kernel_rfl) (by kernel_rfl) (by kernel_rfl) allP0 ?_
    refine seqQ_norm ?_
    refine W_seq (by kernel_rfl) ?_
    refine W_cond (o := .tmp 10) (b := decide (i11 < (List.length a0 : Int))) (by kernel_rfl) (by kernel_rfl) (fun h16 => ?_) (fun h16 => ?_)
    · replace h := stepL_true h16 h
      obtain ⟨v14, _, h15, h, rfl⟩ := h
      refine W_skip [1, 7, 8, 9] [] (fr' := [(1, aI a1), (7, aD (.slice tI) a0), (8, aI (List.length a0 : Int)), (9, aI i11)]) (L' := []) (by kernel_rfl) (by kernel_rfl) ?_
      refine seqQ_norm ?_
      refine W_seq (by kernel_rfl) ?_
      refine W_block (id := 1) (by kernel_rfl) ?_
      refine W_seq (by kernel_rfl) ?_
      refine W_run 3 [(1, .val (.dat tI v14))] [1, 6, 7, 8, 9] [] (fr' := [(1, aI a1), (6, aI v14), (7, aD (.slice tI) a0), (8, aI (List.length a0 : Int)), (9, aI i11)]) (L' := []) (obs := [Idx a0 i11 v14]) (by kernel_rfl) (by kernel_rfl) (by kernel_rfl) (allP1 (Idx.of h15)) ?_
      refine seqQ_norm ?_
      refine W_seq (by kernel_rfl) ?_
      refine W_run 3 [] [1, 7, 8, 9, 15] [] (fr' := [(1, aI a1), (7, aD (.slice tI) a0), (8, aI (List.length a0 : Int)), (9, aI i11), (15, aB (a1 == v14))]) (L' := []) (obs := []) (by kernel_rfl) (by kernel_rfl) (by kernel_rfl) allP0 ?_
      refine seqQ_norm ?_
      refine W_cond (o := .tmp 15) (b := a1 == v14) (by kernel_rfl) (by kernel_rfl) (fun h17 => ?_) (fun h17 => ?_)
      · replace h := ofT h17 h
        refine W_seq (by kernel_rfl) ?_
        refine W_run 1 [] [4] [] (fr' := [(4, aB true)]) (L' := []) (obs := []) (by kernel_rfl) (by kernel_rfl) (by kernel_rfl) allP0 ?_
        refine seqQ_norm ?_
        obtain rfl := Option.some.inj h
        refine W_ret [4] [] (fr' := [(4, aB true)]) (L' := []) (by kernel_rfl) (by kernel_rfl) ?_
        refine blockQ_ret ?_
        refine seqQ_ret ?_
        refine round_ret ?_
        refine escQ_ret ?_
        exact exQ_mk (by kernel_rfl) (by kernel_rfl)
      · replace h := ofF h17 h
        refine W_skip [1, 7, 8, 9] [] (fr' := [(1, aI a1), (7, aD (.slice tI) a0), (8, aI (List.length a0 : Int)), (9, aI i11)]) (L' := []) (by kernel_rfl) (by kernel_rfl) ?_
        refine blockQ_norm ?_
        refine seqQ_norm ?_
        obtain rfl := Option.some.inj h
        refine W_run 2 [] [1, 7, 8, 9] [] (fr' := [(1, aI a1), (7, aD (.slice tI) a0), (8, aI (List.length a0 : Int)), (9, aI (w64 (i11 + (1 : Int))))]) (L' := []) (obs := []) (by kernel_rfl) (by kernel_rfl) (by kernel_rfl) allP0 ?_
        exact round_next' (by kernel_rfl) (by kernel_rfl)
    · obtain rfl := stepL_false h16 h
      refine W_exit (id := 0) [] [] (fr' := []) (L' := []) (by kernel_rfl) (by kernel_rfl) ?_
      refine seqQ_exit ?_
      refine round_exit ?_
      refine escQ_brk ?_
      exact exQ_mk (by kernel_rfl) (by kernel_rfl)
  · intro e fr L hJ
    rcases v19 with v24 | v25
    · obtain ⟨rfl, rfl, rfl⟩ := hJ
      obtain rfl := Option.some.inj h
      refine LT_keep [4] [] (fr' := [(4, aB v24)]) (L' := []) (by kernel_rfl) ?_
      refine blockQ_ret ?_
      refine seqQ_ret ?_
      exact retQ_mk (by kernel_rfl) (by kernel_rfl) (by kernel_rfl)
    · obtain ⟨rfl, rfl, rfl⟩ := hJ
      refine LT_keep [] [] (fr' := []) (L' := []) (by kernel_rfl) ?_
      refine blockQ_hit ?_
      refine seqQ_norm ?_
      refine W_seq (by kernel_rfl) ?_
      refine W_run 1 [] [4] [] (fr' := [(4, aB false)]) (L' := []) (obs := []) (by kernel_rfl) (by kernel_rfl) (by kernel_rfl) allP0 ?_
      refine seqQ_norm ?_
      obtain rfl := Option.some.inj h
      refine W_ret [4] [] (fr' := [(4, aB false)]) (L' := []) (by kernel_rfl) (by kernel_rfl) ?_
      exact retQ_mk (by kernel_rfl) (by kernel_rfl) (by kernel_rfl)

@[reducible] def ref_once_s4 (c0 : (List Int)) (i42 : Int) (v : (List Int)) : Fr × LL := ([(3, .one (.slc 19)), (6, .one (.slc 1000)), (7, aI (List.length c0 : Int)), (8, aI i42)], [(19, .seq tI v), (1000, .seq tI c0)])
def ref_once_b5 (i42 : Int) (v45 : Int) (x43 : (List Int)) : Option (Flow (List Int) (List Int)) :=
((ref_Has v45 x43).bind fun r56 =>
bif !r56 then
((ck ((List.length x43 : Int) + 1 ≤ 4294967296)).bind fun _ =>
some (x43 ++ [v45]))
else
(some x43)).bind fun v60 =>
some (.next v60)
@[reducible] def ref_once_s6 (c0 : (List Int)) (v : Int × (List Int)) : Fr × LL := ([(3, .one (.slc 19)), (6, .one (.slc 1000)), (7, aI (List.length c0 : Int)), (8, aI v.1)], [(19, .seq tI v.2), (1000, .seq tI c0)])
@[reducible] def ref_once_s7 (c0 : (List Int)) (v : (List Int)) : Fr × LL := ([(3, .one (.slc 19))], [(19, .seq tI v), (1000, .seq tI c0)])
def ref_once (c0 : (List Int)) : Option (List Int) :=
(forL ref_once_b5 (fun x43 => x43) c0 0 []).bind fun v63 =>
some v63
theorem ref_once_ok {c0 : (List Int)} {r : (List Int)} (h : ref_once c0 = some r) : FnC Try.prog 72 [.one (.slc 1000)] [(1000, .seq tI c0)] (aD (.slice tI) r) [(1000, .seq tI c0)] := by
  refine fnC_of_W (B := bodyOf Try.f72) (n := 22) Try.func72 (by kernel_rfl) (by kernel_rfl) (by kernel_rfl) (by kernel_rfl) (by kernel_rfl) ?_
  intro K
  refine W_seq (by kernel_rfl) ?_
  refine W_run 1 [] [0] [1000] (fr' := [(0, .one (.slc 1000))]) (L' := [(1000, .seq tI c0)]) (obs := []) (by kernel_rfl) (by kernel_rfl) (by kernel_rfl) allP0 ?_
  refine seqQ_norm ?_
  refine W_seq (by kernel_rfl) ?_
  refine W_run 1 [] [0, 3] [1000] (fr' := [(0, .one (.slc 1000)), (3, .one (.nilS))]) (L' := [(1000, .seq tI c0)]) (obs := []) (by kernel_rfl) (by kernel_rfl) (by kernel_rfl) allP0 ?_
  refine seqQ_norm ?_
  refine W_seq (by kernel_rfl) ?_
  refine W_seq (by kernel_rfl) ?_
  refine W_run 3 [] [3, 6, 7, 8] [1000] (fr' := [(3, .one (.nilS)), (6, .one (.slc 1000)), (7, aI (List.length c0 : Int)), (8, aI (0 : Int))]) (L' := [(1000, .seq tI c0)]) (obs := []) (by kernel_rfl) (by kernel_rfl) (by kernel_rfl) allP0 ?_
  refine seqQ_norm ?_
  refine W_block (id := 0) (by kernel_rfl) ?_
  obtain ⟨v63, h64, h⟩ := bind_of h
  refine W_lenS (s := 1000) (u := tI) (xs := c0) (by kernel_rfl) (fun h67 => ?_)
  obtain ⟨h65, h66⟩ := forL_iter h67 h64
  refine W_mine 3 19 tI (by kernel_rfl) ?_
  refine W_weaken [3, 6, 7, 8] [19, 1000] (fr' := ((ref_once_s6 c0) ((0 : Int), [])).1) (L' := ((ref_once_s6 c0) ((0 : Int), [])).2) (by kernel_rfl) ?_
  refine W_cutK (W_loop (S := (ref_once_s6 c0)) (J := (exQ (.exit 0) (ref_once_s7 c0))) (by kernel_rfl) ?_ h65 _ v63 h66) ?_
  · rintro ⟨i42, x43⟩ s h
    refine W_seq (by kernel_rfl) ?_
    refine W_run 1 [] [3, 6, 7, 8, 9] [19, 1000] (fr' := [(3, .one (.slc 19)), (6, .one (.slc 1000)), (7, aI (List.length c0 : Int)), (8, aI i42), (9, aB (decide (i42 < (List.length c0 : Int))))]) (L' := [(19, .seq tI x43), (1000, .seq tI c0)]) (obs := []) (by kernel_rfl) (by kernel_rfl) (by kernel_rfl) allP0 ?_
    refine seqQ_norm ?_
    refine W_seq (by kernel_rfl) ?_
    refine W_cond (o := .tmp 9) (b := decide (i42 < (List.length c0 : Int))) (by kernel_rfl) (by kernel_rfl) (fun h47 => ?_) (fun h47 => ?_)
    · replace h := stepL_true h47 h
      obtain ⟨v45, _, h46, h, rfl⟩ := h
      refine W_skip [3, 6, 7, 8] [19, 1000] (fr' := [(3, .one (.slc 19)), (6, .one (.slc 1000)), (7, aI (List.length c0 : Int)), (8, aI i42)]) (L' := [(19, .seq tI x43), (1000, .seq tI c0)]) (by kernel_rfl) (by kernel_rfl) ?_
      refine seqQ_norm ?_
      refine W_seq (by kernel_rfl) ?_
      obtain ⟨v60, h61, h⟩ := bind_of h
      refine W_cutK (Q' := (exQ .normal (ref_once_s4 c0 i42)) v60) ?_ ?_
      · replace h := h61
        refine W_block (id := 1) (by kernel_rfl) ?_
        refine W_seq (by kernel_rfl) ?_
        refine W_run 3 [(3, .val (.dat tI v45))] [3, 5, 6, 7, 8] [19, 1000] (fr' := [(3, .one (.slc 19)), (5, aI v45), (6, .one (.slc 1000)), (7, aI (List.length c0 : Int)), (8, aI i42)]) (L' := [(19, .seq tI x43), (1000, .seq tI c0)]) (obs := [InR i42 (List.length c0), Idx c0 i42 v45]) (by kernel_rfl) (by kernel_rfl) (by kernel_rfl) (allP2 (InR.of h46) (allP1 (Idx.of h46))) ?_
        refine seqQ_norm ?_
        refine W_seq (by kernel_rfl) ?_
        refine W_region (by kernel_rfl) ?_
        refine WO_run (j := 2) (k := 2) (orcs := []) (kF := [3, 5, 6, 7, 8, 12, 13]) (kL := [19, 1000]) (fr' := [(3, .one (.slc 19)), (5, aI v45), (6, .one (.slc 1000)), (7, aI (List.length c0 : Int)), (8, aI i42), (12, .one (.slc 19)), (13, aI v45)]) (L' := [(19, .seq tI x43), (1000, .seq tI c0)]) (obs := []) rfl (by kernel_rfl) allP0 ?_
        obtain ⟨r56, h57, h⟩ := bind_of h
        refine WO_lend [(1000, 19)] (us := [none, none]) (d := 14) (p := True) (j := 3) rfl ⟨by kernel_rfl, by kernel_rfl, by kernel_rfl⟩ trivial (ref_Has_ok h57) (by kernel_rfl) (by kernel_rfl) ?_
        refine WO_run (j := 4) (k := 1) (orcs := []) (kF := [3, 5, 6, 7, 8, 15]) (kL := [19, 1000]) (fr' := [(3, .one (.slc 19)), (5, aI v45), (6, .one (.slc 1000)), (7, aI (List.length c0 : Int)), (8, aI i42), (15, aB (!r56))]) (L' := [(19, .seq tI x43), (1000, .seq tI c0)]) (obs := []) rfl (by kernel_rfl) allP0 ?_
        refine WO_fin [3, 5, 6, 7, 8, 15] [19, 1000] (fr' := [(3, .one (.slc 19)), (5, aI v45), (6, .one (.slc 1000)), (7, aI (List.length c0 : Int)), (8, aI i42), (15, aB (!r56))]) (L' := [(19, .seq tI x43), (1000, .seq tI c0)]) (by kernel_rfl) (by kernel_rfl) ?_
        refine seqQ_norm ?_
        refine W_cond (o := .tmp 15) (b := !r56) (by kernel_rfl) (by kernel_rfl) (fun h58 => ?_) (fun h58 => ?_)
        · replace h := ofT h58 h
          obtain ⟨_, h59, h⟩ := bind_of h
          replace h59 := ck_some h59
          obtain rfl := Option.some.inj h
          refine W_run 5 [] [3, 6, 7, 8] [19, 1000] (fr' := [(3, .one (.slc 19)), (6, .one (.slc 1000)), (7, aI (List.length c0 : Int)), (8, aI i42)]) (L' := [(19, .seq tI (x43 ++ [v45])), (1000, .seq tI c0)]) (obs := [SmallLen (List.length x43 + List.length [v45])]) (by kernel_rfl) (by kernel_rfl) (by kernel_rfl) (allP1 h59) ?_
          refine blockQ_norm ?_
          exact exQ_mk (by kernel_rfl) (by kernel_rfl)
        · replace h := ofF h58 h
          obtain rfl := Option.some.inj h
          refine W_skip [3, 6, 7, 8] [19, 1000] (fr' := [(3, .one (.slc 19)), (6, .one (.slc 1000)), (7, aI (List.length c0 : Int)), (8, aI i42)]) (L' := [(19, .seq tI x43), (1000, .seq tI c0)]) (by kernel_rfl) (by kernel_rfl) ?_
          refine blockQ_norm ?_
          exact exQ_mk (by kernel_rfl) (by kernel_rfl)
      · intro e fr L hJ
        obtain ⟨rfl, rfl, rfl⟩ := hJ
        refine LT_keep [3, 6, 7, 8] [19, 1000] (fr' := [(3, .one (.slc 19)), (6, .one (.slc 1000)), (7, aI (List.length c0 : Int)), (8, aI i42)]) (L' := [(19, .seq tI v60), (1000, .seq tI c0)]) (by kernel_rfl) ?_
        refine seqQ_norm ?_
        obtain rfl := Option.some.inj h
        refine W_run 2 [] [3, 6, 7, 8] [19, 1000] (fr' := [(3, .one (.slc 19)), (6, .one (.slc 1000)), (7, aI (List.length c0 : Int)), (8, aI (w64 (i42 + (1 : Int))))]) (L' := [(19, .seq tI v60), (1000, .seq tI c0)]) (obs := []) (by kernel_rfl) (by kernel_rfl) (by kernel_rfl) allP0 ?_
        exact round_next' (by kernel_rfl) (by kernel_rfl)
    · obtain rfl := stepL_false h47 h
      refine W_exit (id := 0) [3] [19, 1000] (fr' := [(3, .one (.slc 19))]) (L' := [(19, .seq tI x43), (1000, .seq tI c0)]) (by kernel_rfl) (by kernel_rfl) ?_
      refine seqQ_exit ?_
      refine round_exit ?_
      exact exQ_mk (by kernel_rfl) (by kernel_rfl)
  · intro e fr L hJ
    obtain ⟨rfl, rfl, rfl⟩ := hJ
    refine LT_keep [3] [19, 1000] (fr' := [(3, .one (.slc 19))]) (L' := [(19, .seq tI v63), (1000, .seq tI c0)]) (by kernel_rfl) ?_
    refine blockQ_hit ?_
    refine seqQ_norm ?_
    refine W_seq (by kernel_rfl) ?_
    refine W_run 2 [] [2] [19, 1000] (fr' := [(2, .one (.slc 19))]) (L' := [(19, .seq tI v63), (1000, .seq tI c0)]) (obs := []) (by kernel_rfl) (by kernel_rfl) (by kernel_rfl) allP0 ?_
    refine seqQ_norm ?_
    obtain rfl := Option.some.inj h
    refine W_frz 19 (by kernel_rfl) ?_
    refine W_ret [2] [1000] (fr' := [(2, aD (.slice tI) v63)]) (L' := [(1000, .seq tI c0)]) (by kernel_rfl) (by kernel_rfl) ?_
    exact retQ_mk (by kernel_rfl) (by kernel_rfl) (by kernel_rfl)

def ref_Far_b7 (a0 : (List (List Int))) (i93 : Int) (v96 : Int) (x94 : (List Int)) : Option (Flow (List Int) (List Int)) :=
(idx a0 v96).bind fun v99 =>
(ck ((List.length x94 : Int) + (List.length v99 : Int) ≤ 4294967296)).bind fun _ =>
some (.next (x94 ++ v99))
@[reducible] def ref_Far_s8 (a0 : (List (List Int))) (a2 : Int) (x38 : ((List Int) × Int)) (v : Int × (List Int)) : Fr × LL := ([(0, aD (.slice (.slice tI)) a0), (2, aI a2), (8, aI x38.2), (9, .one (.slc 35)), (24, aD (.slice tI) x38.1), (25, aI (List.length x38.1 : Int)), (26, aI v.1)], [(35, .seq tI v.2)])
@[reducible] def ref_Far_s9 (a0 : (List (List Int))) (a2 : Int) (x38 : ((List Int) × Int)) (v : (List Int)) : Fr × LL := ([(0, aD (.slice (.slice tI)) a0), (2, aI a2), (8, aI x38.2), (9, .one (.slc 35))], [(35, .seq tI v)])
def ref_Far_b10 (a0 : (List (List Int))) (a2 : Int) (x38 : ((List Int) × Int)) : Option (Flow ((List Int) × Int) (Esc Int Unit)) :=
bif decide (x38.2 ≤ (List.length a0 : Int)) then
((ref_Has_i2 x38.1 a2).bind fun r76 =>
bif r76 then
(some (.done (.ret x38.2)))
else
((forL (ref_Far_b7 a0) (fun x94 => x94) x38.1 0 []).bind fun v103 =>
(ck ((0 : Int) + (List.length v103 : Int) ≤ 4294967296)).bind fun _ =>
(ref_once ([] ++ v103)).bind fun r109 =>
some (.next (r109, w64 (x38.2 + (1 : Int))))))
else
(some (.done (.brk ())))
@[reducible] def ref_Far_s11 (a0 : (List (List Int))) (a2 : Int) (v : ((List Int) × Int)) : Fr × LL := ([(0, aD (.slice (.slice tI)) a0), (2, aI a2), (7, aD (.slice tI) v.1), (8, aI v.2)], [])
@[reducible] def ref_Far_s12 (v : Int) : Fr × LL := ([(6, aI v)], [])
@[reducible] def ref_Far_s13 (v : Unit) : Fr × LL := ([], [])
def ref_Far (fuel : Nat) (a0 : (List (List Int))) (a1 : Int) (a2 : Int) : Option Int :=
(iter (ref_Far_b10 a0 a2) fuel ([a1], (0 : Int))).bind fun v111 =>
match v111 with
| .ret v115 =>
(some v115)
| .brk v116 =>
(some (-1 : Int))
theorem ref_Far_ok {fuel : Nat} {a0 : (List (List Int))} {a1 : Int} {a2 : Int} {r : Int} (h : ref_Far fuel a0 a1 a2 = some r) : FnC Try.prog 39 [aD (.slice (.slice tI)) a0, aI a1, aI a2] [] (aI r) [] := by
  refine fnC_of_W (B := bodyOf Try.f39) (n := 42) Try.func39 (by kernel_rfl) (by kernel_rfl) (by kernel_rfl) (by kernel_rfl) (by kernel_rfl) ?_
  intro K
  refine W_seq (by kernel_rfl) ?_
  refine W_run 1 [] [0, 1, 2] [] (fr' := [(0, aD (.slice (.slice tI)) a0), (1, aI a1), (2, aI a2)]) (L' := []) (obs := []) (by kernel_rfl) (by kernel_rfl) (by kernel_rfl) allP0 ?_
  refine seqQ_norm ?_
  refine W_seq (by kernel_rfl) ?_
  refine W_run 3 [] [0, 2, 7] [13] (fr' := [(0, aD (.slice (.slice tI)) a0), (2, aI a2), (7, .one (.slc 13))]) (L' := [(13, .seq tI [a1])]) (obs := []) (by kernel_rfl) (by kernel_rfl) (by kernel_rfl) allP0 ?_
  refine seqQ_norm ?_
  refine W_seq (by kernel_rfl) ?_
  refine W_seq (by kernel_rfl) ?_
  refine W_run 1 [] [0, 2, 7, 8] [13] (fr' := [(0, aD (.slice (.slice tI)) a0), (2, aI a2), (7, .one (.slc 13)), (8, aI (0 : Int))]) (L' := [(13, .seq tI [a1])]) (obs := []) (by kernel_rfl) (by kernel_rfl) (by kernel_rfl) allP0 ?_
  refine seqQ_norm ?_
  refine W_block (id := 0) (by kernel_rfl) ?_
  obtain ⟨v111, h112, h⟩ := bind_of h
  refine W_frz 13 (by kernel_rfl) ?_
  refine W_weaken [0, 2, 7, 8] [] (fr' := ((ref_Far_s11 a0 a2) ([a1], (0 : Int))).1) (L' := ((ref_Far_s11 a0 a2) ([a1], (0 : Int))).2) (by kernel_rfl) ?_
  refine W_cutK (W_loop (S := (ref_Far_s11 a0 a2)) (J := (escQ (exQ .ret ref_Far_s12) (exQ (.exit 0) ref_Far_s13))) (by kernel_rfl) ?_ fuel _ v111 h112) ?_
  · rintro x38 s h
    refine W_seq (by kernel_rfl) ?_
    refine W_seq (by kernel_rfl) ?_
    refine W_run 4 [] [0, 2, 7, 8, 17] [] (fr' := [(0, aD (.slice (.slice tI)) a0), (2, aI a2), (7, aD (.slice tI) x38.1), (8, aI x38.2), (17, aB (decide (x38.2 ≤ (List.length a0 : Int))))]) (L' := []) (obs := []) (by kernel_rfl) (by kernel_rfl) (by kernel_rfl) allP0 ?_
    refine seqQ_norm ?_
    refine W_cond (o := .tmp 17) (b := decide (x38.2 ≤ (List.length a0 : Int))) (by kernel_rfl) (by kernel_rfl) (fun h75 => ?_) (fun h75 => ?_)
    · replace h := ofT h75 h
      refine W_skip [0, 2, 7, 8] [] (fr' := [(0, aD (.slice (.slice tI)) a0), (2, aI a2), (7, aD (.slice tI) x38.1), (8, aI x38.2)]) (L' := []) (by kernel_rfl) (by kernel_rfl) ?_
      refine seqQ_norm ?_
      refine W_seq (by kernel_rfl) ?_
      refine W_block (id := 1) (by kernel_rfl) ?_
      refine W_seq (by kernel_rfl) ?_
      refine W_seq (by kernel_rfl) ?_
      refine W_region (by kernel_rfl) ?_
      refine WO_run (j := 2) (k := 2) (orcs := []) (kF := [0, 2, 7, 8, 20, 21]) (kL := []) (fr' := [(0, aD (.slice (.slice tI)) a0), (2, aI a2), (7, aD (.slice tI) x38.1), (8, aI x38.2), (20, aD (.slice tI) x38.1), (21, aI a2)]) (L' := []) (obs := []) rfl (by kernel_rfl) allP0 ?_
      obtain ⟨r76, h77, h⟩ := bind_of h
      refine WO_call0 (us := [none, none]) (d := 22) (p := True) (j := 3) rfl ⟨by kernel_rfl, by kernel_rfl, by kernel_rfl⟩ trivial (ref_Has_i2_ok h77) (by kernel_rfl) ?_
      refine WO_fin [0, 2, 7, 8, 22] [] (fr' := [(0, aD (.slice (.slice tI)) a0), (2, aI a2), (7, aD (.slice tI) x38.1), (8, aI x38.2), (22, aB r76)]) (L' := []) (by kernel_rfl) (by kernel_rfl) ?_
      refine seqQ_norm ?_
      refine W_cond (o := .tmp 22) (b := r76) (by kernel_rfl) (by kernel_rfl) (fun h78 => ?_) (fun h78 => ?_)
      · replace h := ofT h78 h
        refine W_seq (by kernel_rfl) ?_
        refine W_run 2 [] [6] [] (fr' := [(6, aI x38.2)]) (L' := []) (obs := []) (by kernel_rfl) (by kernel_rfl) (by kernel_rfl) allP0 ?_
        refine seqQ_norm ?_
        obtain rfl := Option.some.inj h
        refine W_ret [6] [] (fr' := [(6, aI x38.2)]) (L' := []) (by kernel_rfl) (by kernel_rfl) ?_
        refine seqQ_ret ?_
        refine blockQ_ret ?_
        refine seqQ_ret ?_
        refine round_ret ?_
        refine escQ_ret ?_
        exact exQ_mk (by kernel_rfl) (by kernel_rfl)
      · replace h := ofF h78 h
        refine W_skip [0, 2, 7, 8] [] (fr' := [(0, aD (.slice (.slice tI)) a0), (2, aI a2), (7, aD (.slice tI) x38.1), (8, aI x38.2)]) (L' := []) (by kernel_rfl) (by kernel_rfl) ?_
        refine seqQ_norm ?_
        refine W_seq (by kernel_rfl) ?_
        refine W_run 1 [] [0, 2, 7, 8, 9] [] (fr' := [(0, aD (.slice (.slice tI)) a0), (2, aI a2), (7, aD (.slice tI) x38.1), (8, aI x38.2), (9, .one (.nilS))]) (L' := []) (obs := []) (by kernel_rfl) (by kernel_rfl) (by kernel_rfl) allP0 ?_
        refine seqQ_norm ?_
        refine W_seq (by kernel_rfl) ?_
        refine W_seq (by kernel_rfl) ?_
        refine W_run 3 [] [0, 2, 8, 9, 24, 25, 26] [] (fr' := [(0, aD (.slice (.slice tI)) a0), (2, aI a2), (8, aI x38.2), (9, .one (.nilS)), (24, aD (.slice tI) x38.1), (25, aI (List.length x38.1 : Int)), (26, aI (0 : Int))]) (L' := []) (obs := []) (by kernel_rfl) (by kernel_rfl) (by kernel_rfl) allP0 ?_
        refine seqQ_norm ?_
        refine W_block (id := 2) (by kernel_rfl) ?_
        obtain ⟨v103, h104, h⟩ := bind_of h
        refine W_len (t := 24) (u := tI) (xs := x38.1) (by kernel_rfl) (fun h107 => ?_)
        obtain ⟨h105, h106⟩ := forL_iter h107 h104
        refine W_mine 9 35 tI (by kernel_rfl) ?_
        refine W_weaken [0, 2, 8, 9, 24, 25, 26] [35] (fr' := ((ref_Far_s8 a0 a2 x38) ((0 : Int), [])).1) (L' := ((ref_Far_s8 a0 a2 x38) ((0 : Int), [])).2) (by kernel_rfl) ?_
        refine W_cutK (W_loop (S := (ref_Far_s8 a0 a2 x38)) (J := (exQ (.exit 2) (ref_Far_s9 a0 a2 x38))) (by kernel_rfl) ?_ h105 _ v103 h106) ?_
        · rintro ⟨i93, x94⟩ s h
          refine W_seq (by kernel_rfl) ?_
          refine W_run 1 [] [0, 2, 8, 9, 24, 25, 26, 27] [35] (fr' := [(0, aD (.slice (.slice tI)) a0), (2, aI a2), (8, aI x38.2), (9, .one (.slc 35)), (24, aD (.slice tI) x38.1), (25, aI (List.length x38.1 : Int)), (26, aI i93), (27, aB (decide (i93 < (List.length x38.1 : Int))))]) (L' := [(35, .seq tI x94)]) (obs := []) (by kernel_rfl) (by kernel_rfl) (by kernel_rfl) allP0 ?_
          refine seqQ_norm ?_
          refine W_seq (by kernel_rfl) ?_
          refine W_cond (o := .tmp 27) (b := decide (i93 < (List.length x38.1 : Int))) (by kernel_rfl) (by kernel_rfl) (fun h98 => ?_) (fun h98 => ?_)
          · replace h := stepL_true h98 h
            obtain ⟨v96, _, h97, h, rfl⟩ := h
            refine W_skip [0, 2, 8, 9, 24, 25, 26] [35] (fr' := [(0, aD (.slice (.slice tI)) a0), (2, aI a2), (8, aI x38.2), (9, .one (.slc 35)), (24, aD (.slice tI) x38.1), (25, aI (List.length x38.1 : Int)), (26, aI i93)]) (L' := [(35, .seq tI x94)]) (by kernel_rfl) (by kernel_rfl) ?_
            refine seqQ_norm ?_
            refine W_seq (by kernel_rfl) ?_
            refine W_block (id := 3) (by kernel_rfl) ?_
            refine W_seq (by kernel_rfl) ?_
            refine W_run 3 [(1, .val (.dat tI v96))] [0, 2, 8, 9, 11, 24, 25, 26] [35] (fr' := [(0, aD (.slice (.slice tI)) a0), (2, aI a2), (8, aI x38.2), (9, .one (.slc 35)), (11, aI v96), (24, aD (.slice tI) x38.1), (25, aI (List.length x38.1 : Int)), (26, aI i93)]) (L' := [(35, .seq tI x94)]) (obs := [Idx x38.1 i93 v96]) (by kernel_rfl) (by kernel_rfl) (by kernel_rfl) (allP1 (Idx.of h97)) ?_
            refine seqQ_norm ?_
            obtain ⟨v99, h100, h⟩ := bind_of h
            obtain ⟨_, h101, h⟩ := bind_of h
            replace h101 := ck_some h101
            refine W_run 7 [(7, .val (.dat (.slice tI) v99))] [0, 2, 8, 9, 24, 25, 26] [35] (fr' := [(0, aD (.slice (.slice tI)) a0), (2, aI a2), (8, aI x38.2), (9, .one (.slc 35)), (24, aD (.slice tI) x38.1), (25, aI (List.length x38.1 : Int)), (26, aI i93)]) (L' := [(35, .seq tI (x94 ++ v99))]) (obs := [Idx a0 v96 v99, SmallLen (List.length x94 + List.length v99)]) (by kernel_rfl) (by kernel_rfl) (by kernel_rfl) (allP2 (Idx.of h100) (allP1 h101)) ?_
            refine blockQ_norm ?_
            refine seqQ_norm ?_
            obtain rfl := Option.some.inj h
            refine W_run 2 [] [0, 2, 8, 9, 24, 25, 26] [35] (fr' := [(0, aD (.slice (.slice tI)) a0), (2, aI a2), (8, aI x38.2), (9, .one (.slc 35)), (24, aD (.slice tI) x38.1), (25, aI (List.length x38.1 : Int)), (26, aI (w64 (i93 + (1 : Int))))]) (L' := [(35, .seq tI (x94 ++ v99))]) (obs := []) (by kernel_rfl) (by kernel_rfl) (by kernel_rfl) allP0 ?_
            exact round_next' (by kernel_rfl) (by kernel_rfl)
          · obtain rfl := stepL_false h98 h
            refine W_exit (id := 2) [0, 2, 8, 9] [35] (fr' := [(0, aD (.slice (.slice tI)) a0), (2, aI a2), (8, aI x38.2), (9, .one (.slc 35))]) (L' := [(35, .seq tI x94)]) (by kernel_rfl) (by kernel_rfl) ?_
            refine seqQ_exit ?_
            refine round_exit ?_
            exact exQ_mk (by kernel_rfl) (by kernel_rfl)
        · intro e fr L hJ
          obtain ⟨rfl, rfl, rfl⟩ := hJ
          refine LT_keep [0, 2, 8, 9] [35] (fr' := [(0, aD (.slice (.slice tI)) a0), (2, aI a2), (8, aI x38.2), (9, .one (.slc 35))]) (L' := [(35, .seq tI v103)]) (by kernel_rfl) ?_
          refine blockQ_hit ?_
          refine seqQ_norm ?_
          refine W_seq (by kernel_rfl) ?_
          obtain ⟨_, h108, h⟩ := bind_of h
          replace h108 := ck_some h108
          refine W_run 4 [] [0, 2, 7, 8] [37] (fr' := [(0, aD (.slice (.slice tI)) a0), (2, aI a2), (7, .one (.slc 37)), (8, aI x38.2)]) (L' := [(37, .seq tI ([] ++ v103))]) (obs := [SmallLen (List.length ([] : (List Int)) + List.length v103)]) (by kernel_rfl) (by kernel_rfl) (by kernel_rfl) (allP1 h108) ?_
          refine seqQ_norm ?_
          refine W_region (by kernel_rfl) ?_
          refine WO_run (j := 1) (k := 1) (orcs := []) (kF := [0, 2, 7, 8, 40]) (kL := [37]) (fr' := [(0, aD (.slice (.slice tI)) a0), (2, aI a2), (7, .one (.slc 37)), (8, aI x38.2), (40, .one (.slc 37))]) (L' := [(37, .seq tI ([] ++ v103))]) (obs := []) rfl (by kernel_rfl) allP0 ?_
          obtain ⟨r109, h110, h⟩ := bind_of h
          refine WO_lend [(1000, 37)] (us := [none]) (d := 41) (p := True) (j := 2) rfl ⟨by kernel_rfl, by kernel_rfl, by kernel_rfl⟩ trivial (ref_once_ok h110) (by kernel_rfl) (by kernel_rfl) ?_
          refine WO_run (j := 3) (k := 1) (orcs := []) (kF := [0, 2, 7, 8]) (kL := [37]) (fr' := [(0, aD (.slice (.slice tI)) a0), (2, aI a2), (7, aD (.slice tI) r109), (8, aI x38.2)]) (L' := [(37, .seq tI ([] ++ v103))]) (obs := []) rfl (by kernel_rfl) allP0 ?_
          refine WO_fin [0, 2, 7, 8] [] (fr' := [(0, aD (.slice (.slice tI)) a0), (2, aI a2), (7, aD (.slice tI) r109), (8, aI x38.2)]) (L' := []) (by kernel_rfl) (by kernel_rfl) ?_
          refine blockQ_norm ?_
          refine seqQ_norm ?_
          obtain rfl := Option.some.inj h
          refine W_run 3 [] [0, 2, 7, 8] [] (fr' := [(0, aD (.slice (.slice tI)) a0), (2, aI a2), (7, aD (.slice tI) r109), (8, aI (w64 (x38.2 + (1 : Int))))]) (L' := []) (obs := []) (by kernel_rfl) (by kernel_rfl) (by kernel_rfl) allP0 ?_
          exact round_next' (by kernel_rfl) (by kernel_rfl)
    · replace h := ofF h75 h
      obtain rfl := Option.some.inj h
      refine W_exit (id := 0) [] [] (fr' := []) (L' := []) (by kernel_rfl) (by kernel_rfl) ?_
      refine seqQ_exit ?_
      refine round_exit ?_
      refine escQ_brk ?_
      exact exQ_mk (by kernel_rfl) (by kernel_rfl)
  · intro e fr L hJ
    rcases v111 with v115 | v116
    · obtain ⟨rfl, rfl, rfl⟩ := hJ
      obtain rfl := Option.some.inj h
      refine LT_keep [6] [] (fr' := [(6, aI v115)]) (L' := []) (by kernel_rfl) ?_
      refine blockQ_ret ?_
      refine seqQ_ret ?_
      exact retQ_mk (by kernel_rfl) (by kernel_rfl) (by kernel_rfl)
    · obtain ⟨rfl, rfl, rfl⟩ := hJ
      refine LT_keep [] [] (fr' := []) (L' := []) (by kernel_rfl) ?_
      refine blockQ_hit ?_
      refine seqQ_norm ?_
      refine W_seq (by kernel_rfl) ?_
      refine W_run 1 [] [6] [] (fr' := [(6, aI (-1 : Int))]) (L' := []) (obs := []) (by kernel_rfl) (by kernel_rfl) (by kernel_rfl) allP0 ?_
      refine seqQ_norm ?_
      obtain rfl := Option.some.inj h
      refine W_ret [6] [] (fr' := [(6, aI (-1 : Int))]) (L' := []) (by kernel_rfl) (by kernel_rfl) ?_
      exact retQ_mk (by kernel_rfl) (by kernel_rfl) (by kernel_rfl)

def ref_FirstWay_g67 (a0 : (List (List Int))) (a2 : Int) (fuel : Nat) (x394 : (Int × (List Int))) (i1040 : Int) (x1041 : Int) : Option Bool :=
bif decide (x1041 < (0 : Int)) then
((idx a0 x394.1).bind fun v1157 =>
(ref_Has_i2 v1157 i1040).bind fun r1159 =>
bif r1159 then
((ref_Far fuel a0 i1040 a2).bind fun r1162 =>
(ref_Far fuel a0 x394.1 a2).bind fun r1164 =>
bif r1162 == (w64 (r1164 - (1 : Int))) then
((ref_Far fuel a0 i1040 a2).bind fun r1167 =>
some (decide (r1167 ≥ (0 : Int))))
else
(some false))
else
(some false))
else
(some false)
@[reducible] def ref_FirstWay_s68 (a0 : (List (List Int))) (a2 : Int) (x394 : (Int × (List Int))) (i1040 : Int) (x1041 : Int) (v : Bool) : Fr × LL := ([(0, aD (.slice (.slice tI)) a0), (1, aI x394.1), (2, aI a2), (7, .one (.slc 11)), (8, aI x1041), (9, aI i1040), (49, aB v)], [(11, .seq tI x394.2)])
@[reducible] def ref_FirstWay_s69 (a0 : (List (List Int))) (a2 : Int) (x394 : (Int × (List Int))) (i1040 : Int) (v : Int) : Fr × LL := ([(0, aD (.slice (.slice tI)) a0), (1, aI x394.1), (2, aI a2), (7, .one (.slc 11)), (8, aI v), (9, aI i1040)], [(11, .seq tI x394.2)])
def ref_FirstWay_b70 (a0 : (List (List Int))) (a2 : Int) (fuel : Nat) (x394 : (Int × (List Int))) (i1040 : Int) (v1043 : (List Int)) (x1041 : Int) : Option (Flow Int Int) :=
((ref_FirstWay_g67 a0 a2 fuel x394 i1040 x1041).bind fun v1169 =>
bif v1169 then
(some i1040)
else
(some x1041)).bind fun v1172 =>
some (.next v1172)
@[reducible] def ref_FirstWay_s71 (a0 : (List (List Int))) (a2 : Int) (x394 : (Int × (List Int))) (v : Int × Int) : Fr × LL := ([(0, aD (.slice (.slice tI)) a0), (1, aI x394.1), (2, aI a2), (7, .one (.slc 11)), (8, aI v.2), (9, aI v.1)], [(11, .seq tI x394.2)])
@[reducible] def ref_FirstWay_s72 (a0 : (List (List Int))) (a2 : Int) (x394 : (Int × (List Int))) (v : Int) : Fr × LL := ([(0, aD (.slice (.slice tI)) a0), (2, aI a2), (7, .one (.slc 11)), (8, aI v)], [(11, .seq tI x394.2)])
def ref_FirstWay_b73 (a0 : (List (List Int))) (a2 : Int) (fuel : Nat) (x394 : (Int × (List Int))) : Option (Flow (Int × (List Int)) (List Int)) :=
bif x394.1 != a2 then
((forL (ref_FirstWay_b70 a0 a2 fuel x394) (fun x1041 => x1041) a0 0 (-1 : Int)).bind fun v1175 =>
(ck ((List.length x394.2 : Int) + 1 ≤ 4294967296)).bind fun _ =>
some (.next (v1175, x394.2 ++ [v1175])))
else
(some (.done x394.2))
@[reducible] def ref_FirstWay_s74 (a0 : (List (List Int))) (a2 : Int) (v : (Int × (List Int))) : Fr × LL := ([(0, aD (.slice (.slice tI)) a0), (1, aI v.1), (2, aI a2), (7, .one (.slc 11))], [(11, .seq tI v.2)])
@[reducible] def ref_FirstWay_s75 (v : (List Int)) : Fr × LL := ([(7, .one (.slc 11))], [(11, .seq tI v)])
def ref_FirstWay (fuel : Nat) (a0 : (List (List Int))) (a1 : Int) (a2 : Int) : Option (List Int) :=
(iter (ref_FirstWay_b73 a0 a2 fuel) fuel (a1, [a1])).bind fun v1181 =>
some v1181
theorem ref_FirstWay_ok {fuel : Nat} {a0 : (List (List Int))} {a1 : Int} {a2 : Int} {r : (List Int)} (h : ref_FirstWay fuel a0 a1 a2 = some r) : FnC Try.prog 45 [aD (.slice (.slice tI)) a0, aI a1, aI a2] [] (aD (.slice tI) r) [] := by
  refine fnC_of_W (B := bodyOf Try.f45) (n := 57) Try.func45 (by kernel_rfl) (by kernel_rfl) (by kernel_rfl) (by kernel_rfl) (by kernel_rfl) ?_
  intro K
  refine W_seq (by kernel_rfl) ?_
  refine W_run 1 [] [0, 1, 2] [] (fr' := [(0, aD (.slice (.slice tI)) a0), (1, aI a1), (2, aI a2)]) (L' := []) (obs := []) (by kernel_rfl) (by kernel_rfl) (by kernel_rfl) allP0 ?_
  refine seqQ_norm ?_
  refine W_seq (by kernel_rfl) ?_
  refine W_run 3 [] [0, 1, 2, 7] [11] (fr' := [(0, aD (.slice (.slice tI)) a0), (1, aI a1), (2, aI a2), (7, .one (.slc 11))]) (L' := [(11, .seq tI [a1])]) (obs := []) (by kernel_rfl) (by kernel_rfl) (by kernel_rfl) allP0 ?_
  refine seqQ_norm ?_
  refine W_seq (by kernel_rfl) ?_
  refine W_block (id := 0) (by kernel_rfl) ?_
  obtain ⟨v1181, h1182, h⟩ := bind_of h
  refine W_weaken [0, 1, 2, 7] [11] (fr' := ((ref_FirstWay_s74 a0 a2) (a1, [a1])).1) (L' := ((ref_FirstWay_s74 a0 a2) (a1, [a1])).2) (by kernel_rfl) ?_
  refine W_cutK (W_loop (S := (ref_FirstWay_s74 a0 a2)) (J := (exQ (.exit 0) ref_FirstWay_s75)) (by kernel_rfl) ?_ fuel _ v1181 h1182) ?_
  · rintro x394 s h
    refine W_seq (by kernel_rfl) ?_
    refine W_seq (by kernel_rfl) ?_
    refine W_run 3 [] [0, 1, 2, 7, 14] [11] (fr' := [(0, aD (.slice (.slice tI)) a0), (1, aI x394.1), (2, aI a2), (7, .one (.slc 11)), (14, aB (x394.1 != a2))]) (L' := [(11, .seq tI x394.2)]) (obs := []) (by kernel_rfl) (by kernel_rfl) (by kernel_rfl) allP0 ?_
    refine seqQ_norm ?_
    refine W_cond (o := .tmp 14) (b := x394.1 != a2) (by kernel_rfl) (by kernel_rfl) (fun h788 => ?_) (fun h788 => ?_)
    · replace h := ofT h788 h
      refine W_skip [0, 1, 2, 7] [11] (fr' := [(0, aD (.slice (.slice tI)) a0), (1, aI x394.1), (2, aI a2), (7, .one (.slc 11))]) (L' := [(11, .seq tI x394.2)]) (by kernel_rfl) (by kernel_rfl) ?_
      refine seqQ_norm ?_
      refine W_block (id := 1) (by kernel_rfl) ?_
      refine W_seq (by kernel_rfl) ?_
      refine W_run 1 [] [0, 1, 2, 7, 8] [11] (fr' := [(0, aD (.slice (.slice tI)) a0), (1, aI x394.1), (2, aI a2), (7, .one (.slc 11)), (8, aI (-1 : Int))]) (L' := [(11, .seq tI x394.2)]) (obs := []) (by kernel_rfl) (by kernel_rfl) (by kernel_rfl) allP0 ?_
      refine seqQ_norm ?_
      refine W_seq (by kernel_rfl) ?_
      refine W_seq (by kernel_rfl) ?_
      refine W_run 1 [] [0, 1, 2, 7, 8, 9] [11] (fr' := [(0, aD (.slice (.slice tI)) a0), (1, aI x394.1), (2, aI a2), (7, .one (.slc 11)), (8, aI (-1 : Int)), (9, aI (0 : Int))]) (L' := [(11, .seq tI x394.2)]) (obs := []) (by kernel_rfl) (by kernel_rfl) (by kernel_rfl) allP0 ?_
      refine seqQ_norm ?_
      refine W_block (id := 2) (by kernel_rfl) ?_
      obtain ⟨v1175, h1176, h⟩ := bind_of h
      refine W_len (t := 0) (u := (.slice tI)) (xs := a0) (by kernel_rfl) (fun h1179 => ?_)
      obtain ⟨h1177, h1178⟩ := forL_iter h1179 h1176
      refine W_weaken [0, 1, 2, 7, 8, 9] [11] (fr' := ((ref_FirstWay_s71 a0 a2 x394) ((0 : Int), (-1 : Int))).1) (L' := ((ref_FirstWay_s71 a0 a2 x394) ((0 : Int), (-1 : Int))).2) (by kernel_rfl) ?_
      refine W_cutK (W_loop (S := (ref_FirstWay_s71 a0 a2 x394)) (J := (exQ (.exit 2) (ref_FirstWay_s72 a0 a2 x394))) (by kernel_rfl) ?_ h1177 _ v1175 h1178) ?_
      · rintro ⟨i1040, x1041⟩ s h
        refine W_seq (by kernel_rfl) ?_
        refine W_seq (by kernel_rfl) ?_
        refine W_run 4 [] [0, 1, 2, 7, 8, 9, 18] [11] (fr' := [(0, aD (.slice (.slice tI)) a0), (1, aI x394.1), (2, aI a2), (7, .one (.slc 11)), (8, aI x1041), (9, aI i1040), (18, aB (decide (i1040 < (List.length a0 : Int))))]) (L' := [(11, .seq tI x394.2)]) (obs := []) (by kernel_rfl) (by kernel_rfl) (by kernel_rfl) allP0 ?_
        refine seqQ_norm ?_
        refine W_cond (o := .tmp 18) (b := decide (i1040 < (List.length a0 : Int))) (by kernel_rfl) (by kernel_rfl) (fun h1045 => ?_) (fun h1045 => ?_)
        · replace h := stepL_true h1045 h
          obtain ⟨v1043, _, h1044, h, rfl⟩ := h
          refine W_skip [0, 1, 2, 7, 8, 9] [11] (fr' := [(0, aD (.slice (.slice tI)) a0), (1, aI x394.1), (2, aI a2), (7, .one (.slc 11)), (8, aI x1041), (9, aI i1040)]) (L' := [(11, .seq tI x394.2)]) (by kernel_rfl) (by kernel_rfl) ?_
          refine seqQ_norm ?_
          refine W_seq (by kernel_rfl) ?_
          obtain ⟨v1172, h1173, h⟩ := bind_of h
          refine W_cutK (Q' := (exQ .normal (ref_FirstWay_s69 a0 a2 x394 i1040)) v1172) ?_ ?_
          · replace h := h1173
            refine W_block (id := 3) (by kernel_rfl) ?_
            refine W_seq (by kernel_rfl) ?_
            obtain ⟨v1169, h1170, h⟩ := bind_of h
            refine W_cutK (Q' := (exQ .normal (ref_FirstWay_s68 a0 a2 x394 i1040 x1041)) v1169) ?_ ?_
            · replace h := h1170
              refine W_region (by kernel_rfl) ?_
              refine WO_run (j := 3) (k := 3) (orcs := []) (kF := [0, 1, 2, 7, 8, 9, 23]) (kL := [11]) (fr' := [(0, aD (.slice (.slice tI)) a0), (1, aI x394.1), (2, aI a2), (7, .one (.slc 11)), (8, aI x1041), (9, aI i1040), (23, aB (decide (x1041 < (0 : Int))))]) (L' := [(11, .seq tI x394.2)]) (obs := []) rfl (by kernel_rfl) allP0 ?_
              rcases Bool.eq_false_or_eq_true (decide (x1041 < (0 : Int))) with h1156 | h1156
              · replace h := ofT h1156 h
                obtain ⟨v1157, h1158, h⟩ := bind_of h
                refine WO_run (j := 8) (k := 5) (orcs := [(6, .known true), (8, .known true), (10, .known true), (11, .val (.dat (.slice tI) v1157)), (12, .known true), (14, .known true)]) (kF := [0, 1, 2, 7, 8, 9, 23, 27, 28]) (kL := [11]) (fr' := [(0, aD (.slice (.slice tI)) a0), (1, aI x394.1), (2, aI a2), (7, .one (.slc 11)), (8, aI x1041), (9, aI i1040), (23, aB (decide (x1041 < (0 : Int)))), (27, aD (.slice tI) v1157), (28, aI i1040)]) (L' := [(11, .seq tI x394.2)]) (obs := [((decide (x1041 < (0 : Int))) = true), ((decide (x1041 < (0 : Int))) = true), ((decide (x1041 < (0 : Int))) = true), Idx a0 x394.1 v1157, ((decide (x1041 < (0 : Int))) = true), ((decide (x1041 < (0 : Int))) = true)]) rfl (by kernel_rfl) (allP2 h1156 (allP2 h1156 (allP2 h1156 (allP2 (Idx.of h1158) (allP2 h1156 (allP1 h1156)))))) ?_
                obtain ⟨r1159, h1160, h⟩ := bind_of h
                refine WO_call0 (us := [none, none]) (d := 29) (p := ((decide (x1041 < (0 : Int))) = true)) (j := 9) rfl ⟨by kernel_rfl, by kernel_rfl, by kernel_rfl⟩ h1156 (ref_Has_i2_ok h1160) (by kernel_rfl) ?_
                refine WO_run (j := 11) (k := 2) (orcs := [(19, .val (.dat .bool true))]) (kF := [0, 1, 2, 7, 8, 9, 31]) (kL := [11]) (fr' := [(0, aD (.slice (.slice tI)) a0), (1, aI x394.1), (2, aI a2), (7, .one (.slc 11)), (8, aI x1041), (9, aI i1040), (31, aB r1159)]) (L' := [(11, .seq tI x394.2)]) (obs := [((decide (x1041 < (0 : Int))) = true)]) rfl (by kernel_rfl) (allP1 h1156) ?_
                rcases Bool.eq_false_or_eq_true (r1159) with h1161 | h1161
                · replace h := ofT h1161 h
                  refine WO_run (j := 14) (k := 3) (orcs := [(22, .known true), (24, .known true), (26, .known true)]) (kF := [0, 1, 2, 7, 8, 9, 31, 32, 33, 34]) (kL := [11]) (fr' := [(0, aD (.slice (.slice tI)) a0), (1, aI x394.1), (2, aI a2), (7, .one (.slc 11)), (8, aI x1041), (9, aI i1040), (31, aB r1159), (32, aD (.slice (.slice tI)) a0), (33, aI i1040), (34, aI a2)]) (L' := [(11, .seq tI x394.2)]) (obs := [(r1159 = true), (r1159 = true), (r1159 = true)]) rfl (by kernel_rfl) (allP2 h1161 (allP2 h1161 (allP1 h1161))) ?_
                  obtain ⟨r1162, h1163, h⟩ := bind_of h
                  refine WO_call0 (us := [none, none, none]) (d := 35) (p := (r1159 = true)) (j := 15) rfl ⟨by kernel_rfl, by kernel_rfl, by kernel_rfl⟩ h1161 (ref_Far_ok h1163) (by kernel_rfl) ?_
                  refine WO_run (j := 18) (k := 3) (orcs := [(30, .known true), (32, .known true), (34, .known true)]) (kF := [0, 1, 2, 7, 8, 9, 31, 35, 36, 37, 38]) (kL := [11]) (fr' := [(0, aD (.slice (.slice tI)) a0), (1, aI x394.1), (2, aI a2), (7, .one (.slc 11)), (8, aI x1041), (9, aI i1040), (31, aB r1159), (35, aI r1162), (36, aD (.slice (.slice tI)) a0), (37, aI x394.1), (38, aI a2)]) (L' := [(11, .seq tI x394.2)]) (obs := [(r1159 = true), (r1159 = true), (r1159 = true)]) rfl (by kernel_rfl) (allP2 h1161 (allP2 h1161 (allP1 h1161))) ?_
                  obtain ⟨r1164, h1165, h⟩ := bind_of h
                  refine WO_call0 (us := [none, none, none]) (d := 39) (p := (r1159 = true)) (j := 19) rfl ⟨by kernel_rfl, by kernel_rfl, by kernel_rfl⟩ h1161 (ref_Far_ok h1165) (by kernel_rfl) ?_
                  refine WO_run (j := 23) (k := 4) (orcs := [(38, .known true), (40, .known true), (43, .val (.dat .bool true))]) (kF := [0, 1, 2, 7, 8, 9, 43]) (kL := [11]) (fr' := [(0, aD (.slice (.slice tI)) a0), (1, aI x394.1), (2, aI a2), (7, .one (.slc 11)), (8, aI x1041), (9, aI i1040), (43, aB (r1162 == (w64 (r1164 - (1 : Int)))))]) (L' := [(11, .seq tI x394.2)]) (obs := [(r1159 = true), (r1159 = true), (r1159 = true)]) rfl (by kernel_rfl) (allP2 h1161 (allP2 h1161 (allP1 h1161))) ?_
                  rcases Bool.eq_false_or_eq_true (r1162 == (w64 (r1164 - (1 : Int)))) with h1166 | h1166
                  · replace h := ofT h1166 h
                    refine WO_run (j := 26) (k := 3) (orcs := [(46, .known true), (48, .known true), (50, .known true)]) (kF := [0, 1, 2, 7, 8, 9, 43, 44, 45, 46]) (kL := [11]) (fr' := [(0, aD (.slice (.slice tI)) a0), (1, aI x394.1), (2, aI a2), (7, .one (.slc 11)), (8, aI x1041), (9, aI i1040), (43, aB (r1162 == (w64 (r1164 - (1 : Int))))), (44, aD (.slice (.slice tI)) a0), (45, aI i1040), (46, aI a2)]) (L' := [(11, .seq tI x394.2)]) (obs := [((r1162 == (w64 (r1164 - (1 : Int)))) = true), ((r1162 == (w64 (r1164 - (1 : Int)))) = true), ((r1162 == (w64 (r1164 - (1 : Int)))) = true)]) rfl (by kernel_rfl) (allP2 h1166 (allP2 h1166 (allP1 h1166))) ?_
                    obtain ⟨r1167, h1168, h⟩ := bind_of h
                    refine WO_call0 (us := [none, none, none]) (d := 47) (p := ((r1162 == (w64 (r1164 - (1 : Int)))) = true)) (j := 27) rfl ⟨by kernel_rfl, by kernel_rfl, by kernel_rfl⟩ h1166 (ref_Far_ok h1168) (by kernel_rfl) ?_
                    refine WO_run (j := 29) (k := 2) (orcs := [(54, .known true), (57, .val (.dat .bool true))]) (kF := [0, 1, 2, 7, 8, 9, 49]) (kL := [11]) (fr' := [(0, aD (.slice (.slice tI)) a0), (1, aI x394.1), (2, aI a2), (7, .one (.slc 11)), (8, aI x1041), (9, aI i1040), (49, aB (decide (r1167 ≥ (0 : Int))))]) (L' := [(11, .seq tI x394.2)]) (obs := [((r1162 == (w64 (r1164 - (1 : Int)))) = true), ((r1162 == (w64 (r1164 - (1 : Int)))) = true)]) rfl (by kernel_rfl) (allP2 h1166 (allP1 h1166)) ?_
                    obtain rfl := Option.some.inj h
                    refine WO_fin [0, 1, 2, 7, 8, 9, 49] [11] (fr' := [(0, aD (.slice (.slice tI)) a0), (1, aI x394.1), (2, aI a2), (7, .one (.slc 11)), (8, aI x1041), (9, aI i1040), (49, aB (decide (r1167 ≥ (0 : Int))))]) (L' := [(11, .seq tI x394.2)]) (by kernel_rfl) (by kernel_rfl) ?_
                    exact exQ_mk (by kernel_rfl) (by kernel_rfl)
                  · replace h := ofF h1166 h
                    refine WO_run (j := 29) (k := 6) (orcs := [(46, .known false), (48, .known false), (50, .known false), (52, .known false), (54, .known false), (57, .val (.dat .bool false))]) (kF := [0, 1, 2, 7, 8, 9, 49]) (kL := [11]) (fr' := [(0, aD (.slice (.slice tI)) a0), (1, aI x394.1), (2, aI a2), (7, .one (.slc 11)), (8, aI x1041), (9, aI i1040), (49, aB false)]) (L' := [(11, .seq tI x394.2)]) (obs := [((r1162 == (w64 (r1164 - (1 : Int)))) = false), ((r1162 == (w64 (r1164 - (1 : Int)))) = false), ((r1162 == (w64 (r1164 - (1 : Int)))) = false), ((r1162 == (w64 (r1164 - (1 : Int)))) = false), ((r1162 == (w64 (r1164 - (1 : Int)))) = false), ((r1162 == (w64 (r1164 - (1 : Int)))) = false)]) rfl (by kernel_rfl) (allP2 h1166 (allP2 h1166 (allP2 h1166 (allP2 h1166 (allP2 h1166 (allP1 h1166)))))) ?_
                    obtain rfl := Option.some.inj h
                    refine WO_fin [0, 1, 2, 7, 8, 9, 49] [11] (fr' := [(0, aD (.slice (.slice tI)) a0), (1, aI x394.1), (2, aI a2), (7, .one (.slc 11)), (8, aI x1041), (9, aI i1040), (49, aB false)]) (L' := [(11, .seq tI x394.2)]) (by kernel_rfl) (by kernel_rfl) ?_
                    exact exQ_mk (by kernel_rfl) (by kernel_rfl)
                · replace h := ofF h1161 h
                  refine WO_run (j := 29) (k := 18) (orcs := [(22, .known false), (24, .known false), (26, .known false), (28, .known false), (30, .known false), (32, .known false), (34, .known false), (36, .known false), (38, .known false), (40, .known false), (43, .val (.dat .bool false)), (46, .known false), (48, .known false), (50, .known false), (52, .known false), (54, .known false), (57, .val (.dat .bool false))]) (kF := [0, 1, 2, 7, 8, 9, 49]) (kL := [11]) (fr' := [(0, aD (.slice (.slice tI)) a0), (1, aI x394.1), (2, aI a2), (7, .one (.slc 11)), (8, aI x1041), (9, aI i1040), (49, aB false)]) (L' := [(11, .seq tI x394.2)]) (obs := [(r1159 = false), (r1159 = false), (r1159 = false), (r1159 = false), (r1159 = false), (r1159 = false), (r1159 = false), (r1159 = false), (r1159 = false), (r1159 = false), (r1159 = false), (false = false), (false = false), (false = false), (false = false), (false = false), (false = false)]) rfl (by kernel_rfl) (allP2 h1161 (allP2 h1161 (allP2 h1161 (allP2 h1161 (allP2 h1161 (allP2 h1161 (allP2 h1161 (allP2 h1161 (allP2 h1161 (allP2 h1161 (allP2 h1161 (allP2 rfl (allP2 rfl (allP2 rfl (allP2 rfl (allP2 rfl (allP1 rfl))))))))))))))))) ?_
                  obtain rfl := Option.some.inj h
                  refine WO_fin [0, 1, 2, 7, 8, 9, 49] [11] (fr' := [(0, aD (.slice (.slice tI)) a0), (1, aI x394.1), (2, aI a2), (7, .one (.slc 11)), (8, aI x1041), (9, aI i1040), (49, aB false)]) (L' := [(11, .seq tI x394.2)]) (by kernel_rfl) (by kernel_rfl) ?_
                  exact exQ_mk (by kernel_rfl) (by kernel_rfl)
              · replace h := ofF h1156 h
                refine WO_run (j := 29) (k := 26) (orcs := [(6, .known false), (8, .known false), (10, .known false), (12, .known false), (14, .known false), (16, .known false), (19, .val (.dat .bool false)), (22, .known false), (24, .known false), (26, .known false), (28, .known false), (30, .known false), (32, .known false), (34, .known false), (36, .known false), (38, .known false), (40, .known false), (43, .val (.dat .bool false)), (46, .known false), (48, .known false), (50, .known false), (52, .known false), (54, .known false), (57, .val (.dat .bool false))]) (kF := [0, 1, 2, 7, 8, 9, 49]) (kL := [11]) (fr' := [(0, aD (.slice (.slice tI)) a0), (1, aI x394.1), (2, aI a2), (7, .one (.slc 11)), (8, aI x1041), (9, aI i1040), (49, aB false)]) (L' := [(11, .seq tI x394.2)]) (obs := [((decide (x1041 < (0 : Int))) = false), ((decide (x1041 < (0 : Int))) = false), ((decide (x1041 < (0 : Int))) = false), ((decide (x1041 < (0 : Int))) = false), ((decide (x1041 < (0 : Int))) = false), ((decide (x1041 < (0 : Int))) = false), ((decide (x1041 < (0 : Int))) = false), (false = false), (false = false), (false = false), (false = false), (false = false), (false = false), (false = false), (false = false), (false = false), (false = false), (false = false), (false = false), (false = false), (false = false), (false = false), (false = false), (false = false)]) rfl (by kernel_rfl) (allP2 h1156 (allP2 h1156 (allP2 h1156 (allP2 h1156 (allP2 h1156 (allP2 h1156 (allP2 h1156 (allP2 rfl (allP2 rfl (allP2 rfl (allP2 rfl (allP2 rfl (allP2 rfl (allP2 rfl (allP2 rfl (allP2 rfl (allP2 rfl (allP2 rfl (allP2 rfl (allP2 rfl (allP2 rfl (allP2 rfl (allP2 rfl (allP1 rfl)))))))))))))))))))))))) ?_
                obtain rfl := Option.some.inj h
                refine WO_fin [0, 1, 2, 7, 8, 9, 49] [11] (fr' := [(0, aD (.slice (.slice tI)) a0), (1, aI x394.1), (2, aI a2), (7, .one (.slc 11)), (8, aI x1041), (9, aI i1040), (49, aB false)]) (L' := [(11, .seq tI x394.2)]) (by kernel_rfl) (by kernel_rfl) ?_
                exact exQ_mk (by kernel_rfl) (by kernel_rfl)
            · intro e fr L hJ
              obtain ⟨rfl, rfl, rfl⟩ := hJ
              refine LT_keep [0, 1, 2, 7, 8, 9, 49] [11] (fr' := [(0, aD (.slice (.slice tI)) a0), (1, aI x394.1), (2, aI a2), (7, .one (.slc 11)), (8, aI x1041), (9, aI i1040), (49, aB v1169)]) (L' := [(11, .seq tI x394.2)]) (by kernel_rfl) ?_
              refine seqQ_norm ?_
              refine W_cond (o := .tmp 49) (b := v1169) (by kernel_rfl) (by kernel_rfl) (fun h1171 => ?_) (fun h1171 => ?_)
              · replace h := ofT h1171 h
                obtain rfl := Option.some.inj h
                refine W_run 2 [] [0, 1, 2, 7, 8, 9] [11] (fr' := [(0, aD (.slice (.slice tI)) a0), (1, aI x394.1), (2, aI a2), (7, .one (.slc 11)), (8, aI i1040), (9, aI i1040)]) (L' := [(11, .seq tI x394.2)]) (obs := []) (by kernel_rfl) (by kernel_rfl) (by kernel_rfl) allP0 ?_
                refine blockQ_norm ?_
                exact exQ_mk (by kernel_rfl) (by kernel_rfl)
              · replace h := ofF h1171 h
                obtain rfl := Option.some.inj h
                refine W_skip [0, 1, 2, 7, 8, 9] [11] (fr' := [(0, aD (.slice (.slice tI)) a0), (1, aI x394.1), (2, aI a2), (7, .one (.slc 11)), (8, aI x1041), (9, aI i1040)]) (L' := [(11, .seq tI x394.2)]) (by kernel_rfl) (by kernel_rfl) ?_
                refine blockQ_norm ?_
                exact exQ_mk (by kernel_rfl) (by kernel_rfl)
          · intro e fr L hJ
            obtain ⟨rfl, rfl, rfl⟩ := hJ
            refine LT_keep [0, 1, 2, 7, 8, 9] [11] (fr' := [(0, aD (.slice (.slice tI)) a0), (1, aI x394.1), (2, aI a2), (7, .one (.slc 11)), (8, aI v1172), (9, aI i1040)]) (L' := [(11, .seq tI x394.2)]) (by kernel_rfl) ?_
            refine seqQ_norm ?_
            obtain rfl := Option.some.inj h
            refine W_run 3 [] [0, 1, 2, 7, 8, 9] [11] (fr' := [(0, aD (.slice (.slice tI)) a0), (1, aI x394.1), (2, aI a2), (7, .one (.slc 11)), (8, aI v1172), (9, aI (w64 (i1040 + (1 : Int))))]) (L' := [(11, .seq tI x394.2)]) (obs := []) (by kernel_rfl) (by kernel_rfl) (by kernel_rfl) allP0 ?_
            exact round_next' (by kernel_rfl) (by kernel_rfl)
        · obtain rfl := stepL_false h1045 h
          refine W_exit (id := 2) [0, 2, 7, 8] [11] (fr' := [(0, aD (.slice (.slice tI)) a0), (2, aI a2), (7, .one (.slc 11)), (8, aI x1041)]) (L' := [(11, .seq tI x394.2)]) (by kernel_rfl) (by kernel_rfl) ?_
          refine seqQ_exit ?_
          refine round_exit ?_
          exact exQ_mk (by kernel_rfl) (by kernel_rfl)
      · intro e fr L hJ
        obtain ⟨rfl, rfl, rfl⟩ := hJ
        refine LT_keep [0, 2, 7, 8] [11] (fr' := [(0, aD (.slice (.slice tI)) a0), (2, aI a2), (7, .one (.slc 11)), (8, aI v1175)]) (L' := [(11, .seq tI x394.2)]) (by kernel_rfl) ?_
        refine blockQ_hit ?_
        refine seqQ_norm ?_
        refine W_seq (by kernel_rfl) ?_
        refine W_run 2 [] [0, 1, 2, 7] [11] (fr' := [(0, aD (.slice (.slice tI)) a0), (1, aI v1175), (2, aI a2), (7, .one (.slc 11))]) (L' := [(11, .seq tI x394.2)]) (obs := []) (by kernel_rfl) (by kernel_rfl) (by kernel_rfl) allP0 ?_
        refine seqQ_norm ?_
        obtain ⟨_, h1180, h⟩ := bind_of h
        replace h1180 := ck_some h1180
        obtain rfl := Option.some.inj h
        refine W_run 5 [] [0, 1, 2, 7] [11] (fr' := [(0, aD (.slice (.slice tI)) a0), (1, aI v1175), (2, aI a2), (7, .one (.slc 11))]) (L' := [(11, .seq tI (x394.2 ++ [v1175]))]) (obs := [SmallLen (List.length x394.2 + List.length [v1175])]) (by kernel_rfl) (by kernel_rfl) (by kernel_rfl) (allP1 h1180) ?_
        refine blockQ_norm ?_
        exact round_next' (by kernel_rfl) (by kernel_rfl)
    · replace h := ofF h788 h
      obtain rfl := Option.some.inj h
      refine W_exit (id := 0) [7] [11] (fr' := [(7, .one (.slc 11))]) (L' := [(11, .seq tI x394.2)]) (by kernel_rfl) (by kernel_rfl) ?_
      refine seqQ_exit ?_
      refine round_exit ?_
      exact exQ_mk (by kernel_rfl) (by kernel_rfl)
  · intro e fr L hJ
    obtain ⟨rfl, rfl, rfl⟩ := hJ
    refine LT_keep [7] [11] (fr' := [(7, .one (.slc 11))]) (L' := [(11, .seq tI v1181)]) (by kernel_rfl) ?_
    refine blockQ_hit ?_
    refine seqQ_norm ?_
    refine W_seq (by kernel_rfl) ?_
    refine W_run 2 [] [6] [11] (fr' := [(6, .one (.slc 11))]) (L' := [(11, .seq tI v1181)]) (obs := []) (by kernel_rfl) (by kernel_rfl) (by kernel_rfl) allP0 ?_
    refine seqQ_norm ?_
    obtain rfl := Option.some.inj h
    refine W_frz 11 (by kernel_rfl) ?_
    refine W_ret [6] [] (fr' := [(6, aD (.slice tI) v1181)]) (L' := []) (by kernel_rfl) (by kernel_rfl) ?_
    exact retQ_mk (by kernel_rfl) (by kernel_rfl) (by kernel_rfl)

def ref_Ints_b1 (a1 : (List Int)) (i16 : Int) (v19 : Int) (x17 : Unit) : Option (Flow Unit (Esc Bool Unit)) :=
(idx a1 i16).bind fun v22 =>
bif v19 != v22 then
(some (.done (.ret false)))
else
(some (.next ()))
@[reducible] def ref_Ints_s2 (a0 : (List Int)) (a1 : (List Int)) (v : Int × Unit) : Fr × LL := ([(0, aD (.slice tI) a0), (1, aD (.slice tI) a1), (5, aI v.1)], [])
@[reducible] def ref_Ints_s3 (v : Bool) : Fr × LL := ([(4, aB v)], [])
@[reducible] def ref_Ints_s4 (v : Unit) : Fr × LL := ([], [])
def ref_Ints (a0 : (List Int)) (a1 : (List Int)) : Option Bool :=
bif (List.length a0 : Int) != (List.length a1 : Int) then
(some false)
else
((forL (ref_Ints_b1 a1) (fun x17 => (.brk ())) a0 0 ()).bind fun v26 =>
match v26 with
| .ret v31 =>
(some v31)
| .brk v32 =>
(some true))
theorem ref_Ints_ok {a0 : (List Int)} {a1 : (List Int)} {r : Bool} (h : ref_Ints a0 a1 = some r) : FnC Try.prog 44 [aD (.slice tI) a0, aD (.slice tI) a1] [] (aB r) [] := by
  refine fnC_of_W (B := bodyOf Try.f44) (n := 26) Try.func44 (by kernel_rfl) (by kernel_rfl) (by kernel_rfl) (by kernel_rfl) (by kernel_rfl) ?_
  intro K
  refine W_seq (by kernel_rfl) ?_
  refine W_run 1 [] [0, 1] [] (fr' := [(0, aD (.slice tI) a0), (1, aD (.slice tI) a1)]) (L' := []) (obs := []) (by kernel_rfl) (by kernel_rfl) (by kernel_rfl) allP0 ?_
  refine seqQ_norm ?_
  refine W_seq (by kernel_rfl) ?_
  refine W_seq (by kernel_rfl) ?_
  refine W_run 5 [] [0, 1, 10] [] (fr' := [(0, aD (.slice tI) a0), (1, aD (.slice tI) a1), (10, aB ((List.length a0 : Int) != (List.length a1 : Int)))]) (L' := []) (obs := []) (by kernel_rfl) (by kernel_rfl) (by kernel_rfl) allP0 ?_
  refine seqQ_norm ?_
  refine W_cond (o := .tmp 10) (b := (List.length a0 : Int) != (List.length a1 : Int)) (by kernel_rfl) (by kernel_rfl) (fun h1 => ?_) (fun h1 => ?_)
  · replace h := ofT h1 h
    refine W_seq (by kernel_rfl) ?_
    refine W_run 1 [] [4] [] (fr' := [(4, aB false)]) (L' := []) (obs := []) (by kernel_rfl) (by kernel_rfl) (by kernel_rfl) allP0 ?_
    refine seqQ_norm ?_
    obtain rfl := Option.some.inj h
    refine W_ret [4] [] (fr' := [(4, aB false)]) (L' := []) (by kernel_rfl) (by kernel_rfl) ?_
    refine seqQ_ret ?_
    exact retQ_mk (by kernel_rfl) (by kernel_rfl) (by kernel_rfl)
  · replace h := ofF h1 h
    refine W_skip [0, 1] [] (fr' := [(0, aD (.slice tI) a0), (1, aD (.slice tI) a1)]) (L' := []) (by kernel_rfl) (by kernel_rfl) ?_
    refine seqQ_norm ?_
    refine W_seq (by kernel_rfl) ?_
    refine W_seq (by kernel_rfl) ?_
    refine W_run 1 [] [0, 1, 5] [] (fr' := [(0, aD (.slice tI) a0), (1, aD (.slice tI) a1), (5, aI (0 : Int))]) (L' := []) (obs := []) (by kernel_rfl) (by kernel_rfl) (by kernel_rfl) allP0 ?_
    refine seqQ_norm ?_
    refine W_block (id := 0) (by kernel_rfl) ?_
    obtain ⟨v26, h27, h⟩ := bind_of h
    refine W_len (t := 0) (u := tI) (xs := a0) (by kernel_rfl) (fun h30 => ?_)
    obtain ⟨h28, h29⟩ := forL_iter h30 h27
    refine W_weaken [0, 1, 5] [] (fr' := ((ref_Ints_s2 a0 a1) ((0 : Int), ())).1) (L' := ((ref_Ints_s2 a0 a1) ((0 : Int), ())).2) (by kernel_rfl) ?_
    refine W_cutK (W_loop (S := (ref_Ints_s2 a0 a1)) (J := (escQ (exQ .ret ref_Ints_s3) (exQ (.exit 0) ref_Ints_s4))) (by kernel_rfl) ?_ h28 _ v26 h29) ?_
    · rintro ⟨i16, x17⟩ s h
      refine W_seq (by kernel_rfl) ?_
      refine W_seq (by kernel_rfl) ?_
      refine W_run 4 [] [0, 1, 5, 14] [] (fr' := [(0, aD (.slice tI) a0), (1, aD (.slice tI) a1), (5, aI i16), (14, aB (decide (i16 < (List.length a0 : Int))))]) (L' := []) (obs := []) (by kernel_rfl) (by kernel_rfl) (by kernel_rfl) allP0 ?_
      refine seqQ_norm ?_
      refine W_cond (o := .tmp 14) (b := decide (i16 < (List.length a0 : Int))) (by kernel_rfl) (by kernel_rfl) (fun h21 => ?_) (fun h21 => ?_)
      · replace h := stepL_true h21 h
        obtain ⟨v19, _, h20, h, rfl⟩ := h
        refine W_skip [0, 1, 5] [] (fr' := [(0, aD (.slice tI) a0), (1, aD (.slice tI) a1), (5, aI i16)]) (L' := []) (by kernel_rfl) (by kernel_rfl) ?_
        refine seqQ_norm ?_
        refine W_seq (by kernel_rfl) ?_
        refine W_block (id := 1) (by kernel_rfl) ?_
        refine W_seq (by kernel_rfl) ?_
        obtain ⟨v22, h23, h⟩ := bind_of h
        refine W_draw2 9 [(5, .val (.dat tI v19)), (13, .val (.dat tI v22))] [] [0, 1, 5, 25] [] (fr' := [(0, aD (.slice tI) a0), (1, aD (.slice tI) a1), (5, aI i16), (25, aB (v19 != v22))]) (L' := []) (out := [(17, aD (.slice tI) a0), (18, aI i16), (19, .one (.dptr tI v19)), (20, aI v19), (21, aD (.slice tI) a1), (22, aI i16), (23, .one (.dptr tI v22)), (24, aI v22), (25, aB (v19 != v22))]) (obs := [Idx a0 i16 v19, Idx a1 i16 v22]) (obs2 := []) (calls := []) (by kernel_rfl) (by kernel_rfl) (by kernel_rfl) (by kernel_rfl) (allP2 (Idx.of h20) (allP1 (Idx.of h23))) allC0 (by kernel_rfl) allP0 ?_
        refine seqQ_norm ?_
        refine W_cond (o := .tmp 25) (b := v19 != v22) (by kernel_rfl) (by kernel_rfl) (fun h24 => ?_) (fun h24 => ?_)
        · replace h := ofT h24 h
          refine W_seq (by kernel_rfl) ?_
          refine W_run 1 [] [4] [] (fr' := [(4, aB false)]) (L' := []) (obs := []) (by kernel_rfl) (by kernel_rfl) (by kernel_rfl) allP0 ?_
          refine seqQ_norm ?_
          obtain rfl := Option.some.inj h
          refine W_ret [4] [] (fr' := [(4, aB false)]) (L' := []) (by kernel_rfl) (by kernel_rfl) ?_
          refine blockQ_ret ?_
          refine seqQ_ret ?_
          refine round_ret ?_
          refine escQ_ret ?_
          exact exQ_mk (by kernel_rfl) (by kernel_rfl)
        · replace h := ofF h24 h
          refine W_skip [0, 1, 5] [] (fr' := [(0, aD (.slice tI) a0), (1, aD (.slice tI) a1), (5, aI i16)]) (L' := []) (by kernel_rfl) (by kernel_rfl) ?_
          refine blockQ_norm ?_
          refine seqQ_norm ?_
          obtain rfl := Option.some.inj h
          refine W_run 3 [] [0, 1, 5] [] (fr' := [(0, aD (.slice tI) a0), (1, aD (.slice tI) a1), (5, aI (w64 (i16 + (1 : Int))))]) (L' := []) (obs := []) (by kernel_rfl) (by kernel_rfl) (by kernel_rfl) allP0 ?_
          exact round_next' (by kernel_rfl) (by kernel_rfl)
      · obtain rfl := stepL_false h21 h
        refine W_exit (id := 0) [] [] (fr' := []) (L' := []) (by kernel_rfl) (by kernel_rfl) ?_
        refine seqQ_exit ?_
        refine round_exit ?_
        refine escQ_brk ?_
        exact exQ_mk (by kernel_rfl) (by kernel_rfl)
    · intro e fr L hJ
      rcases v26 with v31 | v32
      · obtain ⟨rfl, rfl, rfl⟩ := hJ
        obtain rfl := Option.some.inj h
        refine LT_keep [4] [] (fr' := [(4, aB v31)]) (L' := []) (by kernel_rfl) ?_
        refine blockQ_ret ?_
        refine seqQ_ret ?_
        exact retQ_mk (by kernel_rfl) (by kernel_rfl) (by kernel_rfl)
      · obtain ⟨rfl, rfl, rfl⟩ := hJ
        refine LT_keep [] [] (fr' := []) (L' := []) (by kernel_rfl) ?_
        refine blockQ_hit ?_
        refine seqQ_norm ?_
        refine W_seq (by kernel_rfl) ?_
        refine W_run 1 [] [4] [] (fr' := [(4, aB true)]) (L' := []) (obs := []) (by kernel_rfl) (by kernel_rfl) (by kernel_rfl) allP0 ?_
        refine seqQ_norm ?_
        obtain rfl := Option.some.inj h
        refine W_ret [4] [] (fr' := [(4, aB true)]) (L' := []) (by kernel_rfl) (by kernel_rfl) ?_
        exact retQ_mk (by kernel_rfl) (by kernel_rfl) (by kernel_rfl)

@[reducible] def law_HalfWays_s3 (a0 : (List (List Int))) (a1 : Int) (a2 : Int) (r1 : ((List Int) × Int)) (r3 : Int) (v : Bool) : Fr × LL := ([(0, aD (.slice (.slice tI)) a0), (1, aI a1), (2, aI a2), (7, aD (.slice tI) r1.1), (8, aI r1.2), (9, aI r3), (30, aB v)], [])
def law_HalfWays_g4 (a0 : (List (List Int))) (a1 : Int) (a2 : Int) (fuel : Nat) (r3 : Int) : Option Int :=
(bif r3 == (0 : Int) then
((ref_Far fuel a0 a1 a2).bind fun r36 =>
some (decide (r36 < (0 : Int))))
else
(some false)).bind fun v38 =>
bif v38 then
(some (5 : Int))
else
(some r3)
@[reducible] def law_HalfWays_s5 (v : Bool) : Fr × LL := ([(6, aB v)], [])
@[reducible] def law_HalfWays_s6 (a0 : (List (List Int))) (a1 : Int) (a2 : Int) (r1 : ((List Int) × Int)) (v : Int) : Fr × LL := ([(0, aD (.slice (.slice tI)) a0), (1, aI a1), (2, aI a2), (7, aD (.slice tI) r1.1), (8, aI r1.2), (9, aI v)], [])
def law_HalfWays (fuel : Nat) (a0 : (List (List Int))) (a1 : Int) (a2 : Int) : Option Bool :=
(half_Way fuel a0 a1 a2).bind fun r1 =>
(ref_NextsCheck a0 [a1, a2]).bind fun r3 =>
(law_HalfWays_g4 a0 a1 a2 fuel r3).bind fun v41 =>
bif v41 != (0 : Int) then
(some ((r1.2 == v41) && ((List.length r1.1 : Int) == (0 : Int))))
else
((bif r1.2 == (0 : Int) then
((ref_FirstWay fuel a0 a1 a2).bind fun r55 =>
(ref_Ints r1.1 r55).bind fun r57 =>
some r57)
else
(some false)).bind fun v59 =>
some v59)
theorem law_HalfWays_ok {fuel : Nat} {a0 : (List (List Int))} {a1 : Int} {a2 : Int} {r : Bool} (h : law_HalfWays fuel a0 a1 a2 = some r) : FnC Try.prog 13 [aD (.slice (.slice tI)) a0, aI a1, aI a2] [] (aB r) [] := by
  refine fnC_of_W (B := bodyOf Try.f13) (n := 51) Try.func13 (by kernel_rfl) (by kernel_rfl) (by kernel_rfl) (by kernel_rfl) (by kernel_rfl) ?_
  intro K
  refine W_seq (by kernel_rfl) ?_
  refine W_run 1 [] [0, 1, 2] [] (fr' := [(0, aD (.slice (.slice tI)) a0), (1, aI a1), (2, aI a2)]) (L' := []) (obs := []) (by kernel_rfl) (by kernel_rfl) (by kernel_rfl) allP0 ?_
  refine seqQ_norm ?_
  refine W_seq (by kernel_rfl) ?_
  refine W_region (by kernel_rfl) ?_
  refine WO_run (j := 3) (k := 3) (orcs := []) (kF := [0, 1, 2, 11, 12, 13]) (kL := []) (fr' := [(0, aD (.slice (.slice tI)) a0), (1, aI a1), (2, aI a2), (11, aD (.slice (.slice tI)) a0), (12, aI a1), (13, aI a2)]) (L' := []) (obs := []) rfl (by kernel_rfl) allP0 ?_
  obtain ⟨r1, h2, h⟩ := bind_of h
  refine WO_call0 (us := [none, none, none]) (d := 14) (p := True) (j := 4) rfl ⟨by kernel_rfl, by kernel_rfl, by kernel_rfl⟩ trivial (half_Way_ok h2) (by kernel_rfl) ?_
  refine WO_run (j := 9) (k := 5) (orcs := []) (kF := [0, 1, 2, 7, 8]) (kL := []) (fr' := [(0, aD (.slice (.slice tI)) a0), (1, aI a1), (2, aI a2), (7, aD (.slice tI) r1.1), (8, aI r1.2)]) (L' := []) (obs := []) rfl (by kernel_rfl) allP0 ?_
  refine WO_fin [0, 1, 2, 7, 8] [] (fr' := [(0, aD (.slice (.slice tI)) a0), (1, aI a1), (2, aI a2), (7, aD (.slice tI) r1.1), (8, aI r1.2)]) (L' := []) (by kernel_rfl) (by kernel_rfl) ?_
  refine seqQ_norm ?_
  refine W_seq (by kernel_rfl) ?_
  refine W_region (by kernel_rfl) ?_
  refine WO_run (j := 4) (k := 4) (orcs := []) (kF := [0, 1, 2, 7, 8, 17, 20]) (kL := [20]) (fr' := [(0, aD (.slice (.slice tI)) a0), (1, aI a1), (2, aI a2), (7, aD (.slice tI) r1.1), (8, aI r1.2), (17, aD (.slice (.slice tI)) a0), (20, .one (.slc 20))]) (L' := [(20, .seq tI [a1, a2])]) (obs := []) rfl (by kernel_rfl) allP0 ?_
  obtain ⟨r3, h4, h⟩ := bind_of h
  refine WO_frz 20 (by kernel_rfl) ?_
  refine WO_call0 (us := [none, none]) (d := 21) (p := True) (j := 5) rfl ⟨by kernel_rfl, by kernel_rfl, by kernel_rfl⟩ trivial (ref_NextsCheck_ok h4) (by kernel_rfl) ?_
  refine WO_run (j := 6) (k := 1) (orcs := []) (kF := [0, 1, 2, 7, 8, 9]) (kL := []) (fr' := [(0, aD (.slice (.slice tI)) a0), (1, aI a1), (2, aI a2), (7, aD (.slice tI) r1.1), (8, aI r1.2), (9, aI r3)]) (L' := []) (obs := []) rfl (by kernel_rfl) allP0 ?_
  refine WO_fin [0, 1, 2, 7, 8, 9] [] (fr' := [(0, aD (.slice (.slice tI)) a0), (1, aI a1), (2, aI a2), (7, aD (.slice tI) r1.1), (8, aI r1.2), (9, aI r3)]) (L' := []) (by kernel_rfl) (by kernel_rfl) ?_
  refine seqQ_norm ?_
  refine W_seq (by kernel_rfl) ?_
  obtain ⟨v41, h42, h⟩ := bind_of h
  refine W_cutK (Q' := (exQ .normal (law_HalfWays_s6 a0 a1 a2 r1)) v41) ?_ ?_
  · replace h := h42
    refine W_seq (by kernel_rfl) ?_
    obtain ⟨v38, h39, h⟩ := bind_of h
    refine W_cutK (Q' := (exQ .normal (law_HalfWays_s3 a0 a1 a2 r1 r3)) v38) ?_ ?_
    · replace h := h39
      refine W_region (by kernel_rfl) ?_
      refine WO_run (j := 3) (k := 3) (orcs := []) (kF := [0, 1, 2, 7, 8, 9, 24]) (kL := []) (fr' := [(0, aD (.slice (.slice tI)) a0), (1, aI a1), (2, aI a2), (7, aD (.slice tI) r1.1), (8, aI r1.2), (9, aI r3), (24, aB (r3 == (0 : Int)))]) (L' := []) (obs := []) rfl (by kernel_rfl) allP0 ?_
      rcases Bool.eq_false_or_eq_true (r3 == (0 : Int)) with h35 | h35
      · replace h := ofT h35 h
        refine WO_run (j := 6) (k := 3) (orcs := [(6, .known true), (8, .known true), (10, .known true)]) (kF := [0, 1, 2, 7, 8, 9, 24, 25, 26, 27]) (kL := []) (fr' := [(0, aD (.slice (.slice tI)) a0), (1, aI a1), (2, aI a2), (7, aD (.slice tI) r1.1), (8, aI r1.2), (9, aI r3), (24, aB (r3 == (0 : Int))), (25, aD (.slice (.slice tI)) a0), (26, aI a1), (27, aI a2)]) (L' := []) (obs := [((r3 == (0 : Int)) = true), ((r3 == (0 : Int)) = true), ((r3 == (0 : Int)) = true)]) rfl (by kernel_rfl) (allP2 h35 (allP2 h35 (allP1 h35))) ?_
        obtain ⟨r36, h37, h⟩ := bind_of h
        refine WO_call0 (us := [none, none, none]) (d := 28) (p := ((r3 == (0 : Int)) = true)) (j := 7) rfl ⟨by kernel_rfl, by kernel_rfl, by kernel_rfl⟩ h35 (ref_Far_ok h37) (by kernel_rfl) ?_
        refine WO_run (j := 9) (k := 2) (orcs := [(14, .known true), (17, .val (.dat .bool true))]) (kF := [0, 1, 2, 7, 8, 9, 30]) (kL := []) (fr' := [(0, aD (.slice (.slice tI)) a0), (1, aI a1), (2, aI a2), (7, aD (.slice tI) r1.1), (8, aI r1.2), (9, aI r3), (30, aB (decide (r36 < (0 : Int))))]) (L' := []) (obs := [((r3 == (0 : Int)) = true), ((r3 == (0 : Int)) = true)]) rfl (by kernel_rfl) (allP2 h35 (allP1 h35)) ?_
        obtain rfl := Option.some.inj h
        refine WO_fin [0, 1, 2, 7, 8, 9, 30] [] (fr' := [(0, aD (.slice (.slice tI)) a0), (1, aI a1), (2, aI a2), (7, aD (.slice tI) r1.1), (8, aI r1.2), (9, aI r3), (30, aB (decide (r36 < (0 : Int))))]) (L' := []) (by kernel_rfl) (by kernel_rfl) ?_
        exact exQ_mk (by kernel_rfl) (by kernel_rfl)
      · replace h := ofF h35 h
        refine WO_run (j := 9) (k := 6) (orcs := [(6, .known false), (8, .known false), (10, .known false), (12, .known false), (14, .known false), (17, .val (.dat .bool false))]) (kF := [0, 1, 2, 7, 8, 9, 30]) (kL := []) (fr' := [(0, aD (.slice (.slice tI)) a0), (1, aI a1), (2, aI a2), (7, aD (.slice tI) r1.1), (8, aI r1.2), (9, aI r3), (30, aB false)]) (L' := []) (obs := [((r3 == (0 : Int)) = false), ((r3 == (0 : Int)) = false), ((r3 == (0 : Int)) = false), ((r3 == (0 : Int)) = false), ((r3 == (0 : Int)) = false), ((r3 == (0 : Int)) = false)]) rfl (by kernel_rfl) (allP2 h35 (allP2 h35 (allP2 h35 (allP2 h35 (allP2 h35 (allP1 h35)))))) ?_
        obtain rfl := Option.some.inj h
        refine WO_fin [0, 1, 2, 7, 8, 9, 30] [] (fr' := [(0, aD (.slice (.slice tI)) a0), (1, aI a1), (2, aI a2), (7, aD (.slice tI) r1.1), (8, aI r1.2), (9, aI r3), (30, aB false)]) (L' := []) (by kernel_rfl) (by kernel_rfl) ?_
        exact exQ_mk (by kernel_rfl) (by kernel_rfl)
    · intro e fr L hJ
      obtain ⟨rfl, rfl, rfl⟩ := hJ
      refine LT_keep [0, 1, 2, 7, 8, 9, 30] [] (fr' := [(0, aD (.slice (.slice tI)) a0), (1, aI a1), (2, aI a2), (7, aD (.slice tI) r1.1), (8, aI r1.2), (9, aI r3), (30, aB v38)]) (L' := []) (by kernel_rfl) ?_
      refine seqQ_norm ?_
      refine W_cond (o := .tmp 30) (b := v38) (by kernel_rfl) (by kernel_rfl) (fun h40 => ?_) (fun h40 => ?_)
      · replace h := ofT h40 h
        obtain rfl := Option.some.inj h
        refine W_run 1 [] [0, 1, 2, 7, 8, 9] [] (fr' := [(0, aD (.slice (.slice tI)) a0), (1, aI a1), (2, aI a2), (7, aD (.slice tI) r1.1), (8, aI r1.2), (9, aI (5 : Int))]) (L' := []) (obs := []) (by kernel_rfl) (by kernel_rfl) (by kernel_rfl) allP0 ?_
        exact exQ_mk (by kernel_rfl) (by kernel_rfl)
      · replace h := ofF h40 h
        obtain rfl := Option.some.inj h
        refine W_skip [0, 1, 2, 7, 8, 9] [] (fr' := [(0, aD (.slice (.slice tI)) a0), (1, aI a1), (2, aI a2), (7, aD (.slice tI) r1.1), (8, aI r1.2), (9, aI r3)]) (L' := []) (by kernel_rfl) (by kernel_rfl) ?_
        exact exQ_mk (by kernel_rfl) (by kernel_rfl)
  · intro e fr L hJ
    obtain ⟨rfl, rfl, rfl⟩ := hJ
    refine LT_keep [0, 1, 2, 7, 8, 9] [] (fr' := [(0, aD (.slice (.slice tI)) a0), (1, aI a1), (2, aI a2), (7, aD (.slice tI) r1.1), (8, aI r1.2), (9, aI v41)]) (L' := []) (by kernel_rfl) ?_
    refine seqQ_norm ?_
    refine W_seq (by kernel_rfl) ?_
    refine W_seq (by kernel_rfl) ?_
    refine W_run 2 [] [0, 1, 2, 7, 8, 9, 32] [] (fr' := [(0, aD (.slice (.slice tI)) a0), (1, aI a1), (2, aI a2), (7, aD (.slice tI) r1.1), (8, aI r1.2), (9, aI v41), (32, aB (v41 != (0 : Int)))]) (L' := []) (obs := []) (by kernel_rfl) (by kernel_rfl) (by kernel_rfl) allP0 ?_
    refine seqQ_norm ?_
    refine W_cond (o := .tmp 32) (b := v41 != (0 : Int)) (by kernel_rfl) (by kernel_rfl) (fun h43 => ?_) (fun h43 => ?_)
    · replace h := ofT h43 h
      refine W_seq (by kernel_rfl) ?_
      refine W_run 9 [] [6] [] (fr' := [(6, aB ((r1.2 == v41) && ((List.length r1.1 : Int) == (0 : Int))))]) (L' := []) (obs := []) (by kernel_rfl) (by kernel_rfl) (by kernel_rfl) allP0 ?_
      refine seqQ_norm ?_
      obtain rfl := Option.some.inj h
      refine W_ret [6] [] (fr' := [(6, aB ((r1.2 == v41) && ((List.length r1.1 : Int) == (0 : Int))))]) (L' := []) (by kernel_rfl) (by kernel_rfl) ?_
      refine seqQ_ret ?_
      exact retQ_mk (by kernel_rfl) (by kernel_rfl) (by kernel_rfl)
    · replace h := ofF h43 h
      refine W_skip [0, 1, 2, 7, 8] [] (fr' := [(0, aD (.slice (.slice tI)) a0), (1, aI a1), (2, aI a2), (7, aD (.slice tI) r1.1), (8, aI r1.2)]) (L' := []) (by kernel_rfl) (by kernel_rfl) ?_
      refine seqQ_norm ?_
      refine W_seq (by kernel_rfl) ?_
      obtain ⟨v59, h60, h⟩ := bind_of h
      refine W_cutK (Q' := (exQ .normal law_HalfWays_s5) v59) ?_ ?_
      · replace h := h60
        refine W_region (by kernel_rfl) ?_
        refine WO_run (j := 3) (k := 3) (orcs := []) (kF := [0, 1, 2, 7, 43]) (kL := []) (fr' := [(0, aD (.slice (.slice tI)) a0), (1, aI a1), (2, aI a2), (7, aD (.slice tI) r1.1), (43, aB (r1.2 == (0 : Int)))]) (L' := []) (obs := []) rfl (by kernel_rfl) allP0 ?_
        rcases Bool.eq_false_or_eq_true (r1.2 == (0 : Int)) with h54 | h54
        · replace h := ofT h54 h
          refine WO_run (j := 7) (k := 4) (orcs := [(6, .known true), (8, .known true), (10, .known true), (12, .known true)]) (kF := [43, 44, 45, 46, 47]) (kL := []) (fr' := [(43, aB (r1.2 == (0 : Int))), (44, aD (.slice tI) r1.1), (45, aD (.slice (.slice tI)) a0), (46, aI a1), (47, aI a2)]) (L' := []) (obs := [((r1.2 == (0 : Int)) = true), ((r1.2 == (0 : Int)) = true), ((r1.2 == (0 : Int)) = true), ((r1.2 == (0 : Int)) = true)]) rfl (by kernel_rfl) (allP2 h54 (allP2 h54 (allP2 h54 (allP1 h54)))) ?_
          obtain ⟨r55, h56, h⟩ := bind_of h
          refine WO_call0 (us := [none, none, none]) (d := 48) (p := ((r1.2 == (0 : Int)) = true)) (j := 8) rfl ⟨by kernel_rfl, by kernel_rfl, by kernel_rfl⟩ h54 (ref_FirstWay_ok h56) (by kernel_rfl) ?_
          obtain ⟨r57, h58, h⟩ := bind_of h
          refine WO_call0 (us := [none, none]) (d := 49) (p := ((r1.2 == (0 : Int)) = true)) (j := 9) rfl ⟨by kernel_rfl, by kernel_rfl, by kernel_rfl⟩ h54 (ref_Ints_ok h58) (by kernel_rfl) ?_
          refine WO_run (j := 11) (k := 2) (orcs := [(19, .val (.dat .bool true))]) (kF := [6]) (kL := []) (fr' := [(6, aB r57)]) (L' := []) (obs := [((r1.2 == (0 : Int)) = true)]) rfl (by kernel_rfl) (allP1 h54) ?_
          obtain rfl := Option.some.inj h
          refine WO_fin [6] [] (fr' := [(6, aB r57)]) (L' := []) (by kernel_rfl) (by kernel_rfl) ?_
          exact exQ_mk (by kernel_rfl) (by kernel_rfl)
        · replace h := ofF h54 h
          refine WO_run (j := 11) (k := 8) (orcs := [(6, .known false), (8, .known false), (10, .known false), (12, .known false), (14, .known false), (16, .known false), (19, .val (.dat .bool false))]) (kF := [6]) (kL := []) (fr' := [(6, aB false)]) (L' := []) (obs := [((r1.2 == (0 : Int)) = false), ((r1.2 == (0 : Int)) = false), ((r1.2 == (0 : Int)) = false), ((r1.2 == (0 : Int)) = false), ((r1.2 == (0 : Int)) = false), ((r1.2 == (0 : Int)) = false), ((r1.2 == (0 : Int)) = false)]) rfl (by kernel_rfl) (allP2 h54 (allP2 h54 (allP2 h54 (allP2 h54 (allP2 h54 (allP2 h54 (allP1 h54))))))) ?_
          obtain rfl := Option.some.inj h
          refine WO_fin [6] [] (fr' := [(6, aB false)]) (L' := []) (by kernel_rfl) (by kernel_rfl) ?_
          exact exQ_mk (by kernel_rfl) (by kernel_rfl)
      · intro e fr L hJ
        obtain ⟨rfl, rfl, rfl⟩ := hJ
        refine LT_keep [6] [] (fr' := [(6, aB v59)]) (L' := []) (by kernel_rfl) ?_
        refine seqQ_norm ?_
        obtain rfl := Option.some.inj h
        refine W_ret [6] [] (fr' := [(6, aB v59)]) (L' := []) (by kernel_rfl) (by kernel_rfl) ?_
        exact retQ_mk (by kernel_rfl) (by kernel_rfl) (by kernel_rfl)
end Go.Proofs.Ytkkmiclmbhbmjaa.halfWays
