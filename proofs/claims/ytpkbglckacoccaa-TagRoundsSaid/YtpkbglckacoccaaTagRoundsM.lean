/- What the functions that TagRounds calls compute, as models, and that they compute it: written by a program of mine. -/
import Derived.Test.YtpkbglckacoccaaProg
import Derived.Test.YtpkbglckacoccaaSl5
set_option linter.all false
set_option maxRecDepth 100000
namespace Go.Proofs.Ytpkbglckacoccaa.tagRounds
open Go Go.Sl
def tag_wrong_1 (a0 : (List Int)) : Option Bool :=
some (decide ((List.length a0 : Int) > (8 : Int)))
theorem tag_wrong_1_ok {a0 : (List Int)} {r : Bool} (h : tag_wrong_1 a0 = some r) : FnC Try.prog 80 [aD (.slice tI) a0] [] (aB r) [] := by
  refine fnC_of_W (B := bodyOf Try.f80) (n := 6) Try.func80 (by kernel_rfl) (by kernel_rfl) (by kernel_rfl) (by kernel_rfl) (by kernel_rfl) ?_
  intro K
  refine W_seq (by kernel_rfl) ?_
  refine W_run 1 [] [0] [] (fr' := [(0, aD (.slice tI) a0)]) (L' := []) (obs := []) (by kernel_rfl) (by kernel_rfl) (by kernel_rfl) allP0 ?_
  refine seqQ_norm ?_
  refine W_seq (by kernel_rfl) ?_
  refine W_run 4 [] [2] [] (fr' := [(2, aB (decide ((List.length a0 : Int) > (8 : Int))))]) (L' := []) (obs := []) (by kernel_rfl) (by kernel_rfl) (by kernel_rfl) allP0 ?_
  refine seqQ_norm ?_
  obtain rfl := Option.some.inj h
  refine W_ret [2] [] (fr' := [(2, aB (decide ((List.length a0 : Int) > (8 : Int))))]) (L' := []) (by kernel_rfl) (by kernel_rfl) ?_
  exact retQ_mk (by kernel_rfl) (by kernel_rfl) (by kernel_rfl)

def slices_IndexFunc_LLintLint_with_tag_wrong_1_b1 (i15 : Int) (v18 : (List Int)) (x16 : Unit) : Option (Flow Unit (Esc Int Unit)) :=
(tag_wrong_1 v18).bind fun r21 =>
bif r21 then
(some (.done (.ret i15)))
else
(some (.next ()))
@[reducible] def slices_IndexFunc_LLintLint_with_tag_wrong_1_s2 (a0 : (List (List Int))) (v : Int × Unit) : Fr × LL := ([(0, aD (.slice (.slice tI)) a0), (1, .one (.fn 80 [])), (7, aI (List.length a0 : Int)), (8, aI v.1)], [])
@[reducible] def slices_IndexFunc_LLintLint_with_tag_wrong_1_s3 (v : Int) : Fr × LL := ([(4, aI v)], [])
@[reducible] def slices_IndexFunc_LLintLint_with_tag_wrong_1_s4 (v : Unit) : Fr × LL := ([], [])
def slices_IndexFunc_LLintLint_with_tag_wrong_1 (a0 : (List (List Int))) : Option Int :=
(forL slices_IndexFunc_LLintLint_with_tag_wrong_1_b1 (fun x16 => (.brk ())) a0 0 ()).bind fun v25 =>
match v25 with
| .ret v30 =>
(some v30)
| .brk v31 =>
(some (-1 : Int))
theorem slices_IndexFunc_LLintLint_with_tag_wrong_1_ok {a0 : (List (List Int))} {r : Int} (h : slices_IndexFunc_LLintLint_with_tag_wrong_1 a0 = some r) : FnC Try.prog 85 [aD (.slice (.slice tI)) a0, .one (.fn 80 [])] [] (aI r) [] := by
  refine fnC_of_W (B := bodyOf Try.f85) (n := 19) Try.func85 (by kernel_rfl) (by kernel_rfl) (by kernel_rfl) (by kernel_rfl) (by kernel_rfl) ?_
  intro K
  refine W_seq (by kernel_rfl) ?_
  refine W_run 1 [] [0, 1] [] (fr' := [(0, aD (.slice (.slice tI)) a0), (1, .one (.fn 80 []))]) (L' := []) (obs := []) (by kernel_rfl) (by kernel_rfl) (by kernel_rfl) allP0 ?_
  refine seqQ_norm ?_
  refine W_seq (by kernel_rfl) ?_
  refine W_seq (by kernel_rfl) ?_
  refine W_run 3 [] [0, 1, 7, 8] [] (fr' := [(0, aD (.slice (.slice tI)) a0), (1, .one (.fn 80 [])), (7, aI (List.length a0 : Int)), (8, aI (0 : Int))]) (L' := []) (obs := []) (by kernel_rfl) (by kernel_rfl) (by kernel_rfl) allP0 ?_
  refine seqQ_norm ?_
  refine W_block (id := 0) (by kernel_rfl) ?_
  obtain ⟨v25, h26, h⟩ := bind_of h
  refine W_len (t := 0) (u := (.slice tI)) (xs := a0) (by kernel_rfl) (fun h29 => ?_)
  obtain ⟨h27, h28⟩ := forL_iter h29 h26
  refine W_weaken [0, 1, 7, 8] [] (fr' := ((slices_IndexFunc_LLintLint_with_tag_wrong_1_s2 a0) ((0 : Int), ())).1) (L' := ((slices_IndexFunc_LLintLint_with_tag_wrong_1_s2 a0) ((0 : Int), ())).2) (by kernel_rfl) ?_
  refine W_cutK (W_loop (S := (slices_IndexFunc_LLintLint_with_tag_wrong_1_s2 a0)) (J := (escQ (exQ .ret slices_IndexFunc_LLintLint_with_tag_wrong_1_s3) (exQ (.exit 0) slices_IndexFunc_LLintLint_with_tag_wrong_1_s4))) (by kernel_rfl) ?_ h27 _ v25 h28) ?_
  · rintro ⟨i15, x16⟩ s h
    refine W_seq (by kernel_rfl) ?_
    refine W_run 1 [] [0, 1, 7, 8, 9] [] (fr' := [(0, aD (.slice (.slice tI)) a0), (1, .one (.fn 80 [])), (7, aI (List.length a0 : Int)), (8, aI i15), (9, aB (decide (i15 < (List.length a0 : Int))))]) (L' := []) (obs := []) (by kernel_rfl) (by kernel_rfl) (by kernel_rfl) allP0 ?_
    refine seqQ_norm ?_
    refine W_seq (by kernel_rfl) ?_
    refine W_cond (o := .tmp 9) (b := decide (i15 < (List.length a0 : Int))) (by kernel_rfl) (by kernel_rfl) (fun h20 => ?_) (fun h20 => ?_)
    · replace h := stepL_true h20 h
      obtain ⟨v18, _, h19, h, rfl⟩ := h
      refine W_skip [0, 1, 7, 8] [] (fr' := [(0, aD (.slice (.slice tI)) a0), (1, .one (.fn 80 [])), (7, aI (List.length a0 : Int)), (8, aI i15)]) (L' := []) (by kernel_rfl) (by kernel_rfl) ?_
      refine seqQ_norm ?_
      refine W_seq (by kernel_rfl) ?_
      refine W_block (id := 1) (by kernel_rfl) ?_
      refine W_seq (by kernel_rfl) ?_
      refine W_run 2 [] [0, 1, 5, 7, 8] [] (fr' := [(0, aD (.slice (.slice tI)) a0), (1, .one (.fn 80 [])), (5, aI i15), (7, aI (List.length a0 : Int)), (8, aI i15)]) (L' := []) (obs := []) (by kernel_rfl) (by kernel_rfl) (by kernel_rfl) allP0 ?_
      refine seqQ_norm ?_
      refine W_seq (by kernel_rfl) ?_
      refine W_region (by kernel_rfl) ?_
      refine WO_run (j := 5) (k := 5) (orcs := [(7, .val (.dat (.slice tI) v18))]) (kF := [0, 1, 5, 7, 8, 11, 15]) (kL := []) (fr' := [(0, aD (.slice (.slice tI)) a0), (1, .one (.fn 80 [])), (5, aI i15), (7, aI (List.length a0 : Int)), (8, aI i15), (11, .one (.fn 80 [])), (15, aD (.slice tI) v18)]) (L' := []) (obs := [Idx a0 i15 v18]) rfl (by kernel_rfl) (allP1 (Idx.of h19)) ?_
      obtain ⟨r21, h22, h⟩ := bind_of h
      refine WO_call0 (us := [none]) (d := 16) (p := True) (j := 6) rfl ⟨by kernel_rfl, by kernel_rfl, by kernel_rfl⟩ trivial (tag_wrong_1_ok h22) (by kernel_rfl) ?_
      refine WO_fin [0, 1, 5, 7, 8, 16] [] (fr' := [(0, aD (.slice (.slice tI)) a0), (1, .one (.fn 80 [])), (5, aI i15), (7, aI (List.length a0 : Int)), (8, aI i15), (16, aB r21)]) (L' := []) (by kernel_rfl) (by kernel_rfl) ?_
      refine seqQ_norm ?_
      refine W_cond (o := .tmp 16) (b := r21) (by kernel_rfl) (by kernel_rfl) (fun h23 => ?_) (fun h23 => ?_)
      · replace h := ofT h23 h
        refine W_seq (by kernel_rfl) ?_
        refine W_run 2 [] [4] [] (fr' := [(4, aI i15)]) (L' := []) (obs := []) (by kernel_rfl) (by kernel_rfl) (by kernel_rfl) allP0 ?_
        refine seqQ_norm ?_
        obtain rfl := Option.some.inj h
        refine W_ret [4] [] (fr' := [(4, aI i15)]) (L' := []) (by kernel_rfl) (by kernel_rfl) ?_
        refine blockQ_ret ?_
        refine seqQ_ret ?_
        refine round_ret ?_
        refine escQ_ret ?_
        exact exQ_mk (by kernel_rfl) (by kernel_rfl)
      · replace h := ofF h23 h
        refine W_skip [0, 1, 7, 8] [] (fr' := [(0, aD (.slice (.slice tI)) a0), (1, .one (.fn 80 [])), (7, aI (List.length a0 : Int)), (8, aI i15)]) (L' := []) (by kernel_rfl) (by kernel_rfl) ?_
        refine blockQ_norm ?_
        refine seqQ_norm ?_
        obtain rfl := Option.some.inj h
        refine W_run 2 [] [0, 1, 7, 8] [] (fr' := [(0, aD (.slice (.slice tI)) a0), (1, .one (.fn 80 [])), (7, aI (List.length a0 : Int)), (8, aI (w64 (i15 + (1 : Int))))]) (L' := []) (obs := []) (by kernel_rfl) (by kernel_rfl) (by kernel_rfl) allP0 ?_
        exact round_next' (by kernel_rfl) (by kernel_rfl)
    · obtain rfl := stepL_false h20 h
      refine W_exit (id := 0) [] [] (fr' := []) (L' := []) (by kernel_rfl) (by kernel_rfl) ?_
      refine seqQ_exit ?_
      refine round_exit ?_
      refine escQ_brk ?_
      exact exQ_mk (by kernel_rfl) (by kernel_rfl)
  · intro e fr L hJ
    rcases v25 with v30 | v31
    · obtain ⟨rfl, rfl, rfl⟩ := hJ
      obtain rfl := Option.some.inj h
      refine LT_keep [4] [] (fr' := [(4, aI v30)]) (L' := []) (by kernel_rfl) ?_
      refine blockQ_ret ?_
      refine seqQ_ret ?_
      exact retQ_mk (by kernel_rfl) (by kernel_rfl) (by kernel_rfl)
    · obtain ⟨rfl, rfl, rfl⟩ := hJ
      refine LT_keep [] [] (fr' := []) (L' := []) (by kernel_rfl) ?_
      refine blockQ_hit ?_
      refine seqQ_norm ?_
      refine W_seq (by kernel_rfl) ?_
      refine W_run 1 [] [4] [] (fr' := [(4, aI (-1 : Int))]) (L' := []) (obs := []) (by kernel_rfl) (by kernel_rfl) (by kernel_rfl) allP0 ?_
      refine seqQ_norm ?_
      obtain rfl := Option.some.inj h
      refine W_ret [4] [] (fr' := [(4, aI (-1 : Int))]) (L' := []) (by kernel_rfl) (by kernel_rfl) ?_
      exact retQ_mk (by kernel_rfl) (by kernel_rfl) (by kernel_rfl)

def slices_ContainsFunc_LLintLint_with_tag_wrong_1 (a0 : (List (List Int))) : Option Bool :=
(slices_IndexFunc_LLintLint_with_tag_wrong_1 a0).bind fun r1 =>
some (decide (r1 ≥ (0 : Int)))
theorem slices_ContainsFunc_LLintLint_with_tag_wrong_1_ok {a0 : (List (List Int))} {r : Bool} (h : slices_ContainsFunc_LLintLint_with_tag_wrong_1 a0 = some r) : FnC Try.prog 79 [aD (.slice (.slice tI)) a0, .one (.fn 80 [])] [] (aB r) [] := by
  refine fnC_of_W (B := bodyOf Try.f79) (n := 9) Try.func79 (by kernel_rfl) (by kernel_rfl) (by kernel_rfl) (by kernel_rfl) (by kernel_rfl) ?_
  intro K
  refine W_seq (by kernel_rfl) ?_
  refine W_run 1 [] [0, 1] [] (fr' := [(0, aD (.slice (.slice tI)) a0), (1, .one (.fn 80 []))]) (L' := []) (obs := []) (by kernel_rfl) (by kernel_rfl) (by kernel_rfl) allP0 ?_
  refine seqQ_norm ?_
  refine W_seq (by kernel_rfl) ?_
  refine W_region (by kernel_rfl) ?_
  refine WO_run (j := 2) (k := 2) (orcs := []) (kF := [5, 6]) (kL := []) (fr' := [(5, aD (.slice (.slice tI)) a0), (6, .one (.fn 80 []))]) (L' := []) (obs := []) rfl (by kernel_rfl) allP0 ?_
  obtain ⟨r1, h2, h⟩ := bind_of h
  refine WO_call0 (us := [none, none]) (d := 7) (p := True) (j := 3) rfl ⟨by kernel_rfl, by kernel_rfl, by kernel_rfl⟩ trivial (slices_IndexFunc_LLintLint_with_tag_wrong_1_ok h2) (by kernel_rfl) ?_
  refine WO_run (j := 5) (k := 2) (orcs := []) (kF := [4]) (kL := []) (fr' := [(4, aB (decide (r1 ≥ (0 : Int))))]) (L' := []) (obs := []) rfl (by kernel_rfl) allP0 ?_
  refine WO_fin [4] [] (fr' := [(4, aB (decide (r1 ≥ (0 : Int))))]) (L' := []) (by kernel_rfl) (by kernel_rfl) ?_
  refine seqQ_norm ?_
  obtain rfl := Option.some.inj h
  refine W_ret [4] [] (fr' := [(4, aB (decide (r1 ≥ (0 : Int))))]) (L' := []) (by kernel_rfl) (by kernel_rfl) ?_
  exact retQ_mk (by kernel_rfl) (by kernel_rfl) (by kernel_rfl)

def slices_Clone_LLintLint (a0 : (List (List Int))) : Option (List (List Int)) :=
(ck ((0 : Int) + (List.length a0 : Int) ≤ 4294967296)).bind fun _ =>
some ([] ++ a0)
theorem slices_Clone_LLintLint_ok {a0 : (List (List Int))} {r : (List (List Int))} (h : slices_Clone_LLintLint a0 = some r) : FnC Try.prog 81 [aD (.slice (.slice tI)) a0] [] (.one (.slc 5)) [(5, .seq (.slice tI) r)] := by
  refine fnC_of_W (B := bodyOf Try.f81) (n := 8) Try.func81 (by kernel_rfl) (by kernel_rfl) (by kernel_rfl) (by kernel_rfl) (by kernel_rfl) ?_
  intro K
  refine W_seq (by kernel_rfl) ?_
  refine W_run 1 [] [0] [] (fr' := [(0, aD (.slice (.slice tI)) a0)]) (L' := []) (obs := []) (by kernel_rfl) (by kernel_rfl) (by kernel_rfl) allP0 ?_
  refine seqQ_norm ?_
  refine W_seq (by kernel_rfl) ?_
  refine W_seq (by kernel_rfl) ?_
  refine W_region (by kernel_rfl) ?_
  refine WO_run (j := 1) (k := 1) (orcs := []) (kF := [0, 3]) (kL := []) (fr' := [(0, aD (.slice (.slice tI)) a0), (3, aD (.slice (.slice tI)) a0)]) (L' := []) (obs := []) rfl (by kernel_rfl) allP0 ?_
  refine WO_nilcmp (u := (.slice tI)) (xs := a0) (d := 4) (j := 2) rfl (by kernel_rfl) (by kernel_rfl) (fun h12 h10 => ?_)
  cases h12
  · refine WO_fin [0, 4] [] (fr' := [(0, aD (.slice (.slice tI)) a0), (4, aB false)]) (L' := []) (by kernel_rfl) (by kernel_rfl) ?_
    refine seqQ_norm ?_
    refine W_cond (o := .tmp 4) (b := false) (by kernel_rfl) (by kernel_rfl) (fun h7 => by have := (rfl : false = false).symm.trans h7; cases this) (fun h7 => ?_)
    refine W_skip [0] [] (fr' := [(0, aD (.slice (.slice tI)) a0)]) (L' := []) (by kernel_rfl) (by kernel_rfl) ?_
    refine seqQ_norm ?_
    refine W_seq (by kernel_rfl) ?_
    obtain ⟨_, h8, h⟩ := bind_of h
    replace h8 := ck_some h8
    refine W_run 4 [] [2] [5] (fr' := [(2, .one (.slc 5))]) (L' := [(5, .seq (.slice tI) ([] ++ a0))]) (obs := [SmallLen (List.length ([] : (List (List Int))) + List.length a0)]) (by kernel_rfl) (by kernel_rfl) (by kernel_rfl) (allP1 h8) ?_
    refine seqQ_norm ?_
    obtain rfl := Option.some.inj h
    refine W_ret [2] [5] (fr' := [(2, .one (.slc 5))]) (L' := [(5, .seq (.slice tI) ([] ++ a0))]) (by kernel_rfl) (by kernel_rfl) ?_
    exact retQ_mk (by kernel_rfl) (by kernel_rfl) (by kernel_rfl)
  · replace h10 := h10 rfl
    have h11 : (some [] : Option (List (List Int))) = ((ck ((0 : Int) + (List.length a0 : Int) ≤ 4294967296)).bind fun _ => some ([] ++ a0)) := by rw [h10]; simp [ck]
    replace h := h11.trans h
    refine WO_fin [0, 4] [] (fr' := [(0, aD (.slice (.slice tI)) a0), (4, aB true)]) (L' := []) (by kernel_rfl) (by kernel_rfl) ?_
    refine seqQ_norm ?_
    refine W_cond (o := .tmp 4) (b := true) (by kernel_rfl) (by kernel_rfl) (fun h9 => ?_) (fun h9 => by have := (rfl : true = true).symm.trans h9; cases this)
    refine W_seq (by kernel_rfl) ?_
    refine W_run 1 [] [2] [] (fr' := [(2, .one (.nilS))]) (L' := []) (obs := []) (by kernel_rfl) (by kernel_rfl) (by kernel_rfl) allP0 ?_
    refine seqQ_norm ?_
    obtain rfl := Option.some.inj h
    refine W_mine 2 5 (.slice tI) (by kernel_rfl) ?_
    refine W_ret [2] [5] (fr' := [(2, .one (.slc 5))]) (L' := [(5, .seq (.slice tI) [])]) (by kernel_rfl) (by kernel_rfl) ?_
    refine seqQ_ret ?_
    exact retQ_mk (by kernel_rfl) (by kernel_rfl) (by kernel_rfl)

def tag_wrong_2 (a0 : Int) (c0 : Int) : Option Bool :=
some ((decide (a0 < (0 : Int))) || (decide (a0 ≥ c0)))
theorem tag_wrong_2_ok {a0 : Int} {c0 : Int} {r : Bool} (h : tag_wrong_2 a0 c0 = some r) : FnC Try.prog 83 [aI a0, .one (.ptr 1000 0)] [(1000, .cells [.dat tI c0])] (aB r) [(1000, .cells [.dat tI c0])] := by
  refine fnC_of_W (B := bodyOf Try.f83) (n := 11) Try.func83 (by kernel_rfl) (by kernel_rfl) (by kernel_rfl) (by kernel_rfl) (by kernel_rfl) ?_
  intro K
  refine W_seq (by kernel_rfl) ?_
  refine W_run 1 [] [0, 1] [1000] (fr' := [(0, aI a0), (1, .one (.ptr 1000 0))]) (L' := [(1000, .cells [.dat tI c0])]) (obs := []) (by kernel_rfl) (by kernel_rfl) (by kernel_rfl) allP0 ?_
  refine seqQ_norm ?_
  refine W_seq (by kernel_rfl) ?_
  refine W_run 8 [] [3] [1000] (fr' := [(3, aB ((decide (a0 < (0 : Int))) || (decide (a0 ≥ c0))))]) (L' := [(1000, .cells [.dat tI c0])]) (obs := []) (by kernel_rfl) (by kernel_rfl) (by kernel_rfl) allP0 ?_
  refine seqQ_norm ?_
  obtain rfl := Option.some.inj h
  refine W_ret [3] [1000] (fr' := [(3, aB ((decide (a0 < (0 : Int))) || (decide (a0 ≥ c0))))]) (L' := [(1000, .cells [.dat tI c0])]) (by kernel_rfl) (by kernel_rfl) ?_
  exact retQ_mk (by kernel_rfl) (by kernel_rfl) (by kernel_rfl)

def slices_IndexFunc_Lintint_with_tag_wrong_2_b1 (c0 : Int) (i15 : Int) (v18 : Int) (x16 : Unit) : Option (Flow Unit (Esc Int Unit)) :=
(tag_wrong_2 v18 c0).bind fun r21 =>
bif r21 then
(some (.done (.ret i15)))
else
(some (.next ()))
@[reducible] def slices_IndexFunc_Lintint_with_tag_wrong_2_s2 (a0 : (List Int)) (c0 : Int) (v : Int × Unit) : Fr × LL := ([(0, aD (.slice tI) a0), (1, .one (.fn 83 [(1000, 0)])), (7, aI (List.length a0 : Int)), (8, aI v.1)], [(1000, .cells [.dat tI c0])])
@[reducible] def slices_IndexFunc_Lintint_with_tag_wrong_2_s3 (c0 : Int) (v : Int) : Fr × LL := ([(4, aI v)], [(1000, .cells [.dat tI c0])])
@[reducible] def slices_IndexFunc_Lintint_with_tag_wrong_2_s4 (c0 : Int) (v : Unit) : Fr × LL := ([], [(1000, .cells [.dat tI c0])])
def slices_IndexFunc_Lintint_with_tag_wrong_2 (a0 : (List Int)) (c0 : Int) : Option Int :=
(forL (slices_IndexFunc_Lintint_with_tag_wrong_2_b1 c0) (fun x16 => (.brk ())) a0 0 ()).bind fun v25 =>
match v25 with
| .ret v30 =>
(some v30)
| .brk v31 =>
(some (-1 : Int))
theorem slices_IndexFunc_Lintint_with_tag_wrong_2_ok {a0 : (List Int)} {c0 : Int} {r : Int} (h : slices_IndexFunc_Lintint_with_tag_wrong_2 a0 c0 = some r) : FnC Try.prog 86 [aD (.slice tI) a0, .one (.fn 83 [(1000, 0)])] [(1000, .cells [.dat tI c0])] (aI r) [(1000, .cells [.dat tI c0])] := by
  refine fnC_of_W (B := bodyOf Try.f86) (n := 19) Try.func86 (by kernel_rfl) (by kernel_rfl) (by kernel_rfl) (by kernel_rfl) (by kernel_rfl) ?_
  intro K
  refine W_seq (by kernel_rfl) ?_
  refine W_run 1 [] [0, 1] [1000] (fr' := [(0, aD (.slice tI) a0), (1, .one (.fn 83 [(1000, 0)]))]) (L' := [(1000, .cells [.dat tI c0])]) (obs := []) (by kernel_rfl) (by kernel_rfl) (by kernel_rfl) allP0 ?_
  refine seqQ_norm ?_
  refine W_seq (by kernel_rfl) ?_
  refine W_seq (by kernel_rfl) ?_
  refine W_run 3 [] [0, 1, 7, 8] [1000] (fr' := [(0, aD (.slice tI) a0), (1, .one (.fn 83 [(1000, 0)])), (7, aI (List.length a0 : Int)), (8, aI (0 : Int))]) (L' := [(1000, .cells [.dat tI c0])]) (obs := []) (by kernel_rfl) (by kernel_rfl) (by kernel_rfl) allP0 ?_
  refine seqQ_norm ?_
  refine W_block (id := 0) (by kernel_rfl) ?_
  obtain ⟨v25, h26, h⟩ := bind_of h
  refine W_len (t := 0) (u := tI) (xs := a0) (by kernel_rfl) (fun h29 => ?_)
  obtain ⟨h27, h28⟩ := forL_iter h29 h26
  refine W_weaken [0, 1, 7, 8] [1000] (fr' := ((slices_IndexFunc_Lintint_with_tag_wrong_2_s2 a0 c0) ((0 : Int), ())).1) (L' := ((slices_IndexFunc_Lintint_with_tag_wrong_2_s2 a0 c0) ((0 : Int), ())).2) (by kernel_rfl) ?_
  refine W_cutK (W_loop (S := (slices_IndexFunc_Lintint_with_tag_wrong_2_s2 a0 c0)) (J := (escQ (exQ .ret (slices_IndexFunc_Lintint_with_tag_wrong_2_s3 c0)) (exQ (.exit 0) (slices_IndexFunc_Lintint_with_tag_wrong_2_s4 c0)))) (by kernel_rfl) ?_ h27 _ v25 h28) ?_
  · rintro ⟨i15, x16⟩ s h
    refine W_seq (by kernel_rfl) ?_
    refine W_run 1 [] [0, 1, 7, 8, 9] [1000] (fr' := [(0, aD (.slice tI) a0), (1, .one (.fn 83 [(1000, 0)])), (7, aI (List.length a0 : Int)), (8, aI i15), (9, aB (decide (i15 < (List.length a0 : Int))))]) (L' := [(1000, .cells [.dat tI c0])]) (obs := []) (by kernel_rfl) (by kernel_rfl) (by kernel_rfl) allP0 ?_
    refine seqQ_norm ?_
    refine W_seq (by kernel_rfl) ?_
    refine W_cond (o := .tmp 9) (b := decide (i15 < (List.length a0 : Int))) (by kernel_rfl) (by kernel_rfl) (fun h20 => ?_) (fun h20 => ?_)
    · replace h := stepL_true h20 h
      obtain ⟨v18, _, h19, h, rfl⟩ := h
      refine W_skip [0, 1, 7, 8] [1000] (fr' := [(0, aD (.slice tI) a0), (1, .one (.fn 83 [(1000, 0)])), (7, aI (List.length a0 : Int)), (8, aI i15)]) (L' := [(1000, .cells [.dat tI c0])]) (by kernel_rfl) (by kernel_rfl) ?_
      refine seqQ_norm ?_
      refine W_seq (by kernel_rfl) ?_
      refine W_block (id := 1) (by kernel_rfl) ?_
      refine W_seq (by kernel_rfl) ?_
      refine W_run 2 [] [0, 1, 5, 7, 8] [1000] (fr' := [(0, aD (.slice tI) a0), (1, .one (.fn 83 [(1000, 0)])), (5, aI i15), (7, aI (List.length a0 : Int)), (8, aI i15)]) (L' := [(1000, .cells [.dat tI c0])]) (obs := []) (by kernel_rfl) (by kernel_rfl) (by kernel_rfl) allP0 ?_
      refine seqQ_norm ?_
      refine W_seq (by kernel_rfl) ?_
      refine W_region (by kernel_rfl) ?_
      refine WO_run (j := 5) (k := 5) (orcs := [(7, .val (.dat tI v18))]) (kF := [0, 1, 5, 7, 8, 11, 15]) (kL := [1000]) (fr' := [(0, aD (.slice tI) a0), (1, .one (.fn 83 [(1000, 0)])), (5, aI i15), (7, aI (List.length a0 : Int)), (8, aI i15), (11, .one (.fn 83 [(1000, 0)])), (15, aI v18)]) (L' := [(1000, .cells [.dat tI c0])]) (obs := [Idx a0 i15 v18]) rfl (by kernel_rfl) (allP1 (Idx.of h19)) ?_
      obtain ⟨r21, h22, h⟩ := bind_of h
      refine WO_lend [(1000, 1000)] (us := [none, none]) (d := 16) (p := True) (j := 6) rfl ⟨by kernel_rfl, by kernel_rfl, by kernel_rfl⟩ trivial (tag_wrong_2_ok h22) (by kernel_rfl) (by kernel_rfl) ?_
      refine WO_fin [0, 1, 5, 7, 8, 16] [1000] (fr' := [(0, aD (.slice tI) a0), (1, .one (.fn 83 [(1000, 0)])), (5, aI i15), (7, aI (List.length a0 : Int)), (8, aI i15), (16, aB r21)]) (L' := [(1000, .cells [.dat tI c0])]) (by kernel_rfl) (by kernel_rfl) ?_
      refine seqQ_norm ?_
      refine W_cond (o := .tmp 16) (b := r21) (by kernel_rfl) (by kernel_rfl) (fun h23 => ?_) (fun h23 => ?_)
      · replace h := ofT h23 h
        refine W_seq (by kernel_rfl) ?_
        refine W_run 2 [] [4] [1000] (fr' := [(4, aI i15)]) (L' := [(1000, .cells [.dat tI c0])]) (obs := []) (by kernel_rfl) (by kernel_rfl) (by kernel_rfl) allP0 ?_
        refine seqQ_norm ?_
        obtain rfl := Option.some.inj h
        refine W_ret [4] [1000] (fr' := [(4, aI i15)]) (L' := [(1000, .cells [.dat tI c0])]) (by kernel_rfl) (by kernel_rfl) ?_
        refine blockQ_ret ?_
        refine seqQ_ret ?_
        refine round_ret ?_
        refine escQ_ret ?_
        exact exQ_mk (by kernel_rfl) (by kernel_rfl)
      · replace h := ofF h23 h
        refine W_skip [0, 1, 7, 8] [1000] (fr' := [(0, aD (.slice tI) a0), (1, .one (.fn 83 [(1000, 0)])), (7, aI (List.length a0 : Int)), (8, aI i15)]) (L' := [(1000, .cells [.dat tI c0])]) (by kernel_rfl) (by kernel_rfl) ?_
        refine blockQ_norm ?_
        refine seqQ_norm ?_
        obtain rfl := Option.some.inj h
        refine W_run 2 [] [0, 1, 7, 8] [1000] (fr' := [(0, aD (.slice tI) a0), (1, .one (.fn 83 [(1000, 0)])), (7, aI (List.length a0 : Int)), (8, aI (w64 (i15 + (1 : Int))))]) (L' := [(1000, .cells [.dat tI c0])]) (obs := []) (by kernel_rfl) (by kernel_rfl) (by kernel_rfl) allP0 ?_
        exact round_next' (by kernel_rfl) (by kernel_rfl)
    · obtain rfl := stepL_false h20 h
      refine W_exit (id := 0) [] [1000] (fr' := []) (L' := [(1000, .cells [.dat tI c0])]) (by kernel_rfl) (by kernel_rfl) ?_
      refine seqQ_exit ?_
      refine round_exit ?_
      refine escQ_brk ?_
      exact exQ_mk (by kernel_rfl) (by kernel_rfl)
  · intro e fr L hJ
    rcases v25 with v30 | v31
    · obtain ⟨rfl, rfl, rfl⟩ := hJ
      obtain rfl := Option.some.inj h
      refine LT_keep [4] [1000] (fr' := [(4, aI v30)]) (L' := [(1000, .cells [.dat tI c0])]) (by kernel_rfl) ?_
      refine blockQ_ret ?_
      refine seqQ_ret ?_
      exact retQ_mk (by kernel_rfl) (by kernel_rfl) (by kernel_rfl)
    · obtain ⟨rfl, rfl, rfl⟩ := hJ
      refine LT_keep [] [1000] (fr' := []) (L' := [(1000, .cells [.dat tI c0])]) (by kernel_rfl) ?_
      refine blockQ_hit ?_
      refine seqQ_norm ?_
      refine W_seq (by kernel_rfl) ?_
      refine W_run 1 [] [4] [1000] (fr' := [(4, aI (-1 : Int))]) (L' := [(1000, .cells [.dat tI c0])]) (obs := []) (by kernel_rfl) (by kernel_rfl) (by kernel_rfl) allP0 ?_
      refine seqQ_norm ?_
      obtain rfl := Option.some.inj h
      refine W_ret [4] [1000] (fr' := [(4, aI (-1 : Int))]) (L' := [(1000, .cells [.dat tI c0])]) (by kernel_rfl) (by kernel_rfl) ?_
      exact retQ_mk (by kernel_rfl) (by kernel_rfl) (by kernel_rfl)

def slices_ContainsFunc_Lintint_with_tag_wrong_2 (a0 : (List Int)) (c0 : Int) : Option Bool :=
(slices_IndexFunc_Lintint_with_tag_wrong_2 a0 c0).bind fun r1 =>
some (decide (r1 ≥ (0 : Int)))
theorem slices_ContainsFunc_Lintint_with_tag_wrong_2_ok {a0 : (List Int)} {c0 : Int} {r : Bool} (h : slices_ContainsFunc_Lintint_with_tag_wrong_2 a0 c0 = some r) : FnC Try.prog 82 [aD (.slice tI) a0, .one (.fn 83 [(1000, 0)])] [(1000, .cells [.dat tI c0])] (aB r) [(1000, .cells [.dat tI c0])] := by
  refine fnC_of_W (B := bodyOf Try.f82) (n := 9) Try.func82 (by kernel_rfl) (by kernel_rfl) (by kernel_rfl) (by kernel_rfl) (by kernel_rfl) ?_
  intro K
  refine W_seq (by kernel_rfl) ?_
  refine W_run 1 [] [0, 1] [1000] (fr' := [(0, aD (.slice tI) a0), (1, .one (.fn 83 [(1000, 0)]))]) (L' := [(1000, .cells [.dat tI c0])]) (obs := []) (by kernel_rfl) (by kernel_rfl) (by kernel_rfl) allP0 ?_
  refine seqQ_norm ?_
  refine W_seq (by kernel_rfl) ?_
  refine W_region (by kernel_rfl) ?_
  refine WO_run (j := 2) (k := 2) (orcs := []) (kF := [5, 6]) (kL := [1000]) (fr' := [(5, aD (.slice tI) a0), (6, .one (.fn 83 [(1000, 0)]))]) (L' := [(1000, .cells [.dat tI c0])]) (obs := []) rfl (by kernel_rfl) allP0 ?_
  obtain ⟨r1, h2, h⟩ := bind_of h
  refine WO_lend [(1000, 1000)] (us := [none, none]) (d := 7) (p := True) (j := 3) rfl ⟨by kernel_rfl, by kernel_rfl, by kernel_rfl⟩ trivial (slices_IndexFunc_Lintint_with_tag_wrong_2_ok h2) (by kernel_rfl) (by kernel_rfl) ?_
  refine WO_run (j := 5) (k := 2) (orcs := []) (kF := [4]) (kL := [1000]) (fr' := [(4, aB (decide (r1 ≥ (0 : Int))))]) (L' := [(1000, .cells [.dat tI c0])]) (obs := []) rfl (by kernel_rfl) allP0 ?_
  refine WO_fin [4] [1000] (fr' := [(4, aB (decide (r1 ≥ (0 : Int))))]) (L' := [(1000, .cells [.dat tI c0])]) (by kernel_rfl) (by kernel_rfl) ?_
  refine seqQ_norm ?_
  obtain rfl := Option.some.inj h
  refine W_ret [4] [1000] (fr' := [(4, aB (decide (r1 ≥ (0 : Int))))]) (L' := [(1000, .cells [.dat tI c0])]) (by kernel_rfl) (by kernel_rfl) ?_
  exact retQ_mk (by kernel_rfl) (by kernel_rfl) (by kernel_rfl)

def tag_wrong_g1 (a0 : Int) (a1 : (Int × (List (List Int)))) (a2 : (List Int)) : Option Bool :=
bif (decide (a0 < (1 : Int))) || (decide (a0 > (4 : Int))) then
(some true)
else
(bif decide (a1.1 < (1 : Int)) then
(some true)
else
(bif (decide (a1.1 > (4 : Int))) || (decide ((List.length a2 : Int) > (40 : Int))) then
(some true)
else
((slices_ContainsFunc_LLintLint_with_tag_wrong_1 a1.2).bind fun r14 =>
some r14)))
def tag_wrong_b2 (a0 : Int) (i37 : Int) (v40 : (List Int)) (x38 : Unit) : Option (Flow Unit (Esc Int Unit)) :=
(slices_ContainsFunc_Lintint_with_tag_wrong_2 v40 a0).bind fun r43 =>
bif r43 then
(some (.done (.ret (2 : Int))))
else
(some (.next ()))
@[reducible] def tag_wrong_s3 (a0 : Int) (a2 : (List Int)) (r20 : (List (List Int))) (v : Int × Unit) : Fr × LL := ([(3, .one (.ptr 3 0)), (45, .one (.slc 42)), (46, aI (List.length (r20 ++ [a2]) : Int)), (47, aI v.1)], [(3, .cells [.dat tI a0]), (42, .seq (.slice tI) (r20 ++ [a2]))])
@[reducible] def tag_wrong_s4 (v : Int) : Fr × LL := ([(6, aI v)], [])
@[reducible] def tag_wrong_s5 (v : Unit) : Fr × LL := ([], [])
@[reducible] def tag_wrong_s6 (a0 : Int) (a1 : (Int × (List (List Int)))) (a2 : (List Int)) (v : Bool) : Fr × LL := ([(2, aD (.slice tI) a2), (3, .one (.ptr 3 0)), (4, .one (.ptr 4 0)), (34, aB v)], [(3, .cells [.dat tI a0]), (4, .one (.pair tI (.slice (.slice tI))) a1)])
def tag_wrong (a0 : Int) (a1 : (Int × (List (List Int)))) (a2 : (List Int)) : Option Int :=
(tag_wrong_g1 a0 a1 a2).bind fun v16 =>
bif v16 then
(some (1 : Int))
else
(bif (List.length a1.2 : Int) != a0 then
(some (3 : Int))
else
((slices_Clone_LLintLint a1.2).bind fun r20 =>
(ck ((List.length r20 : Int) + 1 ≤ 4294967296)).bind fun _ =>
(forL (tag_wrong_b2 a0) (fun x38 => (.brk ())) (r20 ++ [a2]) 0 ()).bind fun v47 =>
match v47 with
| .ret v52 =>
(some v52)
| .brk v53 =>
(some (0 : Int))))
theorem tag_wrong_ok {a0 : Int} {a1 : (Int × (List (List Int)))} {a2 : (List Int)} {r : Int} (h : tag_wrong a0 a1 a2 = some r) : FnC Try.prog 69 [aI a0, aD (.pair tI (.slice (.slice tI))) a1, aD (.slice tI) a2] [] (aI r) [] := by
  refine fnC_of_W (B := bodyOf Try.f69) (n := 55) Try.func69 (by kernel_rfl) (by kernel_rfl) (by kernel_rfl) (by kernel_rfl) (by kernel_rfl) ?_
  intro K
  refine W_seq (by kernel_rfl) ?_
  refine W_run 3 [] [2, 3, 4] [3, 4] (fr' := [(2, aD (.slice tI) a2), (3, .one (.ptr 3 0)), (4, .one (.ptr 4 0))]) (L' := [(3, .cells [.dat tI a0]), (4, .one (.pair tI (.slice (.slice tI))) a1)]) (obs := []) (by kernel_rfl) (by kernel_rfl) (by kernel_rfl) allP0 ?_
  refine seqQ_norm ?_
  refine W_seq (by kernel_rfl) ?_
  refine W_seq (by kernel_rfl) ?_
  obtain ⟨v16, h17, h⟩ := bind_of h
  refine W_cutK (Q' := (exQ .normal (tag_wrong_s6 a0 a1 a2)) v16) ?_ ?_
  · replace h := h17
    refine W_region (by kernel_rfl) ?_
    refine WO_run (j := 7) (k := 7) (orcs := []) (kF := [2, 3, 4, 15]) (kL := [3, 4]) (fr' := [(2, aD (.slice tI) a2), (3, .one (.ptr 3 0)), (4, .one (.ptr 4 0)), (15, aB ((decide (a0 < (1 : Int))) || (decide (a0 > (4 : Int)))))]) (L' := [(3, .cells [.dat tI a0]), (4, .one (.pair tI (.slice (.slice tI))) a1)]) (obs := []) rfl (by kernel_rfl) allP0 ?_
    rcases Bool.eq_false_or_eq_true ((decide (a0 < (1 : Int))) || (decide (a0 > (4 : Int)))) with h11 | h11
    · replace h := ofT h11 h
      refine WO_run (j := 26) (k := 19) (orcs := [(14, .known true), (16, .known true), (18, .known true), (21, .val (.dat .bool true)), (24, .known true), (26, .known true), (28, .known true), (31, .val (.dat .bool true)), (34, .known true), (36, .known true), (38, .known true), (41, .val (.dat .bool true)), (44, .known true), (46, .known true), (48, .known true), (51, .val (.dat .bool true))]) (kF := [2, 3, 4, 34]) (kL := [3, 4]) (fr' := [(2, aD (.slice tI) a2), (3, .one (.ptr 3 0)), (4, .one (.ptr 4 0)), (34, aB true)]) (L' := [(3, .cells [.dat tI a0]), (4, .one (.pair tI (.slice (.slice tI))) a1)]) (obs := [(((decide (a0 < (1 : Int))) || (decide (a0 > (4 : Int)))) = true), (((decide (a0 < (1 : Int))) || (decide (a0 > (4 : Int)))) = true), (((decide (a0 < (1 : Int))) || (decide (a0 > (4 : Int)))) = true), (((decide (a0 < (1 : Int))) || (decide (a0 > (4 : Int)))) = true), (true = true), (true = true), (true = true), (true = true), (true = true), (true = true), (true = true), (true = true), (true = true), (true = true), (true = true), (true = true)]) rfl (by kernel_rfl) (allP2 h11 (allP2 h11 (allP2 h11 (allP2 h11 (allP2 rfl (allP2 rfl (allP2 rfl (allP2 rfl (allP2 rfl (allP2 rfl (allP2 rfl (allP2 rfl (allP2 rfl (allP2 rfl (allP2 rfl (allP1 rfl)))))))))))))))) ?_
      obtain rfl := Option.some.inj h
      refine WO_fin [2, 3, 4, 34] [3, 4] (fr' := [(2, aD (.slice tI) a2), (3, .one (.ptr 3 0)), (4, .one (.ptr 4 0)), (34, aB true)]) (L' := [(3, .cells [.dat tI a0]), (4, .one (.pair tI (.slice (.slice tI))) a1)]) (by kernel_rfl) (by kernel_rfl) ?_
      exact exQ_mk (by kernel_rfl) (by kernel_rfl)
    · replace h := ofF h11 h
      refine WO_run (j := 12) (k := 5) (orcs := [(14, .known false), (16, .known false), (18, .known false), (21, .val (.dat .bool false))]) (kF := [2, 3, 4, 20]) (kL := [3, 4]) (fr' := [(2, aD (.slice tI) a2), (3, .one (.ptr 3 0)), (4, .one (.ptr 4 0)), (20, aB (decide (a1.1 < (1 : Int))))]) (L' := [(3, .cells [.dat tI a0]), (4, .one (.pair tI (.slice (.slice tI))) a1)]) (obs := [(((decide (a0 < (1 : Int))) || (decide (a0 > (4 : Int)))) = false), (((decide (a0 < (1 : Int))) || (decide (a0 > (4 : Int)))) = false), (((decide (a0 < (1 : Int))) || (decide (a0 > (4 : Int)))) = false), (((decide (a0 < (1 : Int))) || (decide (a0 > (4 : Int)))) = false)]) rfl (by kernel_rfl) (allP2 h11 (allP2 h11 (allP2 h11 (allP1 h11)))) ?_
      rcases Bool.eq_false_or_eq_true (decide (a1.1 < (1 : Int))) with h12 | h12
      · replace h := ofT h12 h
        refine WO_run (j := 26) (k := 14) (orcs := [(24, .known true), (26, .known true), (28, .known true), (31, .val (.dat .bool true)), (34, .known true), (36, .known true), (38, .known true), (41, .val (.dat .bool true)), (44, .known true), (46, .known true), (48, .known true), (51, .val (.dat .bool true))]) (kF := [2, 3, 4, 34]) (kL := [3, 4]) (fr' := [(2, aD (.slice tI) a2), (3, .one (.ptr 3 0)), (4, .one (.ptr 4 0)), (34, aB true)]) (L' := [(3, .cells [.dat tI a0]), (4, .one (.pair tI (.slice (.slice tI))) a1)]) (obs := [((decide (a1.1 < (1 : Int))) = true), ((decide (a1.1 < (1 : Int))) = true), ((decide (a1.1 < (1 : Int))) = true), ((decide (a1.1 < (1 : Int))) = true), (true = true), (true = true), (true = true), (true = true), (true = true), (true = true), (true = true), (true = true)]) rfl (by kernel_rfl) (allP2 h12 (allP2 h12 (allP2 h12 (allP2 h12 (allP2 rfl (allP2 rfl (allP2 rfl (allP2 rfl (allP2 rfl (allP2 rfl (allP2 rfl (allP1 rfl)))))))))))) ?_
        obtain rfl := Option.some.inj h
        refine WO_fin [2, 3, 4, 34] [3, 4] (fr' := [(2, aD (.slice tI) a2), (3, .one (.ptr 3 0)), (4, .one (.ptr 4 0)), (34, aB true)]) (L' := [(3, .cells [.dat tI a0]), (4, .one (.pair tI (.slice (.slice tI))) a1)]) (by kernel_rfl) (by kernel_rfl) ?_
        exact exQ_mk (by kernel_rfl) (by kernel_rfl)
      · replace h := ofF h12 h
        refine WO_run (j := 22) (k := 10) (orcs := [(24, .known false), (26, .known false), (28, .known false), (31, .val (.dat .bool false))]) (kF := [2, 3, 4, 30]) (kL := [3, 4]) (fr' := [(2, aD (.slice tI) a2), (3, .one (.ptr 3 0)), (4, .one (.ptr 4 0)), (30, aB ((decide (a1.1 > (4 : Int))) || (decide ((List.length a2 : Int) > (40 : Int)))))]) (L' := [(3, .cells [.dat tI a0]), (4, .one (.pair tI (.slice (.slice tI))) a1)]) (obs := [((decide (a1.1 < (1 : Int))) = false), ((decide (a1.1 < (1 : Int))) = false), ((decide (a1.1 < (1 : Int))) = false), ((decide (a1.1 < (1 : Int))) = false)]) rfl (by kernel_rfl) (allP2 h12 (allP2 h12 (allP2 h12 (allP1 h12)))) ?_
        rcases Bool.eq_false_or_eq_true ((decide (a1.1 > (4 : Int))) || (decide ((List.length a2 : Int) > (40 : Int)))) with h13 | h13
        · replace h := ofT h13 h
          refine WO_run (j := 26) (k := 4) (orcs := [(44, .known true), (46, .known true), (48, .known true), (51, .val (.dat .bool true))]) (kF := [2, 3, 4, 34]) (kL := [3, 4]) (fr' := [(2, aD (.slice tI) a2), (3, .one (.ptr 3 0)), (4, .one (.ptr 4 0)), (34, aB true)]) (L' := [(3, .cells [.dat tI a0]), (4, .one (.pair tI (.slice (.slice tI))) a1)]) (obs := [(((decide (a1.1 > (4 : Int))) || (decide ((List.length a2 : Int) > (40 : Int)))) = true), (((decide (a1.1 > (4 : Int))) || (decide ((List.length a2 : Int) > (40 : Int)))) = true), (((decide (a1.1 > (4 : Int))) || (decide ((List.length a2 : Int) > (40 : Int)))) = true), (((decide (a1.1 > (4 : Int))) || (decide ((List.length a2 : Int) > (40 : Int)))) = true)]) rfl (by kernel_rfl) (allP2 h13 (allP2 h13 (allP2 h13 (allP1 h13)))) ?_
          obtain rfl := Option.some.inj h
          refine WO_fin [2, 3, 4, 34] [3, 4] (fr' := [(2, aD (.slice tI) a2), (3, .one (.ptr 3 0)), (4, .one (.ptr 4 0)), (34, aB true)]) (L' := [(3, .cells [.dat tI a0]), (4, .one (.pair tI (.slice (.slice tI))) a1)]) (by kernel_rfl) (by kernel_rfl) ?_
          exact exQ_mk (by kernel_rfl) (by kernel_rfl)
        · replace h := ofF h13 h
          refine WO_run (j := 24) (k := 2) (orcs := [(44, .known false), (46, .known false)]) (kF := [2, 3, 4, 30, 32]) (kL := [3, 4]) (fr' := [(2, aD (.slice tI) a2), (3, .one (.ptr 3 0)), (4, .one (.ptr 4 0)), (30, aB ((decide (a1.1 > (4 : Int))) || (decide ((List.length a2 : Int) > (40 : Int))))), (32, aD (.slice (.slice tI)) a1.2)]) (L' := [(3, .cells [.dat tI a0]), (4, .one (.pair tI (.slice (.slice tI))) a1)]) (obs := [(((decide (a1.1 > (4 : Int))) || (decide ((List.length a2 : Int) > (40 : Int)))) = false), (((decide (a1.1 > (4 : Int))) || (decide ((List.length a2 : Int) > (40 : Int)))) = false)]) rfl (by kernel_rfl) (allP2 h13 (allP1 h13)) ?_
          obtain ⟨r14, h15, h⟩ := bind_of h
          refine WO_call0 (us := [none, none]) (d := 33) (p := (((decide (a1.1 > (4 : Int))) || (decide ((List.length a2 : Int) > (40 : Int)))) = false)) (j := 25) rfl ⟨by kernel_rfl, by kernel_rfl, by kernel_rfl⟩ h13 (slices_ContainsFunc_LLintLint_with_tag_wrong_1_ok h15) (by kernel_rfl) ?_
          refine WO_run (j := 26) (k := 1) (orcs := [(51, .val (.dat .bool false))]) (kF := [2, 3, 4, 34]) (kL := [3, 4]) (fr' := [(2, aD (.slice tI) a2), (3, .one (.ptr 3 0)), (4, .one (.ptr 4 0)), (34, aB r14)]) (L' := [(3, .cells [.dat tI a0]), (4, .one (.pair tI (.slice (.slice tI))) a1)]) (obs := [(((decide (a1.1 > (4 : Int))) || (decide ((List.length a2 : Int) > (40 : Int)))) = false)]) rfl (by kernel_rfl) (allP1 h13) ?_
          obtain rfl := Option.some.inj h
          refine WO_fin [2, 3, 4, 34] [3, 4] (fr' := [(2, aD (.slice tI) a2), (3, .one (.ptr 3 0)), (4, .one (.ptr 4 0)), (34, aB r14)]) (L' := [(3, .cells [.dat tI a0]), (4, .one (.pair tI (.slice (.slice tI))) a1)]) (by kernel_rfl) (by kernel_rfl) ?_
          exact exQ_mk (by kernel_rfl) (by kernel_rfl)
  · intro e fr L hJ
    obtain ⟨rfl, rfl, rfl⟩ := hJ
    refine LT_keep [2, 3, 4, 34] [3, 4] (fr' := [(2, aD (.slice tI) a2), (3, .one (.ptr 3 0)), (4, .one (.ptr 4 0)), (34, aB v16)]) (L' := [(3, .cells [.dat tI a0]), (4, .one (.pair tI (.slice (.slice tI))) a1)]) (by kernel_rfl) ?_
    refine seqQ_norm ?_
    refine W_cond (o := .tmp 34) (b := v16) (by kernel_rfl) (by kernel_rfl) (fun h18 => ?_) (fun h18 => ?_)
    · replace h := ofT h18 h
      refine W_seq (by kernel_rfl) ?_
      refine W_run 1 [] [6] [] (fr' := [(6, aI (1 : Int))]) (L' := []) (obs := []) (by kernel_rfl) (by kernel_rfl) (by kernel_rfl) allP0 ?_
      refine seqQ_norm ?_
      obtain rfl := Option.some.inj h
      refine W_ret [6] [] (fr' := [(6, aI (1 : Int))]) (L' := []) (by kernel_rfl) (by kernel_rfl) ?_
      refine seqQ_ret ?_
      exact retQ_mk (by kernel_rfl) (by kernel_rfl) (by kernel_rfl)
    · replace h := ofF h18 h
      refine W_skip [2, 3, 4] [3, 4] (fr' := [(2, aD (.slice tI) a2), (3, .one (.ptr 3 0)), (4, .one (.ptr 4 0))]) (L' := [(3, .cells [.dat tI a0]), (4, .one (.pair tI (.slice (.slice tI))) a1)]) (by kernel_rfl) (by kernel_rfl) ?_
      refine seqQ_norm ?_
      refine W_seq (by kernel_rfl) ?_
      refine W_seq (by kernel_rfl) ?_
      refine W_run 5 [] [2, 3, 4, 39] [3, 4] (fr' := [(2, aD (.slice tI) a2), (3, .one (.ptr 3 0)), (4, .one (.ptr 4 0)), (39, aB ((List.length a1.2 : Int) != a0))]) (L' := [(3, .cells [.dat tI a0]), (4, .one (.pair tI (.slice (.slice tI))) a1)]) (obs := []) (by kernel_rfl) (by kernel_rfl) (by kernel_rfl) allP0 ?_
      refine seqQ_norm ?_
      refine W_cond (o := .tmp 39) (b := (List.length a1.2 : Int) != a0) (by kernel_rfl) (by kernel_rfl) (fun h19 => ?_) (fun h19 => ?_)
      · replace h := ofT h19 h
        refine W_seq (by kernel_rfl) ?_
        refine W_run 1 [] [6] [] (fr' := [(6, aI (3 : Int))]) (L' := []) (obs := []) (by kernel_rfl) (by kernel_rfl) (by kernel_rfl) allP0 ?_
        refine seqQ_norm ?_
        obtain rfl := Option.some.inj h
        refine W_ret [6] [] (fr' := [(6, aI (3 : Int))]) (L' := []) (by kernel_rfl) (by kernel_rfl) ?_
        refine seqQ_ret ?_
        exact retQ_mk (by kernel_rfl) (by kernel_rfl) (by kernel_rfl)
      · replace h := ofF h19 h
        refine W_skip [2, 3, 4] [3, 4] (fr' := [(2, aD (.slice tI) a2), (3, .one (.ptr 3 0)), (4, .one (.ptr 4 0))]) (L' := [(3, .cells [.dat tI a0]), (4, .one (.pair tI (.slice (.slice tI))) a1)]) (by kernel_rfl) (by kernel_rfl) ?_
        refine seqQ_norm ?_
        refine W_seq (by kernel_rfl) ?_
        refine W_seq (by kernel_rfl) ?_
        refine W_region (by kernel_rfl) ?_
        refine WO_run (j := 2) (k := 2) (orcs := []) (kF := [2, 3, 41]) (kL := [3, 4]) (fr' := [(2, aD (.slice tI) a2), (3, .one (.ptr 3 0)), (41, aD (.slice (.slice tI)) a1.2)]) (L' := [(3, .cells [.dat tI a0]), (4, .one (.pair tI (.slice (.slice tI))) a1)]) (obs := []) rfl (by kernel_rfl) allP0 ?_
        obtain ⟨r20, h21, h⟩ := bind_of h
        refine WO_call1 (us := [none]) (d := 42) (t := 42) (p := True) (j := 3) rfl ⟨by kernel_rfl, by kernel_rfl, by kernel_rfl⟩ trivial (slices_Clone_LLintLint_ok h21) (by kernel_rfl) ?_
        obtain ⟨_, h22, h⟩ := bind_of h
        replace h22 := ck_some h22
        refine WO_run (j := 8) (k := 5) (orcs := []) (kF := [3, 45, 46, 47]) (kL := [3, 4, 42, 44]) (fr' := [(3, .one (.ptr 3 0)), (45, .one (.slc 42)), (46, aI (List.length (r20 ++ [a2]) : Int)), (47, aI (0 : Int))]) (L' := [(3, .cells [.dat tI a0]), (4, .one (.pair tI (.slice (.slice tI))) a1), (42, .seq (.slice tI) (r20 ++ [a2])), (44, .seq (.slice tI) [a2])]) (obs := [SmallLen (List.length r20 + List.length [a2])]) rfl (by kernel_rfl) (allP1 h22) ?_
        refine WO_fin [3, 45, 46, 47] [3, 42] (fr' := [(3, .one (.ptr 3 0)), (45, .one (.slc 42)), (46, aI (List.length (r20 ++ [a2]) : Int)), (47, aI (0 : Int))]) (L' := [(3, .cells [.dat tI a0]), (42, .seq (.slice tI) (r20 ++ [a2]))]) (by kernel_rfl) (by kernel_rfl) ?_
        refine seqQ_norm ?_
        refine W_block (id := 0) (by kernel_rfl) ?_
        obtain ⟨v47, h48, h⟩ := bind_of h
        refine W_lenS (s := 42) (u := (.slice tI)) (xs := r20 ++ [a2]) (by kernel_rfl) (fun h51 => ?_)
        obtain ⟨h49, h50⟩ := forL_iter h51 h48
        refine W_weaken [3, 45, 46, 47] [3, 42] (fr' := ((tag_wrong_s3 a0 a2 r20) ((0 : Int), ())).1) (L' := ((tag_wrong_s3 a0 a2 r20) ((0 : Int), ())).2) (by kernel_rfl) ?_
        refine W_cutK (W_loop (S := (tag_wrong_s3 a0 a2 r20)) (J := (escQ (exQ .ret tag_wrong_s4) (exQ (.exit 0) tag_wrong_s5))) (by kernel_rfl) ?_ h49 _ v47 h50) ?_
        · rintro ⟨i37, x38⟩ s h
          refine W_seq (by kernel_rfl) ?_
          refine W_run 1 [] [3, 45, 46, 47, 48] [3, 42] (fr' := [(3, .one (.ptr 3 0)), (45, .one (.slc 42)), (46, aI (List.length (r20 ++ [a2]) : Int)), (47, aI i37), (48, aB (decide (i37 < (List.length (r20 ++ [a2]) : Int))))]) (L' := [(3, .cells [.dat tI a0]), (42, .seq (.slice tI) (r20 ++ [a2]))]) (obs := []) (by kernel_rfl) (by kernel_rfl) (by kernel_rfl) allP0 ?_
          refine seqQ_norm ?_
          refine W_seq (by kernel_rfl) ?_
          refine W_cond (o := .tmp 48) (b := decide (i37 < (List.length (r20 ++ [a2]) : Int))) (by kernel_rfl) (by kernel_rfl) (fun h42 => ?_) (fun h42 => ?_)
          · replace h := stepL_true h42 h
            obtain ⟨v40, _, h41, h, rfl⟩ := h
            refine W_skip [3, 45, 46, 47] [3, 42] (fr' := [(3, .one (.ptr 3 0)), (45, .one (.slc 42)), (46, aI (List.length (r20 ++ [a2]) : Int)), (47, aI i37)]) (L' := [(3, .cells [.dat tI a0]), (42, .seq (.slice tI) (r20 ++ [a2]))]) (by kernel_rfl) (by kernel_rfl) ?_
            refine seqQ_norm ?_
            refine W_seq (by kernel_rfl) ?_
            refine W_block (id := 1) (by kernel_rfl) ?_
            refine W_seq (by kernel_rfl) ?_
            refine W_run 3 [(3, .val (.dat (.slice tI) v40))] [3, 8, 45, 46, 47] [3, 42] (fr' := [(3, .one (.ptr 3 0)), (8, aD (.slice tI) v40), (45, .one (.slc 42)), (46, aI (List.length (r20 ++ [a2]) : Int)), (47, aI i37)]) (L' := [(3, .cells [.dat tI a0]), (42, .seq (.slice tI) (r20 ++ [a2]))]) (obs := [InR i37 (List.length (r20 ++ [a2])), Idx (r20 ++ [a2]) i37 v40]) (by kernel_rfl) (by kernel_rfl) (by kernel_rfl) (allP2 (InR.of h41) (allP1 (Idx.of h41))) ?_
            refine seqQ_norm ?_
            refine W_seq (by kernel_rfl) ?_
            refine W_region (by kernel_rfl) ?_
            refine WO_run (j := 2) (k := 2) (orcs := []) (kF := [3, 45, 46, 47, 51, 52]) (kL := [3, 42]) (fr' := [(3, .one (.ptr 3 0)), (45, .one (.slc 42)), (46, aI (List.length (r20 ++ [a2]) : Int)), (47, aI i37), (51, aD (.slice tI) v40), (52, .one (.fn 83 [(3, 0)]))]) (L' := [(3, .cells [.dat tI a0]), (42, .seq (.slice tI) (r20 ++ [a2]))]) (obs := []) rfl (by kernel_rfl) allP0 ?_
            obtain ⟨r43, h44, h⟩ := bind_of h
            refine WO_lend [(1000, 3)] (us := [none, none]) (d := 53) (p := True) (j := 3) rfl ⟨by kernel_rfl, by kernel_rfl, by kernel_rfl⟩ trivial (slices_ContainsFunc_Lintint_with_tag_wrong_2_ok h44) (by kernel_rfl) (by kernel_rfl) ?_
            refine WO_fin [3, 45, 46, 47, 53] [3, 42] (fr' := [(3, .one (.ptr 3 0)), (45, .one (.slc 42)), (46, aI (List.length (r20 ++ [a2]) : Int)), (47, aI i37), (53, aB r43)]) (L' := [(3, .cells [.dat tI a0]), (42, .seq (.slice tI) (r20 ++ [a2]))]) (by kernel_rfl) (by kernel_rfl) ?_
            refine seqQ_norm ?_
            refine W_cond (o := .tmp 53) (b := r43) (by kernel_rfl) (by kernel_rfl) (fun h45 => ?_) (fun h45 => ?_)
            · replace h := ofT h45 h
              refine W_seq (by kernel_rfl) ?_
              refine W_run 1 [] [6] [] (fr' := [(6, aI (2 : Int))]) (L' := []) (obs := []) (by kernel_rfl) (by kernel_rfl) (by kernel_rfl) allP0 ?_
              refine seqQ_norm ?_
              obtain rfl := Option.some.inj h
              refine W_ret [6] [] (fr' := [(6, aI (2 : Int))]) (L' := []) (by kernel_rfl) (by kernel_rfl) ?_
              refine blockQ_ret ?_
              refine seqQ_ret ?_
              refine round_ret ?_
              refine escQ_ret ?_
              exact exQ_mk (by kernel_rfl) (by kernel_rfl)
            · replace h := ofF h45 h
              refine W_skip [3, 45, 46, 47] [3, 42] (fr' := [(3, .one (.ptr 3 0)), (45, .one (.slc 42)), (46, aI (List.length (r20 ++ [a2]) : Int)), (47, aI i37)]) (L' := [(3, .cells [.dat tI a0]), (42, .seq (.slice tI) (r20 ++ [a2]))]) (by kernel_rfl) (by kernel_rfl) ?_
              refine blockQ_norm ?_
              refine seqQ_norm ?_
              obtain rfl := Option.some.inj h
              refine W_run 2 [] [3, 45, 46, 47] [3, 42] (fr' := [(3, .one (.ptr 3 0)), (45, .one (.slc 42)), (46, aI (List.length (r20 ++ [a2]) : Int)), (47, aI (w64 (i37 + (1 : Int))))]) (L' := [(3, .cells [.dat tI a0]), (42, .seq (.slice tI) (r20 ++ [a2]))]) (obs := []) (by kernel_rfl) (by kernel_rfl) (by kernel_rfl) allP0 ?_
              exact round_next' (by kernel_rfl) (by kernel_rfl)
          · obtain rfl := stepL_false h42 h
            refine W_exit (id := 0) [] [] (fr' := []) (L' := []) (by kernel_rfl) (by kernel_rfl) ?_
            refine seqQ_exit ?_
            refine round_exit ?_
            refine escQ_brk ?_
            exact exQ_mk (by kernel_rfl) (by kernel_rfl)
        · intro e fr L hJ
          rcases v47 with v52 | v53
          · obtain ⟨rfl, rfl, rfl⟩ := hJ
            obtain rfl := Option.some.inj h
            refine LT_keep [6] [] (fr' := [(6, aI v52)]) (L' := []) (by kernel_rfl) ?_
            refine blockQ_ret ?_
            refine seqQ_ret ?_
            exact retQ_mk (by kernel_rfl) (by kernel_rfl) (by kernel_rfl)
          · obtain ⟨rfl, rfl, rfl⟩ := hJ
            refine LT_keep [] [] (fr' := []) (L' := []) (by kernel_rfl) ?_
            refine blockQ_hit ?_
            refine seqQ_norm ?_
            refine W_seq (by kernel_rfl) ?_
            refine W_run 1 [] [6] [] (fr' := [(6, aI (0 : Int))]) (L' := []) (obs := []) (by kernel_rfl) (by kernel_rfl) (by kernel_rfl) allP0 ?_
            refine seqQ_norm ?_
            obtain rfl := Option.some.inj h
            refine W_ret [6] [] (fr' := [(6, aI (0 : Int))]) (L' := []) (by kernel_rfl) (by kernel_rfl) ?_
            exact retQ_mk (by kernel_rfl) (by kernel_rfl) (by kernel_rfl)

def tag_key_b1 (i10 : Int) (v13 : Int) (x11 : (List Int)) : Option (Flow (List Int) (List Int)) :=
(ck ((List.length x11 : Int) + 1 ≤ 4294967296)).bind fun _ =>
some (.next (x11 ++ [IntKind.wrap .u8 (v13)]))
@[reducible] def tag_key_s2 (a0 : (List Int)) (v : Int × (List Int)) : Fr × LL := ([(3, .one (.slc 16)), (6, aD (.slice tI) a0), (7, aI (List.length a0 : Int)), (8, aI v.1)], [(16, .seq (.int .u8) v.2)])
@[reducible] def tag_key_s3 (v : (List Int)) : Fr × LL := ([(3, .one (.slc 16))], [(16, .seq (.int .u8) v)])
def tag_key (a0 : (List Int)) : Option ByteArray :=
(forL tag_key_b1 (fun x11 => x11) a0 0 []).bind fun v18 =>
some (strOf v18)
theorem tag_key_ok {a0 : (List Int)} {r : ByteArray} (h : tag_key a0 = some r) : FnC Try.prog 72 [aD (.slice tI) a0] [] (aD .str r) [] := by
  refine fnC_of_W (B := bodyOf Try.f72) (n := 20) Try.func72 (by kernel_rfl) (by kernel_rfl) (by kernel_rfl) (by kernel_rfl) (by kernel_rfl) ?_
  intro K
  refine W_seq (by kernel_rfl) ?_
  refine W_run 1 [] [0] [] (fr' := [(0, aD (.slice tI) a0)]) (L' := []) (obs := []) (by kernel_rfl) (by kernel_rfl) (by kernel_rfl) allP0 ?_
  refine seqQ_norm ?_
  refine W_seq (by kernel_rfl) ?_
  refine W_run 1 [] [0, 3] [] (fr' := [(0, aD (.slice tI) a0), (3, .one (.nilS))]) (L' := []) (obs := []) (by kernel_rfl) (by kernel_rfl) (by kernel_rfl) allP0 ?_
  refine seqQ_norm ?_
  refine W_seq (by kernel_rfl) ?_
  refine W_seq (by kernel_rfl) ?_
  refine W_run 3 [] [3, 6, 7, 8] [] (fr' := [(3, .one (.nilS)), (6, aD (.slice tI) a0), (7, aI (List.length a0 : Int)), (8, aI (0 : Int))]) (L' := []) (obs := []) (by kernel_rfl) (by kernel_rfl) (by kernel_rfl) allP0 ?_
  refine seqQ_norm ?_
  refine W_block (id := 0) (by kernel_rfl) ?_
  obtain ⟨v18, h19, h⟩ := bind_of h
  refine W_len (t := 6) (u := tI) (xs := a0) (by kernel_rfl) (fun h22 => ?_)
  obtain ⟨h20, h21⟩ := forL_iter h22 h19
  refine W_mine 3 16 (.int .u8) (by kernel_rfl) ?_
  refine W_weaken [3, 6, 7, 8] [16] (fr' := ((tag_key_s2 a0) ((0 : Int), [])).1) (L' := ((tag_key_s2 a0) ((0 : Int), [])).2) (by kernel_rfl) ?_
  refine W_cutK (W_loop (S := (tag_key_s2 a0)) (J := (exQ (.exit 0) tag_key_s3)) (by kernel_rfl) ?_ h20 _ v18 h21) ?_
  · rintro ⟨i10, x11⟩ s h
    refine W_seq (by kernel_rfl) ?_
    refine W_run 1 [] [3, 6, 7, 8, 9] [16] (fr' := [(3, .one (.slc 16)), (6, aD (.slice tI) a0), (7, aI (List.length a0 : Int)), (8, aI i10), (9, aB (decide (i10 < (List.length a0 : Int))))]) (L' := [(16, .seq (.int .u8) x11)]) (obs := []) (by kernel_rfl) (by kernel_rfl) (by kernel_rfl) allP0 ?_
    refine seqQ_norm ?_
    refine W_seq (by kernel_rfl) ?_
    refine W_cond (o := .tmp 9) (b := decide (i10 < (List.length a0 : Int))) (by kernel_rfl) (by kernel_rfl) (fun h15 => ?_) (fun h15 => ?_)
    · replace h := stepL_true h15 h
      obtain ⟨v13, _, h14, h, rfl⟩ := h
      refine W_skip [3, 6, 7, 8] [16] (fr' := [(3, .one (.slc 16)), (6, aD (.slice tI) a0), (7, aI (List.length a0 : Int)), (8, aI i10)]) (L' := [(16, .seq (.int .u8) x11)]) (by kernel_rfl) (by kernel_rfl) ?_
      refine seqQ_norm ?_
      refine W_seq (by kernel_rfl) ?_
      refine W_block (id := 1) (by kernel_rfl) ?_
      refine W_seq (by kernel_rfl) ?_
      refine W_run 3 [(1, .val (.dat tI v13))] [3, 5, 6, 7, 8] [16] (fr' := [(3, .one (.slc 16)), (5, aI v13), (6, aD (.slice tI) a0), (7, aI (List.length a0 : Int)), (8, aI i10)]) (L' := [(16, .seq (.int .u8) x11)]) (obs := [Idx a0 i10 v13]) (by kernel_rfl) (by kernel_rfl) (by kernel_rfl) (allP1 (Idx.of h14)) ?_
      refine seqQ_norm ?_
      obtain ⟨_, h16, h⟩ := bind_of h
      replace h16 := ck_some h16
      refine W_run 6 [] [3, 6, 7, 8] [16] (fr' := [(3, .one (.slc 16)), (6, aD (.slice tI) a0), (7, aI (List.length a0 : Int)), (8, aI i10)]) (L' := [(16, .seq (.int .u8) (x11 ++ [IntKind.wrap .u8 (v13)]))]) (obs := [SmallLen (List.length x11 + List.length [IntKind.wrap .u8 (v13)])]) (by kernel_rfl) (by kernel_rfl) (by kernel_rfl) (allP1 h16) ?_
      refine blockQ_norm ?_
      refine seqQ_norm ?_
      obtain rfl := Option.some.inj h
      refine W_run 2 [] [3, 6, 7, 8] [16] (fr' := [(3, .one (.slc 16)), (6, aD (.slice tI) a0), (7, aI (List.length a0 : Int)), (8, aI (w64 (i10 + (1 : Int))))]) (L' := [(16, .seq (.int .u8) (x11 ++ [IntKind.wrap .u8 (v13)]))]) (obs := []) (by kernel_rfl) (by kernel_rfl) (by kernel_rfl) allP0 ?_
      exact round_next' (by kernel_rfl) (by kernel_rfl)
    · obtain rfl := stepL_false h15 h
      refine W_exit (id := 0) [3] [16] (fr' := [(3, .one (.slc 16))]) (L' := [(16, .seq (.int .u8) x11)]) (by kernel_rfl) (by kernel_rfl) ?_
      refine seqQ_exit ?_
      refine round_exit ?_
      exact exQ_mk (by kernel_rfl) (by kernel_rfl)
  · intro e fr L hJ
    obtain ⟨rfl, rfl, rfl⟩ := hJ
    refine LT_keep [3] [16] (fr' := [(3, .one (.slc 16))]) (L' := [(16, .seq (.int .u8) v18)]) (by kernel_rfl) ?_
    refine blockQ_hit ?_
    refine seqQ_norm ?_
    refine W_seq (by kernel_rfl) ?_
    refine W_run 3 [] [2] [] (fr' := [(2, aD .str (strOf v18))]) (L' := []) (obs := []) (by kernel_rfl) (by kernel_rfl) (by kernel_rfl) allP0 ?_
    refine seqQ_norm ?_
    obtain rfl := Option.some.inj h
    refine W_ret [2] [] (fr' := [(2, aD .str (strOf v18))]) (L' := []) (by kernel_rfl) (by kernel_rfl) ?_
    exact retQ_mk (by kernel_rfl) (by kernel_rfl) (by kernel_rfl)

@[reducible] def slices_Grow_Lintint_s2 (v : (List Int)) : Fr × LL := ([(0, .one (.slc 22))], [(22, .seq tI v)])
def slices_Grow_Lintint (a1 : Int) : Option (List Int) :=
bif decide (a1 < (0 : Int)) then
(none)
else
((bif decide ((w64 (a1 - (0 : Int))) > (0 : Int)) then
((ck (0 ≤ w64 (a1 - (0 : Int)) ∧ w64 (a1 - (0 : Int)) ≤ 4294967296)).bind fun _ =>
some [])
else
(some [])).bind fun v19 =>
some v19)
theorem slices_Grow_Lintint_ok {a1 : Int} {r : (List Int)} (h : slices_Grow_Lintint a1 = some r) : FnC Try.prog 87 [.one (.nilS), aI a1] [] (.one (.slc 22)) [(22, .seq tI r)] := by
  refine fnC_of_W (B := bodyOf Try.f87) (n := 27) Try.func87 (by kernel_rfl) (by kernel_rfl) (by kernel_rfl) (by kernel_rfl) (by kernel_rfl) ?_
  intro K
  refine W_seq (by kernel_rfl) ?_
  refine W_run 1 [] [0, 1] [] (fr' := [(0, .one (.nilS)), (1, aI a1)]) (L' := []) (obs := []) (by kernel_rfl) (by kernel_rfl) (by kernel_rfl) allP0 ?_
  refine seqQ_norm ?_
  refine W_seq (by kernel_rfl) ?_
  refine W_seq (by kernel_rfl) ?_
  refine W_run 2 [] [0, 1, 6] [] (fr' := [(0, .one (.nilS)), (1, aI a1), (6, aB (decide (a1 < (0 : Int))))]) (L' := []) (obs := []) (by kernel_rfl) (by kernel_rfl) (by kernel_rfl) allP0 ?_
  refine seqQ_norm ?_
  refine W_cond (o := .tmp 6) (b := decide (a1 < (0 : Int))) (by kernel_rfl) (by kernel_rfl) (fun h12 => ?_) (fun h12 => ?_)
  · replace h := ofT h12 h
    cases h
  · replace h := ofF h12 h
    refine W_skip [0, 1] [] (fr' := [(0, .one (.nilS)), (1, aI a1)]) (L' := []) (by kernel_rfl) (by kernel_rfl) ?_
    refine seqQ_norm ?_
    refine W_seq (by kernel_rfl) ?_
    obtain ⟨v19, h20, h⟩ := bind_of h
    refine W_cutK (Q' := (exQ .normal slices_Grow_Lintint_s2) v19) ?_ ?_
    · replace h := h20
      refine W_seq (by kernel_rfl) ?_
      refine W_region (by kernel_rfl) ?_
      refine WO_run (j := 2) (k := 2) (orcs := []) (kF := [0, 1, 8, 9]) (kL := []) (fr' := [(0, .one (.nilS)), (1, aI a1), (8, aI a1), (9, .one (.nilS))]) (L' := []) (obs := []) rfl (by kernel_rfl) allP0 ?_
      refine WO_g [0, 1, 8, 9, 10] [] (fr' := [(0, .one (.nilS)), (1, aI a1), (8, aI a1), (9, .one (.nilS)), (10, aI (0 : Int))]) (L' := []) (p := True) (j := 3) rfl (by kernel_rfl) trivial ?_
      refine WO_run (j := 8) (k := 5) (orcs := []) (kF := [0, 1]) (kL := []) (fr' := [(0, .one (.nilS)), (1, aI (w64 (a1 - (0 : Int))))]) (L' := []) (obs := []) rfl (by kernel_rfl) allP0 ?_
      refine WO_fin [0, 1] [] (fr' := [(0, .one (.nilS)), (1, aI (w64 (a1 - (0 : Int))))]) (L' := []) (by kernel_rfl) (by kernel_rfl) ?_
      refine seqQ_norm ?_
      refine W_seq (by kernel_rfl) ?_
      refine W_run 2 [] [0, 1, 16] [] (fr' := [(0, .one (.nilS)), (1, aI (w64 (a1 - (0 : Int)))), (16, aB (decide ((w64 (a1 - (0 : Int))) > (0 : Int))))]) (L' := []) (obs := []) (by kernel_rfl) (by kernel_rfl) (by kernel_rfl) allP0 ?_
      refine seqQ_norm ?_
      refine W_cond (o := .tmp 16) (b := decide ((w64 (a1 - (0 : Int))) > (0 : Int))) (by kernel_rfl) (by kernel_rfl) (fun h17 => ?_) (fun h17 => ?_)
      · replace h := ofT h17 h
        refine W_region (by kernel_rfl) ?_
        refine WO_run (j := 2) (k := 2) (orcs := []) (kF := [0, 1, 17, 18]) (kL := []) (fr' := [(0, .one (.nilS)), (1, aI (w64 (a1 - (0 : Int)))), (17, .one (.nilS)), (18, .one (.nilS))]) (L' := []) (obs := []) rfl (by kernel_rfl) allP0 ?_
        refine WO_g [0, 1, 17, 18, 19] [] (fr' := [(0, .one (.nilS)), (1, aI (w64 (a1 - (0 : Int)))), (17, .one (.nilS)), (18, .one (.nilS)), (19, aI (0 : Int))]) (L' := []) (p := True) (j := 3) rfl (by kernel_rfl) trivial ?_
        refine WO_g [0, 1, 17, 18, 19, 20] [] (fr' := [(0, .one (.nilS)), (1, aI (w64 (a1 - (0 : Int)))), (17, .one (.nilS)), (18, .one (.nilS)), (19, aI (0 : Int)), (20, .one (.nilS))]) (L' := []) (p := True) (j := 4) rfl (by kernel_rfl) trivial ?_
        obtain ⟨_, h18, h⟩ := bind_of h
        replace h18 := ck_some h18
        refine WO_run (j := 5) (k := 1) (orcs := []) (kF := [0, 20, 21]) (kL := []) (fr' := [(0, .one (.nilS)), (20, .one (.nilS)), (21, aI (w64 (a1 - (0 : Int))))]) (L' := []) (obs := []) rfl (by kernel_rfl) allP0 ?_
        refine WO_g [0, 20, 21, 22] [22] (fr' := [(0, .one (.nilS)), (20, .one (.nilS)), (21, aI (w64 (a1 - (0 : Int)))), (22, .one (.slc 22))]) (L' := [(22, .seq tI (List.replicate (Int.toNat (w64 (a1 - (0 : Int)))) (0 : Int)))]) (p := 0 ≤ w64 (a1 - (0 : Int)) ∧ SmallLen (w64 (a1 - (0 : Int)))) (j := 6) rfl (by kernel_rfl) h18 ?_
        refine WO_run (j := 8) (k := 2) (orcs := []) (kF := [0, 22, 24]) (kL := [22]) (fr' := [(0, .one (.nilS)), (22, .one (.slc 22)), (24, aI (0 : Int))]) (L' := [(22, .seq tI (List.replicate (Int.toNat (w64 (a1 - (0 : Int)))) (0 : Int)))]) (obs := []) rfl (by kernel_rfl) allP0 ?_
        refine WO_g [0, 24, 25] [22] (fr' := [(0, .one (.nilS)), (24, aI (0 : Int)), (25, .one (.slc 22))]) (L' := [(22, .seq tI [])]) (p := 0 ≤ (0 : Int) ∧ (0 : Int) ≤ (List.length (List.replicate (Int.toNat (w64 (a1 - (0 : Int)))) (0 : Int) : (List Int)) : Int)) (j := 9) rfl (by kernel_rfl) ⟨(by decide), (by omega)⟩ ?_
        refine WO_run (j := 10) (k := 1) (orcs := []) (kF := [0]) (kL := [22]) (fr' := [(0, .one (.slc 22))]) (L' := [(22, .seq tI [])]) (obs := []) rfl (by kernel_rfl) allP0 ?_
        obtain rfl := Option.some.inj h
        refine WO_fin [0] [22] (fr' := [(0, .one (.slc 22))]) (L' := [(22, .seq tI [])]) (by kernel_rfl) (by kernel_rfl) ?_
        exact exQ_mk (by kernel_rfl) (by kernel_rfl)
      · replace h := ofF h17 h
        obtain rfl := Option.some.inj h
        refine W_mine 0 22 tI (by kernel_rfl) ?_
        refine W_skip [0] [22] (fr' := [(0, .one (.slc 22))]) (L' := [(22, .seq tI [])]) (by kernel_rfl) (by kernel_rfl) ?_
        exact exQ_mk (by kernel_rfl) (by kernel_rfl)
    · intro e fr L hJ
      obtain ⟨rfl, rfl, rfl⟩ := hJ
      refine LT_keep [0] [22] (fr' := [(0, .one (.slc 22))]) (L' := [(22, .seq tI v19)]) (by kernel_rfl) ?_
      refine seqQ_norm ?_
      refine W_seq (by kernel_rfl) ?_
      refine W_run 2 [] [4] [22] (fr' := [(4, .one (.slc 22))]) (L' := [(22, .seq tI v19)]) (obs := []) (by kernel_rfl) (by kernel_rfl) (by kernel_rfl) allP0 ?_
      refine seqQ_norm ?_
      obtain rfl := Option.some.inj h
      refine W_ret [4] [22] (fr' := [(4, .one (.slc 22))]) (L' := [(22, .seq tI v19)]) (by kernel_rfl) (by kernel_rfl) ?_
      exact retQ_mk (by kernel_rfl) (by kernel_rfl) (by kernel_rfl)

def slices_Concat_Lintint_b7 (i72 : Int) (v75 : (List Int)) (x73 : Int) : Option (Flow Int Int) :=
bif decide ((w64 (x73 + (List.length v75 : Int))) < (0 : Int)) then
(none)
else
(some (.next (w64 (x73 + (List.length v75 : Int)))))
@[reducible] def slices_Concat_Lintint_s8 (a0 : (List (List Int))) (v : Int × Int) : Fr × LL := ([(0, aD (.slice (.slice tI)) a0), (3, aI v.2), (9, aD (.slice (.slice tI)) a0), (10, aI (List.length a0 : Int)), (11, aI v.1)], [])
@[reducible] def slices_Concat_Lintint_s9 (a0 : (List (List Int))) (v : Int) : Fr × LL := ([(0, aD (.slice (.slice tI)) a0), (3, aI v)], [])
def slices_Concat_Lintint_b10 (i98 : Int) (v101 : (List Int)) (x99 : (List Int)) : Option (Flow (List Int) (List Int)) :=
(ck ((List.length x99 : Int) + (List.length v101 : Int) ≤ 4294967296)).bind fun _ =>
some (.next (x99 ++ v101))
@[reducible] def slices_Concat_Lintint_s11 (a0 : (List (List Int))) (v : Int × (List Int)) : Fr × LL := ([(6, .one (.slc 24)), (25, aD (.slice (.slice tI)) a0), (26, aI (List.length a0 : Int)), (27, aI v.1)], [(24, .seq tI v.2)])
@[reducible] def slices_Concat_Lintint_s12 (v : (List Int)) : Fr × LL := ([(6, .one (.slc 24))], [(24, .seq tI v)])
def slices_Concat_Lintint (a0 : (List (List Int))) : Option (List Int) :=
(forL slices_Concat_Lintint_b7 (fun x73 => x73) a0 0 (0 : Int)).bind fun v81 =>
(slices_Grow_Lintint v81).bind fun r86 =>
(forL slices_Concat_Lintint_b10 (fun x99 => x99) a0 0 r86).bind fun v106 =>
some v106
theorem slices_Concat_Lintint_ok {a0 : (List (List Int))} {r : (List Int)} (h : slices_Concat_Lintint a0 = some r) : FnC Try.prog 84 [aD (.slice (.slice tI)) a0] [] (.one (.slc 24)) [(24, .seq tI r)] := by
  refine fnC_of_W (B := bodyOf Try.f84) (n := 36) Try.func84 (by kernel_rfl) (by kernel_rfl) (by kernel_rfl) (by kernel_rfl) (by kernel_rfl) ?_
  intro K
  refine W_seq (by kernel_rfl) ?_
  refine W_run 1 [] [0] [] (fr' := [(0, aD (.slice (.slice tI)) a0)]) (L' := []) (obs := []) (by kernel_rfl) (by kernel_rfl) (by kernel_rfl) allP0 ?_
  refine seqQ_norm ?_
  refine W_seq (by kernel_rfl) ?_
  refine W_run 1 [] [0, 3] [] (fr' := [(0, aD (.slice (.slice tI)) a0), (3, aI (0 : Int))]) (L' := []) (obs := []) (by kernel_rfl) (by kernel_rfl) (by kernel_rfl) allP0 ?_
  refine seqQ_norm ?_
  refine W_seq (by kernel_rfl) ?_
  refine W_seq (by kernel_rfl) ?_
  refine W_run 3 [] [0, 3, 9, 10, 11] [] (fr' := [(0, aD (.slice (.slice tI)) a0), (3, aI (0 : Int)), (9, aD (.slice (.slice tI)) a0), (10, aI (List.length a0 : Int)), (11, aI (0 : Int))]) (L' := []) (obs := []) (by kernel_rfl) (by kernel_rfl) (by kernel_rfl) allP0 ?_
  refine seqQ_norm ?_
  refine W_block (id := 0) (by kernel_rfl) ?_
  obtain ⟨v81, h82, h⟩ := bind_of h
  refine W_len (t := 9) (u := (.slice tI)) (xs := a0) (by kernel_rfl) (fun h85 => ?_)
  obtain ⟨h83, h84⟩ := forL_iter h85 h82
  refine W_weaken [0, 3, 9, 10, 11] [] (fr' := ((slices_Concat_Lintint_s8 a0) ((0 : Int), (0 : Int))).1) (L' := ((slices_Concat_Lintint_s8 a0) ((0 : Int), (0 : Int))).2) (by kernel_rfl) ?_
  refine W_cutK (W_loop (S := (slices_Concat_Lintint_s8 a0)) (J := (exQ (.exit 0) (slices_Concat_Lintint_s9 a0))) (by kernel_rfl) ?_ h83 _ v81 h84) ?_
  · rintro ⟨i72, x73⟩ s h
    refine W_seq (by kernel_rfl) ?_
    refine W_run 1 [] [0, 3, 9, 10, 11, 12] [] (fr' := [(0, aD (.slice (.slice tI)) a0), (3, aI x73), (9, aD (.slice (.slice tI)) a0), (10, aI (List.length a0 : Int)), (11, aI i72), (12, aB (decide (i72 < (List.length a0 : Int))))]) (L' := []) (obs := []) (by kernel_rfl) (by kernel_rfl) (by kernel_rfl) allP0 ?_
    refine seqQ_norm ?_
    refine W_seq (by kernel_rfl) ?_
    refine W_cond (o := .tmp 12) (b := decide (i72 < (List.length a0 : Int))) (by kernel_rfl) (by kernel_rfl) (fun h77 => ?_) (fun h77 => ?_)
    · replace h := stepL_true h77 h
      obtain ⟨v75, _, h76, h, rfl⟩ := h
      refine W_skip [0, 3, 9, 10, 11] [] (fr' := [(0, aD (.slice (.slice tI)) a0), (3, aI x73), (9, aD (.slice (.slice tI)) a0), (10, aI (List.length a0 : Int)), (11, aI i72)]) (L' := []) (by kernel_rfl) (by kernel_rfl) ?_
      refine seqQ_norm ?_
      refine W_seq (by kernel_rfl) ?_
      refine W_block (id := 1) (by kernel_rfl) ?_
      refine W_seq (by kernel_rfl) ?_
      refine W_run 3 [(1, .val (.dat (.slice tI) v75))] [0, 3, 5, 9, 10, 11] [] (fr' := [(0, aD (.slice (.slice tI)) a0), (3, aI x73), (5, aD (.slice tI) v75), (9, aD (.slice (.slice tI)) a0), (10, aI (List.length a0 : Int)), (11, aI i72)]) (L' := []) (obs := [Idx a0 i72 v75]) (by kernel_rfl) (by kernel_rfl) (by kernel_rfl) (allP1 (Idx.of h76)) ?_
      refine seqQ_norm ?_
      refine W_seq (by kernel_rfl) ?_
      refine W_run 5 [] [0, 3, 9, 10, 11] [] (fr' := [(0, aD (.slice (.slice tI)) a0), (3, aI (w64 (x73 + (List.length v75 : Int)))), (9, aD (.slice (.slice tI)) a0), (10, aI (List.length a0 : Int)), (11, aI i72)]) (L' := []) (obs := []) (by kernel_rfl) (by kernel_rfl) (by kernel_rfl) allP0 ?_
      refine seqQ_norm ?_
      refine W_seq (by kernel_rfl) ?_
      refine W_run 2 [] [0, 3, 9, 10, 11, 20] [] (fr' := [(0, aD (.slice (.slice tI)) a0), (3, aI (w64 (x73 + (List.length v75 : Int)))), (9, aD (.slice (.slice tI)) a0), (10, aI (List.length a0 : Int)), (11, aI i72), (20, aB (decide ((w64 (x73 + (List.length v75 : Int))) < (0 : Int))))]) (L' := []) (obs := []) (by kernel_rfl) (by kernel_rfl) (by kernel_rfl) allP0 ?_
      refine seqQ_norm ?_
      refine W_cond (o := .tmp 20) (b := decide ((w64 (x73 + (List.length v75 : Int))) < (0 : Int))) (by kernel_rfl) (by kernel_rfl) (fun h79 => ?_) (fun h79 => ?_)
      · replace h := ofT h79 h
        cases h
      · replace h := ofF h79 h
        refine W_skip [0, 3, 9, 10, 11] [] (fr' := [(0, aD (.slice (.slice tI)) a0), (3, aI (w64 (x73 + (List.length v75 : Int)))), (9, aD (.slice (.slice tI)) a0), (10, aI (List.length a0 : Int)), (11, aI i72)]) (L' := []) (by kernel_rfl) (by kernel_rfl) ?_
        refine blockQ_norm ?_
        refine seqQ_norm ?_
        obtain rfl := Option.some.inj h
        refine W_run 2 [] [0, 3, 9, 10, 11] [] (fr' := [(0, aD (.slice (.slice tI)) a0), (3, aI (w64 (x73 + (List.length v75 : Int)))), (9, aD (.slice (.slice tI)) a0), (10, aI (List.length a0 : Int)), (11, aI (w64 (i72 + (1 : Int))))]) (L' := []) (obs := []) (by kernel_rfl) (by kernel_rfl) (by kernel_rfl) allP0 ?_
        exact round_next' (by kernel_rfl) (by kernel_rfl)
    · obtain rfl := stepL_false h77 h
      refine W_exit (id := 0) [0, 3] [] (fr' := [(0, aD (.slice (.slice tI)) a0), (3, aI x73)]) (L' := []) (by kernel_rfl) (by kernel_rfl) ?_
      refine seqQ_exit ?_
      refine round_exit ?_
      exact exQ_mk (by kernel_rfl) (by kernel_rfl)
  · intro e fr L hJ
    obtain ⟨rfl, rfl, rfl⟩ := hJ
    refine LT_keep [0, 3] [] (fr' := [(0, aD (.slice (.slice tI)) a0), (3, aI v81)]) (L' := []) (by kernel_rfl) ?_
    refine blockQ_hit ?_
    refine seqQ_norm ?_
    refine W_seq (by kernel_rfl) ?_
    refine W_region (by kernel_rfl) ?_
    refine WO_run (j := 1) (k := 1) (orcs := []) (kF := [0, 23]) (kL := []) (fr' := [(0, aD (.slice (.slice tI)) a0), (23, aI v81)]) (L' := []) (obs := []) rfl (by kernel_rfl) allP0 ?_
    obtain ⟨r86, h87, h⟩ := bind_of h
    refine WO_call1 (us := [none, none]) (d := 24) (t := 24) (p := True) (j := 2) rfl ⟨by kernel_rfl, by kernel_rfl, by kernel_rfl⟩ trivial (slices_Grow_Lintint_ok h87) (by kernel_rfl) ?_
    refine WO_run (j := 3) (k := 1) (orcs := []) (kF := [0, 6]) (kL := [24]) (fr' := [(0, aD (.slice (.slice tI)) a0), (6, .one (.slc 24))]) (L' := [(24, .seq tI r86)]) (obs := []) rfl (by kernel_rfl) allP0 ?_
    refine WO_fin [0, 6] [24] (fr' := [(0, aD (.slice (.slice tI)) a0), (6, .one (.slc 24))]) (L' := [(24, .seq tI r86)]) (by kernel_rfl) (by kernel_rfl) ?_
    refine seqQ_norm ?_
    refine W_seq (by kernel_rfl) ?_
    refine W_seq (by kernel_rfl) ?_
    refine W_run 3 [] [6, 25, 26, 27] [24] (fr' := [(6, .one (.slc 24)), (25, aD (.slice (.slice tI)) a0), (26, aI (List.length a0 : Int)), (27, aI (0 : Int))]) (L' := [(24, .seq tI r86)]) (obs := []) (by kernel_rfl) (by kernel_rfl) (by kernel_rfl) allP0 ?_
    refine seqQ_norm ?_
    refine W_block (id := 2) (by kernel_rfl) ?_
    obtain ⟨v106, h107, h⟩ := bind_of h
    refine W_len (t := 25) (u := (.slice tI)) (xs := a0) (by kernel_rfl) (fun h110 => ?_)
    obtain ⟨h108, h109⟩ := forL_iter h110 h107
    refine W_weaken [6, 25, 26, 27] [24] (fr' := ((slices_Concat_Lintint_s11 a0) ((0 : Int), r86)).1) (L' := ((slices_Concat_Lintint_s11 a0) ((0 : Int), r86)).2) (by kernel_rfl) ?_
    refine W_cutK (W_loop (S := (slices_Concat_Lintint_s11 a0)) (J := (exQ (.exit 2) slices_Concat_Lintint_s12)) (by kernel_rfl) ?_ h108 _ v106 h109) ?_
    · rintro ⟨i98, x99⟩ s h
      refine W_seq (by kernel_rfl) ?_
      refine W_run 1 [] [6, 25, 26, 27, 28] [24] (fr' := [(6, .one (.slc 24)), (25, aD (.slice (.slice tI)) a0), (26, aI (List.length a0 : Int)), (27, aI i98), (28, aB (decide (i98 < (List.length a0 : Int))))]) (L' := [(24, .seq tI x99)]) (obs := []) (by kernel_rfl) (by kernel_rfl) (by kernel_rfl) allP0 ?_
      refine seqQ_norm ?_
      refine W_seq (by kernel_rfl) ?_
      refine W_cond (o := .tmp 28) (b := decide (i98 < (List.length a0 : Int))) (by kernel_rfl) (by kernel_rfl) (fun h103 => ?_) (fun h103 => ?_)
      · replace h := stepL_true h103 h
        obtain ⟨v101, _, h102, h, rfl⟩ := h
        refine W_skip [6, 25, 26, 27] [24] (fr' := [(6, .one (.slc 24)), (25, aD (.slice (.slice tI)) a0), (26, aI (List.length a0 : Int)), (27, aI i98)]) (L' := [(24, .seq tI x99)]) (by kernel_rfl) (by kernel_rfl) ?_
        refine seqQ_norm ?_
        refine W_seq (by kernel_rfl) ?_
        refine W_block (id := 3) (by kernel_rfl) ?_
        refine W_seq (by kernel_rfl) ?_
        refine W_run 3 [(1, .val (.dat (.slice tI) v101))] [6, 8, 25, 26, 27] [24] (fr' := [(6, .one (.slc 24)), (8, aD (.slice tI) v101), (25, aD (.slice (.slice tI)) a0), (26, aI (List.length a0 : Int)), (27, aI i98)]) (L' := [(24, .seq tI x99)]) (obs := [Idx a0 i98 v101]) (by kernel_rfl) (by kernel_rfl) (by kernel_rfl) (allP1 (Idx.of h102)) ?_
        refine seqQ_norm ?_
        obtain ⟨_, h104, h⟩ := bind_of h
        replace h104 := ck_some h104
        refine W_run 4 [] [6, 25, 26, 27] [24] (fr' := [(6, .one (.slc 24)), (25, aD (.slice (.slice tI)) a0), (26, aI (List.length a0 : Int)), (27, aI i98)]) (L' := [(24, .seq tI (x99 ++ v101))]) (obs := [SmallLen (List.length x99 + List.length v101)]) (by kernel_rfl) (by kernel_rfl) (by kernel_rfl) (allP1 h104) ?_
        refine blockQ_norm ?_
        refine seqQ_norm ?_
        obtain rfl := Option.some.inj h
        refine W_run 2 [] [6, 25, 26, 27] [24] (fr' := [(6, .one (.slc 24)), (25, aD (.slice (.slice tI)) a0), (26, aI (List.length a0 : Int)), (27, aI (w64 (i98 + (1 : Int))))]) (L' := [(24, .seq tI (x99 ++ v101))]) (obs := []) (by kernel_rfl) (by kernel_rfl) (by kernel_rfl) allP0 ?_
        exact round_next' (by kernel_rfl) (by kernel_rfl)
      · obtain rfl := stepL_false h103 h
        refine W_exit (id := 2) [6] [24] (fr' := [(6, .one (.slc 24))]) (L' := [(24, .seq tI x99)]) (by kernel_rfl) (by kernel_rfl) ?_
        refine seqQ_exit ?_
        refine round_exit ?_
        exact exQ_mk (by kernel_rfl) (by kernel_rfl)
    · intro e fr L hJ
      obtain ⟨rfl, rfl, rfl⟩ := hJ
      refine LT_keep [6] [24] (fr' := [(6, .one (.slc 24))]) (L' := [(24, .seq tI v106)]) (by kernel_rfl) ?_
      refine blockQ_hit ?_
      refine seqQ_norm ?_
      refine W_seq (by kernel_rfl) ?_
      refine W_run 2 [] [2] [24] (fr' := [(2, .one (.slc 24))]) (L' := [(24, .seq tI v106)]) (obs := []) (by kernel_rfl) (by kernel_rfl) (by kernel_rfl) allP0 ?_
      refine seqQ_norm ?_
      obtain rfl := Option.some.inj h
      refine W_ret [2] [24] (fr' := [(2, .one (.slc 24))]) (L' := [(24, .seq tI v106)]) (by kernel_rfl) (by kernel_rfl) ?_
      exact retQ_mk (by kernel_rfl) (by kernel_rfl) (by kernel_rfl)

def tag_turn (a0 : (Int × (List (List Int)))) (a1 : (List Int)) : Option (List Int) :=
(ck (0 ≤ a0.1 ∧ a0.1 ≤ (List.length a1 : Int) ∧ (List.length a1 : Int) ≤ (List.length a1 : Int))).bind fun _ =>
(idx a1 (0 : Int)).bind fun v7 =>
(idx a0.2 v7).bind fun v9 =>
(slices_Concat_Lintint [sub a1 a0.1 (List.length a1 : Int), v9]).bind fun r11 =>
some r11
theorem tag_turn_ok {a0 : (Int × (List (List Int)))} {a1 : (List Int)} {r : (List Int)} (h : tag_turn a0 a1 = some r) : FnC Try.prog 71 [aD (.pair tI (.slice (.slice tI))) a0, aD (.slice tI) a1] [] (aD (.slice tI) r) [] := by
  refine fnC_of_W (B := bodyOf Try.f71) (n := 18) Try.func71 (by kernel_rfl) (by kernel_rfl) (by kernel_rfl) (by kernel_rfl) (by kernel_rfl) ?_
  intro K
  refine W_seq (by kernel_rfl) ?_
  refine W_run 2 [] [1, 2] [2] (fr' := [(1, aD (.slice tI) a1), (2, .one (.ptr 2 0))]) (L' := [(2, .one (.pair tI (.slice (.slice tI))) a0)]) (obs := []) (by kernel_rfl) (by kernel_rfl) (by kernel_rfl) allP0 ?_
  refine seqQ_norm ?_
  refine W_seq (by kernel_rfl) ?_
  obtain ⟨_, h6, h⟩ := bind_of h
  replace h6 := ck_some h6
  obtain ⟨v7, h8, h⟩ := bind_of h
  obtain ⟨v9, h10, h⟩ := bind_of h
  refine W_drawT5 11 [] [(15, .val (.dat tI v7)), (19, .val (.dat (.slice tI) v9))] [] [8, 15] [2] (out := [(5, aD (.slice tI) a1), (6, .one (.ptr 2 0)), (7, aI a0.1), (8, aD (.slice tI) (sub a1 a0.1 (List.length a1 : Int))), (9, .one (.ptr 2 1)), (10, aD (.slice (.slice tI)) a0.2), (11, aD (.slice tI) a1), (12, .one (.dptr tI v7)), (13, aI v7), (14, .one (.dptr (.slice tI) v9)), (15, aD (.slice tI) v9)]) (obs := [Cuts a0.1 (List.length a1 : Int) (List.length a1), Idx a1 (0 : Int) v7, Idx a0.2 v7 v9]) (calls := []) (fr' := [(8, aD (.slice tI) (sub a1 a0.1 (List.length a1 : Int))), (15, aD (.slice tI) v9)]) (L' := [(2, .one (.pair tI (.slice (.slice tI))) a0)]) (by kernel_rfl) (by kernel_rfl) (by kernel_rfl) (by kernel_rfl) (allP2 h6 (allP2 (Idx.of h8) (allP1 (Idx.of h10)))) allD0 (by kernel_rfl) ?_
  refine WO_run (j := 12) (k := 1) (orcs := []) (kF := [16]) (kL := [2, 16]) (fr' := [(16, .one (.slc 16))]) (L' := [(2, .one (.pair tI (.slice (.slice tI))) a0), (16, .seq (.slice tI) [sub a1 a0.1 (List.length a1 : Int), v9])]) (obs := []) rfl (by kernel_rfl) allP0 ?_
  obtain ⟨r11, h12, h⟩ := bind_of h
  refine WO_frz 16 (by kernel_rfl) ?_
  refine WO_call1 (us := [none]) (d := 17) (t := 17) (p := True) (j := 13) rfl ⟨by kernel_rfl, by kernel_rfl, by kernel_rfl⟩ trivial (slices_Concat_Lintint_ok h12) (by kernel_rfl) ?_
  refine WO_run (j := 14) (k := 1) (orcs := []) (kF := [4]) (kL := [2, 17]) (fr' := [(4, .one (.slc 17))]) (L' := [(2, .one (.pair tI (.slice (.slice tI))) a0), (17, .seq tI r11)]) (obs := []) rfl (by kernel_rfl) allP0 ?_
  refine WO_fin [4] [17] (fr' := [(4, .one (.slc 17))]) (L' := [(17, .seq tI r11)]) (by kernel_rfl) (by kernel_rfl) ?_
  refine ⟨rfl, ?_⟩
  refine seqQ_norm ?_
  obtain rfl := Option.some.inj h
  refine W_frz 17 (by kernel_rfl) ?_
  refine W_ret [4] [] (fr' := [(4, aD (.slice tI) r11)]) (L' := []) (by kernel_rfl) (by kernel_rfl) ?_
  exact retQ_mk (by kernel_rfl) (by kernel_rfl) (by kernel_rfl)

def tag_Round_b1 (a1 : (Int × (List (List Int)))) (x15 : ((List Int) × Int × (Option (List (ByteArray × Int))))) : Option (Flow ((List Int) × Int × (Option (List (ByteArray × Int)))) (Esc (Int × Int × Int) Unit)) :=
bif decide (x15.2.1 ≤ (400 : Int)) then
(bif decide ((List.length x15.1 : Int) > (40 : Int)) then
(some (.done (.ret ((0 : Int), (0 : Int), (7 : Int)))))
else
((tag_key x15.1).bind fun r29 =>
bif Option.isSome (mGet (deqT .str) (Option.getD x15.2.2 []) r29) then
(some (.done (.ret (x15.2.1, w64 (x15.2.1 - (Option.getD (mGet (deqT .str) (Option.getD x15.2.2 []) r29) (0 : Int))), (0 : Int)))))
else
(bif decide ((List.length x15.1 : Int) < a1.1) then
(some (.done (.ret ((0 : Int), (0 : Int), (5 : Int)))))
else
((tag_key x15.1).bind fun r33 =>
(ck (Option.isSome x15.2.2 = true)).bind fun _ =>
(tag_turn a1 x15.1).bind fun r36 =>
some (.next (r36, w64 (x15.2.1 + (1 : Int)), Option.map (fun l => mPut (deqT .str) l r33 x15.2.1) x15.2.2))))))
else
(some (.done (.brk ())))
@[reducible] def tag_Round_s2 (a1 : (Int × (List (List Int)))) (v : ((List Int) × Int × (Option (List (ByteArray × Int))))) : Fr × LL := ([(2, aD (.slice tI) v.1), (4, .one (.ptr 4 0)), (10, .one (.slc 21)), (11, aI v.2.1)], [(4, .one (.pair tI (.slice (.slice tI))) a1), (21, .map .str tI v.2.2)])
@[reducible] def tag_Round_s3 (v : (Int × Int × Int)) : Fr × LL := ([(6, aI v.1), (7, aI v.2.1), (8, aI v.2.2)], [])
@[reducible] def tag_Round_s4 (v : Unit) : Fr × LL := ([], [])
def tag_Round (fuel : Nat) (a0 : Int) (a1 : (Int × (List (List Int)))) (a2 : (List Int)) : Option (Int × Int × Int) :=
(tag_wrong a0 a1 a2).bind fun r1 =>
bif r1 != (0 : Int) then
(some ((0 : Int), (0 : Int), r1))
else
((iter (tag_Round_b1 a1) fuel (a2, (0 : Int), (some [] : Option (List (ByteArray × Int))))).bind fun v38 =>
match v38 with
| .ret v42 =>
(some (v42.1, v42.2.1, v42.2.2))
| .brk v43 =>
(some ((0 : Int), (0 : Int), (7 : Int))))
theorem tag_Round_ok {fuel : Nat} {a0 : Int} {a1 : (Int × (List (List Int)))} {a2 : (List Int)} {r : (Int × Int × Int)} (h : tag_Round fuel a0 a1 a2 = some r) : FnC Try.prog 47 [aI a0, aD (.pair tI (.slice (.slice tI))) a1, aD (.slice tI) a2] [] (.tup [.dat tI r.1, .dat tI r.2.1, .dat tI r.2.2]) [] := by
  refine fnC_of_W (B := bodyOf Try.f47) (n := 53) Try.func47 (by kernel_rfl) (by kernel_rfl) (by kernel_rfl) (by kernel_rfl) (by kernel_rfl) ?_
  intro K
  refine W_seq (by kernel_rfl) ?_
  refine W_run 4 [] [0, 2, 4] [4] (fr' := [(0, aI a0), (2, aD (.slice tI) a2), (4, .one (.ptr 4 0))]) (L' := [(4, .one (.pair tI (.slice (.slice tI))) a1)]) (obs := []) (by kernel_rfl) (by kernel_rfl) (by kernel_rfl) allP0 ?_
  refine seqQ_norm ?_
  refine W_seq (by kernel_rfl) ?_
  refine W_seq (by kernel_rfl) ?_
  refine W_region (by kernel_rfl) ?_
  refine WO_run (j := 3) (k := 3) (orcs := []) (kF := [2, 4, 14, 15, 16]) (kL := [4]) (fr' := [(2, aD (.slice tI) a2), (4, .one (.ptr 4 0)), (14, aI a0), (15, aD (.pair tI (.slice (.slice tI))) a1), (16, aD (.slice tI) a2)]) (L' := [(4, .one (.pair tI (.slice (.slice tI))) a1)]) (obs := []) rfl (by kernel_rfl) allP0 ?_
  obtain ⟨r1, h2, h⟩ := bind_of h
  refine WO_call0 (us := [none, none, none]) (d := 17) (p := True) (j := 4) rfl ⟨by kernel_rfl, by kernel_rfl, by kernel_rfl⟩ trivial (tag_wrong_ok h2) (by kernel_rfl) ?_
  refine WO_run (j := 5) (k := 1) (orcs := []) (kF := [2, 4, 9]) (kL := [4]) (fr' := [(2, aD (.slice tI) a2), (4, .one (.ptr 4 0)), (9, aI r1)]) (L' := [(4, .one (.pair tI (.slice (.slice tI))) a1)]) (obs := []) rfl (by kernel_rfl) allP0 ?_
  refine WO_fin [2, 4, 9] [4] (fr' := [(2, aD (.slice tI) a2), (4, .one (.ptr 4 0)), (9, aI r1)]) (L' := [(4, .one (.pair tI (.slice (.slice tI))) a1)]) (by kernel_rfl) (by kernel_rfl) ?_
  refine seqQ_norm ?_
  refine W_seq (by kernel_rfl) ?_
  refine W_run 2 [] [2, 4, 9, 19] [4] (fr' := [(2, aD (.slice tI) a2), (4, .one (.ptr 4 0)), (9, aI r1), (19, aB (r1 != (0 : Int)))]) (L' := [(4, .one (.pair tI (.slice (.slice tI))) a1)]) (obs := []) (by kernel_rfl) (by kernel_rfl) (by kernel_rfl) allP0 ?_
  refine seqQ_norm ?_
  refine W_cond (o := .tmp 19) (b := r1 != (0 : Int)) (by kernel_rfl) (by kernel_rfl) (fun h3 => ?_) (fun h3 => ?_)
  · replace h := ofT h3 h
    refine W_seq (by kernel_rfl) ?_
    refine W_run 4 [] [6, 7, 8] [] (fr' := [(6, aI (0 : Int)), (7, aI (0 : Int)), (8, aI r1)]) (L' := []) (obs := []) (by kernel_rfl) (by kernel_rfl) (by kernel_rfl) allP0 ?_
    refine seqQ_norm ?_
    obtain rfl := Option.some.inj h
    refine W_ret [6, 7, 8] [] (fr' := [(6, aI (0 : Int)), (7, aI (0 : Int)), (8, aI r1)]) (L' := []) (by kernel_rfl) (by kernel_rfl) ?_
    refine seqQ_ret ?_
    exact retQ_mk (by kernel_rfl) (by kernel_rfl) (by kernel_rfl)
  · replace h := ofF h3 h
    refine W_skip [2, 4] [4] (fr' := [(2, aD (.slice tI) a2), (4, .one (.ptr 4 0))]) (L' := [(4, .one (.pair tI (.slice (.slice tI))) a1)]) (by kernel_rfl) (by kernel_rfl) ?_
    refine seqQ_norm ?_
    refine W_seq (by kernel_rfl) ?_
    refine W_run 2 [] [2, 4, 10] [4, 21] (fr' := [(2, aD (.slice tI) a2), (4, .one (.ptr 4 0)), (10, .one (.slc 21))]) (L' := [(4, .one (.pair tI (.slice (.slice tI))) a1), (21, .map .str tI (some [] : Option (List (ByteArray × Int))))]) (obs := []) (by kernel_rfl) (by kernel_rfl) (by kernel_rfl) allP0 ?_
    refine seqQ_norm ?_
    refine W_seq (by kernel_rfl) ?_
    refine W_seq (by kernel_rfl) ?_
    refine W_run 1 [] [2, 4, 10, 11] [4, 21] (fr' := [(2, aD (.slice tI) a2), (4, .one (.ptr 4 0)), (10, .one (.slc 21)), (11, aI (0 : Int))]) (L' := [(4, .one (.pair tI (.slice (.slice tI))) a1), (21, .map .str tI (some [] : Option (List (ByteArray × Int))))]) (obs := []) (by kernel_rfl) (by kernel_rfl) (by kernel_rfl) allP0 ?_
    refine seqQ_norm ?_
    refine W_block (id := 0) (by kernel_rfl) ?_
    obtain ⟨v38, h39, h⟩ := bind_of h
    refine W_weaken [2, 4, 10, 11] [4, 21] (fr' := ((tag_Round_s2 a1) (a2, (0 : Int), (some [] : Option (List (ByteArray × Int))))).1) (L' := ((tag_Round_s2 a1) (a2, (0 : Int), (some [] : Option (List (ByteArray × Int))))).2) (by kernel_rfl) ?_
    refine W_cutK (W_loop (S := (tag_Round_s2 a1)) (J := (escQ (exQ .ret tag_Round_s3) (exQ (.exit 0) tag_Round_s4))) (by kernel_rfl) ?_ fuel _ v38 h39) ?_
    · rintro x15 s h
      refine W_seq (by kernel_rfl) ?_
      refine W_seq (by kernel_rfl) ?_
      refine W_run 2 [] [2, 4, 10, 11, 23] [4, 21] (fr' := [(2, aD (.slice tI) x15.1), (4, .one (.ptr 4 0)), (10, .one (.slc 21)), (11, aI x15.2.1), (23, aB (decide (x15.2.1 ≤ (400 : Int))))]) (L' := [(4, .one (.pair tI (.slice (.slice tI))) a1), (21, .map .str tI x15.2.2)]) (obs := []) (by kernel_rfl) (by kernel_rfl) (by kernel_rfl) allP0 ?_
      refine seqQ_norm ?_
      refine W_cond (o := .tmp 23) (b := decide (x15.2.1 ≤ (400 : Int))) (by kernel_rfl) (by kernel_rfl) (fun h27 => ?_) (fun h27 => ?_)
      · replace h := ofT h27 h
        refine W_skip [2, 4, 10, 11] [4, 21] (fr' := [(2, aD (.slice tI) x15.1), (4, .one (.ptr 4 0)), (10, .one (.slc 21)), (11, aI x15.2.1)]) (L' := [(4, .one (.pair tI (.slice (.slice tI))) a1), (21, .map .str tI x15.2.2)]) (by kernel_rfl) (by kernel_rfl) ?_
        refine seqQ_norm ?_
        refine W_seq (by kernel_rfl) ?_
        refine W_block (id := 1) (by kernel_rfl) ?_
        refine W_seq (by kernel_rfl) ?_
        refine W_seq (by kernel_rfl) ?_
        refine W_run 3 [] [2, 4, 10, 11, 28] [4, 21] (fr' := [(2, aD (.slice tI) x15.1), (4, .one (.ptr 4 0)), (10, .one (.slc 21)), (11, aI x15.2.1), (28, aB (decide ((List.length x15.1 : Int) > (40 : Int))))]) (L' := [(4, .one (.pair tI (.slice (.slice tI))) a1), (21, .map .str tI x15.2.2)]) (obs := []) (by kernel_rfl) (by kernel_rfl) (by kernel_rfl) allP0 ?_
        refine seqQ_norm ?_
        refine W_cond (o := .tmp 28) (b := decide ((List.length x15.1 : Int) > (40 : Int))) (by kernel_rfl) (by kernel_rfl) (fun h28 => ?_) (fun h28 => ?_)
        · replace h := ofT h28 h
          refine W_seq (by kernel_rfl) ?_
          refine W_run 3 [] [6, 7, 8] [] (fr' := [(6, aI (0 : Int)), (7, aI (0 : Int)), (8, aI (7 : Int))]) (L' := []) (obs := []) (by kernel_rfl) (by kernel_rfl) (by kernel_rfl) allP0 ?_
          refine seqQ_norm ?_
          obtain rfl := Option.some.inj h
          refine W_ret [6, 7, 8] [] (fr' := [(6, aI (0 : Int)), (7, aI (0 : Int)), (8, aI (7 : Int))]) (L' := []) (by kernel_rfl) (by kernel_rfl) ?_
          refine seqQ_ret ?_
          refine blockQ_ret ?_
          refine seqQ_ret ?_
          refine round_ret ?_
          refine escQ_ret ?_
          exact exQ_mk (by kernel_rfl) (by kernel_rfl)
        · replace h := ofF h28 h
          refine W_skip [2, 4, 10, 11] [4, 21] (fr' := [(2, aD (.slice tI) x15.1), (4, .one (.ptr 4 0)), (10, .one (.slc 21)), (11, aI x15.2.1)]) (L' := [(4, .one (.pair tI (.slice (.slice tI))) a1), (21, .map .str tI x15.2.2)]) (by kernel_rfl) (by kernel_rfl) ?_
          refine seqQ_norm ?_
          refine W_seq (by kernel_rfl) ?_
          refine W_seq (by kernel_rfl) ?_
          refine W_region (by kernel_rfl) ?_
          refine WO_run (j := 2) (k := 2) (orcs := []) (kF := [2, 4, 10, 11, 30, 31]) (kL := [4, 21]) (fr' := [(2, aD (.slice tI) x15.1), (4, .one (.ptr 4 0)), (10, .one (.slc 21)), (11, aI x15.2.1), (30, .one (.slc 21)), (31, aD (.slice tI) x15.1)]) (L' := [(4, .one (.pair tI (.slice (.slice tI))) a1), (21, .map .str tI x15.2.2)]) (obs := []) rfl (by kernel_rfl) allP0 ?_
          obtain ⟨r29, h30, h⟩ := bind_of h
          refine WO_call0 (us := [none]) (d := 32) (p := True) (j := 3) rfl ⟨by kernel_rfl, by kernel_rfl, by kernel_rfl⟩ trivial (tag_key_ok h30) (by kernel_rfl) ?_
          refine WO_run (j := 9) (k := 6) (orcs := []) (kF := [2, 4, 10, 11, 12, 13]) (kL := [4, 21]) (fr' := [(2, aD (.slice tI) x15.1), (4, .one (.ptr 4 0)), (10, .one (.slc 21)), (11, aI x15.2.1), (12, aI (Option.getD (mGet (deqT .str) (Option.getD x15.2.2 []) r29) (0 : Int))), (13, aB (Option.isSome (mGet (deqT .str) (Option.getD x15.2.2 []) r29)))]) (L' := [(4, .one (.pair tI (.slice (.slice tI))) a1), (21, .map .str tI x15.2.2)]) (obs := []) rfl (by kernel_rfl) allP0 ?_
          refine WO_fin [2, 4, 10, 11, 12, 13] [4, 21] (fr' := [(2, aD (.slice tI) x15.1), (4, .one (.ptr 4 0)), (10, .one (.slc 21)), (11, aI x15.2.1), (12, aI (Option.getD (mGet (deqT .str) (Option.getD x15.2.2 []) r29) (0 : Int))), (13, aB (Option.isSome (mGet (deqT .str) (Option.getD x15.2.2 []) r29)))]) (L' := [(4, .one (.pair tI (.slice (.slice tI))) a1), (21, .map .str tI x15.2.2)]) (by kernel_rfl) (by kernel_rfl) ?_
          refine seqQ_norm ?_
          refine W_seq (by kernel_rfl) ?_
          refine W_run 1 [] [2, 4, 10, 11, 12, 36] [4, 21] (fr' := [(2, aD (.slice tI) x15.1), (4, .one (.ptr 4 0)), (10, .one (.slc 21)), (11, aI x15.2.1), (12, aI (Option.getD (mGet (deqT .str) (Option.getD x15.2.2 []) r29) (0 : Int))), (36, aB (Option.isSome (mGet (deqT .str) (Option.getD x15.2.2 []) r29)))]) (L' := [(4, .one (.pair tI (.slice (.slice tI))) a1), (21, .map .str tI x15.2.2)]) (obs := []) (by kernel_rfl) (by kernel_rfl) (by kernel_rfl) allP0 ?_
          refine seqQ_norm ?_
          refine W_cond (o := .tmp 36) (b := Option.isSome (mGet (deqT .str) (Option.getD x15.2.2 []) r29)) (by kernel_rfl) (by kernel_rfl) (fun h31 => ?_) (fun h31 => ?_)
          · replace h := ofT h31 h
            refine W_seq (by kernel_rfl) ?_
            refine W_run 7 [] [6, 7, 8] [] (fr' := [(6, aI x15.2.1), (7, aI (w64 (x15.2.1 - (Option.getD (mGet (deqT .str) (Option.getD x15.2.2 []) r29) (0 : Int))))), (8, aI (0 : Int))]) (L' := []) (obs := []) (by kernel_rfl) (by kernel_rfl) (by kernel_rfl) allP0 ?_
            refine seqQ_norm ?_
            obtain rfl := Option.some.inj h
            refine W_ret [6, 7, 8] [] (fr' := [(6, aI x15.2.1), (7, aI (w64 (x15.2.1 - (Option.getD (mGet (deqT .str) (Option.getD x15.2.2 []) r29) (0 : Int))))), (8, aI (0 : Int))]) (L' := []) (by kernel_rfl) (by kernel_rfl) ?_
            refine seqQ_ret ?_
            refine blockQ_ret ?_
            refine seqQ_ret ?_
            refine round_ret ?_
            refine escQ_ret ?_
            exact exQ_mk (by kernel_rfl) (by kernel_rfl)
          · replace h := ofF h31 h
            refine W_skip [2, 4, 10, 11] [4, 21] (fr' := [(2, aD (.slice tI) x15.1), (4, .one (.ptr 4 0)), (10, .one (.slc 21)), (11, aI x15.2.1)]) (L' := [(4, .one (.pair tI (.slice (.slice tI))) a1), (21, .map .str tI x15.2.2)]) (by kernel_rfl) (by kernel_rfl) ?_
            refine seqQ_norm ?_
            refine W_seq (by kernel_rfl) ?_
            refine W_seq (by kernel_rfl) ?_
            refine W_run 5 [] [2, 4, 10, 11, 45] [4, 21] (fr' := [(2, aD (.slice tI) x15.1), (4, .one (.ptr 4 0)), (10, .one (.slc 21)), (11, aI x15.2.1), (45, aB (decide ((List.length x15.1 : Int) < a1.1)))]) (L' := [(4, .one (.pair tI (.slice (.slice tI))) a1), (21, .map .str tI x15.2.2)]) (obs := []) (by kernel_rfl) (by kernel_rfl) (by kernel_rfl) allP0 ?_
            refine seqQ_norm ?_
            refine W_cond (o := .tmp 45) (b := decide ((List.length x15.1 : Int) < a1.1)) (by kernel_rfl) (by kernel_rfl) (fun h32 => ?_) (fun h32 => ?_)
            · replace h := ofT h32 h
              refine W_seq (by kernel_rfl) ?_
              refine W_run 3 [] [6, 7, 8] [] (fr' := [(6, aI (0 : Int)), (7, aI (0 : Int)), (8, aI (5 : Int))]) (L' := []) (obs := []) (by kernel_rfl) (by kernel_rfl) (by kernel_rfl) allP0 ?_
              refine seqQ_norm ?_
              obtain rfl := Option.some.inj h
              refine W_ret [6, 7, 8] [] (fr' := [(6, aI (0 : Int)), (7, aI (0 : Int)), (8, aI (5 : Int))]) (L' := []) (by kernel_rfl) (by kernel_rfl) ?_
              refine seqQ_ret ?_
              refine blockQ_ret ?_
              refine seqQ_ret ?_
              refine round_ret ?_
              refine escQ_ret ?_
              exact exQ_mk (by kernel_rfl) (by kernel_rfl)
            · replace h := ofF h32 h
              refine W_skip [2, 4, 10, 11] [4, 21] (fr' := [(2, aD (.slice tI) x15.1), (4, .one (.ptr 4 0)), (10, .one (.slc 21)), (11, aI x15.2.1)]) (L' := [(4, .one (.pair tI (.slice (.slice tI))) a1), (21, .map .str tI x15.2.2)]) (by kernel_rfl) (by kernel_rfl) ?_
              refine seqQ_norm ?_
              refine W_seq (by kernel_rfl) ?_
              refine W_region (by kernel_rfl) ?_
              refine WO_run (j := 2) (k := 2) (orcs := []) (kF := [2, 4, 10, 11, 46, 47]) (kL := [4, 21]) (fr' := [(2, aD (.slice tI) x15.1), (4, .one (.ptr 4 0)), (10, .one (.slc 21)), (11, aI x15.2.1), (46, .one (.slc 21)), (47, aD (.slice tI) x15.1)]) (L' := [(4, .one (.pair tI (.slice (.slice tI))) a1), (21, .map .str tI x15.2.2)]) (obs := []) rfl (by kernel_rfl) allP0 ?_
              obtain ⟨r33, h34, h⟩ := bind_of h
              refine WO_call0 (us := [none]) (d := 48) (p := True) (j := 3) rfl ⟨by kernel_rfl, by kernel_rfl, by kernel_rfl⟩ trivial (tag_key_ok h34) (by kernel_rfl) ?_
              obtain ⟨_, h35, h⟩ := bind_of h
              replace h35 := ck_some h35
              refine WO_run (j := 5) (k := 2) (orcs := []) (kF := [2, 4, 10, 11]) (kL := [4, 21]) (fr' := [(2, aD (.slice tI) x15.1), (4, .one (.ptr 4 0)), (10, .one (.slc 21)), (11, aI x15.2.1)]) (L' := [(4, .one (.pair tI (.slice (.slice tI))) a1), (21, .map .str tI (Option.map (fun l => mPut (deqT .str) l r33 x15.2.1) x15.2.2))]) (obs := [Option.isSome x15.2.2 = true]) rfl (by kernel_rfl) (allP1 h35) ?_
              refine WO_fin [2, 4, 10, 11] [4, 21] (fr' := [(2, aD (.slice tI) x15.1), (4, .one (.ptr 4 0)), (10, .one (.slc 21)), (11, aI x15.2.1)]) (L' := [(4, .one (.pair tI (.slice (.slice tI))) a1), (21, .map .str tI (Option.map (fun l => mPut (deqT .str) l r33 x15.2.1) x15.2.2))]) (by kernel_rfl) (by kernel_rfl) ?_
              refine seqQ_norm ?_
              refine W_region (by kernel_rfl) ?_
              refine WO_run (j := 2) (k := 2) (orcs := []) (kF := [2, 4, 10, 11, 50, 51]) (kL := [4, 21]) (fr' := [(2, aD (.slice tI) x15.1), (4, .one (.ptr 4 0)), (10, .one (.slc 21)), (11, aI x15.2.1), (50, aD (.pair tI (.slice (.slice tI))) a1), (51, aD (.slice tI) x15.1)]) (L' := [(4, .one (.pair tI (.slice (.slice tI))) a1), (21, .map .str tI (Option.map (fun l => mPut (deqT .str) l r33 x15.2.1) x15.2.2))]) (obs := []) rfl (by kernel_rfl) allP0 ?_
              obtain ⟨r36, h37, h⟩ := bind_of h
              refine WO_call0 (us := [none, none]) (d := 52) (p := True) (j := 3) rfl ⟨by kernel_rfl, by kernel_rfl, by kernel_rfl⟩ trivial (tag_turn_ok h37) (by kernel_rfl) ?_
              refine WO_run (j := 4) (k := 1) (orcs := []) (kF := [2, 4, 10, 11]) (kL := [4, 21]) (fr' := [(2, aD (.slice tI) r36), (4, .one (.ptr 4 0)), (10, .one (.slc 21)), (11, aI x15.2.1)]) (L' := [(4, .one (.pair tI (.slice (.slice tI))) a1), (21, .map .str tI (Option.map (fun l => mPut (deqT .str) l r33 x15.2.1) x15.2.2))]) (obs := []) rfl (by kernel_rfl) allP0 ?_
              refine WO_fin [2, 4, 10, 11] [4, 21] (fr' := [(2, aD (.slice tI) r36), (4, .one (.ptr 4 0)), (10, .one (.slc 21)), (11, aI x15.2.1)]) (L' := [(4, .one (.pair tI (.slice (.slice tI))) a1), (21, .map .str tI (Option.map (fun l => mPut (deqT .str) l r33 x15.2.1) x15.2.2))]) (by kernel_rfl) (by kernel_rfl) ?_
              refine blockQ_norm ?_
              refine seqQ_norm ?_
              obtain rfl := Option.some.inj h
              refine W_run 3 [] [2, 4, 10, 11] [4, 21] (fr' := [(2, aD (.slice tI) r36), (4, .one (.ptr 4 0)), (10, .one (.slc 21)), (11, aI (w64 (x15.2.1 + (1 : Int))))]) (L' := [(4, .one (.pair tI (.slice (.slice tI))) a1), (21, .map .str tI (Option.map (fun l => mPut (deqT .str) l r33 x15.2.1) x15.2.2))]) (obs := []) (by kernel_rfl) (by kernel_rfl) (by kernel_rfl) allP0 ?_
              exact round_next' (by kernel_rfl) (by kernel_rfl)
      · replace h := ofF h27 h
        obtain rfl := Option.some.inj h
        refine W_exit (id := 0) [] [] (fr' := []) (L' := []) (by kernel_rfl) (by kernel_rfl) ?_
        refine seqQ_exit ?_
        refine round_exit ?_
        refine escQ_brk ?_
        exact exQ_mk (by kernel_rfl) (by kernel_rfl)
    · intro e fr L hJ
      rcases v38 with v42 | v43
      · obtain ⟨rfl, rfl, rfl⟩ := hJ
        obtain rfl := Option.some.inj h
        refine LT_keep [6, 7, 8] [] (fr' := [(6, aI v42.1), (7, aI v42.2.1), (8, aI v42.2.2)]) (L' := []) (by kernel_rfl) ?_
        refine blockQ_ret ?_
        refine seqQ_ret ?_
        exact retQ_mk (by kernel_rfl) (by kernel_rfl) (by kernel_rfl)
      · obtain ⟨rfl, rfl, rfl⟩ := hJ
        refine LT_keep [] [] (fr' := []) (L' := []) (by kernel_rfl) ?_
        refine blockQ_hit ?_
        refine seqQ_norm ?_
        refine W_seq (by kernel_rfl) ?_
        refine W_run 3 [] [6, 7, 8] [] (fr' := [(6, aI (0 : Int)), (7, aI (0 : Int)), (8, aI (7 : Int))]) (L' := []) (obs := []) (by kernel_rfl) (by kernel_rfl) (by kernel_rfl) allP0 ?_
        refine seqQ_norm ?_
        obtain rfl := Option.some.inj h
        refine W_ret [6, 7, 8] [] (fr' := [(6, aI (0 : Int)), (7, aI (0 : Int)), (8, aI (7 : Int))]) (L' := []) (by kernel_rfl) (by kernel_rfl) ?_
        exact retQ_mk (by kernel_rfl) (by kernel_rfl) (by kernel_rfl)

def ref_Within (a0 : Int) (a1 : Int) (a2 : Int) : Option Bool :=
some ((decide (a0 ≤ a1)) && (decide (a1 ≤ a2)))
theorem ref_Within_ok {a0 : Int} {a1 : Int} {a2 : Int} {r : Bool} (h : ref_Within a0 a1 a2 = some r) : FnC Try.prog 37 [aI a0, aI a1, aI a2] [] (aB r) [] := by
  refine fnC_of_W (B := bodyOf Try.f37) (n := 15) Try.func37 (by kernel_rfl) (by kernel_rfl) (by kernel_rfl) (by kernel_rfl) (by kernel_rfl) ?_
  intro K
  refine W_seq (by kernel_rfl) ?_
  refine W_run 1 [] [0, 1, 2] [] (fr' := [(0, aI a0), (1, aI a1), (2, aI a2)]) (L' := []) (obs := []) (by kernel_rfl) (by kernel_rfl) (by kernel_rfl) allP0 ?_
  refine seqQ_norm ?_
  refine W_seq (by kernel_rfl) ?_
  refine W_run 9 [] [6] [] (fr' := [(6, aB ((decide (a0 ≤ a1)) && (decide (a1 ≤ a2))))]) (L' := []) (obs := []) (by kernel_rfl) (by kernel_rfl) (by kernel_rfl) allP0 ?_
  refine seqQ_norm ?_
  obtain rfl := Option.some.inj h
  refine W_ret [6] [] (fr' := [(6, aB ((decide (a0 ≤ a1)) && (decide (a1 ≤ a2))))]) (L' := []) (by kernel_rfl) (by kernel_rfl) ?_
  exact retQ_mk (by kernel_rfl) (by kernel_rfl) (by kernel_rfl)

def ref_Inside_b1 (a0 : Int) (i11 : Int) (v14 : Int) (x12 : Unit) : Option (Flow Unit (Esc Bool Unit)) :=
bif (decide (v14 < (0 : Int))) || (decide (v14 ≥ a0)) then
(some (.done (.ret false)))
else
(some (.next ()))
@[reducible] def ref_Inside_s2 (a0 : Int) (a1 : (List Int)) (v : Int × Unit) : Fr × LL := ([(0, aI a0), (7, aD (.slice tI) a1), (8, aI (List.length a1 : Int)), (9, aI v.1)], [])
@[reducible] def ref_Inside_s3 (v : Bool) : Fr × LL := ([(4, aB v)], [])
@[reducible] def ref_Inside_s4 (v : Unit) : Fr × LL := ([], [])
def ref_Inside (a0 : Int) (a1 : (List Int)) : Option Bool :=
(forL (ref_Inside_b1 a0) (fun x12 => (.brk ())) a1 0 ()).bind fun v19 =>
match v19 with
| .ret v24 =>
(some v24)
| .brk v25 =>
(some true)
theorem ref_Inside_ok {a0 : Int} {a1 : (List Int)} {r : Bool} (h : ref_Inside a0 a1 = some r) : FnC Try.prog 58 [aI a0, aD (.slice tI) a1] [] (aB r) [] := by
  refine fnC_of_W (B := bodyOf Try.f58) (n := 21) Try.func58 (by kernel_rfl) (by kernel_rfl) (by kernel_rfl) (by kernel_rfl) (by kernel_rfl) ?_
  intro K
  refine W_seq (by kernel_rfl) ?_
  refine W_run 1 [] [0, 1] [] (fr' := [(0, aI a0), (1, aD (.slice tI) a1)]) (L' := []) (obs := []) (by kernel_rfl) (by kernel_rfl) (by kernel_rfl) allP0 ?_
  refine seqQ_norm ?_
  refine W_seq (by kernel_rfl) ?_
  refine W_seq (by kernel_rfl) ?_
  refine W_run 3 [] [0, 7, 8, 9] [] (fr' := [(0, aI a0), (7, aD (.slice tI) a1), (8, aI (List.length a1 : Int)), (9, aI (0 : Int))]) (L' := []) (obs := []) (by kernel_rfl) (by kernel_rfl) (by kernel_rfl) allP0 ?_
  refine seqQ_norm ?_
  refine W_block (id := 0) (by kernel_rfl) ?_
  obtain ⟨v19, h20, h⟩ := bind_of h
  refine W_len (t := 7) (u := tI) (xs := a1) (by kernel_rfl) (fun h23 => ?_)
  obtain ⟨h21, h22⟩ := forL_iter h23 h20
  refine W_weaken [0, 7, 8, 9] [] (fr' := ((ref_Inside_s2 a0 a1) ((0 : Int), ())).1) (L' := ((ref_Inside_s2 a0 a1) ((0 : Int), ())).2) (by kernel_rfl) ?_
  refine W_cutK (W_loop (S := (ref_Inside_s2 a0 a1)) (J := (escQ (exQ .ret ref_Inside_s3) (exQ (.exit 0) ref_Inside_s4))) (by kernel_rfl) ?_ h21 _ v19 h22) ?_
  · rintro ⟨i11, x12⟩ s h
    refine W_seq (by kernel_rfl) ?_
    refine W_run 1 [] [0, 7, 8, 9, 10] [] (fr' := [(0, aI a0), (7, aD (.slice tI) a1), (8, aI (List.length a1 : Int)), (9, aI i11), (10, aB (decide (i11 < (List.length a1 : Int))))]) (L' := []) (obs := []) (by kernel_rfl) (by kernel_rfl) (by kernel_rfl) allP0 ?_
    refine seqQ_norm ?_
    refine W_seq (by kernel_rfl) ?_
    refine W_cond (o := .tmp 10) (b := decide (i11 < (List.length a1 : Int))) (by kernel_rfl) (by kernel_rfl) (fun h16 => ?_) (fun h16 => ?_)
    · replace h := stepL_true h16 h
      obtain ⟨v14, _, h15, h, rfl⟩ := h
      refine W_skip [0, 7, 8, 9] [] (fr' := [(0, aI a0), (7, aD (.slice tI) a1), (8, aI (List.length a1 : Int)), (9, aI i11)]) (L' := []) (by kernel_rfl) (by kernel_rfl) ?_
      refine seqQ_norm ?_
      refine W_seq (by kernel_rfl) ?_
      refine W_block (id := 1) (by kernel_rfl) ?_
      refine W_seq (by kernel_rfl) ?_
      refine W_run 3 [(1, .val (.dat tI v14))] [0, 6, 7, 8, 9] [] (fr' := [(0, aI a0), (6, aI v14), (7, aD (.slice tI) a1), (8, aI (List.length a1 : Int)), (9, aI i11)]) (L' := []) (obs := [Idx a1 i11 v14]) (by kernel_rfl) (by kernel_rfl) (by kernel_rfl) (allP1 (Idx.of h15)) ?_
      refine seqQ_norm ?_
      refine W_seq (by kernel_rfl) ?_
      refine W_run 7 [] [0, 7, 8, 9, 19] [] (fr' := [(0, aI a0), (7, aD (.slice tI) a1), (8, aI (List.length a1 : Int)), (9, aI i11), (19, aB ((decide (v14 < (0 : Int))) || (decide (v14 ≥ a0))))]) (L' := []) (obs := []) (by kernel_rfl) (by kernel_rfl) (by kernel_rfl) allP0 ?_
      refine seqQ_norm ?_
      refine W_cond (o := .tmp 19) (b := (decide (v14 < (0 : Int))) || (decide (v14 ≥ a0))) (by kernel_rfl) (by kernel_rfl) (fun h17 => ?_) (fun h17 => ?_)
      · replace h := ofT h17 h
        refine W_seq (by kernel_rfl) ?_
        refine W_run 1 [] [4] [] (fr' := [(4, aB false)]) (L' := []) (obs := []) (by kernel_rfl) (by kernel_rfl) (by kernel_rfl) allP0 ?_
        refine seqQ_norm ?_
        obtain rfl := Option.some.inj h
        refine W_ret [4] [] (fr' := [(4, aB false)]) (L' := []) (by kernel_rfl) (by kernel_rfl) ?_
        refine blockQ_ret ?_
        refine seqQ_ret ?_
        refine round_ret ?_
        refine escQ_ret ?_
        exact exQ_mk (by kernel_rfl) (by kernel_rfl)
      · replace h := ofF h17 h
        refine W_skip [0, 7, 8, 9] [] (fr' := [(0, aI a0), (7, aD (.slice tI) a1), (8, aI (List.length a1 : Int)), (9, aI i11)]) (L' := []) (by kernel_rfl) (by kernel_rfl) ?_
        refine blockQ_norm ?_
        refine seqQ_norm ?_
        obtain rfl := Option.some.inj h
        refine W_run 2 [] [0, 7, 8, 9] [] (fr' := [(0, aI a0), (7, aD (.slice tI) a1), (8, aI (List.length a1 : Int)), (9, aI (w64 (i11 + (1 : Int))))]) (L' := []) (obs := []) (by kernel_rfl) (by kernel_rfl) (by kernel_rfl) allP0 ?_
        exact round_next' (by kernel_rfl) (by kernel_rfl)
    · obtain rfl := stepL_false h16 h
      refine W_exit (id := 0) [] [] (fr' := []) (L' := []) (by kernel_rfl) (by kernel_rfl) ?_
      refine seqQ_exit ?_
      refine round_exit ?_
      refine escQ_brk ?_
      exact exQ_mk (by kernel_rfl) (by kernel_rfl)
  · intro e fr L hJ
    rcases v19 with v24 | v25
    · obtain ⟨rfl, rfl, rfl⟩ := hJ
      obtain rfl := Option.some.inj h
      refine LT_keep [4] [] (fr' := [(4, aB v24)]) (L' := []) (by kernel_rfl) ?_
      refine blockQ_ret ?_
      refine seqQ_ret ?_
      exact retQ_mk (by kernel_rfl) (by kernel_rfl) (by kernel_rfl)
    · obtain ⟨rfl, rfl, rfl⟩ := hJ
      refine LT_keep [] [] (fr' := []) (L' := []) (by kernel_rfl) ?_
      refine blockQ_hit ?_
      refine seqQ_norm ?_
      refine W_seq (by kernel_rfl) ?_
      refine W_run 1 [] [4] [] (fr' := [(4, aB true)]) (L' := []) (obs := []) (by kernel_rfl) (by kernel_rfl) (by kernel_rfl) allP0 ?_
      refine seqQ_norm ?_
      obtain rfl := Option.some.inj h
      refine W_ret [4] [] (fr' := [(4, aB true)]) (L' := []) (by kernel_rfl) (by kernel_rfl) ?_
      exact retQ_mk (by kernel_rfl) (by kernel_rfl) (by kernel_rfl)

def ref_TagCheck_g1 (a0 : Int) (a1 : (Int × (List (List Int)))) (a2 : (List Int)) : Option Bool :=
(ref_Within (1 : Int) a0 (4 : Int)).bind fun r11 =>
bif !r11 then
(some true)
else
((ref_Within (1 : Int) a1.1 (4 : Int)).bind fun r14 =>
some ((!r14) || (decide ((List.length a2 : Int) > (40 : Int)))))
def ref_TagCheck_b2 (i29 : Int) (v32 : (List Int)) (x30 : Unit) : Option (Flow Unit (Esc Int Unit)) :=
bif decide ((List.length v32 : Int) > (8 : Int)) then
(some (.done (.ret (1 : Int))))
else
(some (.next ()))
@[reducible] def ref_TagCheck_s3 (a0 : Int) (a1 : (Int × (List (List Int)))) (a2 : (List Int)) (v : Int × Unit) : Fr × LL := ([(0, aI a0), (2, aD (.slice tI) a2), (4, .one (.ptr 4 0)), (26, aD (.slice (.slice tI)) a1.2), (27, aI (List.length a1.2 : Int)), (28, aI v.1)], [(4, .one (.pair tI (.slice (.slice tI))) a1)])
@[reducible] def ref_TagCheck_s4 (v : Int) : Fr × LL := ([(6, aI v)], [])
@[reducible] def ref_TagCheck_s5 (a0 : Int) (a1 : (Int × (List (List Int)))) (a2 : (List Int)) (v : Unit) : Fr × LL := ([(0, aI a0), (2, aD (.slice tI) a2), (4, .one (.ptr 4 0))], [(4, .one (.pair tI (.slice (.slice tI))) a1)])
def ref_TagCheck_b6 (a0 : Int) (i59 : Int) (v62 : (List Int)) (x60 : Unit) : Option (Flow Unit (Esc Int Unit)) :=
(ref_Inside a0 v62).bind fun r65 =>
bif !r65 then
(some (.done (.ret (2 : Int))))
else
(some (.next ()))
@[reducible] def ref_TagCheck_s7 (a0 : Int) (a1 : (Int × (List (List Int)))) (a2 : (List Int)) (v : Int × Unit) : Fr × LL := ([(0, aI a0), (2, aD (.slice tI) a2), (42, aD (.slice (.slice tI)) a1.2), (43, aI (List.length a1.2 : Int)), (44, aI v.1)], [])
@[reducible] def ref_TagCheck_s8 (v : Int) : Fr × LL := ([(6, aI v)], [])
@[reducible] def ref_TagCheck_s9 (a0 : Int) (a2 : (List Int)) (v : Unit) : Fr × LL := ([(0, aI a0), (2, aD (.slice tI) a2)], [])
@[reducible] def ref_TagCheck_s10 (a0 : Int) (a1 : (Int × (List (List Int)))) (a2 : (List Int)) (v : Bool) : Fr × LL := ([(0, aI a0), (2, aD (.slice tI) a2), (4, .one (.ptr 4 0)), (24, aB v)], [(4, .one (.pair tI (.slice (.slice tI))) a1)])
def ref_TagCheck (a0 : Int) (a1 : (Int × (List (List Int)))) (a2 : (List Int)) : Option Int :=
(ref_TagCheck_g1 a0 a1 a2).bind fun v16 =>
bif v16 then
(some (1 : Int))
else
((forL ref_TagCheck_b2 (fun x30 => (.brk ())) a1.2 0 ()).bind fun v37 =>
match v37 with
| .ret v42 =>
(some v42)
| .brk v43 =>
(bif (List.length a1.2 : Int) != a0 then
(some (3 : Int))
else
((forL (ref_TagCheck_b6 a0) (fun x60 => (.brk ())) a1.2 0 ()).bind fun v69 =>
match v69 with
| .ret v74 =>
(some v74)
| .brk v75 =>
((ref_Inside a0 a2).bind fun r76 =>
bif !r76 then
(some (2 : Int))
else
(some (0 : Int))))))
theorem ref_TagCheck_ok {a0 : Int} {a1 : (Int × (List (List Int)))} {a2 : (List Int)} {r : Int} (h : ref_TagCheck a0 a1 a2 = some r) : FnC Try.prog 45 [aI a0, aD (.pair tI (.slice (.slice tI))) a1, aD (.slice tI) a2] [] (aI r) [] := by
  refine fnC_of_W (B := bodyOf Try.f45) (n := 57) Try.func45 (by kernel_rfl) (by kernel_rfl) (by kernel_rfl) (by kernel_rfl) (by kernel_rfl) ?_
  intro K
  refine W_seq (by kernel_rfl) ?_
  refine W_run 2 [] [0, 2, 4] [4] (fr' := [(0, aI a0), (2, aD (.slice tI) a2), (4, .one (.ptr 4 0))]) (L' := [(4, .one (.pair tI (.slice (.slice tI))) a1)]) (obs := []) (by kernel_rfl) (by kernel_rfl) (by kernel_rfl) allP0 ?_
  refine seqQ_norm ?_
  refine W_seq (by kernel_rfl) ?_
  refine W_seq (by kernel_rfl) ?_
  obtain ⟨v16, h17, h⟩ := bind_of h
  refine W_cutK (Q' := (exQ .normal (ref_TagCheck_s10 a0 a1 a2)) v16) ?_ ?_
  · replace h := h17
    refine W_region (by kernel_rfl) ?_
    refine WO_run (j := 1) (k := 1) (orcs := []) (kF := [0, 2, 4, 11]) (kL := [4]) (fr' := [(0, aI a0), (2, aD (.slice tI) a2), (4, .one (.ptr 4 0)), (11, aI a0)]) (L' := [(4, .one (.pair tI (.slice (.slice tI))) a1)]) (obs := []) rfl (by kernel_rfl) allP0 ?_
    obtain ⟨r11, h12, h⟩ := bind_of h
    refine WO_call0 (us := [none, none, none]) (d := 12) (p := True) (j := 2) rfl ⟨by kernel_rfl, by kernel_rfl, by kernel_rfl⟩ trivial (ref_Within_ok h12) (by kernel_rfl) ?_
    refine WO_run (j := 4) (k := 2) (orcs := []) (kF := [0, 2, 4, 14]) (kL := [4]) (fr' := [(0, aI a0), (2, aD (.slice tI) a2), (4, .one (.ptr 4 0)), (14, aB (!r11))]) (L' := [(4, .one (.pair tI (.slice (.slice tI))) a1)]) (obs := []) rfl (by kernel_rfl) allP0 ?_
    rcases Bool.eq_false_or_eq_true (!r11) with h13 | h13
    · replace h := ofT h13 h
      refine WO_run (j := 14) (k := 10) (orcs := [(8, .known true), (10, .known true), (12, .known true), (14, .known true), (17, .val (.dat .bool true)), (20, .known true), (22, .known true), (24, .known true), (27, .val (.dat .bool true))]) (kF := [0, 2, 4, 24]) (kL := [4]) (fr' := [(0, aI a0), (2, aD (.slice tI) a2), (4, .one (.ptr 4 0)), (24, aB true)]) (L' := [(4, .one (.pair tI (.slice (.slice tI))) a1)]) (obs := [((!r11) = true), ((!r11) = true), ((!r11) = true), ((!r11) = true), ((!r11) = true), (true = true), (true = true), (true = true), (true = true)]) rfl (by kernel_rfl) (allP2 h13 (allP2 h13 (allP2 h13 (allP2 h13 (allP2 h13 (allP2 rfl (allP2 rfl (allP2 rfl (allP1 rfl))))))))) ?_
      obtain rfl := Option.some.inj h
      refine WO_fin [0, 2, 4, 24] [4] (fr' := [(0, aI a0), (2, aD (.slice tI) a2), (4, .one (.ptr 4 0)), (24, aB true)]) (L' := [(4, .one (.pair tI (.slice (.slice tI))) a1)]) (by kernel_rfl) (by kernel_rfl) ?_
      exact exQ_mk (by kernel_rfl) (by kernel_rfl)
    · replace h := ofF h13 h
      refine WO_run (j := 6) (k := 2) (orcs := [(8, .known false), (10, .known false)]) (kF := [0, 2, 4, 14, 16]) (kL := [4]) (fr' := [(0, aI a0), (2, aD (.slice tI) a2), (4, .one (.ptr 4 0)), (14, aB (!r11)), (16, aI a1.1)]) (L' := [(4, .one (.pair tI (.slice (.slice tI))) a1)]) (obs := [((!r11) = false), ((!r11) = false)]) rfl (by kernel_rfl) (allP2 h13 (allP1 h13)) ?_
      obtain ⟨r14, h15, h⟩ := bind_of h
      refine WO_call0 (us := [none, none, none]) (d := 17) (p := ((!r11) = false)) (j := 7) rfl ⟨by kernel_rfl, by kernel_rfl, by kernel_rfl⟩ h13 (ref_Within_ok h15) (by kernel_rfl) ?_
      refine WO_run (j := 14) (k := 7) (orcs := [(14, .known false), (17, .val (.dat .bool false))]) (kF := [0, 2, 4, 24]) (kL := [4]) (fr' := [(0, aI a0), (2, aD (.slice tI) a2), (4, .one (.ptr 4 0)), (24, aB ((!r14) || (decide ((List.length a2 : Int) > (40 : Int)))))]) (L' := [(4, .one (.pair tI (.slice (.slice tI))) a1)]) (obs := [((!r11) = false), ((!r11) = false)]) rfl (by kernel_rfl) (allP2 h13 (allP1 h13)) ?_
      obtain rfl := Option.some.inj h
      refine WO_fin [0, 2, 4, 24] [4] (fr' := [(0, aI a0), (2, aD (.slice tI) a2), (4, .one (.ptr 4 0)), (24, aB ((!r14) || (decide ((List.length a2 : Int) > (40 : Int)))))]) (L' := [(4, .one (.pair tI (.slice (.slice tI))) a1)]) (by kernel_rfl) (by kernel_rfl) ?_
      exact exQ_mk (by kernel_rfl) (by kernel_rfl)
  · intro e fr L hJ
    obtain ⟨rfl, rfl, rfl⟩ := hJ
    refine LT_keep [0, 2, 4, 24] [4] (fr' := [(0, aI a0), (2, aD (.slice tI) a2), (4, .one (.ptr 4 0)), (24, aB v16)]) (L' := [(4, .one (.pair tI (.slice (.slice tI))) a1)]) (by kernel_rfl) ?_
    refine seqQ_norm ?_
    refine W_cond (o := .tmp 24) (b := v16) (by kernel_rfl) (by kernel_rfl) (fun h18 => ?_) (fun h18 => ?_)
    · replace h := ofT h18 h
      refine W_seq (by kernel_rfl) ?_
      refine W_run 1 [] [6] [] (fr' := [(6, aI (1 : Int))]) (L' := []) (obs := []) (by kernel_rfl) (by kernel_rfl) (by kernel_rfl) allP0 ?_
      refine seqQ_norm ?_
      obtain rfl := Option.some.inj h
      refine W_ret [6] [] (fr' := [(6, aI (1 : Int))]) (L' := []) (by kernel_rfl) (by kernel_rfl) ?_
      refine seqQ_ret ?_
      exact retQ_mk (by kernel_rfl) (by kernel_rfl) (by kernel_rfl)
    · replace h := ofF h18 h
      refine W_skip [0, 2, 4] [4] (fr' := [(0, aI a0), (2, aD (.slice tI) a2), (4, .one (.ptr 4 0))]) (L' := [(4, .one (.pair tI (.slice (.slice tI))) a1)]) (by kernel_rfl) (by kernel_rfl) ?_
      refine seqQ_norm ?_
      refine W_seq (by kernel_rfl) ?_
      refine W_seq (by kernel_rfl) ?_
      refine W_run 4 [] [0, 2, 4, 26, 27, 28] [4] (fr' := [(0, aI a0), (2, aD (.slice tI) a2), (4, .one (.ptr 4 0)), (26, aD (.slice (.slice tI)) a1.2), (27, aI (List.length a1.2 : Int)), (28, aI (0 : Int))]) (L' := [(4, .one (.pair tI (.slice (.slice tI))) a1)]) (obs := []) (by kernel_rfl) (by kernel_rfl) (by kernel_rfl) allP0 ?_
      refine seqQ_norm ?_
      refine W_block (id := 0) (by kernel_rfl) ?_
      obtain ⟨v37, h38, h⟩ := bind_of h
      refine W_len (t := 26) (u := (.slice tI)) (xs := a1.2) (by kernel_rfl) (fun h41 => ?_)
      obtain ⟨h39, h40⟩ := forL_iter h41 h38
      refine W_weaken [0, 2, 4, 26, 27, 28] [4] (fr' := ((ref_TagCheck_s3 a0 a1 a2) ((0 : Int), ())).1) (L' := ((ref_TagCheck_s3 a0 a1 a2) ((0 : Int), ())).2) (by kernel_rfl) ?_
      refine W_cutK (W_loop (S := (ref_TagCheck_s3 a0 a1 a2)) (J := (escQ (exQ .ret ref_TagCheck_s4) (exQ (.exit 0) (ref_TagCheck_s5 a0 a1 a2)))) (by kernel_rfl) ?_ h39 _ v37 h40) ?_
      · rintro ⟨i29, x30⟩ s h
        refine W_seq (by kernel_rfl) ?_
        refine W_run 1 [] [0, 2, 4, 26, 27, 28, 29] [4] (fr' := [(0, aI a0), (2, aD (.slice tI) a2), (4, .one (.ptr 4 0)), (26, aD (.slice (.slice tI)) a1.2), (27, aI (List.length a1.2 : Int)), (28, aI i29), (29, aB (decide (i29 < (List.length a1.2 : Int))))]) (L' := [(4, .one (.pair tI (.slice (.slice tI))) a1)]) (obs := []) (by kernel_rfl) (by kernel_rfl) (by kernel_rfl) allP0 ?_
        refine seqQ_norm ?_
        refine W_seq (by kernel_rfl) ?_
        refine W_cond (o := .tmp 29) (b := decide (i29 < (List.length a1.2 : Int))) (by kernel_rfl) (by kernel_rfl) (fun h34 => ?_) (fun h34 => ?_)
        · replace h := stepL_true h34 h
          obtain ⟨v32, _, h33, h, rfl⟩ := h
          refine W_skip [0, 2, 4, 26, 27, 28] [4] (fr' := [(0, aI a0), (2, aD (.slice tI) a2), (4, .one (.ptr 4 0)), (26, aD (.slice (.slice tI)) a1.2), (27, aI (List.length a1.2 : Int)), (28, aI i29)]) (L' := [(4, .one (.pair tI (.slice (.slice tI))) a1)]) (by kernel_rfl) (by kernel_rfl) ?_
          refine seqQ_norm ?_
          refine W_seq (by kernel_rfl) ?_
          refine W_block (id := 1) (by kernel_rfl) ?_
          refine W_seq (by kernel_rfl) ?_
          refine W_run 3 [(1, .val (.dat (.slice tI) v32))] [0, 2, 4, 8, 26, 27, 28] [4] (fr' := [(0, aI a0), (2, aD (.slice tI) a2), (4, .one (.ptr 4 0)), (8, aD (.slice tI) v32), (26, aD (.slice (.slice tI)) a1.2), (27, aI (List.length a1.2 : Int)), (28, aI i29)]) (L' := [(4, .one (.pair tI (.slice (.slice tI))) a1)]) (obs := [Idx a1.2 i29 v32]) (by kernel_rfl) (by kernel_rfl) (by kernel_rfl) (allP1 (Idx.of h33)) ?_
          refine seqQ_norm ?_
          refine W_seq (by kernel_rfl) ?_
          refine W_run 3 [] [0, 2, 4, 26, 27, 28, 34] [4] (fr' := [(0, aI a0), (2, aD (.slice tI) a2), (4, .one (.ptr 4 0)), (26, aD (.slice (.slice tI)) a1.2), (27, aI (List.length a1.2 : Int)), (28, aI i29), (34, aB (decide ((List.length v32 : Int) > (8 : Int))))]) (L' := [(4, .one (.pair tI (.slice (.slice tI))) a1)]) (obs := []) (by kernel_rfl) (by kernel_rfl) (by kernel_rfl) allP0 ?_
          refine seqQ_norm ?_
          refine W_cond (o := .tmp 34) (b := decide ((List.length v32 : Int) > (8 : Int))) (by kernel_rfl) (by kernel_rfl) (fun h35 => ?_) (fun h35 => ?_)
          · replace h := ofT h35 h
            refine W_seq (by kernel_rfl) ?_
            refine W_run 1 [] [6] [] (fr' := [(6, aI (1 : Int))]) (L' := []) (obs := []) (by kernel_rfl) (by kernel_rfl) (by kernel_rfl) allP0 ?_
            refine seqQ_norm ?_
            obtain rfl := Option.some.inj h
            refine W_ret [6] [] (fr' := [(6, aI (1 : Int))]) (L' := []) (by kernel_rfl) (by kernel_rfl) ?_
            refine blockQ_ret ?_
            refine seqQ_ret ?_
            refine round_ret ?_
            refine escQ_ret ?_
            exact exQ_mk (by kernel_rfl) (by kernel_rfl)
          · replace h := ofF h35 h
            refine W_skip [0, 2, 4, 26, 27, 28] [4] (fr' := [(0, aI a0), (2, aD (.slice tI) a2), (4, .one (.ptr 4 0)), (26, aD (.slice (.slice tI)) a1.2), (27, aI (List.length a1.2 : Int)), (28, aI i29)]) (L' := [(4, .one (.pair tI (.slice (.slice tI))) a1)]) (by kernel_rfl) (by kernel_rfl) ?_
            refine blockQ_norm ?_
            refine seqQ_norm ?_
            obtain rfl := Option.some.inj h
            refine W_run 2 [] [0, 2, 4, 26, 27, 28] [4] (fr' := [(0, aI a0), (2, aD (.slice tI) a2), (4, .one (.ptr 4 0)), (26, aD (.slice (.slice tI)) a1.2), (27, aI (List.length a1.2 : Int)), (28, aI (w64 (i29 + (1 : Int))))]) (L' := [(4, .one (.pair tI (.slice (.slice tI))) a1)]) (obs := []) (by kernel_rfl) (by kernel_rfl) (by kernel_rfl) allP0 ?_
            exact round_next' (by kernel_rfl) (by kernel_rfl)
        · obtain rfl := stepL_false h34 h
          refine W_exit (id := 0) [0, 2, 4] [4] (fr' := [(0, aI a0), (2, aD (.slice tI) a2), (4, .one (.ptr 4 0))]) (L' := [(4, .one (.pair tI (.slice (.slice tI))) a1)]) (by kernel_rfl) (by kernel_rfl) ?_
          refine seqQ_exit ?_
          refine round_exit ?_
          refine escQ_brk ?_
          exact exQ_mk (by kernel_rfl) (by kernel_rfl)
      · intro e fr L hJ
        rcases v37 with v42 | v43
        · obtain ⟨rfl, rfl, rfl⟩ := hJ
          obtain rfl := Option.some.inj h
          refine LT_keep [6] [] (fr' := [(6, aI v42)]) (L' := []) (by kernel_rfl) ?_
          refine blockQ_ret ?_
          refine seqQ_ret ?_
          exact retQ_mk (by kernel_rfl) (by kernel_rfl) (by kernel_rfl)
        · obtain ⟨rfl, rfl, rfl⟩ := hJ
          refine LT_keep [0, 2, 4] [4] (fr' := [(0, aI a0), (2, aD (.slice tI) a2), (4, .one (.ptr 4 0))]) (L' := [(4, .one (.pair tI (.slice (.slice tI))) a1)]) (by kernel_rfl) ?_
          refine blockQ_hit ?_
          refine seqQ_norm ?_
          refine W_seq (by kernel_rfl) ?_
          refine W_seq (by kernel_rfl) ?_
          refine W_run 5 [] [0, 2, 4, 40] [4] (fr' := [(0, aI a0), (2, aD (.slice tI) a2), (4, .one (.ptr 4 0)), (40, aB ((List.length a1.2 : Int) != a0))]) (L' := [(4, .one (.pair tI (.slice (.slice tI))) a1)]) (obs := []) (by kernel_rfl) (by kernel_rfl) (by kernel_rfl) allP0 ?_
          refine seqQ_norm ?_
          refine W_cond (o := .tmp 40) (b := (List.length a1.2 : Int) != a0) (by kernel_rfl) (by kernel_rfl) (fun h44 => ?_) (fun h44 => ?_)
          · replace h := ofT h44 h
            refine W_seq (by kernel_rfl) ?_
            refine W_run 1 [] [6] [] (fr' := [(6, aI (3 : Int))]) (L' := []) (obs := []) (by kernel_rfl) (by kernel_rfl) (by kernel_rfl) allP0 ?_
            refine seqQ_norm ?_
            obtain rfl := Option.some.inj h
            refine W_ret [6] [] (fr' := [(6, aI (3 : Int))]) (L' := []) (by kernel_rfl) (by kernel_rfl) ?_
            refine seqQ_ret ?_
            exact retQ_mk (by kernel_rfl) (by kernel_rfl) (by kernel_rfl)
          · replace h := ofF h44 h
            refine W_skip [0, 2, 4] [4] (fr' := [(0, aI a0), (2, aD (.slice tI) a2), (4, .one (.ptr 4 0))]) (L' := [(4, .one (.pair tI (.slice (.slice tI))) a1)]) (by kernel_rfl) (by kernel_rfl) ?_
            refine seqQ_norm ?_
            refine W_seq (by kernel_rfl) ?_
            refine W_seq (by kernel_rfl) ?_
            refine W_run 4 [] [0, 2, 42, 43, 44] [] (fr' := [(0, aI a0), (2, aD (.slice tI) a2), (42, aD (.slice (.slice tI)) a1.2), (43, aI (List.length a1.2 : Int)), (44, aI (0 : Int))]) (L' := []) (obs := []) (by kernel_rfl) (by kernel_rfl) (by kernel_rfl) allP0 ?_
            refine seqQ_norm ?_
            refine W_block (id := 2) (by kernel_rfl) ?_
            obtain ⟨v69, h70, h⟩ := bind_of h
            refine W_len (t := 42) (u := (.slice tI)) (xs := a1.2) (by kernel_rfl) (fun h73 => ?_)
            obtain ⟨h71, h72⟩ := forL_iter h73 h70
            refine W_weaken [0, 2, 42, 43, 44] [] (fr' := ((ref_TagCheck_s7 a0 a1 a2) ((0 : Int), ())).1) (L' := ((ref_TagCheck_s7 a0 a1 a2) ((0 : Int), ())).2) (by kernel_rfl) ?_
            refine W_cutK (W_loop (S := (ref_TagCheck_s7 a0 a1 a2)) (J := (escQ (exQ .ret ref_TagCheck_s8) (exQ (.exit 2) (ref_TagCheck_s9 a0 a2)))) (by kernel_rfl) ?_ h71 _ v69 h72) ?_
            · rintro ⟨i59, x60⟩ s h
              refine W_seq (by kernel_rfl) ?_
              refine W_run 1 [] [0, 2, 42, 43, 44, 45] [] (fr' := [(0, aI a0), (2, aD (.slice tI) a2), (42, aD (.slice (.slice tI)) a1.2), (43, aI (List.length a1.2 : Int)), (44, aI i59), (45, aB (decide (i59 < (List.length a1.2 : Int))))]) (L' := []) (obs := []) (by kernel_rfl) (by kernel_rfl) (by kernel_rfl) allP0 ?_
              refine seqQ_norm ?_
              refine W_seq (by kernel_rfl) ?_
              refine W_cond (o := .tmp 45) (b := decide (i59 < (List.length a1.2 : Int))) (by kernel_rfl) (by kernel_rfl) (fun h64 => ?_) (fun h64 => ?_)
              · replace h := stepL_true h64 h
                obtain ⟨v62, _, h63, h, rfl⟩ := h
                refine W_skip [0, 2, 42, 43, 44] [] (fr' := [(0, aI a0), (2, aD (.slice tI) a2), (42, aD (.slice (.slice tI)) a1.2), (43, aI (List.length a1.2 : Int)), (44, aI i59)]) (L' := []) (by kernel_rfl) (by kernel_rfl) ?_
                refine seqQ_norm ?_
                refine W_seq (by kernel_rfl) ?_
                refine W_block (id := 3) (by kernel_rfl) ?_
                refine W_seq (by kernel_rfl) ?_
                refine W_run 3 [(1, .val (.dat (.slice tI) v62))] [0, 2, 10, 42, 43, 44] [] (fr' := [(0, aI a0), (2, aD (.slice tI) a2), (10, aD (.slice tI) v62), (42, aD (.slice (.slice tI)) a1.2), (43, aI (List.length a1.2 : Int)), (44, aI i59)]) (L' := []) (obs := [Idx a1.2 i59 v62]) (by kernel_rfl) (by kernel_rfl) (by kernel_rfl) (allP1 (Idx.of h63)) ?_
                refine seqQ_norm ?_
                refine W_seq (by kernel_rfl) ?_
                refine W_region (by kernel_rfl) ?_
                refine WO_run (j := 2) (k := 2) (orcs := []) (kF := [0, 2, 42, 43, 44, 48, 49]) (kL := []) (fr' := [(0, aI a0), (2, aD (.slice tI) a2), (42, aD (.slice (.slice tI)) a1.2), (43, aI (List.length a1.2 : Int)), (44, aI i59), (48, aI a0), (49, aD (.slice tI) v62)]) (L' := []) (obs := []) rfl (by kernel_rfl) allP0 ?_
                obtain ⟨r65, h66, h⟩ := bind_of h
                refine WO_call0 (us := [none, none]) (d := 50) (p := True) (j := 3) rfl ⟨by kernel_rfl, by kernel_rfl, by kernel_rfl⟩ trivial (ref_Inside_ok h66) (by kernel_rfl) ?_
                refine WO_run (j := 4) (k := 1) (orcs := []) (kF := [0, 2, 42, 43, 44, 51]) (kL := []) (fr' := [(0, aI a0), (2, aD (.slice tI) a2), (42, aD (.slice (.slice tI)) a1.2), (43, aI (List.length a1.2 : Int)), (44, aI i59), (51, aB (!r65))]) (L' := []) (obs := []) rfl (by kernel_rfl) allP0 ?_
                refine WO_fin [0, 2, 42, 43, 44, 51] [] (fr' := [(0, aI a0), (2, aD (.slice tI) a2), (42, aD (.slice (.slice tI)) a1.2), (43, aI (List.length a1.2 : Int)), (44, aI i59), (51, aB (!r65))]) (L' := []) (by kernel_rfl) (by kernel_rfl) ?_
                refine seqQ_norm ?_
                refine W_cond (o := .tmp 51) (b := !r65) (by kernel_rfl) (by kernel_rfl) (fun h67 => ?_) (fun h67 => ?_)
                · replace h := ofT h67 h
                  refine W_seq (by kernel_rfl) ?_
                  refine W_run 1 [] [6] [] (fr' := [(6, aI (2 : Int))]) (L' := []) (obs := []) (by kernel_rfl) (by kernel_rfl) (by kernel_rfl) allP0 ?_
                  refine seqQ_norm ?_
                  obtain rfl := Option.some.inj h
                  refine W_ret [6] [] (fr' := [(6, aI (2 : Int))]) (L' := []) (by kernel_rfl) (by kernel_rfl) ?_
                  refine blockQ_ret ?_
                  refine seqQ_ret ?_
                  refine round_ret ?_
                  refine escQ_ret ?_
                  exact exQ_mk (by kernel_rfl) (by kernel_rfl)
                · replace h := ofF h67 h
                  refine W_skip [0, 2, 42, 43, 44] [] (fr' := [(0, aI a0), (2, aD (.slice tI) a2), (42, aD (.slice (.slice tI)) a1.2), (43, aI (List.length a1.2 : Int)), (44, aI i59)]) (L' := []) (by kernel_rfl) (by kernel_rfl) ?_
                  refine blockQ_norm ?_
                  refine seqQ_norm ?_
                  obtain rfl := Option.some.inj h
                  refine W_run 2 [] [0, 2, 42, 43, 44] [] (fr' := [(0, aI a0), (2, aD (.slice tI) a2), (42, aD (.slice (.slice tI)) a1.2), (43, aI (List.length a1.2 : Int)), (44, aI (w64 (i59 + (1 : Int))))]) (L' := []) (obs := []) (by kernel_rfl) (by kernel_rfl) (by kernel_rfl) allP0 ?_
                  exact round_next' (by kernel_rfl) (by kernel_rfl)
              · obtain rfl := stepL_false h64 h
                refine W_exit (id := 2) [0, 2] [] (fr' := [(0, aI a0), (2, aD (.slice tI) a2)]) (L' := []) (by kernel_rfl) (by kernel_rfl) ?_
                refine seqQ_exit ?_
                refine round_exit ?_
                refine escQ_brk ?_
                exact exQ_mk (by kernel_rfl) (by kernel_rfl)
            · intro e fr L hJ
              rcases v69 with v74 | v75
              · obtain ⟨rfl, rfl, rfl⟩ := hJ
                obtain rfl := Option.some.inj h
                refine LT_keep [6] [] (fr' := [(6, aI v74)]) (L' := []) (by kernel_rfl) ?_
                refine blockQ_ret ?_
                refine seqQ_ret ?_
                exact retQ_mk (by kernel_rfl) (by kernel_rfl) (by kernel_rfl)
              · obtain ⟨rfl, rfl, rfl⟩ := hJ
                refine LT_keep [0, 2] [] (fr' := [(0, aI a0), (2, aD (.slice tI) a2)]) (L' := []) (by kernel_rfl) ?_
                refine blockQ_hit ?_
                refine seqQ_norm ?_
                refine W_seq (by kernel_rfl) ?_
                refine W_seq (by kernel_rfl) ?_
                refine W_region (by kernel_rfl) ?_
                refine WO_run (j := 2) (k := 2) (orcs := []) (kF := [53, 54]) (kL := []) (fr' := [(53, aI a0), (54, aD (.slice tI) a2)]) (L' := []) (obs := []) rfl (by kernel_rfl) allP0 ?_
                obtain ⟨r76, h77, h⟩ := bind_of h
                refine WO_call0 (us := [none, none]) (d := 55) (p := True) (j := 3) rfl ⟨by kernel_rfl, by kernel_rfl, by kernel_rfl⟩ trivial (ref_Inside_ok h77) (by kernel_rfl) ?_
                refine WO_run (j := 4) (k := 1) (orcs := []) (kF := [56]) (kL := []) (fr' := [(56, aB (!r76))]) (L' := []) (obs := []) rfl (by kernel_rfl) allP0 ?_
                refine WO_fin [56] [] (fr' := [(56, aB (!r76))]) (L' := []) (by kernel_rfl) (by kernel_rfl) ?_
                refine seqQ_norm ?_
                refine W_cond (o := .tmp 56) (b := !r76) (by kernel_rfl) (by kernel_rfl) (fun h78 => ?_) (fun h78 => ?_)
                · replace h := ofT h78 h
                  refine W_seq (by kernel_rfl) ?_
                  refine W_run 1 [] [6] [] (fr' := [(6, aI (2 : Int))]) (L' := []) (obs := []) (by kernel_rfl) (by kernel_rfl) (by kernel_rfl) allP0 ?_
                  refine seqQ_norm ?_
                  obtain rfl := Option.some.inj h
                  refine W_ret [6] [] (fr' := [(6, aI (2 : Int))]) (L' := []) (by kernel_rfl) (by kernel_rfl) ?_
                  refine seqQ_ret ?_
                  exact retQ_mk (by kernel_rfl) (by kernel_rfl) (by kernel_rfl)
                · replace h := ofF h78 h
                  refine W_skip [] [] (fr' := []) (L' := []) (by kernel_rfl) (by kernel_rfl) ?_
                  refine seqQ_norm ?_
                  refine W_seq (by kernel_rfl) ?_
                  refine W_run 1 [] [6] [] (fr' := [(6, aI (0 : Int))]) (L' := []) (obs := []) (by kernel_rfl) (by kernel_rfl) (by kernel_rfl) allP0 ?_
                  refine seqQ_norm ?_
                  obtain rfl := Option.some.inj h
                  refine W_ret [6] [] (fr' := [(6, aI (0 : Int))]) (L' := []) (by kernel_rfl) (by kernel_rfl) ?_
                  exact retQ_mk (by kernel_rfl) (by kernel_rfl) (by kernel_rfl)

def ref_Tagged (a0 : (Int × (List (List Int)))) (a1 : (List Int)) : Option (List Int) :=
(ck (0 ≤ a0.1 ∧ a0.1 ≤ (List.length a1 : Int) ∧ (List.length a1 : Int) ≤ (List.length a1 : Int))).bind fun _ =>
(ck ((0 : Int) + (List.length (sub a1 a0.1 (List.length a1 : Int)) : Int) ≤ 4294967296)).bind fun _ =>
(idx a1 (0 : Int)).bind fun v5 =>
(idx a0.2 v5).bind fun v7 =>
(ck ((List.length ([] ++ (sub a1 a0.1 (List.length a1 : Int))) : Int) + (List.length v7 : Int) ≤ 4294967296)).bind fun _ =>
some (([] ++ (sub a1 a0.1 (List.length a1 : Int))) ++ v7)
theorem ref_Tagged_ok {a0 : (Int × (List (List Int)))} {a1 : (List Int)} {r : (List Int)} (h : ref_Tagged a0 a1 = some r) : FnC Try.prog 46 [aD (.pair tI (.slice (.slice tI))) a0, aD (.slice tI) a1] [] (aD (.slice tI) r) [] := by
  refine fnC_of_W (B := bodyOf Try.f46) (n := 19) Try.func46 (by kernel_rfl) (by kernel_rfl) (by kernel_rfl) (by kernel_rfl) (by kernel_rfl) ?_
  intro K
  refine W_seq (by kernel_rfl) ?_
  refine W_run 2 [] [1, 2] [2] (fr' := [(1, aD (.slice tI) a1), (2, .one (.ptr 2 0))]) (L' := [(2, .one (.pair tI (.slice (.slice tI))) a0)]) (obs := []) (by kernel_rfl) (by kernel_rfl) (by kernel_rfl) allP0 ?_
  refine seqQ_norm ?_
  refine W_seq (by kernel_rfl) ?_
  obtain ⟨_, h3, h⟩ := bind_of h
  replace h3 := ck_some h3
  obtain ⟨_, h4, h⟩ := bind_of h
  replace h4 := ck_some h4
  obtain ⟨v5, h6, h⟩ := bind_of h
  obtain ⟨v7, h8, h⟩ := bind_of h
  refine W_drawC5 13 [(0, [5], [(5, .seq tI [])]), (5, [5], [(5, .seq tI ([] ++ (sub a1 a0.1 (List.length a1 : Int))))])] [] [(0, .one (.slc 5)), (5, .one (.slc 5))] [(19, .val (.dat tI v5)), (23, .val (.dat (.slice tI) v7))] [] [10, 17] [2, 5] (out := [(5, .one (.slc 5)), (6, aD (.slice tI) a1), (7, .one (.ptr 2 0)), (8, aI a0.1), (9, aD (.slice tI) (sub a1 a0.1 (List.length a1 : Int))), (10, .one (.slc 5)), (11, .one (.ptr 2 1)), (12, aD (.slice (.slice tI)) a0.2), (13, aD (.slice tI) a1), (14, .one (.dptr tI v5)), (15, aI v5), (16, .one (.dptr (.slice tI) v7)), (17, aD (.slice tI) v7)]) (obs := [Cuts a0.1 (List.length a1 : Int) (List.length a1), Idx a1 (0 : Int) v5, Idx a0.2 v5 v7]) (calls := []) (fr' := [(10, .one (.slc 5)), (17, aD (.slice tI) v7)]) (L' := [(2, .one (.pair tI (.slice (.slice tI))) a0), (5, .seq tI ([] ++ (sub a1 a0.1 (List.length a1 : Int))))]) (by kernel_rfl) (by kernel_rfl) (by kernel_rfl) (by kernel_rfl) (by kernel_rfl) (allP2 h3 (allP2 (Idx.of h6) (allP1 (Idx.of h8)))) allD0 (chDo (ty := false) (d := 5) (nm := 5) (ob := .seq tI []) (av := .one (.slc 5)) (p := True) (by kernel_rfl) trivial (by kernel_rfl) (chDo (ty := false) (d := 10) (nm := 5) (ob := .seq tI ([] ++ (sub a1 a0.1 (List.length a1 : Int)))) (av := .one (.slc 5)) (p := SmallLen (List.length ([] : (List Int)) + List.length (sub a1 a0.1 (List.length a1 : Int)))) (by kernel_rfl) h4 (by kernel_rfl) chNil)) mkNil (by kernel_rfl) ?_
  obtain ⟨_, h9, h⟩ := bind_of h
  replace h9 := ck_some h9
  refine WO_run (j := 15) (k := 2) (orcs := []) (kF := [4]) (kL := [2, 5]) (fr' := [(4, .one (.slc 5))]) (L' := [(2, .one (.pair tI (.slice (.slice tI))) a0), (5, .seq tI (([] ++ (sub a1 a0.1 (List.length a1 : Int))) ++ v7))]) (obs := [SmallLen (List.length ([] ++ (sub a1 a0.1 (List.length a1 : Int))) + List.length v7)]) rfl (by kernel_rfl) (allP1 h9) ?_
  refine WO_fin [4] [5] (fr' := [(4, .one (.slc 5))]) (L' := [(5, .seq tI (([] ++ (sub a1 a0.1 (List.length a1 : Int))) ++ v7))]) (by kernel_rfl) (by kernel_rfl) ?_
  refine ⟨rfl, ?_⟩
  refine seqQ_norm ?_
  obtain rfl := Option.some.inj h
  refine W_frz 5 (by kernel_rfl) ?_
  refine W_ret [4] [] (fr' := [(4, aD (.slice tI) (([] ++ (sub a1 a0.1 (List.length a1 : Int))) ++ v7))]) (L' := []) (by kernel_rfl) (by kernel_rfl) ?_
  exact retQ_mk (by kernel_rfl) (by kernel_rfl) (by kernel_rfl)

def ref_Ints_b1 (a1 : (List Int)) (i16 : Int) (v19 : Int) (x17 : Unit) : Option (Flow Unit (Esc Bool Unit)) :=
(idx a1 i16).bind fun v22 =>
bif v19 != v22 then
(some (.done (.ret false)))
else
(some (.next ()))
@[reducible] def ref_Ints_s2 (a0 : (List Int)) (a1 : (List Int)) (v : Int × Unit) : Fr × LL := ([(0, aD (.slice tI) a0), (1, aD (.slice tI) a1), (5, aI v.1)], [])
@[reducible] def ref_Ints_s3 (v : Bool) : Fr × LL := ([(4, aB v)], [])
@[reducible] def ref_Ints_s4 (v : Unit) : Fr × LL := ([], [])
def ref_Ints (a0 : (List Int)) (a1 : (List Int)) : Option Bool :=
bif (List.length a0 : Int) != (List.length a1 : Int) then
(some false)
else
((forL (ref_Ints_b1 a1) (fun x17 => (.brk ())) a0 0 ()).bind fun v26 =>
match v26 with
| .ret v31 =>
(some v31)
| .brk v32 =>
(some true))
theorem ref_Ints_ok {a0 : (List Int)} {a1 : (List Int)} {r : Bool} (h : ref_Ints a0 a1 = some r) : FnC Try.prog 43 [aD (.slice tI) a0, aD (.slice tI) a1] [] (aB r) [] := by
  refine fnC_of_W (B := bodyOf Try.f43) (n := 26) Try.func43 (by kernel_rfl) (by kernel_rfl) (by kernel_rfl) (by kernel_rfl) (by kernel_rfl) ?_
  intro K
  refine W_seq (by kernel_rfl) ?_
  refine W_run 1 [] [0, 1] [] (fr' := [(0, aD (.slice tI) a0), (1, aD (.slice tI) a1)]) (L' := []) (obs := []) (by kernel_rfl) (by kernel_rfl) (by kernel_rfl) allP0 ?_
  refine seqQ_norm ?_
  refine W_seq (by kernel_rfl) ?_
  refine W_seq (by kernel_rfl) ?_
  refine W_run 5 [] [0, 1, 10] [] (fr' := [(0, aD (.slice tI) a0), (1, aD (.slice tI) a1), (10, aB ((List.length a0 : Int) != (List.length a1 : Int)))]) (L' := []) (obs := []) (by kernel_rfl) (by kernel_rfl) (by kernel_rfl) allP0 ?_
  refine seqQ_norm ?_
  refine W_cond (o := .tmp 10) (b := (List.length a0 : Int) != (List.length a1 : Int)) (by kernel_rfl) (by kernel_rfl) (fun h1 => ?_) (fun h1 => ?_)
  · replace h := ofT h1 h
    refine W_seq (by kernel_rfl) ?_
    refine W_run 1 [] [4] [] (fr' := [(4, aB false)]) (L' := []) (obs := []) (by kernel_rfl) (by kernel_rfl) (by kernel_rfl) allP0 ?_
    refine seqQ_norm ?_
    obtain rfl := Option.some.inj h
    refine W_ret [4] [] (fr' := [(4, aB false)]) (L' := []) (by kernel_rfl) (by kernel_rfl) ?_
    refine seqQ_ret ?_
    exact retQ_mk (by kernel_rfl) (by kernel_rfl) (by kernel_rfl)
  · replace h := ofF h1 h
    refine W_skip [0, 1] [] (fr' := [(0, aD (.slice tI) a0), (1, aD (.slice tI) a1)]) (L' := []) (by kernel_rfl) (by kernel_rfl) ?_
    refine seqQ_norm ?_
    refine W_seq (by kernel_rfl) ?_
    refine W_seq (by kernel_rfl) ?_
    refine W_run 1 [] [0, 1, 5] [] (fr' := [(0, aD (.slice tI) a0), (1, aD (.slice tI) a1), (5, aI (0 : Int))]) (L' := []) (obs := []) (by kernel_rfl) (by kernel_rfl) (by kernel_rfl) allP0 ?_
    refine seqQ_norm ?_
    refine W_block (id := 0) (by kernel_rfl) ?_
    obtain ⟨v26, h27, h⟩ := bind_of h
    refine W_len (t := 0) (u := tI) (xs := a0) (by kernel_rfl) (fun h30 => ?_)
    obtain ⟨h28, h29⟩ := forL_iter h30 h27
    refine W_weaken [0, 1, 5] [] (fr' := ((ref_Ints_s2 a0 a1) ((0 : Int), ())).1) (L' := ((ref_Ints_s2 a0 a1) ((0 : Int), ())).2) (by kernel_rfl) ?_
    refine W_cutK (W_loop (S := (ref_Ints_s2 a0 a1)) (J := (escQ (exQ .ret ref_Ints_s3) (exQ (.exit 0) ref_Ints_s4))) (by kernel_rfl) ?_ h28 _ v26 h29) ?_
    · rintro ⟨i16, x17⟩ s h
      refine W_seq (by kernel_rfl) ?_
      refine W_seq (by kernel_rfl) ?_
      refine W_run 4 [] [0, 1, 5, 14] [] (fr' := [(0, aD (.slice tI) a0), (1, aD (.slice tI) a1), (5, aI i16), (14, aB (decide (i16 < (List.length a0 : Int))))]) (L' := []) (obs := []) (by kernel_rfl) (by kernel_rfl) (by kernel_rfl) allP0 ?_
      refine seqQ_norm ?_
      refine W_cond (o := .tmp 14) (b := decide (i16 < (List.length a0 : Int))) (by kernel_rfl) (by kernel_rfl) (fun h21 => ?_) (fun h21 => ?_)
      · replace h := stepL_true h21 h
        obtain ⟨v19, _, h20, h, rfl⟩ := h
        refine W_skip [0, 1, 5] [] (fr' := [(0, aD (.slice tI) a0), (1, aD (.slice tI) a1), (5, aI i16)]) (L' := []) (by kernel_rfl) (by kernel_rfl) ?_
        refine seqQ_norm ?_
        refine W_seq (by kernel_rfl) ?_
        refine W_block (id := 1) (by kernel_rfl) ?_
        refine W_seq (by kernel_rfl) ?_
        obtain ⟨v22, h23, h⟩ := bind_of h
        refine W_draw2 9 [(5, .val (.dat tI v19)), (13, .val (.dat tI v22))] [] [0, 1, 5, 25] [] (fr' := [(0, aD (.slice tI) a0), (1, aD (.slice tI) a1), (5, aI i16), (25, aB (v19 != v22))]) (L' := []) (out := [(17, aD (.slice tI) a0), (18, aI i16), (19, .one (.dptr tI v19)), (20, aI v19), (21, aD (.slice tI) a1), (22, aI i16), (23, .one (.dptr tI v22)), (24, aI v22), (25, aB (v19 != v22))]) (obs := [Idx a0 i16 v19, Idx a1 i16 v22]) (obs2 := []) (calls := []) (by kernel_rfl) (by kernel_rfl) (by kernel_rfl) (by kernel_rfl) (allP2 (Idx.of h20) (allP1 (Idx.of h23))) allC0 (by kernel_rfl) allP0 ?_
        refine seqQ_norm ?_
        refine W_cond (o := .tmp 25) (b := v19 != v22) (by kernel_rfl) (by kernel_rfl) (fun h24 => ?_) (fun h24 => ?_)
        · replace h := ofT h24 h
          refine W_seq (by kernel_rfl) ?_
          refine W_run 1 [] [4] [] (fr' := [(4, aB false)]) (L' := []) (obs := []) (by kernel_rfl) (by kernel_rfl) (by kernel_rfl) allP0 ?_
          refine seqQ_norm ?_
          obtain rfl := Option.some.inj h
          refine W_ret [4] [] (fr' := [(4, aB false)]) (L' := []) (by kernel_rfl) (by kernel_rfl) ?_
          refine blockQ_ret ?_
          refine seqQ_ret ?_
          refine round_ret ?_
          refine escQ_ret ?_
          exact exQ_mk (by kernel_rfl) (by kernel_rfl)
        · replace h := ofF h24 h
          refine W_skip [0, 1, 5] [] (fr' := [(0, aD (.slice tI) a0), (1, aD (.slice tI) a1), (5, aI i16)]) (L' := []) (by kernel_rfl) (by kernel_rfl) ?_
          refine blockQ_norm ?_
          refine seqQ_norm ?_
          obtain rfl := Option.some.inj h
          refine W_run 3 [] [0, 1, 5] [] (fr' := [(0, aD (.slice tI) a0), (1, aD (.slice tI) a1), (5, aI (w64 (i16 + (1 : Int))))]) (L' := []) (obs := []) (by kernel_rfl) (by kernel_rfl) (by kernel_rfl) allP0 ?_
          exact round_next' (by kernel_rfl) (by kernel_rfl)
      · obtain rfl := stepL_false h21 h
        refine W_exit (id := 0) [] [] (fr' := []) (L' := []) (by kernel_rfl) (by kernel_rfl) ?_
        refine seqQ_exit ?_
        refine round_exit ?_
        refine escQ_brk ?_
        exact exQ_mk (by kernel_rfl) (by kernel_rfl)
    · intro e fr L hJ
      rcases v26 with v31 | v32
      · obtain ⟨rfl, rfl, rfl⟩ := hJ
        obtain rfl := Option.some.inj h
        refine LT_keep [4] [] (fr' := [(4, aB v31)]) (L' := []) (by kernel_rfl) ?_
        refine blockQ_ret ?_
        refine seqQ_ret ?_
        exact retQ_mk (by kernel_rfl) (by kernel_rfl) (by kernel_rfl)
      · obtain ⟨rfl, rfl, rfl⟩ := hJ
        refine LT_keep [] [] (fr' := []) (L' := []) (by kernel_rfl) ?_
        refine blockQ_hit ?_
        refine seqQ_norm ?_
        refine W_seq (by kernel_rfl) ?_
        refine W_run 1 [] [4] [] (fr' := [(4, aB true)]) (L' := []) (obs := []) (by kernel_rfl) (by kernel_rfl) (by kernel_rfl) allP0 ?_
        refine seqQ_norm ?_
        obtain rfl := Option.some.inj h
        refine W_ret [4] [] (fr' := [(4, aB true)]) (L' := []) (by kernel_rfl) (by kernel_rfl) ?_
        exact retQ_mk (by kernel_rfl) (by kernel_rfl) (by kernel_rfl)

def law_TagRounds_b8 (r1 : (Int × Int × Int)) (x19 : ((List Int) × Int × (List (List Int)))) (i73 : Int) (v76 : (List Int)) (x74 : Unit) : Option (Flow Unit (Esc Bool Unit)) :=
(ref_Ints v76 x19.1).bind fun r79 =>
bif r79 then
(some (.done (.ret (((r1.2.2 == (0 : Int)) && (r1.1 == x19.2.1)) && (r1.2.1 == (w64 (x19.2.1 - i73)))))))
else
(some (.next ()))
@[reducible] def law_TagRounds_s9 (a1 : (Int × (List (List Int)))) (r1 : (Int × Int × Int)) (x19 : ((List Int) × Int × (List (List Int)))) (v : Int × Unit) : Fr × LL := ([(4, .one (.ptr 4 0)), (7, aI r1.1), (8, aI r1.2.1), (9, aI r1.2.2), (11, .one (.slc 102)), (12, aD (.slice tI) x19.1), (13, aI x19.2.1), (14, aI v.1)], [(4, .one (.pair tI (.slice (.slice tI))) a1), (102, .seq (.slice tI) x19.2.2)])
@[reducible] def law_TagRounds_s10 (v : Bool) : Fr × LL := ([(6, aB v)], [])
@[reducible] def law_TagRounds_s11 (a1 : (Int × (List (List Int)))) (r1 : (Int × Int × Int)) (x19 : ((List Int) × Int × (List (List Int)))) (v : Unit) : Fr × LL := ([(4, .one (.ptr 4 0)), (7, aI r1.1), (8, aI r1.2.1), (9, aI r1.2.2), (11, .one (.slc 102)), (12, aD (.slice tI) x19.1), (13, aI x19.2.1)], [(4, .one (.pair tI (.slice (.slice tI))) a1), (102, .seq (.slice tI) x19.2.2)])
def law_TagRounds_b12 (a1 : (Int × (List (List Int)))) (r1 : (Int × Int × Int)) (x19 : ((List Int) × Int × (List (List Int)))) : Option (Flow ((List Int) × Int × (List (List Int))) (Esc Bool Unit)) :=
bif decide (x19.2.1 ≤ (400 : Int)) then
(bif decide ((List.length x19.1 : Int) > (40 : Int)) then
(some (.done (.ret (((r1.2.2 == (7 : Int)) && (r1.1 == (0 : Int))) && (r1.2.1 == (0 : Int))))))
else
((forL (law_TagRounds_b8 r1 x19) (fun x74 => (.brk ())) x19.2.2 0 ()).bind fun v83 =>
match v83 with
| .ret v88 =>
(some (.done (.ret v88)))
| .brk v89 =>
(bif decide ((List.length x19.1 : Int) < a1.1) then
(some (.done (.ret (((r1.2.2 == (5 : Int)) && (r1.1 == (0 : Int))) && (r1.2.1 == (0 : Int))))))
else
((ck ((List.length x19.2.2 : Int) + 1 ≤ 4294967296)).bind fun _ =>
(ref_Tagged a1 x19.1).bind fun r92 =>
some (.next (r92, w64 (x19.2.1 + (1 : Int)), x19.2.2 ++ [x19.1]))))))
else
(some (.done (.brk ())))
@[reducible] def law_TagRounds_s13 (a1 : (Int × (List (List Int)))) (r1 : (Int × Int × Int)) (v : ((List Int) × Int × (List (List Int)))) : Fr × LL := ([(4, .one (.ptr 4 0)), (7, aI r1.1), (8, aI r1.2.1), (9, aI r1.2.2), (11, .one (.slc 102)), (12, aD (.slice tI) v.1), (13, aI v.2.1)], [(4, .one (.pair tI (.slice (.slice tI))) a1), (102, .seq (.slice tI) v.2.2)])
@[reducible] def law_TagRounds_s14 (v : Bool) : Fr × LL := ([(6, aB v)], [])
@[reducible] def law_TagRounds_s15 (r1 : (Int × Int × Int)) (v : Unit) : Fr × LL := ([(7, aI r1.1), (8, aI r1.2.1), (9, aI r1.2.2)], [])
def law_TagRounds (fuel : Nat) (a0 : Int) (a1 : (Int × (List (List Int)))) (a2 : (List Int)) : Option Bool :=
(tag_Round fuel a0 a1 a2).bind fun r1 =>
(ref_TagCheck a0 a1 a2).bind fun r3 =>
bif r3 != (0 : Int) then
(some (((r1.2.2 == r3) && (r1.1 == (0 : Int))) && (r1.2.1 == (0 : Int))))
else
((iter (law_TagRounds_b12 a1 r1) fuel (a2, (0 : Int), [])).bind fun v94 =>
match v94 with
| .ret v98 =>
(some v98)
| .brk v99 =>
(some (((r1.2.2 == (7 : Int)) && (r1.1 == (0 : Int))) && (r1.2.1 == (0 : Int)))))
theorem law_TagRounds_ok {fuel : Nat} {a0 : Int} {a1 : (Int × (List (List Int)))} {a2 : (List Int)} {r : Bool} (h : law_TagRounds fuel a0 a1 a2 = some r) : FnC Try.prog 14 [aI a0, aD (.pair tI (.slice (.slice tI))) a1, aD (.slice tI) a2] [] (aB r) [] := by
  refine fnC_of_W (B := bodyOf Try.f14) (n := 116) Try.func14 (by kernel_rfl) (by kernel_rfl) (by kernel_rfl) (by kernel_rfl) (by kernel_rfl) ?_
  intro K
  refine W_seq (by kernel_rfl) ?_
  refine W_run 2 [] [0, 2, 4] [4] (fr' := [(0, aI a0), (2, aD (.slice tI) a2), (4, .one (.ptr 4 0))]) (L' := [(4, .one (.pair tI (.slice (.slice tI))) a1)]) (obs := []) (by kernel_rfl) (by kernel_rfl) (by kernel_rfl) allP0 ?_
  refine seqQ_norm ?_
  refine W_seq (by kernel_rfl) ?_
  refine W_region (by kernel_rfl) ?_
  refine WO_run (j := 3) (k := 3) (orcs := []) (kF := [0, 2, 4, 16, 17, 18]) (kL := [4]) (fr' := [(0, aI a0), (2, aD (.slice tI) a2), (4, .one (.ptr 4 0)), (16, aI a0), (17, aD (.pair tI (.slice (.slice tI))) a1), (18, aD (.slice tI) a2)]) (L' := [(4, .one (.pair tI (.slice (.slice tI))) a1)]) (obs := []) rfl (by kernel_rfl) allP0 ?_
  obtain ⟨r1, h2, h⟩ := bind_of h
  refine WO_call0 (us := [none, none, none]) (d := 19) (p := True) (j := 4) rfl ⟨by kernel_rfl, by kernel_rfl, by kernel_rfl⟩ trivial (tag_Round_ok h2) (by kernel_rfl) ?_
  refine WO_run (j := 11) (k := 7) (orcs := []) (kF := [0, 2, 4, 7, 8, 9]) (kL := [4]) (fr' := [(0, aI a0), (2, aD (.slice tI) a2), (4, .one (.ptr 4 0)), (7, aI r1.1), (8, aI r1.2.1), (9, aI r1.2.2)]) (L' := [(4, .one (.pair tI (.slice (.slice tI))) a1)]) (obs := []) rfl (by kernel_rfl) allP0 ?_
  refine WO_fin [0, 2, 4, 7, 8, 9] [4] (fr' := [(0, aI a0), (2, aD (.slice tI) a2), (4, .one (.ptr 4 0)), (7, aI r1.1), (8, aI r1.2.1), (9, aI r1.2.2)]) (L' := [(4, .one (.pair tI (.slice (.slice tI))) a1)]) (by kernel_rfl) (by kernel_rfl) ?_
  refine seqQ_norm ?_
  refine W_seq (by kernel_rfl) ?_
  refine W_region (by kernel_rfl) ?_
  refine WO_run (j := 3) (k := 3) (orcs := []) (kF := [2, 4, 7, 8, 9, 23, 24, 25]) (kL := [4]) (fr' := [(2, aD (.slice tI) a2), (4, .one (.ptr 4 0)), (7, aI r1.1), (8, aI r1.2.1), (9, aI r1.2.2), (23, aI a0), (24, aD (.pair tI (.slice (.slice tI))) a1), (25, aD (.slice tI) a2)]) (L' := [(4, .one (.pair tI (.slice (.slice tI))) a1)]) (obs := []) rfl (by kernel_rfl) allP0 ?_
  obtain ⟨r3, h4, h⟩ := bind_of h
  refine WO_call0 (us := [none, none, none]) (d := 26) (p := True) (j := 4) rfl ⟨by kernel_rfl, by kernel_rfl, by kernel_rfl⟩ trivial (ref_TagCheck_ok h4) (by kernel_rfl) ?_
  refine WO_run (j := 5) (k := 1) (orcs := []) (kF := [2, 4, 7, 8, 9, 10]) (kL := [4]) (fr' := [(2, aD (.slice tI) a2), (4, .one (.ptr 4 0)), (7, aI r1.1), (8, aI r1.2.1), (9, aI r1.2.2), (10, aI r3)]) (L' := [(4, .one (.pair tI (.slice (.slice tI))) a1)]) (obs := []) rfl (by kernel_rfl) allP0 ?_
  refine WO_fin [2, 4, 7, 8, 9, 10] [4] (fr' := [(2, aD (.slice tI) a2), (4, .one (.ptr 4 0)), (7, aI r1.1), (8, aI r1.2.1), (9, aI r1.2.2), (10, aI r3)]) (L' := [(4, .one (.pair tI (.slice (.slice tI))) a1)]) (by kernel_rfl) (by kernel_rfl) ?_
  refine seqQ_norm ?_
  refine W_seq (by kernel_rfl) ?_
  refine W_seq (by kernel_rfl) ?_
  refine W_run 2 [] [2, 4, 7, 8, 9, 10, 28] [4] (fr' := [(2, aD (.slice tI) a2), (4, .one (.ptr 4 0)), (7, aI r1.1), (8, aI r1.2.1), (9, aI r1.2.2), (10, aI r3), (28, aB (r3 != (0 : Int)))]) (L' := [(4, .one (.pair tI (.slice (.slice tI))) a1)]) (obs := []) (by kernel_rfl) (by kernel_rfl) (by kernel_rfl) allP0 ?_
  refine seqQ_norm ?_
  refine W_cond (o := .tmp 28) (b := r3 != (0 : Int)) (by kernel_rfl) (by kernel_rfl) (fun h5 => ?_) (fun h5 => ?_)
  · replace h := ofT h5 h
    refine W_seq (by kernel_rfl) ?_
    refine W_run 12 [] [6] [] (fr' := [(6, aB (((r1.2.2 == r3) && (r1.1 == (0 : Int))) && (r1.2.1 == (0 : Int))))]) (L' := []) (obs := []) (by kernel_rfl) (by kernel_rfl) (by kernel_rfl) allP0 ?_
    refine seqQ_norm ?_
    obtain rfl := Option.some.inj h
    refine W_ret [6] [] (fr' := [(6, aB (((r1.2.2 == r3) && (r1.1 == (0 : Int))) && (r1.2.1 == (0 : Int))))]) (L' := []) (by kernel_rfl) (by kernel_rfl) ?_
    refine seqQ_ret ?_
    exact retQ_mk (by kernel_rfl) (by kernel_rfl) (by kernel_rfl)
  · replace h := ofF h5 h
    refine W_skip [2, 4, 7, 8, 9] [4] (fr' := [(2, aD (.slice tI) a2), (4, .one (.ptr 4 0)), (7, aI r1.1), (8, aI r1.2.1), (9, aI r1.2.2)]) (L' := [(4, .one (.pair tI (.slice (.slice tI))) a1)]) (by kernel_rfl) (by kernel_rfl) ?_
    refine seqQ_norm ?_
    refine W_seq (by kernel_rfl) ?_
    refine W_run 1 [] [2, 4, 7, 8, 9, 11] [4] (fr' := [(2, aD (.slice tI) a2), (4, .one (.ptr 4 0)), (7, aI r1.1), (8, aI r1.2.1), (9, aI r1.2.2), (11, .one (.nilS))]) (L' := [(4, .one (.pair tI (.slice (.slice tI))) a1)]) (obs := []) (by kernel_rfl) (by kernel_rfl) (by kernel_rfl) allP0 ?_
    refine seqQ_norm ?_
    refine W_seq (by kernel_rfl) ?_
    refine W_run 2 [] [4, 7, 8, 9, 11, 12] [4] (fr' := [(4, .one (.ptr 4 0)), (7, aI r1.1), (8, aI r1.2.1), (9, aI r1.2.2), (11, .one (.nilS)), (12, aD (.slice tI) a2)]) (L' := [(4, .one (.pair tI (.slice (.slice tI))) a1)]) (obs := []) (by kernel_rfl) (by kernel_rfl) (by kernel_rfl) allP0 ?_
    refine seqQ_norm ?_
    refine W_seq (by kernel_rfl) ?_
    refine W_seq (by kernel_rfl) ?_
    refine W_run 1 [] [4, 7, 8, 9, 11, 12, 13] [4] (fr' := [(4, .one (.ptr 4 0)), (7, aI r1.1), (8, aI r1.2.1), (9, aI r1.2.2), (11, .one (.nilS)), (12, aD (.slice tI) a2), (13, aI (0 : Int))]) (L' := [(4, .one (.pair tI (.slice (.slice tI))) a1)]) (obs := []) (by kernel_rfl) (by kernel_rfl) (by kernel_rfl) allP0 ?_
    refine seqQ_norm ?_
    refine W_block (id := 0) (by kernel_rfl) ?_
    obtain ⟨v94, h95, h⟩ := bind_of h
    refine W_mine 11 102 (.slice tI) (by kernel_rfl) ?_
    refine W_weaken [4, 7, 8, 9, 11, 12, 13] [4, 102] (fr' := ((law_TagRounds_s13 a1 r1) (a2, (0 : Int), [])).1) (L' := ((law_TagRounds_s13 a1 r1) (a2, (0 : Int), [])).2) (by kernel_rfl) ?_
    refine W_cutK (W_loop (S := (law_TagRounds_s13 a1 r1)) (J := (escQ (exQ .ret law_TagRounds_s14) (exQ (.exit 0) (law_TagRounds_s15 r1)))) (by kernel_rfl) ?_ fuel _ v94 h95) ?_
    · rintro x19 s h
      refine W_seq (by kernel_rfl) ?_
      refine W_seq (by kernel_rfl) ?_
      refine W_run 2 [] [4, 7, 8, 9, 11, 12, 13, 42] [4, 102] (fr' := [(4, .one (.ptr 4 0)), (7, aI r1.1), (8, aI r1.2.1), (9, aI r1.2.2), (11, .one (.slc 102)), (12, aD (.slice tI) x19.1), (13, aI x19.2.1), (42, aB (decide (x19.2.1 ≤ (400 : Int))))]) (L' := [(4, .one (.pair tI (.slice (.slice tI))) a1), (102, .seq (.slice tI) x19.2.2)]) (obs := []) (by kernel_rfl) (by kernel_rfl) (by kernel_rfl) allP0 ?_
      refine seqQ_norm ?_
      refine W_cond (o := .tmp 42) (b := decide (x19.2.1 ≤ (400 : Int))) (by kernel_rfl) (by kernel_rfl) (fun h57 => ?_) (fun h57 => ?_)
      · replace h := ofT h57 h
        refine W_skip [4, 7, 8, 9, 11, 12, 13] [4, 102] (fr' := [(4, .one (.ptr 4 0)), (7, aI r1.1), (8, aI r1.2.1), (9, aI r1.2.2), (11, .one (.slc 102)), (12, aD (.slice tI) x19.1), (13, aI x19.2.1)]) (L' := [(4, .one (.pair tI (.slice (.slice tI))) a1), (102, .seq (.slice tI) x19.2.2)]) (by kernel_rfl) (by kernel_rfl) ?_
        refine seqQ_norm ?_
        refine W_seq (by kernel_rfl) ?_
        refine W_block (id := 1) (by kernel_rfl) ?_
        refine W_seq (by kernel_rfl) ?_
        refine W_seq (by kernel_rfl) ?_
        refine W_run 3 [] [4, 7, 8, 9, 11, 12, 13, 47] [4, 102] (fr' := [(4, .one (.ptr 4 0)), (7, aI r1.1), (8, aI r1.2.1), (9, aI r1.2.2), (11, .one (.slc 102)), (12, aD (.slice tI) x19.1), (13, aI x19.2.1), (47, aB (decide ((List.length x19.1 : Int) > (40 : Int))))]) (L' := [(4, .one (.pair tI (.slice (.slice tI))) a1), (102, .seq (.slice tI) x19.2.2)]) (obs := []) (by kernel_rfl) (by kernel_rfl) (by kernel_rfl) allP0 ?_
        refine seqQ_norm ?_
        refine W_cond (o := .tmp 47) (b := decide ((List.length x19.1 : Int) > (40 : Int))) (by kernel_rfl) (by kernel_rfl) (fun h58 => ?_) (fun h58 => ?_)
        · replace h := ofT h58 h
          refine W_seq (by kernel_rfl) ?_
          refine W_run 11 [] [6] [] (fr' := [(6, aB (((r1.2.2 == (7 : Int)) && (r1.1 == (0 : Int))) && (r1.2.1 == (0 : Int))))]) (L' := []) (obs := []) (by kernel_rfl) (by kernel_rfl) (by kernel_rfl) allP0 ?_
          refine seqQ_norm ?_
          obtain rfl := Option.some.inj h
          refine W_ret [6] [] (fr' := [(6, aB (((r1.2.2 == (7 : Int)) && (r1.1 == (0 : Int))) && (r1.2.1 == (0 : Int))))]) (L' := []) (by kernel_rfl) (by kernel_rfl) ?_
          refine seqQ_ret ?_
          refine blockQ_ret ?_
          refine seqQ_ret ?_
          refine round_ret ?_
          refine escQ_ret ?_
          exact exQ_mk (by kernel_rfl) (by kernel_rfl)
        · replace h := ofF h58 h
          refine W_skip [4, 7, 8, 9, 11, 12, 13] [4, 102] (fr' := [(4, .one (.ptr 4 0)), (7, aI r1.1), (8, aI r1.2.1), (9, aI r1.2.2), (11, .one (.slc 102)), (12, aD (.slice tI) x19.1), (13, aI x19.2.1)]) (L' := [(4, .one (.pair tI (.slice (.slice tI))) a1), (102, .seq (.slice tI) x19.2.2)]) (by kernel_rfl) (by kernel_rfl) ?_
          refine seqQ_norm ?_
          refine W_seq (by kernel_rfl) ?_
          refine W_seq (by kernel_rfl) ?_
          refine W_run 1 [] [4, 7, 8, 9, 11, 12, 13, 14] [4, 102] (fr' := [(4, .one (.ptr 4 0)), (7, aI r1.1), (8, aI r1.2.1), (9, aI r1.2.2), (11, .one (.slc 102)), (12, aD (.slice tI) x19.1), (13, aI x19.2.1), (14, aI (0 : Int))]) (L' := [(4, .one (.pair tI (.slice (.slice tI))) a1), (102, .seq (.slice tI) x19.2.2)]) (obs := []) (by kernel_rfl) (by kernel_rfl) (by kernel_rfl) allP0 ?_
          refine seqQ_norm ?_
          refine W_block (id := 2) (by kernel_rfl) ?_
          obtain ⟨v83, h84, h⟩ := bind_of h
          refine W_lenS (s := 102) (u := (.slice tI)) (xs := x19.2.2) (by kernel_rfl) (fun h87 => ?_)
          obtain ⟨h85, h86⟩ := forL_iter h87 h84
          refine W_weaken [4, 7, 8, 9, 11, 12, 13, 14] [4, 102] (fr' := ((law_TagRounds_s9 a1 r1 x19) ((0 : Int), ())).1) (L' := ((law_TagRounds_s9 a1 r1 x19) ((0 : Int), ())).2) (by kernel_rfl) ?_
          refine W_cutK (W_loop (S := (law_TagRounds_s9 a1 r1 x19)) (J := (escQ (exQ .ret law_TagRounds_s10) (exQ (.exit 2) (law_TagRounds_s11 a1 r1 x19)))) (by kernel_rfl) ?_ h85 _ v83 h86) ?_
          · rintro ⟨i73, x74⟩ s h
            refine W_seq (by kernel_rfl) ?_
            refine W_seq (by kernel_rfl) ?_
            refine W_run 4 [] [4, 7, 8, 9, 11, 12, 13, 14, 61] [4, 102] (fr' := [(4, .one (.ptr 4 0)), (7, aI r1.1), (8, aI r1.2.1), (9, aI r1.2.2), (11, .one (.slc 102)), (12, aD (.slice tI) x19.1), (13, aI x19.2.1), (14, aI i73), (61, aB (decide (i73 < (List.length x19.2.2 : Int))))]) (L' := [(4, .one (.pair tI (.slice (.slice tI))) a1), (102, .seq (.slice tI) x19.2.2)]) (obs := []) (by kernel_rfl) (by kernel_rfl) (by kernel_rfl) allP0 ?_
            refine seqQ_norm ?_
            refine W_cond (o := .tmp 61) (b := decide (i73 < (List.length x19.2.2 : Int))) (by kernel_rfl) (by kernel_rfl) (fun h78 => ?_) (fun h78 => ?_)
            · replace h := stepL_true h78 h
              obtain ⟨v76, _, h77, h, rfl⟩ := h
              refine W_skip [4, 7, 8, 9, 11, 12, 13, 14] [4, 102] (fr' := [(4, .one (.ptr 4 0)), (7, aI r1.1), (8, aI r1.2.1), (9, aI r1.2.2), (11, .one (.slc 102)), (12, aD (.slice tI) x19.1), (13, aI x19.2.1), (14, aI i73)]) (L' := [(4, .one (.pair tI (.slice (.slice tI))) a1), (102, .seq (.slice tI) x19.2.2)]) (by kernel_rfl) (by kernel_rfl) ?_
              refine seqQ_norm ?_
              refine W_seq (by kernel_rfl) ?_
              refine W_block (id := 3) (by kernel_rfl) ?_
              refine W_seq (by kernel_rfl) ?_
              refine W_region (by kernel_rfl) ?_
              refine WO_run (j := 5) (k := 5) (orcs := [(7, .val (.dat (.slice tI) v76))]) (kF := [4, 7, 8, 9, 11, 12, 13, 14, 67, 68]) (kL := [4, 102]) (fr' := [(4, .one (.ptr 4 0)), (7, aI r1.1), (8, aI r1.2.1), (9, aI r1.2.2), (11, .one (.slc 102)), (12, aD (.slice tI) x19.1), (13, aI x19.2.1), (14, aI i73), (67, aD (.slice tI) v76), (68, aD (.slice tI) x19.1)]) (L' := [(4, .one (.pair tI (.slice (.slice tI))) a1), (102, .seq (.slice tI) x19.2.2)]) (obs := [InR i73 (List.length x19.2.2), Idx x19.2.2 i73 v76]) rfl (by kernel_rfl) (allP2 (InR.of h77) (allP1 (Idx.of h77))) ?_
              obtain ⟨r79, h80, h⟩ := bind_of h
              refine WO_call0 (us := [none, none]) (d := 69) (p := True) (j := 6) rfl ⟨by kernel_rfl, by kernel_rfl, by kernel_rfl⟩ trivial (ref_Ints_ok h80) (by kernel_rfl) ?_
              refine WO_fin [4, 7, 8, 9, 11, 12, 13, 14, 69] [4, 102] (fr' := [(4, .one (.ptr 4 0)), (7, aI r1.1), (8, aI r1.2.1), (9, aI r1.2.2), (11, .one (.slc 102)), (12, aD (.slice tI) x19.1), (13, aI x19.2.1), (14, aI i73), (69, aB r79)]) (L' := [(4, .one (.pair tI (.slice (.slice tI))) a1), (102, .seq (.slice tI) x19.2.2)]) (by kernel_rfl) (by kernel_rfl) ?_
              refine seqQ_norm ?_
              refine W_cond (o := .tmp 69) (b := r79) (by kernel_rfl) (by kernel_rfl) (fun h81 => ?_) (fun h81 => ?_)
              · replace h := ofT h81 h
                refine W_seq (by kernel_rfl) ?_
                refine W_run 15 [] [6] [] (fr' := [(6, aB (((r1.2.2 == (0 : Int)) && (r1.1 == x19.2.1)) && (r1.2.1 == (w64 (x19.2.1 - i73)))))]) (L' := []) (obs := []) (by kernel_rfl) (by kernel_rfl) (by kernel_rfl) allP0 ?_
                refine seqQ_norm ?_
                obtain rfl := Option.some.inj h
                refine W_ret [6] [] (fr' := [(6, aB (((r1.2.2 == (0 : Int)) && (r1.1 == x19.2.1)) && (r1.2.1 == (w64 (x19.2.1 - i73)))))]) (L' := []) (by kernel_rfl) (by kernel_rfl) ?_
                refine blockQ_ret ?_
                refine seqQ_ret ?_
                refine round_ret ?_
                refine escQ_ret ?_
                exact exQ_mk (by kernel_rfl) (by kernel_rfl)
              · replace h := ofF h81 h
                refine W_skip [4, 7, 8, 9, 11, 12, 13, 14] [4, 102] (fr' := [(4, .one (.ptr 4 0)), (7, aI r1.1), (8, aI r1.2.1), (9, aI r1.2.2), (11, .one (.slc 102)), (12, aD (.slice tI) x19.1), (13, aI x19.2.1), (14, aI i73)]) (L' := [(4, .one (.pair tI (.slice (.slice tI))) a1), (102, .seq (.slice tI) x19.2.2)]) (by kernel_rfl) (by kernel_rfl) ?_
                refine blockQ_norm ?_
                refine seqQ_norm ?_
                obtain rfl := Option.some.inj h
                refine W_run 3 [] [4, 7, 8, 9, 11, 12, 13, 14] [4, 102] (fr' := [(4, .one (.ptr 4 0)), (7, aI r1.1), (8, aI r1.2.1), (9, aI r1.2.2), (11, .one (.slc 102)), (12, aD (.slice tI) x19.1), (13, aI x19.2.1), (14, aI (w64 (i73 + (1 : Int))))]) (L' := [(4, .one (.pair tI (.slice (.slice tI))) a1), (102, .seq (.slice tI) x19.2.2)]) (obs := []) (by kernel_rfl) (by kernel_rfl) (by kernel_rfl) allP0 ?_
                exact round_next' (by kernel_rfl) (by kernel_rfl)
            · obtain rfl := stepL_false h78 h
              refine W_exit (id := 2) [4, 7, 8, 9, 11, 12, 13] [4, 102] (fr' := [(4, .one (.ptr 4 0)), (7, aI r1.1), (8, aI r1.2.1), (9, aI r1.2.2), (11, .one (.slc 102)), (12, aD (.slice tI) x19.1), (13, aI x19.2.1)]) (L' := [(4, .one (.pair tI (.slice (.slice tI))) a1), (102, .seq (.slice tI) x19.2.2)]) (by kernel_rfl) (by kernel_rfl) ?_
              refine seqQ_exit ?_
              refine round_exit ?_
              refine escQ_brk ?_
              exact exQ_mk (by kernel_rfl) (by kernel_rfl)
          · intro e fr L hJ
            rcases v83 with v88 | v89
            · obtain ⟨rfl, rfl, rfl⟩ := hJ
              obtain rfl := Option.some.inj h
              refine LT_keep [6] [] (fr' := [(6, aB v88)]) (L' := []) (by kernel_rfl) ?_
              refine blockQ_ret ?_
              refine seqQ_ret ?_
              refine blockQ_ret ?_
              refine seqQ_ret ?_
              refine round_ret ?_
              refine escQ_ret ?_
              exact exQ_mk (by kernel_rfl) (by kernel_rfl)
            · obtain ⟨rfl, rfl, rfl⟩ := hJ
              refine LT_keep [4, 7, 8, 9, 11, 12, 13] [4, 102] (fr' := [(4, .one (.ptr 4 0)), (7, aI r1.1), (8, aI r1.2.1), (9, aI r1.2.2), (11, .one (.slc 102)), (12, aD (.slice tI) x19.1), (13, aI x19.2.1)]) (L' := [(4, .one (.pair tI (.slice (.slice tI))) a1), (102, .seq (.slice tI) x19.2.2)]) (by kernel_rfl) ?_
              refine blockQ_hit ?_
              refine seqQ_norm ?_
              refine W_seq (by kernel_rfl) ?_
              refine W_seq (by kernel_rfl) ?_
              refine W_run 5 [] [4, 7, 8, 9, 11, 12, 13, 88] [4, 102] (fr' := [(4, .one (.ptr 4 0)), (7, aI r1.1), (8, aI r1.2.1), (9, aI r1.2.2), (11, .one (.slc 102)), (12, aD (.slice tI) x19.1), (13, aI x19.2.1), (88, aB (decide ((List.length x19.1 : Int) < a1.1)))]) (L' := [(4, .one (.pair tI (.slice (.slice tI))) a1), (102, .seq (.slice tI) x19.2.2)]) (obs := []) (by kernel_rfl) (by kernel_rfl) (by kernel_rfl) allP0 ?_
              refine seqQ_norm ?_
              refine W_cond (o := .tmp 88) (b := decide ((List.length x19.1 : Int) < a1.1)) (by kernel_rfl) (by kernel_rfl) (fun h90 => ?_) (fun h90 => ?_)
              · replace h := ofT h90 h
                refine W_seq (by kernel_rfl) ?_
                refine W_run 11 [] [6] [] (fr' := [(6, aB (((r1.2.2 == (5 : Int)) && (r1.1 == (0 : Int))) && (r1.2.1 == (0 : Int))))]) (L' := []) (obs := []) (by kernel_rfl) (by kernel_rfl) (by kernel_rfl) allP0 ?_
                refine seqQ_norm ?_
                obtain rfl := Option.some.inj h
                refine W_ret [6] [] (fr' := [(6, aB (((r1.2.2 == (5 : Int)) && (r1.1 == (0 : Int))) && (r1.2.1 == (0 : Int))))]) (L' := []) (by kernel_rfl) (by kernel_rfl) ?_
                refine seqQ_ret ?_
                refine blockQ_ret ?_
                refine seqQ_ret ?_
                refine round_ret ?_
                refine escQ_ret ?_
                exact exQ_mk (by kernel_rfl) (by kernel_rfl)
              · replace h := ofF h90 h
                refine W_skip [4, 7, 8, 9, 11, 12, 13] [4, 102] (fr' := [(4, .one (.ptr 4 0)), (7, aI r1.1), (8, aI r1.2.1), (9, aI r1.2.2), (11, .one (.slc 102)), (12, aD (.slice tI) x19.1), (13, aI x19.2.1)]) (L' := [(4, .one (.pair tI (.slice (.slice tI))) a1), (102, .seq (.slice tI) x19.2.2)]) (by kernel_rfl) (by kernel_rfl) ?_
                refine seqQ_norm ?_
                refine W_seq (by kernel_rfl) ?_
                obtain ⟨_, h91, h⟩ := bind_of h
                replace h91 := ck_some h91
                refine W_run 5 [] [4, 7, 8, 9, 11, 12, 13] [4, 102] (fr' := [(4, .one (.ptr 4 0)), (7, aI r1.1), (8, aI r1.2.1), (9, aI r1.2.2), (11, .one (.slc 102)), (12, aD (.slice tI) x19.1), (13, aI x19.2.1)]) (L' := [(4, .one (.pair tI (.slice (.slice tI))) a1), (102, .seq (.slice tI) (x19.2.2 ++ [x19.1]))]) (obs := [SmallLen (List.length x19.2.2 + List.length [x19.1])]) (by kernel_rfl) (by kernel_rfl) (by kernel_rfl) (allP1 h91) ?_
                refine seqQ_norm ?_
                refine W_region (by kernel_rfl) ?_
                refine WO_run (j := 2) (k := 2) (orcs := []) (kF := [4, 7, 8, 9, 11, 12, 13, 103, 104]) (kL := [4, 102]) (fr' := [(4, .one (.ptr 4 0)), (7, aI r1.1), (8, aI r1.2.1), (9, aI r1.2.2), (11, .one (.slc 102)), (12, aD (.slice tI) x19.1), (13, aI x19.2.1), (103, aD (.pair tI (.slice (.slice tI))) a1), (104, aD (.slice tI) x19.1)]) (L' := [(4, .one (.pair tI (.slice (.slice tI))) a1), (102, .seq (.slice tI) (x19.2.2 ++ [x19.1]))]) (obs := []) rfl (by kernel_rfl) allP0 ?_
                obtain ⟨r92, h93, h⟩ := bind_of h
                refine WO_call0 (us := [none, none]) (d := 105) (p := True) (j := 3) rfl ⟨by kernel_rfl, by kernel_rfl, by kernel_rfl⟩ trivial (ref_Tagged_ok h93) (by kernel_rfl) ?_
                refine WO_run (j := 4) (k := 1) (orcs := []) (kF := [4, 7, 8, 9, 11, 12, 13]) (kL := [4, 102]) (fr' := [(4, .one (.ptr 4 0)), (7, aI r1.1), (8, aI r1.2.1), (9, aI r1.2.2), (11, .one (.slc 102)), (12, aD (.slice tI) r92), (13, aI x19.2.1)]) (L' := [(4, .one (.pair tI (.slice (.slice tI))) a1), (102, .seq (.slice tI) (x19.2.2 ++ [x19.1]))]) (obs := []) rfl (by kernel_rfl) allP0 ?_
                refine WO_fin [4, 7, 8, 9, 11, 12, 13] [4, 102] (fr' := [(4, .one (.ptr 4 0)), (7, aI r1.1), (8, aI r1.2.1), (9, aI r1.2.2), (11, .one (.slc 102)), (12, aD (.slice tI) r92), (13, aI x19.2.1)]) (L' := [(4, .one (.pair tI (.slice (.slice tI))) a1), (102, .seq (.slice tI) (x19.2.2 ++ [x19.1]))]) (by kernel_rfl) (by kernel_rfl) ?_
                refine blockQ_norm ?_
                refine seqQ_norm ?_
                obtain rfl := Option.some.inj h
                refine W_run 3 [] [4, 7, 8, 9, 11, 12, 13] [4, 102] (fr' := [(4, .one (.ptr 4 0)), (7, aI r1.1), (8, aI r1.2.1), (9, aI r1.2.2), (11, .one (.slc 102)), (12, aD (.slice tI) r92), (13, aI (w64 (x19.2.1 + (1 : Int))))]) (L' := [(4, .one (.pair tI (.slice (.slice tI))) a1), (102, .seq (.slice tI) (x19.2.2 ++ [x19.1]))]) (obs := []) (by kernel_rfl) (by kernel_rfl) (by kernel_rfl) allP0 ?_
                exact round_next' (by kernel_rfl) (by kernel_rfl)
      · replace h := ofF h57 h
        obtain rfl := Option.some.inj h
        refine W_exit (id := 0) [7, 8, 9] [] (fr' := [(7, aI r1.1), (8, aI r1.2.1), (9, aI r1.2.2)]) (L' := []) (by kernel_rfl) (by kernel_rfl) ?_
        refine seqQ_exit ?_
        refine round_exit ?_
        refine escQ_brk ?_
        exact exQ_mk (by kernel_rfl) (by kernel_rfl)
    · intro e fr L hJ
      rcases v94 with v98 | v99
      · obtain ⟨rfl, rfl, rfl⟩ := hJ
        obtain rfl := Option.some.inj h
        refine LT_keep [6] [] (fr' := [(6, aB v98)]) (L' := []) (by kernel_rfl) ?_
        refine blockQ_ret ?_
        refine seqQ_ret ?_
        exact retQ_mk (by kernel_rfl) (by kernel_rfl) (by kernel_rfl)
      · obtain ⟨rfl, rfl, rfl⟩ := hJ
        refine LT_keep [7, 8, 9] [] (fr' := [(7, aI r1.1), (8, aI r1.2.1), (9, aI r1.2.2)]) (L' := []) (by kernel_rfl) ?_
        refine blockQ_hit ?_
        refine seqQ_norm ?_
        refine W_seq (by kernel_rfl) ?_
        refine W_run 11 [] [6] [] (fr' := [(6, aB (((r1.2.2 == (7 : Int)) && (r1.1 == (0 : Int))) && (r1.2.1 == (0 : Int))))]) (L' := []) (obs := []) (by kernel_rfl) (by kernel_rfl) (by kernel_rfl) allP0 ?_
        refine seqQ_norm ?_
        obtain rfl := Option.some.inj h
        refine W_ret [6] [] (fr' := [(6, aB (((r1.2.2 == (7 : Int)) && (r1.1 == (0 : Int))) && (r1.2.1 == (0 : Int))))]) (L' := []) (by kernel_rfl) (by kernel_rfl) ?_
        exact retQ_mk (by kernel_rfl) (by kernel_rfl) (by kernel_rfl)
end Go.Proofs.Ytpkbglckacoccaa.tagRounds
