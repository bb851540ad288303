/- What the functions that WaveBacks calls compute, as models, and that they compute it: written by a program of mine. -/
import Derived.Test.YtjgpfbdenfoffaaProg
import Derived.Test.YtjgpfbdenfoffaaSl3
set_option linter.all false
set_option maxRecDepth 100000
namespace Go.Proofs.Ytjgpfbdenfoffaa.waveBacks
open Go Go.Sl
def wave_wrong_1 (a0 : Int) : Option Bool :=
some ((decide (a0 < (-1000000000 : Int))) || (decide (a0 > (1000000000 : Int))))
theorem wave_wrong_1_ok {a0 : Int} {r : Bool} (h : wave_wrong_1 a0 = some r) : FnC Try.prog 70 [aI a0] [] (aB r) [] := by
  refine fnC_of_W (B := bodyOf Try.f70) (n := 9) Try.func70 (by kernel_rfl) (by kernel_rfl) (by kernel_rfl) (by kernel_rfl) (by kernel_rfl) ?_
  intro K
  refine W_seq (by kernel_rfl) ?_
  refine W_run 1 [] [0] [] (fr' := [(0, aI a0)]) (L' := []) (obs := []) (by kernel_rfl) (by kernel_rfl) (by kernel_rfl) allP0 ?_
  refine seqQ_norm ?_
  refine W_seq (by kernel_rfl) ?_
  refine W_run 7 [] [2] [] (fr' := [(2, aB ((decide (a0 < (-1000000000 : Int))) || (decide (a0 > (1000000000 : Int)))))]) (L' := []) (obs := []) (by kernel_rfl) (by kernel_rfl) (by kernel_rfl) allP0 ?_
  refine seqQ_norm ?_
  obtain rfl := Option.some.inj h
  refine W_ret [2] [] (fr' := [(2, aB ((decide (a0 < (-1000000000 : Int))) || (decide (a0 > (1000000000 : Int)))))]) (L' := []) (by kernel_rfl) (by kernel_rfl) ?_
  exact retQ_mk (by kernel_rfl) (by kernel_rfl) (by kernel_rfl)

def slices_IndexFunc_Lintint_with_wave_wrong_1_b1 (i15 : Int) (v18 : Int) (x16 : Unit) : Option (Flow Unit (Esc Int Unit)) :=
(wave_wrong_1 v18).bind fun r21 =>
bif r21 then
(some (.done (.ret i15)))
else
(some (.next ()))
@[reducible] def slices_IndexFunc_Lintint_with_wave_wrong_1_s2 (a0 : (List Int)) (v : Int × Unit) : Fr × LL := ([(0, aD (.slice tI) a0), (1, .one (.fn 70 [])), (7, aI (List.length a0 : Int)), (8, aI v.1)], [])
@[reducible] def slices_IndexFunc_Lintint_with_wave_wrong_1_s3 (v : Int) : Fr × LL := ([(4, aI v)], [])
@[reducible] def slices_IndexFunc_Lintint_with_wave_wrong_1_s4 (v : Unit) : Fr × LL := ([], [])
def slices_IndexFunc_Lintint_with_wave_wrong_1 (a0 : (List Int)) : Option Int :=
(forL slices_IndexFunc_Lintint_with_wave_wrong_1_b1 (fun x16 => (.brk ())) a0 0 ()).bind fun v25 =>
match v25 with
| .ret v30 =>
(some v30)
| .brk v31 =>
(some (-1 : Int))
theorem slices_IndexFunc_Lintint_with_wave_wrong_1_ok {a0 : (List Int)} {r : Int} (h : slices_IndexFunc_Lintint_with_wave_wrong_1 a0 = some r) : FnC Try.prog 66 [aD (.slice tI) a0, .one (.fn 70 [])] [] (aI r) [] := by
  refine fnC_of_W (B := bodyOf Try.f66) (n := 19) Try.func66 (by kernel_rfl) (by kernel_rfl) (by kernel_rfl) (by kernel_rfl) (by kernel_rfl) ?_
  intro K
  refine W_seq (by kernel_rfl) ?_
  refine W_run 1 [] [0, 1] [] (fr' := [(0, aD (.slice tI) a0), (1, .one (.fn 70 []))]) (L' := []) (obs := []) (by kernel_rfl) (by kernel_rfl) (by kernel_rfl) allP0 ?_
  refine seqQ_norm ?_
  refine W_seq (by kernel_rfl) ?_
  refine W_seq (by kernel_rfl) ?_
  refine W_run 3 [] [0, 1, 7, 8] [] (fr' := [(0, aD (.slice tI) a0), (1, .one (.fn 70 [])), (7, aI (List.length a0 : Int)), (8, aI (0 : Int))]) (L' := []) (obs := []) (by kernel_rfl) (by kernel_rfl) (by kernel_rfl) allP0 ?_
  refine seqQ_norm ?_
  refine W_block (id := 0) (by kernel_rfl) ?_
  obtain ⟨v25, h26, h⟩ := bind_of h
  refine W_len (t := 0) (u := tI) (xs := a0) (by kernel_rfl) (fun h29 => ?_)
  obtain ⟨h27, h28⟩ := forL_iter h29 h26
  refine W_weaken [0, 1, 7, 8] [] (fr' := ((slices_IndexFunc_Lintint_with_wave_wrong_1_s2 a0) ((0 : Int), ())).1) (L' := ((slices_IndexFunc_Lintint_with_wave_wrong_1_s2 a0) ((0 : Int), ())).2) (by kernel_rfl) ?_
  refine W_cutK (W_loop (S := (slices_IndexFunc_Lintint_with_wave_wrong_1_s2 a0)) (J := (escQ (exQ .ret slices_IndexFunc_Lintint_with_wave_wrong_1_s3) (exQ (.exit 0) slices_IndexFunc_Lintint_with_wave_wrong_1_s4))) (by kernel_rfl) ?_ h27 _ v25 h28) ?_
  · rintro ⟨i15, x16⟩ s h
    refine W_seq (by kernel_rfl) ?_
    refine W_run 1 [] [0, 1, 7, 8, 9] [] (fr' := [(0, aD (.slice tI) a0), (1, .one (.fn 70 [])), (7, aI (List.length a0 : Int)), (8, aI i15), (9, aB (decide (i15 < (List.length a0 : Int))))]) (L' := []) (obs := []) (by kernel_rfl) (by kernel_rfl) (by kernel_rfl) allP0 ?_
    refine seqQ_norm ?_
    refine W_seq (by kernel_rfl) ?_
    refine W_cond (o := .tmp 9) (b := decide (i15 < (List.length a0 : Int))) (by kernel_rfl) (by kernel_rfl) (fun h20 => ?_) (fun h20 => ?_)
    · replace h := stepL_true h20 h
      obtain ⟨v18, _, h19, h, rfl⟩ := h
      refine W_skip [0, 1, 7, 8] [] (fr' := [(0, aD (.slice tI) a0), (1, .one (.fn 70 [])), (7, aI (List.length a0 : Int)), (8, aI i15)]) (L' := []) (by kernel_rfl) (by kernel_rfl) ?_
      refine seqQ_norm ?_
      refine W_seq (by kernel_rfl) ?_
      refine W_block (id := 1) (by kernel_rfl) ?_
      refine W_seq (by kernel_rfl) ?_
      refine W_run 2 [] [0, 1, 5, 7, 8] [] (fr' := [(0, aD (.slice tI) a0), (1, .one (.fn 70 [])), (5, aI i15), (7, aI (List.length a0 : Int)), (8, aI i15)]) (L' := []) (obs := []) (by kernel_rfl) (by kernel_rfl) (by kernel_rfl) allP0 ?_
      refine seqQ_norm ?_
      refine W_seq (by kernel_rfl) ?_
      refine W_region (by kernel_rfl) ?_
      refine WO_run (j := 5) (k := 5) (orcs := [(7, .val (.dat tI v18))]) (kF := [0, 1, 5, 7, 8, 11, 15]) (kL := []) (fr' := [(0, aD (.slice tI) a0), (1, .one (.fn 70 [])), (5, aI i15), (7, aI (List.length a0 : Int)), (8, aI i15), (11, .one (.fn 70 [])), (15, aI v18)]) (L' := []) (obs := [Idx a0 i15 v18]) rfl (by kernel_rfl) (allP1 (Idx.of h19)) ?_
      obtain ⟨r21, h22, h⟩ := bind_of h
      refine WO_call0 (us := [none]) (d := 16) (p := True) (j := 6) rfl ⟨by kernel_rfl, by kernel_rfl, by kernel_rfl⟩ trivial (wave_wrong_1_ok h22) (by kernel_rfl) ?_
      refine WO_fin [0, 1, 5, 7, 8, 16] [] (fr' := [(0, aD (.slice tI) a0), (1, .one (.fn 70 [])), (5, aI i15), (7, aI (List.length a0 : Int)), (8, aI i15), (16, aB r21)]) (L' := []) (by kernel_rfl) (by kernel_rfl) ?_
      refine seqQ_norm ?_
      refine W_cond (o := .tmp 16) (b := r21) (by kernel_rfl) (by kernel_rfl) (fun h23 => ?_) (fun h23 => ?_)
      · replace h := ofT h23 h
        refine W_seq (by kernel_rfl) ?_
        refine W_run 2 [] [4] [] (fr' := [(4, aI i15)]) (L' := []) (obs := []) (by kernel_rfl) (by kernel_rfl) (by kernel_rfl) allP0 ?_
        refine seqQ_norm ?_
        obtain rfl := Option.some.inj h
        refine W_ret [4] [] (fr' := [(4, aI i15)]) (L' := []) (by kernel_rfl) (by kernel_rfl) ?_
        refine blockQ_ret ?_
        refine seqQ_ret ?_
        refine round_ret ?_
        refine escQ_ret ?_
        exact exQ_mk (by kernel_rfl) (by kernel_rfl)
      · replace h := ofF h23 h
        refine W_skip [0, 1, 7, 8] [] (fr' := [(0, aD (.slice tI) a0), (1, .one (.fn 70 [])), (7, aI (List.length a0 : Int)), (8, aI i15)]) (L' := []) (by kernel_rfl) (by kernel_rfl) ?_
        refine blockQ_norm ?_
        refine seqQ_norm ?_
        obtain rfl := Option.some.inj h
        refine W_run 2 [] [0, 1, 7, 8] [] (fr' := [(0, aD (.slice tI) a0), (1, .one (.fn 70 [])), (7, aI (List.length a0 : Int)), (8, aI (w64 (i15 + (1 : Int))))]) (L' := []) (obs := []) (by kernel_rfl) (by kernel_rfl) (by kernel_rfl) allP0 ?_
        exact round_next' (by kernel_rfl) (by kernel_rfl)
    · obtain rfl := stepL_false h20 h
      refine W_exit (id := 0) [] [] (fr' := []) (L' := []) (by kernel_rfl) (by kernel_rfl) ?_
      refine seqQ_exit ?_
      refine round_exit ?_
      refine escQ_brk ?_
      exact exQ_mk (by kernel_rfl) (by kernel_rfl)
  · intro e fr L hJ
    rcases v25 with v30 | v31
    · obtain ⟨rfl, rfl, rfl⟩ := hJ
      obtain rfl := Option.some.inj h
      refine LT_keep [4] [] (fr' := [(4, aI v30)]) (L' := []) (by kernel_rfl) ?_
      refine blockQ_ret ?_
      refine seqQ_ret ?_
      exact retQ_mk (by kernel_rfl) (by kernel_rfl) (by kernel_rfl)
    · obtain ⟨rfl, rfl, rfl⟩ := hJ
      refine LT_keep [] [] (fr' := []) (L' := []) (by kernel_rfl) ?_
      refine blockQ_hit ?_
      refine seqQ_norm ?_
      refine W_seq (by kernel_rfl) ?_
      refine W_run 1 [] [4] [] (fr' := [(4, aI (-1 : Int))]) (L' := []) (obs := []) (by kernel_rfl) (by kernel_rfl) (by kernel_rfl) allP0 ?_
      refine seqQ_norm ?_
      obtain rfl := Option.some.inj h
      refine W_ret [4] [] (fr' := [(4, aI (-1 : Int))]) (L' := []) (by kernel_rfl) (by kernel_rfl) ?_
      exact retQ_mk (by kernel_rfl) (by kernel_rfl) (by kernel_rfl)

def slices_ContainsFunc_Lintint_with_wave_wrong_1 (a0 : (List Int)) : Option Bool :=
(slices_IndexFunc_Lintint_with_wave_wrong_1 a0).bind fun r1 =>
some (decide (r1 ≥ (0 : Int)))
theorem slices_ContainsFunc_Lintint_with_wave_wrong_1_ok {a0 : (List Int)} {r : Bool} (h : slices_ContainsFunc_Lintint_with_wave_wrong_1 a0 = some r) : FnC Try.prog 46 [aD (.slice tI) a0, .one (.fn 70 [])] [] (aB r) [] := by
  refine fnC_of_W (B := bodyOf Try.f46) (n := 9) Try.func46 (by kernel_rfl) (by kernel_rfl) (by kernel_rfl) (by kernel_rfl) (by kernel_rfl) ?_
  intro K
  refine W_seq (by kernel_rfl) ?_
  refine W_run 1 [] [0, 1] [] (fr' := [(0, aD (.slice tI) a0), (1, .one (.fn 70 []))]) (L' := []) (obs := []) (by kernel_rfl) (by kernel_rfl) (by kernel_rfl) allP0 ?_
  refine seqQ_norm ?_
  refine W_seq (by kernel_rfl) ?_
  refine W_region (by kernel_rfl) ?_
  refine WO_run (j := 2) (k := 2) (orcs := []) (kF := [5, 6]) (kL := []) (fr' := [(5, aD (.slice tI) a0), (6, .one (.fn 70 []))]) (L' := []) (obs := []) rfl (by kernel_rfl) allP0 ?_
  obtain ⟨r1, h2, h⟩ := bind_of h
  refine WO_call0 (us := [none, none]) (d := 7) (p := True) (j := 3) rfl ⟨by kernel_rfl, by kernel_rfl, by kernel_rfl⟩ trivial (slices_IndexFunc_Lintint_with_wave_wrong_1_ok h2) (by kernel_rfl) ?_
  refine WO_run (j := 5) (k := 2) (orcs := []) (kF := [4]) (kL := []) (fr' := [(4, aB (decide (r1 ≥ (0 : Int))))]) (L' := []) (obs := []) rfl (by kernel_rfl) allP0 ?_
  refine WO_fin [4] [] (fr' := [(4, aB (decide (r1 ≥ (0 : Int))))]) (L' := []) (by kernel_rfl) (by kernel_rfl) ?_
  refine seqQ_norm ?_
  obtain rfl := Option.some.inj h
  refine W_ret [4] [] (fr' := [(4, aB (decide (r1 ≥ (0 : Int))))]) (L' := []) (by kernel_rfl) (by kernel_rfl) ?_
  exact retQ_mk (by kernel_rfl) (by kernel_rfl) (by kernel_rfl)

def wave_wrong (a0 : Int) (a1 : (List Int)) : Option Int :=
bif (decide (a0 < (0 : Int))) || (decide (a0 > (4 : Int))) then
(some (1 : Int))
else
((ck (0 ≤ a0)).bind fun _ =>
bif (List.length a1 : Int) != (bShl .i64 (1 : Int) a0) then
(some (3 : Int))
else
((slices_ContainsFunc_Lintint_with_wave_wrong_1 a1).bind fun r4 =>
bif r4 then
(some (4 : Int))
else
(some (0 : Int))))
theorem wave_wrong_ok {a0 : Int} {a1 : (List Int)} {r : Int} (h : wave_wrong a0 a1 = some r) : FnC Try.prog 53 [aI a0, aD (.slice tI) a1] [] (aI r) [] := by
  refine fnC_of_W (B := bodyOf Try.f53) (n := 21) Try.func53 (by kernel_rfl) (by kernel_rfl) (by kernel_rfl) (by kernel_rfl) (by kernel_rfl) ?_
  intro K
  refine W_seq (by kernel_rfl) ?_
  refine W_run 1 [] [0, 1] [] (fr' := [(0, aI a0), (1, aD (.slice tI) a1)]) (L' := []) (obs := []) (by kernel_rfl) (by kernel_rfl) (by kernel_rfl) allP0 ?_
  refine seqQ_norm ?_
  refine W_seq (by kernel_rfl) ?_
  refine W_block (id := 0) (by kernel_rfl) ?_
  refine W_seq (by kernel_rfl) ?_
  refine W_run 7 [] [0, 1, 5] [] (fr' := [(0, aI a0), (1, aD (.slice tI) a1), (5, aB ((decide (a0 < (0 : Int))) || (decide (a0 > (4 : Int)))))]) (L' := []) (obs := []) (by kernel_rfl) (by kernel_rfl) (by kernel_rfl) allP0 ?_
  refine seqQ_norm ?_
  refine W_cond (o := .tmp 5) (b := (decide (a0 < (0 : Int))) || (decide (a0 > (4 : Int)))) (by kernel_rfl) (by kernel_rfl) (fun h1 => ?_) (fun h1 => ?_)
  · replace h := ofT h1 h
    refine W_seq (by kernel_rfl) ?_
    refine W_run 1 [] [4] [] (fr' := [(4, aI (1 : Int))]) (L' := []) (obs := []) (by kernel_rfl) (by kernel_rfl) (by kernel_rfl) allP0 ?_
    refine seqQ_norm ?_
    obtain rfl := Option.some.inj h
    refine W_ret [4] [] (fr' := [(4, aI (1 : Int))]) (L' := []) (by kernel_rfl) (by kernel_rfl) ?_
    refine blockQ_ret ?_
    refine seqQ_ret ?_
    exact retQ_mk (by kernel_rfl) (by kernel_rfl) (by kernel_rfl)
  · replace h := ofF h1 h
    refine W_seq (by kernel_rfl) ?_
    obtain ⟨_, h2, h⟩ := bind_of h
    replace h2 := ck_some h2
    refine W_run 6 [] [1, 12] [] (fr' := [(1, aD (.slice tI) a1), (12, aB ((List.length a1 : Int) != (bShl .i64 (1 : Int) a0)))]) (L' := []) (obs := [(0 ≤ a0)]) (by kernel_rfl) (by kernel_rfl) (by kernel_rfl) (allP1 h2) ?_
    refine seqQ_norm ?_
    refine W_cond (o := .tmp 12) (b := (List.length a1 : Int) != (bShl .i64 (1 : Int) a0)) (by kernel_rfl) (by kernel_rfl) (fun h3 => ?_) (fun h3 => ?_)
    · replace h := ofT h3 h
      refine W_seq (by kernel_rfl) ?_
      refine W_run 1 [] [4] [] (fr' := [(4, aI (3 : Int))]) (L' := []) (obs := []) (by kernel_rfl) (by kernel_rfl) (by kernel_rfl) allP0 ?_
      refine seqQ_norm ?_
      obtain rfl := Option.some.inj h
      refine W_ret [4] [] (fr' := [(4, aI (3 : Int))]) (L' := []) (by kernel_rfl) (by kernel_rfl) ?_
      refine blockQ_ret ?_
      refine seqQ_ret ?_
      exact retQ_mk (by kernel_rfl) (by kernel_rfl) (by kernel_rfl)
    · replace h := ofF h3 h
      refine W_seq (by kernel_rfl) ?_
      refine W_region (by kernel_rfl) ?_
      refine WO_run (j := 1) (k := 1) (orcs := []) (kF := [19]) (kL := []) (fr' := [(19, aD (.slice tI) a1)]) (L' := []) (obs := []) rfl (by kernel_rfl) allP0 ?_
      obtain ⟨r4, h5, h⟩ := bind_of h
      refine WO_call0 (us := [none, none]) (d := 20) (p := True) (j := 2) rfl ⟨by kernel_rfl, by kernel_rfl, by kernel_rfl⟩ trivial (slices_ContainsFunc_Lintint_with_wave_wrong_1_ok h5) (by kernel_rfl) ?_
      refine WO_run (j := 3) (k := 1) (orcs := []) (kF := [18]) (kL := []) (fr' := [(18, aB r4)]) (L' := []) (obs := []) rfl (by kernel_rfl) allP0 ?_
      refine WO_fin [18] [] (fr' := [(18, aB r4)]) (L' := []) (by kernel_rfl) (by kernel_rfl) ?_
      refine seqQ_norm ?_
      refine W_cond (o := .tmp 18) (b := r4) (by kernel_rfl) (by kernel_rfl) (fun h6 => ?_) (fun h6 => ?_)
      · replace h := ofT h6 h
        refine W_seq (by kernel_rfl) ?_
        refine W_run 1 [] [4] [] (fr' := [(4, aI (4 : Int))]) (L' := []) (obs := []) (by kernel_rfl) (by kernel_rfl) (by kernel_rfl) allP0 ?_
        refine seqQ_norm ?_
        obtain rfl := Option.some.inj h
        refine W_ret [4] [] (fr' := [(4, aI (4 : Int))]) (L' := []) (by kernel_rfl) (by kernel_rfl) ?_
        refine blockQ_ret ?_
        refine seqQ_ret ?_
        exact retQ_mk (by kernel_rfl) (by kernel_rfl) (by kernel_rfl)
      · replace h := ofF h6 h
        refine W_skip [] [] (fr' := []) (L' := []) (by kernel_rfl) (by kernel_rfl) ?_
        refine blockQ_norm ?_
        refine seqQ_norm ?_
        refine W_seq (by kernel_rfl) ?_
        refine W_run 1 [] [4] [] (fr' := [(4, aI (0 : Int))]) (L' := []) (obs := []) (by kernel_rfl) (by kernel_rfl) (by kernel_rfl) allP0 ?_
        refine seqQ_norm ?_
        obtain rfl := Option.some.inj h
        refine W_ret [4] [] (fr' := [(4, aI (0 : Int))]) (L' := []) (by kernel_rfl) (by kernel_rfl) ?_
        exact retQ_mk (by kernel_rfl) (by kernel_rfl) (by kernel_rfl)

def slices_Clone_Lintint (a0 : (List Int)) : Option (List Int) :=
(ck ((0 : Int) + (List.length a0 : Int) ≤ 4294967296)).bind fun _ =>
some ([] ++ a0)
theorem slices_Clone_Lintint_ok {a0 : (List Int)} {r : (List Int)} (h : slices_Clone_Lintint a0 = some r) : FnC Try.prog 71 [aD (.slice tI) a0] [] (.one (.slc 5)) [(5, .seq tI r)] := by
  refine fnC_of_W (B := bodyOf Try.f71) (n := 8) Try.func71 (by kernel_rfl) (by kernel_rfl) (by kernel_rfl) (by kernel_rfl) (by kernel_rfl) ?_
  intro K
  refine W_seq (by kernel_rfl) ?_
  refine W_run 1 [] [0] [] (fr' := [(0, aD (.slice tI) a0)]) (L' := []) (obs := []) (by kernel_rfl) (by kernel_rfl) (by kernel_rfl) allP0 ?_
  refine seqQ_norm ?_
  refine W_seq (by kernel_rfl) ?_
  refine W_seq (by kernel_rfl) ?_
  refine W_region (by kernel_rfl) ?_
  refine WO_run (j := 1) (k := 1) (orcs := []) (kF := [0, 3]) (kL := []) (fr' := [(0, aD (.slice tI) a0), (3, aD (.slice tI) a0)]) (L' := []) (obs := []) rfl (by kernel_rfl) allP0 ?_
  refine WO_nilcmp (u := tI) (xs := a0) (d := 4) (j := 2) rfl (by kernel_rfl) (by kernel_rfl) (fun h12 h10 => ?_)
  cases h12
  · refine WO_fin [0, 4] [] (fr' := [(0, aD (.slice tI) a0), (4, aB false)]) (L' := []) (by kernel_rfl) (by kernel_rfl) ?_
    refine seqQ_norm ?_
    refine W_cond (o := .tmp 4) (b := false) (by kernel_rfl) (by kernel_rfl) (fun h7 => by have := (rfl : false = false).symm.trans h7; cases this) (fun h7 => ?_)
    refine W_skip [0] [] (fr' := [(0, aD (.slice tI) a0)]) (L' := []) (by kernel_rfl) (by kernel_rfl) ?_
    refine seqQ_norm ?_
    refine W_seq (by kernel_rfl) ?_
    obtain ⟨_, h8, h⟩ := bind_of h
    replace h8 := ck_some h8
    refine W_run 4 [] [2] [5] (fr' := [(2, .one (.slc 5))]) (L' := [(5, .seq tI ([] ++ a0))]) (obs := [SmallLen (List.length ([] : (List Int)) + List.length a0)]) (by kernel_rfl) (by kernel_rfl) (by kernel_rfl) (allP1 h8) ?_
    refine seqQ_norm ?_
    obtain rfl := Option.some.inj h
    refine W_ret [2] [5] (fr' := [(2, .one (.slc 5))]) (L' := [(5, .seq tI ([] ++ a0))]) (by kernel_rfl) (by kernel_rfl) ?_
    exact retQ_mk (by kernel_rfl) (by kernel_rfl) (by kernel_rfl)
  · replace h10 := h10 rfl
    have h11 : (some [] : Option (List Int)) = ((ck ((0 : Int) + (List.length a0 : Int) ≤ 4294967296)).bind fun _ => some ([] ++ a0)) := by rw [h10]; simp [ck]
    replace h := h11.trans h
    refine WO_fin [0, 4] [] (fr' := [(0, aD (.slice tI) a0), (4, aB true)]) (L' := []) (by kernel_rfl) (by kernel_rfl) ?_
    refine seqQ_norm ?_
    refine W_cond (o := .tmp 4) (b := true) (by kernel_rfl) (by kernel_rfl) (fun h9 => ?_) (fun h9 => by have := (rfl : true = true).symm.trans h9; cases this)
    refine W_seq (by kernel_rfl) ?_
    refine W_run 1 [] [2] [] (fr' := [(2, .one (.nilS))]) (L' := []) (obs := []) (by kernel_rfl) (by kernel_rfl) (by kernel_rfl) allP0 ?_
    refine seqQ_norm ?_
    obtain rfl := Option.some.inj h
    refine W_mine 2 5 tI (by kernel_rfl) ?_
    refine W_ret [2] [5] (fr' := [(2, .one (.slc 5))]) (L' := [(5, .seq tI [])]) (by kernel_rfl) (by kernel_rfl) ?_
    refine seqQ_ret ?_
    exact retQ_mk (by kernel_rfl) (by kernel_rfl) (by kernel_rfl)

def wave_turn (a0 : Int) (a1 : Int) : Option (Int × Int) :=
some (w64 (a0 + a1), w64 (a0 - a1))
theorem wave_turn_ok {a0 : Int} {a1 : Int} {r : (Int × Int)} (h : wave_turn a0 a1 = some r) : FnC Try.prog 55 [aI a0, aI a1] [] (.tup [.dat tI r.1, .dat tI r.2]) [] := by
  refine fnC_of_W (B := bodyOf Try.f55) (n := 12) Try.func55 (by kernel_rfl) (by kernel_rfl) (by kernel_rfl) (by kernel_rfl) (by kernel_rfl) ?_
  intro K
  refine W_seq (by kernel_rfl) ?_
  refine W_run 2 [] [0, 1] [] (fr' := [(0, aI a0), (1, aI a1)]) (L' := []) (obs := []) (by kernel_rfl) (by kernel_rfl) (by kernel_rfl) allP0 ?_
  refine seqQ_norm ?_
  refine W_seq (by kernel_rfl) ?_
  refine W_run 8 [] [4, 5] [] (fr' := [(4, aI (w64 (a0 + a1))), (5, aI (w64 (a0 - a1)))]) (L' := []) (obs := []) (by kernel_rfl) (by kernel_rfl) (by kernel_rfl) allP0 ?_
  refine seqQ_norm ?_
  obtain rfl := Option.some.inj h
  refine W_ret [4, 5] [] (fr' := [(4, aI (w64 (a0 + a1))), (5, aI (w64 (a0 - a1)))]) (L' := []) (by kernel_rfl) (by kernel_rfl) ?_
  exact retQ_mk (by kernel_rfl) (by kernel_rfl) (by kernel_rfl)

def wave_each_with_wave_turn_g53 (i564 : Int) (i636 : Int) (x637 : (List Int)) : Option (List Int) :=
(ck (0 ≤ i564)).bind fun _ =>
bif (bOr .i64 i636 (bShl .i64 (1 : Int) i564)) != i636 then
((idx x637 i636).bind fun v664 =>
(idx x637 (bOr .i64 i636 (bShl .i64 (1 : Int) i564))).bind fun v666 =>
(wave_turn v664 v666).bind fun r668 =>
(idx (List.set x637 (Int.toNat i636) r668.1) (bOr .i64 i636 (bShl .i64 (1 : Int) i564))).bind fun v670 =>
some (List.set (List.set x637 (Int.toNat i636) r668.1) (Int.toNat (bOr .i64 i636 (bShl .i64 (1 : Int) i564))) r668.2))
else
(some x637)
@[reducible] def wave_each_with_wave_turn_s54 (a0 : Int) (i564 : Int) (x565 : (List Int)) (i636 : Int) (v : (List Int)) : Fr × LL := ([(2, .one (.fn 55 [])), (7, .one (.slc 12)), (8, aI i564), (13, aI a0), (14, aI i564), (18, aI (List.length x565 : Int)), (19, aI i636)], [(12, .seq tI v)])
def wave_each_with_wave_turn_b55 (i564 : Int) (i636 : Int) (v639 : Int) (x637 : (List Int)) : Option (Flow (List Int) (List Int)) :=
(wave_each_with_wave_turn_g53 i564 i636 x637).bind fun v672 =>
some (.next v672)
@[reducible] def wave_each_with_wave_turn_s56 (a0 : Int) (i564 : Int) (x565 : (List Int)) (v : Int × (List Int)) : Fr × LL := ([(2, .one (.fn 55 [])), (7, .one (.slc 12)), (8, aI i564), (13, aI a0), (14, aI i564), (18, aI (List.length x565 : Int)), (19, aI v.1)], [(12, .seq tI v.2)])
@[reducible] def wave_each_with_wave_turn_s57 (a0 : Int) (i564 : Int) (v : (List Int)) : Fr × LL := ([(2, .one (.fn 55 [])), (7, .one (.slc 12)), (13, aI a0), (14, aI i564)], [(12, .seq tI v)])
def wave_each_with_wave_turn_b58 (i564 : Int) (x565 : (List Int)) : Option (Flow (List Int) (List Int)) :=
(forL (wave_each_with_wave_turn_b55 i564) (fun x637 => x637) x565 0 x565).bind fun v675 =>
some (.next v675)
@[reducible] def wave_each_with_wave_turn_s59 (a0 : Int) (v : Int × (List Int)) : Fr × LL := ([(2, .one (.fn 55 [])), (7, .one (.slc 12)), (13, aI a0), (14, aI v.1)], [(12, .seq tI v.2)])
@[reducible] def wave_each_with_wave_turn_s60 (v : (List Int)) : Fr × LL := ([(7, .one (.slc 12))], [(12, .seq tI v)])
def wave_each_with_wave_turn (a0 : Int) (a1 : (List Int)) : Option (List Int) :=
(slices_Clone_Lintint a1).bind fun r343 =>
(forI (0 : Int) a0 wave_each_with_wave_turn_b58 (fun x565 => x565) r343).bind fun v681 =>
some v681
theorem wave_each_with_wave_turn_ok {a0 : Int} {a1 : (List Int)} {r : (List Int)} (h : wave_each_with_wave_turn a0 a1 = some r) : FnC Try.prog 54 [aI a0, aD (.slice tI) a1, .one (.fn 55 [])] [] (.one (.slc 12)) [(12, .seq tI r)] := by
  refine fnC_of_W (B := bodyOf Try.f54) (n := 51) Try.func54 (by kernel_rfl) (by kernel_rfl) (by kernel_rfl) (by kernel_rfl) (by kernel_rfl) ?_
  intro K
  refine W_seq (by kernel_rfl) ?_
  refine W_run 1 [] [0, 1, 2] [] (fr' := [(0, aI a0), (1, aD (.slice tI) a1), (2, .one (.fn 55 []))]) (L' := []) (obs := []) (by kernel_rfl) (by kernel_rfl) (by kernel_rfl) allP0 ?_
  refine seqQ_norm ?_
  refine W_seq (by kernel_rfl) ?_
  refine W_region (by kernel_rfl) ?_
  refine WO_run (j := 1) (k := 1) (orcs := []) (kF := [0, 2, 11]) (kL := []) (fr' := [(0, aI a0), (2, .one (.fn 55 [])), (11, aD (.slice tI) a1)]) (L' := []) (obs := []) rfl (by kernel_rfl) allP0 ?_
  obtain ⟨r343, h344, h⟩ := bind_of h
  refine WO_call1 (us := [none]) (d := 12) (t := 12) (p := True) (j := 2) rfl ⟨by kernel_rfl, by kernel_rfl, by kernel_rfl⟩ trivial (slices_Clone_Lintint_ok h344) (by kernel_rfl) ?_
  refine WO_run (j := 3) (k := 1) (orcs := []) (kF := [0, 2, 7]) (kL := [12]) (fr' := [(0, aI a0), (2, .one (.fn 55 [])), (7, .one (.slc 12))]) (L' := [(12, .seq tI r343)]) (obs := []) rfl (by kernel_rfl) allP0 ?_
  refine WO_fin [0, 2, 7] [12] (fr' := [(0, aI a0), (2, .one (.fn 55 [])), (7, .one (.slc 12))]) (L' := [(12, .seq tI r343)]) (by kernel_rfl) (by kernel_rfl) ?_
  refine seqQ_norm ?_
  refine W_seq (by kernel_rfl) ?_
  refine W_seq (by kernel_rfl) ?_
  refine W_run 2 [] [2, 7, 13, 14] [12] (fr' := [(2, .one (.fn 55 [])), (7, .one (.slc 12)), (13, aI a0), (14, aI (0 : Int))]) (L' := [(12, .seq tI r343)]) (obs := []) (by kernel_rfl) (by kernel_rfl) (by kernel_rfl) allP0 ?_
  refine seqQ_norm ?_
  refine W_block (id := 0) (by kernel_rfl) ?_
  obtain ⟨v681, h682, h⟩ := bind_of h
  obtain ⟨h683, h684⟩ := forI_iter h682
  refine W_weaken [2, 7, 13, 14] [12] (fr' := ((wave_each_with_wave_turn_s59 a0) ((0 : Int), r343)).1) (L' := ((wave_each_with_wave_turn_s59 a0) ((0 : Int), r343)).2) (by kernel_rfl) ?_
  refine W_cutK (W_loop (S := (wave_each_with_wave_turn_s59 a0)) (J := (exQ (.exit 0) wave_each_with_wave_turn_s60)) (by kernel_rfl) ?_ h683 _ v681 h684) ?_
  · rintro ⟨i564, x565⟩ s h
    refine W_seq (by kernel_rfl) ?_
    refine W_run 1 [] [2, 7, 13, 14, 15] [12] (fr' := [(2, .one (.fn 55 [])), (7, .one (.slc 12)), (13, aI a0), (14, aI i564), (15, aB (decide (i564 < a0)))]) (L' := [(12, .seq tI x565)]) (obs := []) (by kernel_rfl) (by kernel_rfl) (by kernel_rfl) allP0 ?_
    refine seqQ_norm ?_
    refine W_seq (by kernel_rfl) ?_
    refine W_cond (o := .tmp 15) (b := decide (i564 < a0)) (by kernel_rfl) (by kernel_rfl) (fun h567 => ?_) (fun h567 => ?_)
    · replace h := stepI_true h567 h
      obtain ⟨_, h, rfl⟩ := h
      refine W_skip [2, 7, 13, 14] [12] (fr' := [(2, .one (.fn 55 [])), (7, .one (.slc 12)), (13, aI a0), (14, aI i564)]) (L' := [(12, .seq tI x565)]) (by kernel_rfl) (by kernel_rfl) ?_
      refine seqQ_norm ?_
      refine W_seq (by kernel_rfl) ?_
      refine W_block (id := 1) (by kernel_rfl) ?_
      refine W_seq (by kernel_rfl) ?_
      refine W_run 2 [] [2, 7, 8, 13, 14] [12] (fr' := [(2, .one (.fn 55 [])), (7, .one (.slc 12)), (8, aI i564), (13, aI a0), (14, aI i564)]) (L' := [(12, .seq tI x565)]) (obs := []) (by kernel_rfl) (by kernel_rfl) (by kernel_rfl) allP0 ?_
      refine seqQ_norm ?_
      refine W_seq (by kernel_rfl) ?_
      refine W_run 3 [] [2, 7, 8, 13, 14, 18, 19] [12] (fr' := [(2, .one (.fn 55 [])), (7, .one (.slc 12)), (8, aI i564), (13, aI a0), (14, aI i564), (18, aI (List.length x565 : Int)), (19, aI (0 : Int))]) (L' := [(12, .seq tI x565)]) (obs := []) (by kernel_rfl) (by kernel_rfl) (by kernel_rfl) allP0 ?_
      refine seqQ_norm ?_
      refine W_block (id := 2) (by kernel_rfl) ?_
      obtain ⟨v675, h676, h⟩ := bind_of h
      refine W_lenS (s := 12) (u := tI) (xs := x565) (by kernel_rfl) (fun h679 => ?_)
      obtain ⟨h677, h678⟩ := forL_iter h679 h676
      refine W_weaken [2, 7, 8, 13, 14, 18, 19] [12] (fr' := ((wave_each_with_wave_turn_s56 a0 i564 x565) ((0 : Int), x565)).1) (L' := ((wave_each_with_wave_turn_s56 a0 i564 x565) ((0 : Int), x565)).2) (by kernel_rfl) ?_
      refine W_cutK (W_loop (S := (wave_each_with_wave_turn_s56 a0 i564 x565)) (J := (exQ (.exit 2) (wave_each_with_wave_turn_s57 a0 i564))) (by kernel_rfl) ?_ h677 _ v675 h678) ?_
      · rintro ⟨i636, x637⟩ s h
        refine W_seq (by kernel_rfl) ?_
        refine W_run 1 [] [2, 7, 8, 13, 14, 18, 19, 20] [12] (fr' := [(2, .one (.fn 55 [])), (7, .one (.slc 12)), (8, aI i564), (13, aI a0), (14, aI i564), (18, aI (List.length x565 : Int)), (19, aI i636), (20, aB (decide (i636 < (List.length x565 : Int))))]) (L' := [(12, .seq tI x637)]) (obs := []) (by kernel_rfl) (by kernel_rfl) (by kernel_rfl) allP0 ?_
        refine seqQ_norm ?_
        refine W_seq (by kernel_rfl) ?_
        refine W_cond (o := .tmp 20) (b := decide (i636 < (List.length x565 : Int))) (by kernel_rfl) (by kernel_rfl) (fun h641 => ?_) (fun h641 => ?_)
        · replace h := stepL_true h641 h
          obtain ⟨v639, _, h640, h, rfl⟩ := h
          refine W_skip [2, 7, 8, 13, 14, 18, 19] [12] (fr' := [(2, .one (.fn 55 [])), (7, .one (.slc 12)), (8, aI i564), (13, aI a0), (14, aI i564), (18, aI (List.length x565 : Int)), (19, aI i636)]) (L' := [(12, .seq tI x637)]) (by kernel_rfl) (by kernel_rfl) ?_
          refine seqQ_norm ?_
          refine W_seq (by kernel_rfl) ?_
          obtain ⟨v672, h673, h⟩ := bind_of h
          refine W_cutK (Q' := (exQ .normal (wave_each_with_wave_turn_s54 a0 i564 x565 i636)) v672) ?_ ?_
          · replace h := h673
            refine W_block (id := 3) (by kernel_rfl) ?_
            refine W_seq (by kernel_rfl) ?_
            refine W_run 2 [] [2, 7, 8, 9, 13, 14, 18, 19] [12] (fr' := [(2, .one (.fn 55 [])), (7, .one (.slc 12)), (8, aI i564), (9, aI i636), (13, aI a0), (14, aI i564), (18, aI (List.length x565 : Int)), (19, aI i636)]) (L' := [(12, .seq tI x637)]) (obs := []) (by kernel_rfl) (by kernel_rfl) (by kernel_rfl) allP0 ?_
            refine seqQ_norm ?_
            refine W_seq (by kernel_rfl) ?_
            obtain ⟨_, h662, h⟩ := bind_of h
            replace h662 := ck_some h662
            refine W_run 5 [] [2, 7, 8, 9, 10, 13, 14, 18, 19] [12] (fr' := [(2, .one (.fn 55 [])), (7, .one (.slc 12)), (8, aI i564), (9, aI i636), (10, aI (bOr .i64 i636 (bShl .i64 (1 : Int) i564))), (13, aI a0), (14, aI i564), (18, aI (List.length x565 : Int)), (19, aI i636)]) (L' := [(12, .seq tI x637)]) (obs := [(0 ≤ i564)]) (by kernel_rfl) (by kernel_rfl) (by kernel_rfl) (allP1 h662) ?_
            refine seqQ_norm ?_
            refine W_seq (by kernel_rfl) ?_
            refine W_run 3 [] [2, 7, 8, 9, 10, 13, 14, 18, 19, 28] [12] (fr' := [(2, .one (.fn 55 [])), (7, .one (.slc 12)), (8, aI i564), (9, aI i636), (10, aI (bOr .i64 i636 (bShl .i64 (1 : Int) i564))), (13, aI a0), (14, aI i564), (18, aI (List.length x565 : Int)), (19, aI i636), (28, aB ((bOr .i64 i636 (bShl .i64 (1 : Int) i564)) != i636))]) (L' := [(12, .seq tI x637)]) (obs := []) (by kernel_rfl) (by kernel_rfl) (by kernel_rfl) allP0 ?_
            refine seqQ_norm ?_
            refine W_cond (o := .tmp 28) (b := (bOr .i64 i636 (bShl .i64 (1 : Int) i564)) != i636) (by kernel_rfl) (by kernel_rfl) (fun h663 => ?_) (fun h663 => ?_)
            · replace h := ofT h663 h
              obtain ⟨v664, h665, h⟩ := bind_of h
              obtain ⟨v666, h667, h⟩ := bind_of h
              obtain ⟨r668, h669, h⟩ := bind_of h
              obtain ⟨v670, h671, h⟩ := bind_of h
              obtain rfl := Option.some.inj h
              refine W_draw3 17 [2, 3, 16] [(17, .val (.dat tI v664)), (25, .val (.dat tI v666))] [(13, [none, none], .tup [.dat tI r668.1, .dat tI r668.2])] [2, 7, 8, 13, 14, 18, 19] [12] (fr' := [(2, .one (.fn 55 [])), (7, .one (.slc 12)), (8, aI i564), (13, aI a0), (14, aI i564), (18, aI (List.length x565 : Int)), (19, aI i636)]) (L' := [(12, .seq tI (List.set (List.set x637 (Int.toNat i636) r668.1) (Int.toNat (bOr .i64 i636 (bShl .i64 (1 : Int) i564))) r668.2))]) (out := [(30, .one (.slc 12)), (31, aI i636), (32, .one (.slc 12)), (33, aI (bOr .i64 i636 (bShl .i64 (1 : Int) i564))), (34, .one (.fn 55 [])), (35, .one (.slc 12)), (36, aI i636), (37, .one (.eptr 12 1 i636 0)), (38, aI v664), (39, .one (.slc 12)), (40, aI (bOr .i64 i636 (bShl .i64 (1 : Int) i564))), (41, .one (.eptr 12 1 (bOr .i64 i636 (bShl .i64 (1 : Int) i564)) 0)), (42, aI v666), (43, .tup [.dat tI r668.1, .dat tI r668.2]), (29, .tup [.dat tI r668.1, .dat tI r668.2]), (44, aI r668.1), (45, aI r668.2)]) (obs := [InR i636 (List.length x637), Idx x637 i636 v664, InR (bOr .i64 i636 (bShl .i64 (1 : Int) i564)) (List.length x637), Idx x637 (bOr .i64 i636 (bShl .i64 (1 : Int) i564)) v666, True]) (obs2 := [InR i636 (List.length x637), InR i636 (List.length x637), InR (bOr .i64 i636 (bShl .i64 (1 : Int) i564)) (List.length (List.set x637 (Int.toNat i636) r668.1)), InR (bOr .i64 i636 (bShl .i64 (1 : Int) i564)) (List.length (List.set x637 (Int.toNat i636) r668.1))]) (calls := [(55, [aI v664, aI v666], .tup [.dat tI r668.1, .dat tI r668.2])]) (by kernel_rfl) (by kernel_rfl) (by kernel_rfl) (by kernel_rfl) (allP2 (InR.of h665) (allP2 (Idx.of h665) (allP2 (InR.of h667) (allP2 (Idx.of h667) (allP1 trivial))))) (allC1 (by kernel_rfl) (wave_turn_ok h669) (by kernel_rfl) allC0) (by kernel_rfl) (allP2 (InR.of h665) (allP2 (InR.of h665) (allP2 (InR.of h671) (allP1 (InR.of h671))))) ?_
              refine blockQ_norm ?_
              exact exQ_mk (by kernel_rfl) (by kernel_rfl)
            · replace h := ofF h663 h
              obtain rfl := Option.some.inj h
              refine W_skip [2, 7, 8, 13, 14, 18, 19] [12] (fr' := [(2, .one (.fn 55 [])), (7, .one (.slc 12)), (8, aI i564), (13, aI a0), (14, aI i564), (18, aI (List.length x565 : Int)), (19, aI i636)]) (L' := [(12, .seq tI x637)]) (by kernel_rfl) (by kernel_rfl) ?_
              refine blockQ_norm ?_
              exact exQ_mk (by kernel_rfl) (by kernel_rfl)
          · intro e fr L hJ
            obtain ⟨rfl, rfl, rfl⟩ := hJ
            refine LT_keep [2, 7, 8, 13, 14, 18, 19] [12] (fr' := [(2, .one (.fn 55 [])), (7, .one (.slc 12)), (8, aI i564), (13, aI a0), (14, aI i564), (18, aI (List.length x565 : Int)), (19, aI i636)]) (L' := [(12, .seq tI v672)]) (by kernel_rfl) ?_
            refine seqQ_norm ?_
            obtain rfl := Option.some.inj h
            refine W_run 2 [] [2, 7, 8, 13, 14, 18, 19] [12] (fr' := [(2, .one (.fn 55 [])), (7, .one (.slc 12)), (8, aI i564), (13, aI a0), (14, aI i564), (18, aI (List.length x565 : Int)), (19, aI (w64 (i636 + (1 : Int))))]) (L' := [(12, .seq tI v672)]) (obs := []) (by kernel_rfl) (by kernel_rfl) (by kernel_rfl) allP0 ?_
            exact round_next' (by kernel_rfl) (by kernel_rfl)
        · obtain rfl := stepL_false h641 h
          refine W_exit (id := 2) [2, 7, 13, 14] [12] (fr' := [(2, .one (.fn 55 [])), (7, .one (.slc 12)), (13, aI a0), (14, aI i564)]) (L' := [(12, .seq tI x637)]) (by kernel_rfl) (by kernel_rfl) ?_
          refine seqQ_exit ?_
          refine round_exit ?_
          exact exQ_mk (by kernel_rfl) (by kernel_rfl)
      · intro e fr L hJ
        obtain ⟨rfl, rfl, rfl⟩ := hJ
        refine LT_keep [2, 7, 13, 14] [12] (fr' := [(2, .one (.fn 55 [])), (7, .one (.slc 12)), (13, aI a0), (14, aI i564)]) (L' := [(12, .seq tI v675)]) (by kernel_rfl) ?_
        refine blockQ_hit ?_
        refine blockQ_norm ?_
        refine seqQ_norm ?_
        obtain rfl := Option.some.inj h
        refine W_run 2 [] [2, 7, 13, 14] [12] (fr' := [(2, .one (.fn 55 [])), (7, .one (.slc 12)), (13, aI a0), (14, aI (w64 (i564 + (1 : Int))))]) (L' := [(12, .seq tI v675)]) (obs := []) (by kernel_rfl) (by kernel_rfl) (by kernel_rfl) allP0 ?_
        exact round_next' (by kernel_rfl) (by kernel_rfl)
    · obtain rfl := stepI_false h567 h
      refine W_exit (id := 0) [7] [12] (fr' := [(7, .one (.slc 12))]) (L' := [(12, .seq tI x565)]) (by kernel_rfl) (by kernel_rfl) ?_
      refine seqQ_exit ?_
      refine round_exit ?_
      exact exQ_mk (by kernel_rfl) (by kernel_rfl)
  · intro e fr L hJ
    obtain ⟨rfl, rfl, rfl⟩ := hJ
    refine LT_keep [7] [12] (fr' := [(7, .one (.slc 12))]) (L' := [(12, .seq tI v681)]) (by kernel_rfl) ?_
    refine blockQ_hit ?_
    refine seqQ_norm ?_
    refine W_seq (by kernel_rfl) ?_
    refine W_run 2 [] [6] [12] (fr' := [(6, .one (.slc 12))]) (L' := [(12, .seq tI v681)]) (obs := []) (by kernel_rfl) (by kernel_rfl) (by kernel_rfl) allP0 ?_
    refine seqQ_norm ?_
    obtain rfl := Option.some.inj h
    refine W_ret [6] [12] (fr' := [(6, .one (.slc 12))]) (L' := [(12, .seq tI v681)]) (by kernel_rfl) (by kernel_rfl) ?_
    exact retQ_mk (by kernel_rfl) (by kernel_rfl) (by kernel_rfl)

def wave_Back_b1 (i18 : Int) (v21 : Int) (x19 : (List Int)) : Option (Flow (List Int) (Esc ((List Int) × Int) (List Int))) :=
(idx x19 i18).bind fun v24 =>
(ck ((List.length x19 : Int) ≠ 0)).bind fun _ =>
bif (Int.tmod v24 (List.length x19 : Int)) != (0 : Int) then
(some (.done (.ret ([], (5 : Int)))))
else
(some (.next (List.set x19 (Int.toNat i18) (w64 (Int.tdiv v24 (List.length x19 : Int))))))
@[reducible] def wave_Back_s2 (r4 : (List Int)) (v : Int × (List Int)) : Fr × LL := ([(7, .one (.slc 17)), (19, aI (List.length r4 : Int)), (20, aI v.1)], [(17, .seq tI v.2)])
@[reducible] def wave_Back_s3 (v : ((List Int) × Int)) : Fr × LL := ([(4, aD (.slice tI) v.1), (5, aI v.2)], [])
@[reducible] def wave_Back_s4 (v : (List Int)) : Fr × LL := ([(7, .one (.slc 17))], [(17, .seq tI v)])
def wave_Back (a0 : Int) (a1 : (List Int)) : Option ((List Int) × Int) :=
(wave_wrong a0 a1).bind fun r1 =>
bif r1 != (0 : Int) then
(some ([], r1))
else
((wave_each_with_wave_turn a0 a1).bind fun r4 =>
(forL wave_Back_b1 (fun x19 => (.brk x19)) r4 0 r4).bind fun v29 =>
match v29 with
| .ret v34 =>
(some (v34.1, v34.2))
| .brk v35 =>
(some (v35, (0 : Int))))
theorem wave_Back_ok {a0 : Int} {a1 : (List Int)} {r : ((List Int) × Int)} (h : wave_Back a0 a1 = some r) : FnC Try.prog 34 [aI a0, aD (.slice tI) a1] [] (.tup [.dat (.slice tI) r.1, .dat tI r.2]) [] := by
  refine fnC_of_W (B := bodyOf Try.f34) (n := 41) Try.func34 (by kernel_rfl) (by kernel_rfl) (by kernel_rfl) (by kernel_rfl) (by kernel_rfl) ?_
  intro K
  refine W_seq (by kernel_rfl) ?_
  refine W_run 2 [] [0, 1] [] (fr' := [(0, aI a0), (1, aD (.slice tI) a1)]) (L' := []) (obs := []) (by kernel_rfl) (by kernel_rfl) (by kernel_rfl) allP0 ?_
  refine seqQ_norm ?_
  refine W_seq (by kernel_rfl) ?_
  refine W_seq (by kernel_rfl) ?_
  refine W_region (by kernel_rfl) ?_
  refine WO_run (j := 2) (k := 2) (orcs := []) (kF := [0, 1, 9, 10]) (kL := []) (fr' := [(0, aI a0), (1, aD (.slice tI) a1), (9, aI a0), (10, aD (.slice tI) a1)]) (L' := []) (obs := []) rfl (by kernel_rfl) allP0 ?_
  obtain ⟨r1, h2, h⟩ := bind_of h
  refine WO_call0 (us := [none, none]) (d := 11) (p := True) (j := 3) rfl ⟨by kernel_rfl, by kernel_rfl, by kernel_rfl⟩ trivial (wave_wrong_ok h2) (by kernel_rfl) ?_
  refine WO_run (j := 4) (k := 1) (orcs := []) (kF := [0, 1, 6]) (kL := []) (fr' := [(0, aI a0), (1, aD (.slice tI) a1), (6, aI r1)]) (L' := []) (obs := []) rfl (by kernel_rfl) allP0 ?_
  refine WO_fin [0, 1, 6] [] (fr' := [(0, aI a0), (1, aD (.slice tI) a1), (6, aI r1)]) (L' := []) (by kernel_rfl) (by kernel_rfl) ?_
  refine seqQ_norm ?_
  refine W_seq (by kernel_rfl) ?_
  refine W_run 2 [] [0, 1, 6, 13] [] (fr' := [(0, aI a0), (1, aD (.slice tI) a1), (6, aI r1), (13, aB (r1 != (0 : Int)))]) (L' := []) (obs := []) (by kernel_rfl) (by kernel_rfl) (by kernel_rfl) allP0 ?_
  refine seqQ_norm ?_
  refine W_cond (o := .tmp 13) (b := r1 != (0 : Int)) (by kernel_rfl) (by kernel_rfl) (fun h3 => ?_) (fun h3 => ?_)
  · replace h := ofT h3 h
    refine W_seq (by kernel_rfl) ?_
    refine W_run 3 [] [4, 5] [] (fr' := [(4, .one (.nilS)), (5, aI r1)]) (L' := []) (obs := []) (by kernel_rfl) (by kernel_rfl) (by kernel_rfl) allP0 ?_
    refine seqQ_norm ?_
    obtain rfl := Option.some.inj h
    refine W_cnv 4 (.slice tI) (by kernel_rfl) ?_
    refine W_ret [4, 5] [] (fr' := [(4, aD (.slice tI) []), (5, aI r1)]) (L' := []) (by kernel_rfl) (by kernel_rfl) ?_
    refine seqQ_ret ?_
    exact retQ_mk (by kernel_rfl) (by kernel_rfl) (by kernel_rfl)
  · replace h := ofF h3 h
    refine W_skip [0, 1] [] (fr' := [(0, aI a0), (1, aD (.slice tI) a1)]) (L' := []) (by kernel_rfl) (by kernel_rfl) ?_
    refine seqQ_norm ?_
    refine W_seq (by kernel_rfl) ?_
    refine W_region (by kernel_rfl) ?_
    refine WO_run (j := 2) (k := 2) (orcs := []) (kF := [15, 16]) (kL := []) (fr' := [(15, aI a0), (16, aD (.slice tI) a1)]) (L' := []) (obs := []) rfl (by kernel_rfl) allP0 ?_
    obtain ⟨r4, h5, h⟩ := bind_of h
    refine WO_call1 (us := [none, none, none]) (d := 17) (t := 17) (p := True) (j := 3) rfl ⟨by kernel_rfl, by kernel_rfl, by kernel_rfl⟩ trivial (wave_each_with_wave_turn_ok h5) (by kernel_rfl) ?_
    refine WO_run (j := 4) (k := 1) (orcs := []) (kF := [7]) (kL := [17]) (fr' := [(7, .one (.slc 17))]) (L' := [(17, .seq tI r4)]) (obs := []) rfl (by kernel_rfl) allP0 ?_
    refine WO_fin [7] [17] (fr' := [(7, .one (.slc 17))]) (L' := [(17, .seq tI r4)]) (by kernel_rfl) (by kernel_rfl) ?_
    refine seqQ_norm ?_
    refine W_seq (by kernel_rfl) ?_
    refine W_seq (by kernel_rfl) ?_
    refine W_run 3 [] [7, 19, 20] [17] (fr' := [(7, .one (.slc 17)), (19, aI (List.length r4 : Int)), (20, aI (0 : Int))]) (L' := [(17, .seq tI r4)]) (obs := []) (by kernel_rfl) (by kernel_rfl) (by kernel_rfl) allP0 ?_
    refine seqQ_norm ?_
    refine W_block (id := 0) (by kernel_rfl) ?_
    obtain ⟨v29, h30, h⟩ := bind_of h
    refine W_lenS (s := 17) (u := tI) (xs := r4) (by kernel_rfl) (fun h33 => ?_)
    obtain ⟨h31, h32⟩ := forL_iter h33 h30
    refine W_weaken [7, 19, 20] [17] (fr' := ((wave_Back_s2 r4) ((0 : Int), r4)).1) (L' := ((wave_Back_s2 r4) ((0 : Int), r4)).2) (by kernel_rfl) ?_
    refine W_cutK (W_loop (S := (wave_Back_s2 r4)) (J := (escQ (exQ .ret wave_Back_s3) (exQ (.exit 0) wave_Back_s4))) (by kernel_rfl) ?_ h31 _ v29 h32) ?_
    · rintro ⟨i18, x19⟩ s h
      refine W_seq (by kernel_rfl) ?_
      refine W_run 1 [] [7, 19, 20, 21] [17] (fr' := [(7, .one (.slc 17)), (19, aI (List.length r4 : Int)), (20, aI i18), (21, aB (decide (i18 < (List.length r4 : Int))))]) (L' := [(17, .seq tI x19)]) (obs := []) (by kernel_rfl) (by kernel_rfl) (by kernel_rfl) allP0 ?_
      refine seqQ_norm ?_
      refine W_seq (by kernel_rfl) ?_
      refine W_cond (o := .tmp 21) (b := decide (i18 < (List.length r4 : Int))) (by kernel_rfl) (by kernel_rfl) (fun h23 => ?_) (fun h23 => ?_)
      · replace h := stepL_true h23 h
        obtain ⟨v21, _, h22, h, rfl⟩ := h
        refine W_skip [7, 19, 20] [17] (fr' := [(7, .one (.slc 17)), (19, aI (List.length r4 : Int)), (20, aI i18)]) (L' := [(17, .seq tI x19)]) (by kernel_rfl) (by kernel_rfl) ?_
        refine seqQ_norm ?_
        refine W_seq (by kernel_rfl) ?_
        refine W_block (id := 1) (by kernel_rfl) ?_
        refine W_seq (by kernel_rfl) ?_
        refine W_run 2 [] [7, 8, 19, 20] [17] (fr' := [(7, .one (.slc 17)), (8, aI i18), (19, aI (List.length r4 : Int)), (20, aI i18)]) (L' := [(17, .seq tI x19)]) (obs := []) (by kernel_rfl) (by kernel_rfl) (by kernel_rfl) allP0 ?_
        refine seqQ_norm ?_
        refine W_seq (by kernel_rfl) ?_
        refine W_seq (by kernel_rfl) ?_
        obtain ⟨v24, h25, h⟩ := bind_of h
        obtain ⟨_, h26, h⟩ := bind_of h
        replace h26 := ck_some h26
        refine W_run 8 [(7, .val (.dat tI v24))] [7, 8, 19, 20, 30] [17] (fr' := [(7, .one (.slc 17)), (8, aI i18), (19, aI (List.length r4 : Int)), (20, aI i18), (30, aB ((Int.tmod v24 (List.length x19 : Int)) != (0 : Int)))]) (L' := [(17, .seq tI x19)]) (obs := [InR i18 (List.length x19), Idx x19 i18 v24, ((List.length x19 : Int) ≠ 0)]) (by kernel_rfl) (by kernel_rfl) (by kernel_rfl) (allP2 (InR.of h25) (allP2 (Idx.of h25) (allP1 h26))) ?_
        refine seqQ_norm ?_
        refine W_cond (o := .tmp 30) (b := (Int.tmod v24 (List.length x19 : Int)) != (0 : Int)) (by kernel_rfl) (by kernel_rfl) (fun h27 => ?_) (fun h27 => ?_)
        · replace h := ofT h27 h
          refine W_seq (by kernel_rfl) ?_
          refine W_run 2 [] [4, 5] [] (fr' := [(4, .one (.nilS)), (5, aI (5 : Int))]) (L' := []) (obs := []) (by kernel_rfl) (by kernel_rfl) (by kernel_rfl) allP0 ?_
          refine seqQ_norm ?_
          obtain rfl := Option.some.inj h
          refine W_cnv 4 (.slice tI) (by kernel_rfl) ?_
          refine W_ret [4, 5] [] (fr' := [(4, aD (.slice tI) []), (5, aI (5 : Int))]) (L' := []) (by kernel_rfl) (by kernel_rfl) ?_
          refine seqQ_ret ?_
          refine blockQ_ret ?_
          refine seqQ_ret ?_
          refine round_ret ?_
          refine escQ_ret ?_
          exact exQ_mk (by kernel_rfl) (by kernel_rfl)
        · replace h := ofF h27 h
          refine W_skip [7, 8, 19, 20] [17] (fr' := [(7, .one (.slc 17)), (8, aI i18), (19, aI (List.length r4 : Int)), (20, aI i18)]) (L' := [(17, .seq tI x19)]) (by kernel_rfl) (by kernel_rfl) ?_
          refine seqQ_norm ?_
          refine W_run 9 [(7, .val (.dat tI v24))] [7, 19, 20] [17] (fr' := [(7, .one (.slc 17)), (19, aI (List.length r4 : Int)), (20, aI i18)]) (L' := [(17, .seq tI (List.set x19 (Int.toNat i18) (w64 (Int.tdiv v24 (List.length x19 : Int)))))]) (obs := [InR i18 (List.length x19), Idx x19 i18 v24, ((List.length x19 : Int) ≠ 0), InR i18 (List.length x19), InR i18 (List.length x19)]) (by kernel_rfl) (by kernel_rfl) (by kernel_rfl) (allP2 (InR.of h25) (allP2 (Idx.of h25) (allP2 h26 (allP2 (InR.of h25) (allP1 (InR.of h25)))))) ?_
          refine blockQ_norm ?_
          refine seqQ_norm ?_
          obtain rfl := Option.some.inj h
          refine W_run 2 [] [7, 19, 20] [17] (fr' := [(7, .one (.slc 17)), (19, aI (List.length r4 : Int)), (20, aI (w64 (i18 + (1 : Int))))]) (L' := [(17, .seq tI (List.set x19 (Int.toNat i18) (w64 (Int.tdiv v24 (List.length x19 : Int)))))]) (obs := []) (by kernel_rfl) (by kernel_rfl) (by kernel_rfl) allP0 ?_
          exact round_next' (by kernel_rfl) (by kernel_rfl)
      · obtain rfl := stepL_false h23 h
        refine W_exit (id := 0) [7] [17] (fr' := [(7, .one (.slc 17))]) (L' := [(17, .seq tI x19)]) (by kernel_rfl) (by kernel_rfl) ?_
        refine seqQ_exit ?_
        refine round_exit ?_
        refine escQ_brk ?_
        exact exQ_mk (by kernel_rfl) (by kernel_rfl)
    · intro e fr L hJ
      rcases v29 with v34 | v35
      · obtain ⟨rfl, rfl, rfl⟩ := hJ
        obtain rfl := Option.some.inj h
        refine LT_keep [4, 5] [] (fr' := [(4, aD (.slice tI) v34.1), (5, aI v34.2)]) (L' := []) (by kernel_rfl) ?_
        refine blockQ_ret ?_
        refine seqQ_ret ?_
        exact retQ_mk (by kernel_rfl) (by kernel_rfl) (by kernel_rfl)
      · obtain ⟨rfl, rfl, rfl⟩ := hJ
        refine LT_keep [7] [17] (fr' := [(7, .one (.slc 17))]) (L' := [(17, .seq tI v35)]) (by kernel_rfl) ?_
        refine blockQ_hit ?_
        refine seqQ_norm ?_
        refine W_seq (by kernel_rfl) ?_
        refine W_run 3 [] [4, 5] [17] (fr' := [(4, .one (.slc 17)), (5, aI (0 : Int))]) (L' := [(17, .seq tI v35)]) (obs := []) (by kernel_rfl) (by kernel_rfl) (by kernel_rfl) allP0 ?_
        refine seqQ_norm ?_
        obtain rfl := Option.some.inj h
        refine W_frz 17 (by kernel_rfl) ?_
        refine W_ret [4, 5] [] (fr' := [(4, aD (.slice tI) v35), (5, aI (0 : Int))]) (L' := []) (by kernel_rfl) (by kernel_rfl) ?_
        exact retQ_mk (by kernel_rfl) (by kernel_rfl) (by kernel_rfl)

def ref_Within (a0 : Int) (a1 : Int) (a2 : Int) : Option Bool :=
some ((decide (a0 ≤ a1)) && (decide (a1 ≤ a2)))
theorem ref_Within_ok {a0 : Int} {a1 : Int} {a2 : Int} {r : Bool} (h : ref_Within a0 a1 a2 = some r) : FnC Try.prog 32 [aI a0, aI a1, aI a2] [] (aB r) [] := by
  refine fnC_of_W (B := bodyOf Try.f32) (n := 15) Try.func32 (by kernel_rfl) (by kernel_rfl) (by kernel_rfl) (by kernel_rfl) (by kernel_rfl) ?_
  intro K
  refine W_seq (by kernel_rfl) ?_
  refine W_run 1 [] [0, 1, 2] [] (fr' := [(0, aI a0), (1, aI a1), (2, aI a2)]) (L' := []) (obs := []) (by kernel_rfl) (by kernel_rfl) (by kernel_rfl) allP0 ?_
  refine seqQ_norm ?_
  refine W_seq (by kernel_rfl) ?_
  refine W_run 9 [] [6] [] (fr' := [(6, aB ((decide (a0 ≤ a1)) && (decide (a1 ≤ a2))))]) (L' := []) (obs := []) (by kernel_rfl) (by kernel_rfl) (by kernel_rfl) allP0 ?_
  refine seqQ_norm ?_
  obtain rfl := Option.some.inj h
  refine W_ret [6] [] (fr' := [(6, aB ((decide (a0 ≤ a1)) && (decide (a1 ≤ a2))))]) (L' := []) (by kernel_rfl) (by kernel_rfl) ?_
  exact retQ_mk (by kernel_rfl) (by kernel_rfl) (by kernel_rfl)

def ref_WaveCheck_b1 (i20 : Int) (v23 : Int) (x21 : Unit) : Option (Flow Unit (Esc Int Unit)) :=
(ref_Within (-1000000000 : Int) v23 (1000000000 : Int)).bind fun r26 =>
bif !r26 then
(some (.done (.ret (4 : Int))))
else
(some (.next ()))
@[reducible] def ref_WaveCheck_s2 (a1 : (List Int)) (v : Int × Unit) : Fr × LL := ([(16, aD (.slice tI) a1), (17, aI (List.length a1 : Int)), (18, aI v.1)], [])
@[reducible] def ref_WaveCheck_s3 (v : Int) : Fr × LL := ([(4, aI v)], [])
@[reducible] def ref_WaveCheck_s4 (v : Unit) : Fr × LL := ([], [])
def ref_WaveCheck (a0 : Int) (a1 : (List Int)) : Option Int :=
(ref_Within (0 : Int) a0 (4 : Int)).bind fun r1 =>
bif !r1 then
(some (1 : Int))
else
((ck (0 ≤ IntKind.wrap .u64 (a0))).bind fun _ =>
bif (List.length a1 : Int) != (bShl .i64 (1 : Int) (IntKind.wrap .u64 (a0))) then
(some (3 : Int))
else
((forL ref_WaveCheck_b1 (fun x21 => (.brk ())) a1 0 ()).bind fun v30 =>
match v30 with
| .ret v35 =>
(some v35)
| .brk v36 =>
(some (0 : Int))))
theorem ref_WaveCheck_ok {a0 : Int} {a1 : (List Int)} {r : Int} (h : ref_WaveCheck a0 a1 = some r) : FnC Try.prog 28 [aI a0, aD (.slice tI) a1] [] (aI r) [] := by
  refine fnC_of_W (B := bodyOf Try.f28) (n := 26) Try.func28 (by kernel_rfl) (by kernel_rfl) (by kernel_rfl) (by kernel_rfl) (by kernel_rfl) ?_
  intro K
  refine W_seq (by kernel_rfl) ?_
  refine W_run 1 [] [0, 1] [] (fr' := [(0, aI a0), (1, aD (.slice tI) a1)]) (L' := []) (obs := []) (by kernel_rfl) (by kernel_rfl) (by kernel_rfl) allP0 ?_
  refine seqQ_norm ?_
  refine W_seq (by kernel_rfl) ?_
  refine W_seq (by kernel_rfl) ?_
  refine W_region (by kernel_rfl) ?_
  refine WO_run (j := 1) (k := 1) (orcs := []) (kF := [0, 1, 7]) (kL := []) (fr' := [(0, aI a0), (1, aD (.slice tI) a1), (7, aI a0)]) (L' := []) (obs := []) rfl (by kernel_rfl) allP0 ?_
  obtain ⟨r1, h2, h⟩ := bind_of h
  refine WO_call0 (us := [none, none, none]) (d := 8) (p := True) (j := 2) rfl ⟨by kernel_rfl, by kernel_rfl, by kernel_rfl⟩ trivial (ref_Within_ok h2) (by kernel_rfl) ?_
  refine WO_run (j := 3) (k := 1) (orcs := []) (kF := [0, 1, 9]) (kL := []) (fr' := [(0, aI a0), (1, aD (.slice tI) a1), (9, aB (!r1))]) (L' := []) (obs := []) rfl (by kernel_rfl) allP0 ?_
  refine WO_fin [0, 1, 9] [] (fr' := [(0, aI a0), (1, aD (.slice tI) a1), (9, aB (!r1))]) (L' := []) (by kernel_rfl) (by kernel_rfl) ?_
  refine seqQ_norm ?_
  refine W_cond (o := .tmp 9) (b := !r1) (by kernel_rfl) (by kernel_rfl) (fun h3 => ?_) (fun h3 => ?_)
  · replace h := ofT h3 h
    refine W_seq (by kernel_rfl) ?_
    refine W_run 1 [] [4] [] (fr' := [(4, aI (1 : Int))]) (L' := []) (obs := []) (by kernel_rfl) (by kernel_rfl) (by kernel_rfl) allP0 ?_
    refine seqQ_norm ?_
    obtain rfl := Option.some.inj h
    refine W_ret [4] [] (fr' := [(4, aI (1 : Int))]) (L' := []) (by kernel_rfl) (by kernel_rfl) ?_
    refine seqQ_ret ?_
    exact retQ_mk (by kernel_rfl) (by kernel_rfl) (by kernel_rfl)
  · replace h := ofF h3 h
    refine W_skip [0, 1] [] (fr' := [(0, aI a0), (1, aD (.slice tI) a1)]) (L' := []) (by kernel_rfl) (by kernel_rfl) ?_
    refine seqQ_norm ?_
    refine W_seq (by kernel_rfl) ?_
    refine W_seq (by kernel_rfl) ?_
    obtain ⟨_, h4, h⟩ := bind_of h
    replace h4 := ck_some h4
    refine W_run 6 [] [1, 15] [] (fr' := [(1, aD (.slice tI) a1), (15, aB ((List.length a1 : Int) != (bShl .i64 (1 : Int) (IntKind.wrap .u64 (a0)))))]) (L' := []) (obs := [(0 ≤ IntKind.wrap .u64 (a0))]) (by kernel_rfl) (by kernel_rfl) (by kernel_rfl) (allP1 h4) ?_
    refine seqQ_norm ?_
    refine W_cond (o := .tmp 15) (b := (List.length a1 : Int) != (bShl .i64 (1 : Int) (IntKind.wrap .u64 (a0)))) (by kernel_rfl) (by kernel_rfl) (fun h5 => ?_) (fun h5 => ?_)
    · replace h := ofT h5 h
      refine W_seq (by kernel_rfl) ?_
      refine W_run 1 [] [4] [] (fr' := [(4, aI (3 : Int))]) (L' := []) (obs := []) (by kernel_rfl) (by kernel_rfl) (by kernel_rfl) allP0 ?_
      refine seqQ_norm ?_
      obtain rfl := Option.some.inj h
      refine W_ret [4] [] (fr' := [(4, aI (3 : Int))]) (L' := []) (by kernel_rfl) (by kernel_rfl) ?_
      refine seqQ_ret ?_
      exact retQ_mk (by kernel_rfl) (by kernel_rfl) (by kernel_rfl)
    · replace h := ofF h5 h
      refine W_skip [1] [] (fr' := [(1, aD (.slice tI) a1)]) (L' := []) (by kernel_rfl) (by kernel_rfl) ?_
      refine seqQ_norm ?_
      refine W_seq (by kernel_rfl) ?_
      refine W_seq (by kernel_rfl) ?_
      refine W_run 3 [] [16, 17, 18] [] (fr' := [(16, aD (.slice tI) a1), (17, aI (List.length a1 : Int)), (18, aI (0 : Int))]) (L' := []) (obs := []) (by kernel_rfl) (by kernel_rfl) (by kernel_rfl) allP0 ?_
      refine seqQ_norm ?_
      refine W_block (id := 0) (by kernel_rfl) ?_
      obtain ⟨v30, h31, h⟩ := bind_of h
      refine W_len (t := 16) (u := tI) (xs := a1) (by kernel_rfl) (fun h34 => ?_)
      obtain ⟨h32, h33⟩ := forL_iter h34 h31
      refine W_weaken [16, 17, 18] [] (fr' := ((ref_WaveCheck_s2 a1) ((0 : Int), ())).1) (L' := ((ref_WaveCheck_s2 a1) ((0 : Int), ())).2) (by kernel_rfl) ?_
      refine W_cutK (W_loop (S := (ref_WaveCheck_s2 a1)) (J := (escQ (exQ .ret ref_WaveCheck_s3) (exQ (.exit 0) ref_WaveCheck_s4))) (by kernel_rfl) ?_ h32 _ v30 h33) ?_
      · rintro ⟨i20, x21⟩ s h
        refine W_seq (by kernel_rfl) ?_
        refine W_run 1 [] [16, 17, 18, 19] [] (fr' := [(16, aD (.slice tI) a1), (17, aI (List.length a1 : Int)), (18, aI i20), (19, aB (decide (i20 < (List.length a1 : Int))))]) (L' := []) (obs := []) (by kernel_rfl) (by kernel_rfl) (by kernel_rfl) allP0 ?_
        refine seqQ_norm ?_
        refine W_seq (by kernel_rfl) ?_
        refine W_cond (o := .tmp 19) (b := decide (i20 < (List.length a1 : Int))) (by kernel_rfl) (by kernel_rfl) (fun h25 => ?_) (fun h25 => ?_)
        · replace h := stepL_true h25 h
          obtain ⟨v23, _, h24, h, rfl⟩ := h
          refine W_skip [16, 17, 18] [] (fr' := [(16, aD (.slice tI) a1), (17, aI (List.length a1 : Int)), (18, aI i20)]) (L' := []) (by kernel_rfl) (by kernel_rfl) ?_
          refine seqQ_norm ?_
          refine W_seq (by kernel_rfl) ?_
          refine W_block (id := 1) (by kernel_rfl) ?_
          refine W_seq (by kernel_rfl) ?_
          refine W_run 3 [(1, .val (.dat tI v23))] [6, 16, 17, 18] [] (fr' := [(6, aI v23), (16, aD (.slice tI) a1), (17, aI (List.length a1 : Int)), (18, aI i20)]) (L' := []) (obs := [Idx a1 i20 v23]) (by kernel_rfl) (by kernel_rfl) (by kernel_rfl) (allP1 (Idx.of h24)) ?_
          refine seqQ_norm ?_
          refine W_seq (by kernel_rfl) ?_
          refine W_region (by kernel_rfl) ?_
          refine WO_run (j := 1) (k := 1) (orcs := []) (kF := [16, 17, 18, 22]) (kL := []) (fr' := [(16, aD (.slice tI) a1), (17, aI (List.length a1 : Int)), (18, aI i20), (22, aI v23)]) (L' := []) (obs := []) rfl (by kernel_rfl) allP0 ?_
          obtain ⟨r26, h27, h⟩ := bind_of h
          refine WO_call0 (us := [none, none, none]) (d := 23) (p := True) (j := 2) rfl ⟨by kernel_rfl, by kernel_rfl, by kernel_rfl⟩ trivial (ref_Within_ok h27) (by kernel_rfl) ?_
          refine WO_run (j := 3) (k := 1) (orcs := []) (kF := [16, 17, 18, 24]) (kL := []) (fr' := [(16, aD (.slice tI) a1), (17, aI (List.length a1 : Int)), (18, aI i20), (24, aB (!r26))]) (L' := []) (obs := []) rfl (by kernel_rfl) allP0 ?_
          refine WO_fin [16, 17, 18, 24] [] (fr' := [(16, aD (.slice tI) a1), (17, aI (List.length a1 : Int)), (18, aI i20), (24, aB (!r26))]) (L' := []) (by kernel_rfl) (by kernel_rfl) ?_
          refine seqQ_norm ?_
          refine W_cond (o := .tmp 24) (b := !r26) (by kernel_rfl) (by kernel_rfl) (fun h28 => ?_) (fun h28 => ?_)
          · replace h := ofT h28 h
            refine W_seq (by kernel_rfl) ?_
            refine W_run 1 [] [4] [] (fr' := [(4, aI (4 : Int))]) (L' := []) (obs := []) (by kernel_rfl) (by kernel_rfl) (by kernel_rfl) allP0 ?_
            refine seqQ_norm ?_
            obtain rfl := Option.some.inj h
            refine W_ret [4] [] (fr' := [(4, aI (4 : Int))]) (L' := []) (by kernel_rfl) (by kernel_rfl) ?_
            refine blockQ_ret ?_
            refine seqQ_ret ?_
            refine round_ret ?_
            refine escQ_ret ?_
            exact exQ_mk (by kernel_rfl) (by kernel_rfl)
          · replace h := ofF h28 h
            refine W_skip [16, 17, 18] [] (fr' := [(16, aD (.slice tI) a1), (17, aI (List.length a1 : Int)), (18, aI i20)]) (L' := []) (by kernel_rfl) (by kernel_rfl) ?_
            refine blockQ_norm ?_
            refine seqQ_norm ?_
            obtain rfl := Option.some.inj h
            refine W_run 2 [] [16, 17, 18] [] (fr' := [(16, aD (.slice tI) a1), (17, aI (List.length a1 : Int)), (18, aI (w64 (i20 + (1 : Int))))]) (L' := []) (obs := []) (by kernel_rfl) (by kernel_rfl) (by kernel_rfl) allP0 ?_
            exact round_next' (by kernel_rfl) (by kernel_rfl)
        · obtain rfl := stepL_false h25 h
          refine W_exit (id := 0) [] [] (fr' := []) (L' := []) (by kernel_rfl) (by kernel_rfl) ?_
          refine seqQ_exit ?_
          refine round_exit ?_
          refine escQ_brk ?_
          exact exQ_mk (by kernel_rfl) (by kernel_rfl)
      · intro e fr L hJ
        rcases v30 with v35 | v36
        · obtain ⟨rfl, rfl, rfl⟩ := hJ
          obtain rfl := Option.some.inj h
          refine LT_keep [4] [] (fr' := [(4, aI v35)]) (L' := []) (by kernel_rfl) ?_
          refine blockQ_ret ?_
          refine seqQ_ret ?_
          exact retQ_mk (by kernel_rfl) (by kernel_rfl) (by kernel_rfl)
        · obtain ⟨rfl, rfl, rfl⟩ := hJ
          refine LT_keep [] [] (fr' := []) (L' := []) (by kernel_rfl) ?_
          refine blockQ_hit ?_
          refine seqQ_norm ?_
          refine W_seq (by kernel_rfl) ?_
          refine W_run 1 [] [4] [] (fr' := [(4, aI (0 : Int))]) (L' := []) (obs := []) (by kernel_rfl) (by kernel_rfl) (by kernel_rfl) allP0 ?_
          refine seqQ_norm ?_
          obtain rfl := Option.some.inj h
          refine W_ret [4] [] (fr' := [(4, aI (0 : Int))]) (L' := []) (by kernel_rfl) (by kernel_rfl) ?_
          exact retQ_mk (by kernel_rfl) (by kernel_rfl) (by kernel_rfl)

def ref_Bit (a0 : Int) (a1 : Int) : Option Bool :=
bif (decide (a1 ≥ (0 : Int))) && (decide (a1 < (63 : Int))) then
((ck (0 ≤ IntKind.wrap .u64 (a1))).bind fun _ =>
some ((bAnd .i64 a0 (bShl .i64 (1 : Int) (IntKind.wrap .u64 (a1)))) != (0 : Int)))
else
(some false)
theorem ref_Bit_ok {a0 : Int} {a1 : Int} {r : Bool} (h : ref_Bit a0 a1 = some r) : FnC Try.prog 49 [aI a0, aI a1] [] (aB r) [] := by
  refine fnC_of_W (B := bodyOf Try.f49) (n := 19) Try.func49 (by kernel_rfl) (by kernel_rfl) (by kernel_rfl) (by kernel_rfl) (by kernel_rfl) ?_
  intro K
  refine W_seq (by kernel_rfl) ?_
  refine W_run 1 [] [0, 1] [] (fr' := [(0, aI a0), (1, aI a1)]) (L' := []) (obs := []) (by kernel_rfl) (by kernel_rfl) (by kernel_rfl) allP0 ?_
  refine seqQ_norm ?_
  refine W_seq (by kernel_rfl) ?_
  refine W_region (by kernel_rfl) ?_
  refine WO_run (j := 7) (k := 7) (orcs := []) (kF := [0, 1, 11]) (kL := []) (fr' := [(0, aI a0), (1, aI a1), (11, aB ((decide (a1 ≥ (0 : Int))) && (decide (a1 < (63 : Int)))))]) (L' := []) (obs := []) rfl (by kernel_rfl) allP0 ?_
  rcases Bool.eq_false_or_eq_true ((decide (a1 ≥ (0 : Int))) && (decide (a1 < (63 : Int)))) with h1 | h1
  · replace h := ofT h1 h
    obtain ⟨_, h2, h⟩ := bind_of h
    replace h2 := ck_some h2
    refine WO_run (j := 15) (k := 8) (orcs := [(14, .known true), (16, .known true), (18, .known true), (20, .known true), (22, .known true), (24, .known true), (27, .val (.dat .bool true))]) (kF := [4]) (kL := []) (fr' := [(4, aB ((bAnd .i64 a0 (bShl .i64 (1 : Int) (IntKind.wrap .u64 (a1)))) != (0 : Int)))]) (L' := []) (obs := [(((decide (a1 ≥ (0 : Int))) && (decide (a1 < (63 : Int)))) = true), (((decide (a1 ≥ (0 : Int))) && (decide (a1 < (63 : Int)))) = true), (((decide (a1 ≥ (0 : Int))) && (decide (a1 < (63 : Int)))) = true), (((decide (a1 ≥ (0 : Int))) && (decide (a1 < (63 : Int)))) = true), (0 ≤ IntKind.wrap .u64 (a1)), (((decide (a1 ≥ (0 : Int))) && (decide (a1 < (63 : Int)))) = true), (((decide (a1 ≥ (0 : Int))) && (decide (a1 < (63 : Int)))) = true), (((decide (a1 ≥ (0 : Int))) && (decide (a1 < (63 : Int)))) = true)]) rfl (by kernel_rfl) (allP2 h1 (allP2 h1 (allP2 h1 (allP2 h1 (allP2 h2 (allP2 h1 (allP2 h1 (allP1 h1)))))))) ?_
    refine WO_fin [4] [] (fr' := [(4, aB ((bAnd .i64 a0 (bShl .i64 (1 : Int) (IntKind.wrap .u64 (a1)))) != (0 : Int)))]) (L' := []) (by kernel_rfl) (by kernel_rfl) ?_
    refine seqQ_norm ?_
    obtain rfl := Option.some.inj h
    refine W_ret [4] [] (fr' := [(4, aB ((bAnd .i64 a0 (bShl .i64 (1 : Int) (IntKind.wrap .u64 (a1)))) != (0 : Int)))]) (L' := []) (by kernel_rfl) (by kernel_rfl) ?_
    exact retQ_mk (by kernel_rfl) (by kernel_rfl) (by kernel_rfl)
  · replace h := ofF h1 h
    refine WO_run (j := 15) (k := 8) (orcs := [(14, .known false), (16, .known false), (18, .known false), (20, .known false), (22, .known false), (24, .known false), (27, .val (.dat .bool false))]) (kF := [4]) (kL := []) (fr' := [(4, aB false)]) (L' := []) (obs := [(((decide (a1 ≥ (0 : Int))) && (decide (a1 < (63 : Int)))) = false), (((decide (a1 ≥ (0 : Int))) && (decide (a1 < (63 : Int)))) = false), (((decide (a1 ≥ (0 : Int))) && (decide (a1 < (63 : Int)))) = false), (((decide (a1 ≥ (0 : Int))) && (decide (a1 < (63 : Int)))) = false), (((decide (a1 ≥ (0 : Int))) && (decide (a1 < (63 : Int)))) = false), (((decide (a1 ≥ (0 : Int))) && (decide (a1 < (63 : Int)))) = false), (((decide (a1 ≥ (0 : Int))) && (decide (a1 < (63 : Int)))) = false)]) rfl (by kernel_rfl) (allP2 h1 (allP2 h1 (allP2 h1 (allP2 h1 (allP2 h1 (allP2 h1 (allP1 h1))))))) ?_
    refine WO_fin [4] [] (fr' := [(4, aB false)]) (L' := []) (by kernel_rfl) (by kernel_rfl) ?_
    refine seqQ_norm ?_
    obtain rfl := Option.some.inj h
    refine W_ret [4] [] (fr' := [(4, aB false)]) (L' := []) (by kernel_rfl) (by kernel_rfl) ?_
    exact retQ_mk (by kernel_rfl) (by kernel_rfl) (by kernel_rfl)

@[reducible] def ref_Size_s3 (a0 : Int) (i27 : Int) (v : Int) : Fr × LL := ([(0, aI a0), (3, aI v), (4, aI i27)], [])
def ref_Size_b4 (a0 : Int) (i27 : Int) (x28 : Int) : Option (Flow Int Int) :=
((ref_Bit a0 i27).bind fun r37 =>
bif r37 then
(some (w64 (x28 + (1 : Int))))
else
(some x28)).bind fun v40 =>
some (.next v40)
@[reducible] def ref_Size_s5 (a0 : Int) (v : Int × Int) : Fr × LL := ([(0, aI a0), (3, aI v.2), (4, aI v.1)], [])
@[reducible] def ref_Size_s6 (v : Int) : Fr × LL := ([(3, aI v)], [])
def ref_Size (a0 : Int) : Option Int :=
(forI (0 : Int) (63 : Int) (ref_Size_b4 a0) (fun x28 => x28) (0 : Int)).bind fun v43 =>
some v43
theorem ref_Size_ok {a0 : Int} {r : Int} (h : ref_Size a0 = some r) : FnC Try.prog 58 [aI a0] [] (aI r) [] := by
  refine fnC_of_W (B := bodyOf Try.f58) (n := 15) Try.func58 (by kernel_rfl) (by kernel_rfl) (by kernel_rfl) (by kernel_rfl) (by kernel_rfl) ?_
  intro K
  refine W_seq (by kernel_rfl) ?_
  refine W_run 1 [] [0] [] (fr' := [(0, aI a0)]) (L' := []) (obs := []) (by kernel_rfl) (by kernel_rfl) (by kernel_rfl) allP0 ?_
  refine seqQ_norm ?_
  refine W_seq (by kernel_rfl) ?_
  refine W_run 1 [] [0, 3] [] (fr' := [(0, aI a0), (3, aI (0 : Int))]) (L' := []) (obs := []) (by kernel_rfl) (by kernel_rfl) (by kernel_rfl) allP0 ?_
  refine seqQ_norm ?_
  refine W_seq (by kernel_rfl) ?_
  refine W_seq (by kernel_rfl) ?_
  refine W_run 1 [] [0, 3, 4] [] (fr' := [(0, aI a0), (3, aI (0 : Int)), (4, aI (0 : Int))]) (L' := []) (obs := []) (by kernel_rfl) (by kernel_rfl) (by kernel_rfl) allP0 ?_
  refine seqQ_norm ?_
  refine W_block (id := 0) (by kernel_rfl) ?_
  obtain ⟨v43, h44, h⟩ := bind_of h
  obtain ⟨h45, h46⟩ := forI_iter h44
  refine W_weaken [0, 3, 4] [] (fr' := ((ref_Size_s5 a0) ((0 : Int), (0 : Int))).1) (L' := ((ref_Size_s5 a0) ((0 : Int), (0 : Int))).2) (by kernel_rfl) ?_
  refine W_cutK (W_loop (S := (ref_Size_s5 a0)) (J := (exQ (.exit 0) ref_Size_s6)) (by kernel_rfl) ?_ h45 _ v43 h46) ?_
  · rintro ⟨i27, x28⟩ s h
    refine W_seq (by kernel_rfl) ?_
    refine W_seq (by kernel_rfl) ?_
    refine W_run 2 [] [0, 3, 4, 6] [] (fr' := [(0, aI a0), (3, aI x28), (4, aI i27), (6, aB (decide (i27 < (63 : Int))))]) (L' := []) (obs := []) (by kernel_rfl) (by kernel_rfl) (by kernel_rfl) allP0 ?_
    refine seqQ_norm ?_
    refine W_cond (o := .tmp 6) (b := decide (i27 < (63 : Int))) (by kernel_rfl) (by kernel_rfl) (fun h30 => ?_) (fun h30 => ?_)
    · replace h := stepI_true h30 h
      obtain ⟨_, h, rfl⟩ := h
      refine W_skip [0, 3, 4] [] (fr' := [(0, aI a0), (3, aI x28), (4, aI i27)]) (L' := []) (by kernel_rfl) (by kernel_rfl) ?_
      refine seqQ_norm ?_
      refine W_seq (by kernel_rfl) ?_
      obtain ⟨v40, h41, h⟩ := bind_of h
      refine W_cutK (Q' := (exQ .normal (ref_Size_s3 a0 i27)) v40) ?_ ?_
      · replace h := h41
        refine W_block (id := 1) (by kernel_rfl) ?_
        refine W_seq (by kernel_rfl) ?_
        refine W_region (by kernel_rfl) ?_
        refine WO_run (j := 2) (k := 2) (orcs := []) (kF := [0, 3, 4, 9, 10]) (kL := []) (fr' := [(0, aI a0), (3, aI x28), (4, aI i27), (9, aI a0), (10, aI i27)]) (L' := []) (obs := []) rfl (by kernel_rfl) allP0 ?_
        obtain ⟨r37, h38, h⟩ := bind_of h
        refine WO_call0 (us := [none, none]) (d := 11) (p := True) (j := 3) rfl ⟨by kernel_rfl, by kernel_rfl, by kernel_rfl⟩ trivial (ref_Bit_ok h38) (by kernel_rfl) ?_
        refine WO_fin [0, 3, 4, 11] [] (fr' := [(0, aI a0), (3, aI x28), (4, aI i27), (11, aB r37)]) (L' := []) (by kernel_rfl) (by kernel_rfl) ?_
        refine seqQ_norm ?_
        refine W_cond (o := .tmp 11) (b := r37) (by kernel_rfl) (by kernel_rfl) (fun h39 => ?_) (fun h39 => ?_)
        · replace h := ofT h39 h
          obtain rfl := Option.some.inj h
          refine W_run 3 [] [0, 3, 4] [] (fr' := [(0, aI a0), (3, aI (w64 (x28 + (1 : Int)))), (4, aI i27)]) (L' := []) (obs := []) (by kernel_rfl) (by kernel_rfl) (by kernel_rfl) allP0 ?_
          refine blockQ_norm ?_
          exact exQ_mk (by kernel_rfl) (by kernel_rfl)
        · replace h := ofF h39 h
          obtain rfl := Option.some.inj h
          refine W_skip [0, 3, 4] [] (fr' := [(0, aI a0), (3, aI x28), (4, aI i27)]) (L' := []) (by kernel_rfl) (by kernel_rfl) ?_
          refine blockQ_norm ?_
          exact exQ_mk (by kernel_rfl) (by kernel_rfl)
      · intro e fr L hJ
        obtain ⟨rfl, rfl, rfl⟩ := hJ
        refine LT_keep [0, 3, 4] [] (fr' := [(0, aI a0), (3, aI v40), (4, aI i27)]) (L' := []) (by kernel_rfl) ?_
        refine seqQ_norm ?_
        obtain rfl := Option.some.inj h
        refine W_run 3 [] [0, 3, 4] [] (fr' := [(0, aI a0), (3, aI v40), (4, aI (w64 (i27 + (1 : Int))))]) (L' := []) (obs := []) (by kernel_rfl) (by kernel_rfl) (by kernel_rfl) allP0 ?_
        exact round_next' (by kernel_rfl) (by kernel_rfl)
    · obtain rfl := stepI_false h30 h
      refine W_exit (id := 0) [3] [] (fr' := [(3, aI x28)]) (L' := []) (by kernel_rfl) (by kernel_rfl) ?_
      refine seqQ_exit ?_
      refine round_exit ?_
      exact exQ_mk (by kernel_rfl) (by kernel_rfl)
  · intro e fr L hJ
    obtain ⟨rfl, rfl, rfl⟩ := hJ
    refine LT_keep [3] [] (fr' := [(3, aI v43)]) (L' := []) (by kernel_rfl) ?_
    refine blockQ_hit ?_
    refine seqQ_norm ?_
    refine W_seq (by kernel_rfl) ?_
    refine W_run 2 [] [2] [] (fr' := [(2, aI v43)]) (L' := []) (obs := []) (by kernel_rfl) (by kernel_rfl) (by kernel_rfl) allP0 ?_
    refine seqQ_norm ?_
    obtain rfl := Option.some.inj h
    refine W_ret [2] [] (fr' := [(2, aI v43)]) (L' := []) (by kernel_rfl) (by kernel_rfl) ?_
    exact retQ_mk (by kernel_rfl) (by kernel_rfl) (by kernel_rfl)

def ref_Odd (a0 : Int) (a1 : Int) : Option Bool :=
(ref_Size (bAnd .i64 a0 a1)).bind fun r1 =>
some ((Int.tmod r1 (2 : Int)) == (1 : Int))
theorem ref_Odd_ok {a0 : Int} {a1 : Int} {r : Bool} (h : ref_Odd a0 a1 = some r) : FnC Try.prog 56 [aI a0, aI a1] [] (aB r) [] := by
  refine fnC_of_W (B := bodyOf Try.f56) (n := 11) Try.func56 (by kernel_rfl) (by kernel_rfl) (by kernel_rfl) (by kernel_rfl) (by kernel_rfl) ?_
  intro K
  refine W_seq (by kernel_rfl) ?_
  refine W_run 1 [] [0, 1] [] (fr' := [(0, aI a0), (1, aI a1)]) (L' := []) (obs := []) (by kernel_rfl) (by kernel_rfl) (by kernel_rfl) allP0 ?_
  refine seqQ_norm ?_
  refine W_seq (by kernel_rfl) ?_
  refine W_region (by kernel_rfl) ?_
  refine WO_run (j := 3) (k := 3) (orcs := []) (kF := [7]) (kL := []) (fr' := [(7, aI (bAnd .i64 a0 a1))]) (L' := []) (obs := []) rfl (by kernel_rfl) allP0 ?_
  obtain ⟨r1, h2, h⟩ := bind_of h
  refine WO_call0 (us := [none]) (d := 8) (p := True) (j := 4) rfl ⟨by kernel_rfl, by kernel_rfl, by kernel_rfl⟩ trivial (ref_Size_ok h2) (by kernel_rfl) ?_
  refine WO_run (j := 7) (k := 3) (orcs := []) (kF := [4]) (kL := []) (fr' := [(4, aB ((Int.tmod r1 (2 : Int)) == (1 : Int)))]) (L' := []) (obs := [((2 : Int) ≠ 0)]) rfl (by kernel_rfl) (allP1 (by decide)) ?_
  refine WO_fin [4] [] (fr' := [(4, aB ((Int.tmod r1 (2 : Int)) == (1 : Int)))]) (L' := []) (by kernel_rfl) (by kernel_rfl) ?_
  refine seqQ_norm ?_
  obtain rfl := Option.some.inj h
  refine W_ret [4] [] (fr' := [(4, aB ((Int.tmod r1 (2 : Int)) == (1 : Int)))]) (L' := []) (by kernel_rfl) (by kernel_rfl) ?_
  exact retQ_mk (by kernel_rfl) (by kernel_rfl) (by kernel_rfl)

@[reducible] def ref_Wave_s24 (a0 : (List Int)) (i186 : Int) (x187 : (List Int)) (i248 : Int) (x249 : Int) (v : Int) : Fr × LL := ([(0, aD (.slice tI) a0), (3, .one (.slc 33)), (4, aI i186), (5, aI x249), (7, aI v), (14, aD (.slice tI) a0), (15, aI (List.length a0 : Int)), (16, aI i248)], [(33, .seq tI x187)])
def ref_Wave_b25 (i186 : Int) (i248 : Int) (v251 : Int) (x249 : Int) : Option (Flow Int Int) :=
((ref_Odd i186 i248).bind fun r271 =>
bif r271 then
(some (w64 (0 - v251)))
else
(some v251)).bind fun v274 =>
some (.next (w64 (x249 + v274)))
@[reducible] def ref_Wave_s26 (a0 : (List Int)) (i186 : Int) (x187 : (List Int)) (v : Int × Int) : Fr × LL := ([(0, aD (.slice tI) a0), (3, .one (.slc 33)), (4, aI i186), (5, aI v.2), (14, aD (.slice tI) a0), (15, aI (List.length a0 : Int)), (16, aI v.1)], [(33, .seq tI x187)])
@[reducible] def ref_Wave_s27 (a0 : (List Int)) (i186 : Int) (x187 : (List Int)) (v : Int) : Fr × LL := ([(0, aD (.slice tI) a0), (3, .one (.slc 33)), (4, aI i186), (5, aI v)], [(33, .seq tI x187)])
def ref_Wave_b28 (a0 : (List Int)) (i186 : Int) (v189 : Int) (x187 : (List Int)) : Option (Flow (List Int) (List Int)) :=
(forL (ref_Wave_b25 i186) (fun x249 => x249) a0 0 (0 : Int)).bind fun v277 =>
(ck ((List.length x187 : Int) + 1 ≤ 4294967296)).bind fun _ =>
some (.next (x187 ++ [v277]))
@[reducible] def ref_Wave_s29 (a0 : (List Int)) (v : Int × (List Int)) : Fr × LL := ([(0, aD (.slice tI) a0), (3, .one (.slc 33)), (4, aI v.1)], [(33, .seq tI v.2)])
@[reducible] def ref_Wave_s30 (v : (List Int)) : Fr × LL := ([(3, .one (.slc 33))], [(33, .seq tI v)])
def ref_Wave (a0 : (List Int)) : Option (List Int) :=
(forL (ref_Wave_b28 a0) (fun x187 => x187) a0 0 []).bind fun v284 =>
some v284
theorem ref_Wave_ok {a0 : (List Int)} {r : (List Int)} (h : ref_Wave a0 = some r) : FnC Try.prog 30 [aD (.slice tI) a0] [] (aD (.slice tI) r) [] := by
  refine fnC_of_W (B := bodyOf Try.f30) (n := 35) Try.func30 (by kernel_rfl) (by kernel_rfl) (by kernel_rfl) (by kernel_rfl) (by kernel_rfl) ?_
  intro K
  refine W_seq (by kernel_rfl) ?_
  refine W_run 1 [] [0] [] (fr' := [(0, aD (.slice tI) a0)]) (L' := []) (obs := []) (by kernel_rfl) (by kernel_rfl) (by kernel_rfl) allP0 ?_
  refine seqQ_norm ?_
  refine W_seq (by kernel_rfl) ?_
  refine W_run 1 [] [0, 3] [] (fr' := [(0, aD (.slice tI) a0), (3, .one (.nilS))]) (L' := []) (obs := []) (by kernel_rfl) (by kernel_rfl) (by kernel_rfl) allP0 ?_
  refine seqQ_norm ?_
  refine W_seq (by kernel_rfl) ?_
  refine W_seq (by kernel_rfl) ?_
  refine W_run 1 [] [0, 3, 4] [] (fr' := [(0, aD (.slice tI) a0), (3, .one (.nilS)), (4, aI (0 : Int))]) (L' := []) (obs := []) (by kernel_rfl) (by kernel_rfl) (by kernel_rfl) allP0 ?_
  refine seqQ_norm ?_
  refine W_block (id := 0) (by kernel_rfl) ?_
  obtain ⟨v284, h285, h⟩ := bind_of h
  refine W_len (t := 0) (u := tI) (xs := a0) (by kernel_rfl) (fun h288 => ?_)
  obtain ⟨h286, h287⟩ := forL_iter h288 h285
  refine W_mine 3 33 tI (by kernel_rfl) ?_
  refine W_weaken [0, 3, 4] [33] (fr' := ((ref_Wave_s29 a0) ((0 : Int), [])).1) (L' := ((ref_Wave_s29 a0) ((0 : Int), [])).2) (by kernel_rfl) ?_
  refine W_cutK (W_loop (S := (ref_Wave_s29 a0)) (J := (exQ (.exit 0) ref_Wave_s30)) (by kernel_rfl) ?_ h286 _ v284 h287) ?_
  · rintro ⟨i186, x187⟩ s h
    refine W_seq (by kernel_rfl) ?_
    refine W_seq (by kernel_rfl) ?_
    refine W_run 4 [] [0, 3, 4, 11] [33] (fr' := [(0, aD (.slice tI) a0), (3, .one (.slc 33)), (4, aI i186), (11, aB (decide (i186 < (List.length a0 : Int))))]) (L' := [(33, .seq tI x187)]) (obs := []) (by kernel_rfl) (by kernel_rfl) (by kernel_rfl) allP0 ?_
    refine seqQ_norm ?_
    refine W_cond (o := .tmp 11) (b := decide (i186 < (List.length a0 : Int))) (by kernel_rfl) (by kernel_rfl) (fun h191 => ?_) (fun h191 => ?_)
    · replace h := stepL_true h191 h
      obtain ⟨v189, _, h190, h, rfl⟩ := h
      refine W_skip [0, 3, 4] [33] (fr' := [(0, aD (.slice tI) a0), (3, .one (.slc 33)), (4, aI i186)]) (L' := [(33, .seq tI x187)]) (by kernel_rfl) (by kernel_rfl) ?_
      refine seqQ_norm ?_
      refine W_seq (by kernel_rfl) ?_
      refine W_block (id := 1) (by kernel_rfl) ?_
      refine W_seq (by kernel_rfl) ?_
      refine W_run 1 [] [0, 3, 4, 5] [33] (fr' := [(0, aD (.slice tI) a0), (3, .one (.slc 33)), (4, aI i186), (5, aI (0 : Int))]) (L' := [(33, .seq tI x187)]) (obs := []) (by kernel_rfl) (by kernel_rfl) (by kernel_rfl) allP0 ?_
      refine seqQ_norm ?_
      refine W_seq (by kernel_rfl) ?_
      refine W_seq (by kernel_rfl) ?_
      refine W_run 3 [] [0, 3, 4, 5, 14, 15, 16] [33] (fr' := [(0, aD (.slice tI) a0), (3, .one (.slc 33)), (4, aI i186), (5, aI (0 : Int)), (14, aD (.slice tI) a0), (15, aI (List.length a0 : Int)), (16, aI (0 : Int))]) (L' := [(33, .seq tI x187)]) (obs := []) (by kernel_rfl) (by kernel_rfl) (by kernel_rfl) allP0 ?_
      refine seqQ_norm ?_
      refine W_block (id := 2) (by kernel_rfl) ?_
      obtain ⟨v277, h278, h⟩ := bind_of h
      refine W_len (t := 14) (u := tI) (xs := a0) (by kernel_rfl) (fun h281 => ?_)
      obtain ⟨h279, h280⟩ := forL_iter h281 h278
      refine W_weaken [0, 3, 4, 5, 14, 15, 16] [33] (fr' := ((ref_Wave_s26 a0 i186 x187) ((0 : Int), (0 : Int))).1) (L' := ((ref_Wave_s26 a0 i186 x187) ((0 : Int), (0 : Int))).2) (by kernel_rfl) ?_
      refine W_cutK (W_loop (S := (ref_Wave_s26 a0 i186 x187)) (J := (exQ (.exit 2) (ref_Wave_s27 a0 i186 x187))) (by kernel_rfl) ?_ h279 _ v277 h280) ?_
      · rintro ⟨i248, x249⟩ s h
        refine W_seq (by kernel_rfl) ?_
        refine W_run 1 [] [0, 3, 4, 5, 14, 15, 16, 17] [33] (fr' := [(0, aD (.slice tI) a0), (3, .one (.slc 33)), (4, aI i186), (5, aI x249), (14, aD (.slice tI) a0), (15, aI (List.length a0 : Int)), (16, aI i248), (17, aB (decide (i248 < (List.length a0 : Int))))]) (L' := [(33, .seq tI x187)]) (obs := []) (by kernel_rfl) (by kernel_rfl) (by kernel_rfl) allP0 ?_
        refine seqQ_norm ?_
        refine W_seq (by kernel_rfl) ?_
        refine W_cond (o := .tmp 17) (b := decide (i248 < (List.length a0 : Int))) (by kernel_rfl) (by kernel_rfl) (fun h253 => ?_) (fun h253 => ?_)
        · replace h := stepL_true h253 h
          obtain ⟨v251, _, h252, h, rfl⟩ := h
          refine W_skip [0, 3, 4, 5, 14, 15, 16] [33] (fr' := [(0, aD (.slice tI) a0), (3, .one (.slc 33)), (4, aI i186), (5, aI x249), (14, aD (.slice tI) a0), (15, aI (List.length a0 : Int)), (16, aI i248)]) (L' := [(33, .seq tI x187)]) (by kernel_rfl) (by kernel_rfl) ?_
          refine seqQ_norm ?_
          refine W_seq (by kernel_rfl) ?_
          refine W_block (id := 3) (by kernel_rfl) ?_
          refine W_seq (by kernel_rfl) ?_
          refine W_run 5 [(3, .val (.dat tI v251))] [0, 3, 4, 5, 6, 7, 14, 15, 16] [33] (fr' := [(0, aD (.slice tI) a0), (3, .one (.slc 33)), (4, aI i186), (5, aI x249), (6, aI i248), (7, aI v251), (14, aD (.slice tI) a0), (15, aI (List.length a0 : Int)), (16, aI i248)]) (L' := [(33, .seq tI x187)]) (obs := [Idx a0 i248 v251]) (by kernel_rfl) (by kernel_rfl) (by kernel_rfl) (allP1 (Idx.of h252)) ?_
          refine seqQ_norm ?_
          refine W_seq (by kernel_rfl) ?_
          obtain ⟨v274, h275, h⟩ := bind_of h
          refine W_cutK (Q' := (exQ .normal (ref_Wave_s24 a0 i186 x187 i248 x249)) v274) ?_ ?_
          · replace h := h275
            refine W_seq (by kernel_rfl) ?_
            refine W_region (by kernel_rfl) ?_
            refine WO_run (j := 2) (k := 2) (orcs := []) (kF := [0, 3, 4, 5, 7, 14, 15, 16, 21, 22]) (kL := [33]) (fr' := [(0, aD (.slice tI) a0), (3, .one (.slc 33)), (4, aI i186), (5, aI x249), (7, aI v251), (14, aD (.slice tI) a0), (15, aI (List.length a0 : Int)), (16, aI i248), (21, aI i186), (22, aI i248)]) (L' := [(33, .seq tI x187)]) (obs := []) rfl (by kernel_rfl) allP0 ?_
            obtain ⟨r271, h272, h⟩ := bind_of h
            refine WO_call0 (us := [none, none]) (d := 23) (p := True) (j := 3) rfl ⟨by kernel_rfl, by kernel_rfl, by kernel_rfl⟩ trivial (ref_Odd_ok h272) (by kernel_rfl) ?_
            refine WO_fin [0, 3, 4, 5, 7, 14, 15, 16, 23] [33] (fr' := [(0, aD (.slice tI) a0), (3, .one (.slc 33)), (4, aI i186), (5, aI x249), (7, aI v251), (14, aD (.slice tI) a0), (15, aI (List.length a0 : Int)), (16, aI i248), (23, aB r271)]) (L' := [(33, .seq tI x187)]) (by kernel_rfl) (by kernel_rfl) ?_
            refine seqQ_norm ?_
            refine W_cond (o := .tmp 23) (b := r271) (by kernel_rfl) (by kernel_rfl) (fun h273 => ?_) (fun h273 => ?_)
            · replace h := ofT h273 h
              obtain rfl := Option.some.inj h
              refine W_run 3 [] [0, 3, 4, 5, 7, 14, 15, 16] [33] (fr' := [(0, aD (.slice tI) a0), (3, .one (.slc 33)), (4, aI i186), (5, aI x249), (7, aI (w64 (0 - v251))), (14, aD (.slice tI) a0), (15, aI (List.length a0 : Int)), (16, aI i248)]) (L' := [(33, .seq tI x187)]) (obs := []) (by kernel_rfl) (by kernel_rfl) (by kernel_rfl) allP0 ?_
              exact exQ_mk (by kernel_rfl) (by kernel_rfl)
            · replace h := ofF h273 h
              obtain rfl := Option.some.inj h
              refine W_skip [0, 3, 4, 5, 7, 14, 15, 16] [33] (fr' := [(0, aD (.slice tI) a0), (3, .one (.slc 33)), (4, aI i186), (5, aI x249), (7, aI v251), (14, aD (.slice tI) a0), (15, aI (List.length a0 : Int)), (16, aI i248)]) (L' := [(33, .seq tI x187)]) (by kernel_rfl) (by kernel_rfl) ?_
              exact exQ_mk (by kernel_rfl) (by kernel_rfl)
          · intro e fr L hJ
            obtain ⟨rfl, rfl, rfl⟩ := hJ
            refine LT_keep [0, 3, 4, 5, 7, 14, 15, 16] [33] (fr' := [(0, aD (.slice tI) a0), (3, .one (.slc 33)), (4, aI i186), (5, aI x249), (7, aI v274), (14, aD (.slice tI) a0), (15, aI (List.length a0 : Int)), (16, aI i248)]) (L' := [(33, .seq tI x187)]) (by kernel_rfl) ?_
            refine seqQ_norm ?_
            refine W_run 4 [] [0, 3, 4, 5, 14, 15, 16] [33] (fr' := [(0, aD (.slice tI) a0), (3, .one (.slc 33)), (4, aI i186), (5, aI (w64 (x249 + v274))), (14, aD (.slice tI) a0), (15, aI (List.length a0 : Int)), (16, aI i248)]) (L' := [(33, .seq tI x187)]) (obs := []) (by kernel_rfl) (by kernel_rfl) (by kernel_rfl) allP0 ?_
            refine blockQ_norm ?_
            refine seqQ_norm ?_
            obtain rfl := Option.some.inj h
            refine W_run 2 [] [0, 3, 4, 5, 14, 15, 16] [33] (fr' := [(0, aD (.slice tI) a0), (3, .one (.slc 33)), (4, aI i186), (5, aI (w64 (x249 + v274))), (14, aD (.slice tI) a0), (15, aI (List.length a0 : Int)), (16, aI (w64 (i248 + (1 : Int))))]) (L' := [(33, .seq tI x187)]) (obs := []) (by kernel_rfl) (by kernel_rfl) (by kernel_rfl) allP0 ?_
            exact round_next' (by kernel_rfl) (by kernel_rfl)
        · obtain rfl := stepL_false h253 h
          refine W_exit (id := 2) [0, 3, 4, 5] [33] (fr' := [(0, aD (.slice tI) a0), (3, .one (.slc 33)), (4, aI i186), (5, aI x249)]) (L' := [(33, .seq tI x187)]) (by kernel_rfl) (by kernel_rfl) ?_
          refine seqQ_exit ?_
          refine round_exit ?_
          exact exQ_mk (by kernel_rfl) (by kernel_rfl)
      · intro e fr L hJ
        obtain ⟨rfl, rfl, rfl⟩ := hJ
        refine LT_keep [0, 3, 4, 5] [33] (fr' := [(0, aD (.slice tI) a0), (3, .one (.slc 33)), (4, aI i186), (5, aI v277)]) (L' := [(33, .seq tI x187)]) (by kernel_rfl) ?_
        refine blockQ_hit ?_
        refine seqQ_norm ?_
        obtain ⟨_, h282, h⟩ := bind_of h
        replace h282 := ck_some h282
        refine W_run 5 [] [0, 3, 4] [33] (fr' := [(0, aD (.slice tI) a0), (3, .one (.slc 33)), (4, aI i186)]) (L' := [(33, .seq tI (x187 ++ [v277]))]) (obs := [SmallLen (List.length x187 + List.length [v277])]) (by kernel_rfl) (by kernel_rfl) (by kernel_rfl) (allP1 h282) ?_
        refine blockQ_norm ?_
        refine seqQ_norm ?_
        obtain rfl := Option.some.inj h
        refine W_run 3 [] [0, 3, 4] [33] (fr' := [(0, aD (.slice tI) a0), (3, .one (.slc 33)), (4, aI (w64 (i186 + (1 : Int))))]) (L' := [(33, .seq tI (x187 ++ [v277]))]) (obs := []) (by kernel_rfl) (by kernel_rfl) (by kernel_rfl) allP0 ?_
        exact round_next' (by kernel_rfl) (by kernel_rfl)
    · obtain rfl := stepL_false h191 h
      refine W_exit (id := 0) [3] [33] (fr' := [(3, .one (.slc 33))]) (L' := [(33, .seq tI x187)]) (by kernel_rfl) (by kernel_rfl) ?_
      refine seqQ_exit ?_
      refine round_exit ?_
      exact exQ_mk (by kernel_rfl) (by kernel_rfl)
  · intro e fr L hJ
    obtain ⟨rfl, rfl, rfl⟩ := hJ
    refine LT_keep [3] [33] (fr' := [(3, .one (.slc 33))]) (L' := [(33, .seq tI v284)]) (by kernel_rfl) ?_
    refine blockQ_hit ?_
    refine seqQ_norm ?_
    refine W_seq (by kernel_rfl) ?_
    refine W_run 2 [] [2] [33] (fr' := [(2, .one (.slc 33))]) (L' := [(33, .seq tI v284)]) (obs := []) (by kernel_rfl) (by kernel_rfl) (by kernel_rfl) allP0 ?_
    refine seqQ_norm ?_
    obtain rfl := Option.some.inj h
    refine W_frz 33 (by kernel_rfl) ?_
    refine W_ret [2] [] (fr' := [(2, aD (.slice tI) v284)]) (L' := []) (by kernel_rfl) (by kernel_rfl) ?_
    exact retQ_mk (by kernel_rfl) (by kernel_rfl) (by kernel_rfl)

def ref_Ints_b1 (a1 : (List Int)) (i16 : Int) (v19 : Int) (x17 : Unit) : Option (Flow Unit (Esc Bool Unit)) :=
(idx a1 i16).bind fun v22 =>
bif v19 != v22 then
(some (.done (.ret false)))
else
(some (.next ()))
@[reducible] def ref_Ints_s2 (a0 : (List Int)) (a1 : (List Int)) (v : Int × Unit) : Fr × LL := ([(0, aD (.slice tI) a0), (1, aD (.slice tI) a1), (5, aI v.1)], [])
@[reducible] def ref_Ints_s3 (v : Bool) : Fr × LL := ([(4, aB v)], [])
@[reducible] def ref_Ints_s4 (v : Unit) : Fr × LL := ([], [])
def ref_Ints (a0 : (List Int)) (a1 : (List Int)) : Option Bool :=
bif (List.length a0 : Int) != (List.length a1 : Int) then
(some false)
else
((forL (ref_Ints_b1 a1) (fun x17 => (.brk ())) a0 0 ()).bind fun v26 =>
match v26 with
| .ret v31 =>
(some v31)
| .brk v32 =>
(some true))
theorem ref_Ints_ok {a0 : (List Int)} {a1 : (List Int)} {r : Bool} (h : ref_Ints a0 a1 = some r) : FnC Try.prog 29 [aD (.slice tI) a0, aD (.slice tI) a1] [] (aB r) [] := by
  refine fnC_of_W (B := bodyOf Try.f29) (n := 26) Try.func29 (by kernel_rfl) (by kernel_rfl) (by kernel_rfl) (by kernel_rfl) (by kernel_rfl) ?_
  intro K
  refine W_seq (by kernel_rfl) ?_
  refine W_run 1 [] [0, 1] [] (fr' := [(0, aD (.slice tI) a0), (1, aD (.slice tI) a1)]) (L' := []) (obs := []) (by kernel_rfl) (by kernel_rfl) (by kernel_rfl) allP0 ?_
  refine seqQ_norm ?_
  refine W_seq (by kernel_rfl) ?_
  refine W_seq (by kernel_rfl) ?_
  refine W_run 5 [] [0, 1, 10] [] (fr' := [(0, aD (.slice tI) a0), (1, aD (.slice tI) a1), (10, aB ((List.length a0 : Int) != (List.length a1 : Int)))]) (L' := []) (obs := []) (by kernel_rfl) (by kernel_rfl) (by kernel_rfl) allP0 ?_
  refine seqQ_norm ?_
  refine W_cond (o := .tmp 10) (b := (List.length a0 : Int) != (List.length a1 : Int)) (by kernel_rfl) (by kernel_rfl) (fun h1 => ?_) (fun h1 => ?_)
  · replace h := ofT h1 h
    refine W_seq (by kernel_rfl) ?_
    refine W_run 1 [] [4] [] (fr' := [(4, aB false)]) (L' := []) (obs := []) (by kernel_rfl) (by kernel_rfl) (by kernel_rfl) allP0 ?_
    refine seqQ_norm ?_
    obtain rfl := Option.some.inj h
    refine W_ret [4] [] (fr' := [(4, aB false)]) (L' := []) (by kernel_rfl) (by kernel_rfl) ?_
    refine seqQ_ret ?_
    exact retQ_mk (by kernel_rfl) (by kernel_rfl) (by kernel_rfl)
  · replace h := ofF h1 h
    refine W_skip [0, 1] [] (fr' := [(0, aD (.slice tI) a0), (1, aD (.slice tI) a1)]) (L' := []) (by kernel_rfl) (by kernel_rfl) ?_
    refine seqQ_norm ?_
    refine W_seq (by kernel_rfl) ?_
    refine W_seq (by kernel_rfl) ?_
    refine W_run 1 [] [0, 1, 5] [] (fr' := [(0, aD (.slice tI) a0), (1, aD (.slice tI) a1), (5, aI (0 : Int))]) (L' := []) (obs := []) (by kernel_rfl) (by kernel_rfl) (by kernel_rfl) allP0 ?_
    refine seqQ_norm ?_
    refine W_block (id := 0) (by kernel_rfl) ?_
    obtain ⟨v26, h27, h⟩ := bind_of h
    refine W_len (t := 0) (u := tI) (xs := a0) (by kernel_rfl) (fun h30 => ?_)
    obtain ⟨h28, h29⟩ := forL_iter h30 h27
    refine W_weaken [0, 1, 5] [] (fr' := ((ref_Ints_s2 a0 a1) ((0 : Int), ())).1) (L' := ((ref_Ints_s2 a0 a1) ((0 : Int), ())).2) (by kernel_rfl) ?_
    refine W_cutK (W_loop (S := (ref_Ints_s2 a0 a1)) (J := (escQ (exQ .ret ref_Ints_s3) (exQ (.exit 0) ref_Ints_s4))) (by kernel_rfl) ?_ h28 _ v26 h29) ?_
    · rintro ⟨i16, x17⟩ s h
      refine W_seq (by kernel_rfl) ?_
      refine W_seq (by kernel_rfl) ?_
      refine W_run 4 [] [0, 1, 5, 14] [] (fr' := [(0, aD (.slice tI) a0), (1, aD (.slice tI) a1), (5, aI i16), (14, aB (decide (i16 < (List.length a0 : Int))))]) (L' := []) (obs := []) (by kernel_rfl) (by kernel_rfl) (by kernel_rfl) allP0 ?_
      refine seqQ_norm ?_
      refine W_cond (o := .tmp 14) (b := decide (i16 < (List.length a0 : Int))) (by kernel_rfl) (by kernel_rfl) (fun h21 => ?_) (fun h21 => ?_)
      · replace h := stepL_true h21 h
        obtain ⟨v19, _, h20, h, rfl⟩ := h
        refine W_skip [0, 1, 5] [] (fr' := [(0, aD (.slice tI) a0), (1, aD (.slice tI) a1), (5, aI i16)]) (L' := []) (by kernel_rfl) (by kernel_rfl) ?_
        refine seqQ_norm ?_
        refine W_seq (by kernel_rfl) ?_
        refine W_block (id := 1) (by kernel_rfl) ?_
        refine W_seq (by kernel_rfl) ?_
        obtain ⟨v22, h23, h⟩ := bind_of h
        refine W_draw2 9 [(5, .val (.dat tI v19)), (13, .val (.dat tI v22))] [] [0, 1, 5, 25] [] (fr' := [(0, aD (.slice tI) a0), (1, aD (.slice tI) a1), (5, aI i16), (25, aB (v19 != v22))]) (L' := []) (out := [(17, aD (.slice tI) a0), (18, aI i16), (19, .one (.dptr tI v19)), (20, aI v19), (21, aD (.slice tI) a1), (22, aI i16), (23, .one (.dptr tI v22)), (24, aI v22), (25, aB (v19 != v22))]) (obs := [Idx a0 i16 v19, Idx a1 i16 v22]) (obs2 := []) (calls := []) (by kernel_rfl) (by kernel_rfl) (by kernel_rfl) (by kernel_rfl) (allP2 (Idx.of h20) (allP1 (Idx.of h23))) allC0 (by kernel_rfl) allP0 ?_
        refine seqQ_norm ?_
        refine W_cond (o := .tmp 25) (b := v19 != v22) (by kernel_rfl) (by kernel_rfl) (fun h24 => ?_) (fun h24 => ?_)
        · replace h := ofT h24 h
          refine W_seq (by kernel_rfl) ?_
          refine W_run 1 [] [4] [] (fr' := [(4, aB false)]) (L' := []) (obs := []) (by kernel_rfl) (by kernel_rfl) (by kernel_rfl) allP0 ?_
          refine seqQ_norm ?_
          obtain rfl := Option.some.inj h
          refine W_ret [4] [] (fr' := [(4, aB false)]) (L' := []) (by kernel_rfl) (by kernel_rfl) ?_
          refine blockQ_ret ?_
          refine seqQ_ret ?_
          refine round_ret ?_
          refine escQ_ret ?_
          exact exQ_mk (by kernel_rfl) (by kernel_rfl)
        · replace h := ofF h24 h
          refine W_skip [0, 1, 5] [] (fr' := [(0, aD (.slice tI) a0), (1, aD (.slice tI) a1), (5, aI i16)]) (L' := []) (by kernel_rfl) (by kernel_rfl) ?_
          refine blockQ_norm ?_
          refine seqQ_norm ?_
          obtain rfl := Option.some.inj h
          refine W_run 3 [] [0, 1, 5] [] (fr' := [(0, aD (.slice tI) a0), (1, aD (.slice tI) a1), (5, aI (w64 (i16 + (1 : Int))))]) (L' := []) (obs := []) (by kernel_rfl) (by kernel_rfl) (by kernel_rfl) allP0 ?_
          exact round_next' (by kernel_rfl) (by kernel_rfl)
      · obtain rfl := stepL_false h21 h
        refine W_exit (id := 0) [] [] (fr' := []) (L' := []) (by kernel_rfl) (by kernel_rfl) ?_
        refine seqQ_exit ?_
        refine round_exit ?_
        refine escQ_brk ?_
        exact exQ_mk (by kernel_rfl) (by kernel_rfl)
    · intro e fr L hJ
      rcases v26 with v31 | v32
      · obtain ⟨rfl, rfl, rfl⟩ := hJ
        obtain rfl := Option.some.inj h
        refine LT_keep [4] [] (fr' := [(4, aB v31)]) (L' := []) (by kernel_rfl) ?_
        refine blockQ_ret ?_
        refine seqQ_ret ?_
        exact retQ_mk (by kernel_rfl) (by kernel_rfl) (by kernel_rfl)
      · obtain ⟨rfl, rfl, rfl⟩ := hJ
        refine LT_keep [] [] (fr' := []) (L' := []) (by kernel_rfl) ?_
        refine blockQ_hit ?_
        refine seqQ_norm ?_
        refine W_seq (by kernel_rfl) ?_
        refine W_run 1 [] [4] [] (fr' := [(4, aB true)]) (L' := []) (obs := []) (by kernel_rfl) (by kernel_rfl) (by kernel_rfl) allP0 ?_
        refine seqQ_norm ?_
        obtain rfl := Option.some.inj h
        refine W_ret [4] [] (fr' := [(4, aB true)]) (L' := []) (by kernel_rfl) (by kernel_rfl) ?_
        exact retQ_mk (by kernel_rfl) (by kernel_rfl) (by kernel_rfl)

@[reducible] def law_WaveBacks_s1 (v : Bool) : Fr × LL := ([(4, aB v)], [])
def law_WaveBacks_b2 (a1 : (List Int)) (r1 : ((List Int) × Int)) (i38 : Int) (v41 : Int) (x39 : Unit) : Option (Flow Unit (Esc Bool Unit)) :=
(ck ((List.length a1 : Int) ≠ 0)).bind fun _ =>
bif (Int.tmod v41 (List.length a1 : Int)) != (0 : Int) then
(some (.done (.ret ((r1.2 == (5 : Int)) && ((List.length r1.1 : Int) == (0 : Int))))))
else
(some (.next ()))
@[reducible] def law_WaveBacks_s3 (a1 : (List Int)) (r1 : ((List Int) × Int)) (r24 : (List Int)) (v : Int × Unit) : Fr × LL := ([(1, aD (.slice tI) a1), (5, aD (.slice tI) r1.1), (6, aI r1.2), (43, aD (.slice tI) r24), (44, aI (List.length r24 : Int)), (45, aI v.1)], [])
@[reducible] def law_WaveBacks_s4 (v : Bool) : Fr × LL := ([(4, aB v)], [])
@[reducible] def law_WaveBacks_s5 (v : Unit) : Fr × LL := ([], [])
def law_WaveBacks (a0 : Int) (a1 : (List Int)) : Option Bool :=
(wave_Back a0 a1).bind fun r1 =>
(ref_WaveCheck a0 a1).bind fun r3 =>
bif r3 != (0 : Int) then
(some ((r1.2 == r3) && ((List.length r1.1 : Int) == (0 : Int))))
else
(bif r1.2 == (0 : Int) then
((bif (List.length r1.1 : Int) == (List.length a1 : Int) then
((ref_Wave r1.1).bind fun r18 =>
(ref_Ints r18 a1).bind fun r20 =>
some r20)
else
(some false)).bind fun v22 =>
some v22)
else
((ref_Wave a1).bind fun r24 =>
(forL (law_WaveBacks_b2 a1 r1) (fun x39 => (.brk ())) r24 0 ()).bind fun v47 =>
match v47 with
| .ret v52 =>
(some v52)
| .brk v53 =>
(some false)))
theorem law_WaveBacks_ok {a0 : Int} {a1 : (List Int)} {r : Bool} (h : law_WaveBacks a0 a1 = some r) : FnC Try.prog 10 [aI a0, aD (.slice tI) a1] [] (aB r) [] := by
  refine fnC_of_W (B := bodyOf Try.f10) (n := 62) Try.func10 (by kernel_rfl) (by kernel_rfl) (by kernel_rfl) (by kernel_rfl) (by kernel_rfl) ?_
  intro K
  refine W_seq (by kernel_rfl) ?_
  refine W_run 1 [] [0, 1] [] (fr' := [(0, aI a0), (1, aD (.slice tI) a1)]) (L' := []) (obs := []) (by kernel_rfl) (by kernel_rfl) (by kernel_rfl) allP0 ?_
  refine seqQ_norm ?_
  refine W_seq (by kernel_rfl) ?_
  refine W_region (by kernel_rfl) ?_
  refine WO_run (j := 2) (k := 2) (orcs := []) (kF := [0, 1, 11, 12]) (kL := []) (fr' := [(0, aI a0), (1, aD (.slice tI) a1), (11, aI a0), (12, aD (.slice tI) a1)]) (L' := []) (obs := []) rfl (by kernel_rfl) allP0 ?_
  obtain ⟨r1, h2, h⟩ := bind_of h
  refine WO_call0 (us := [none, none]) (d := 13) (p := True) (j := 3) rfl ⟨by kernel_rfl, by kernel_rfl, by kernel_rfl⟩ trivial (wave_Back_ok h2) (by kernel_rfl) ?_
  refine WO_run (j := 8) (k := 5) (orcs := []) (kF := [0, 1, 5, 6]) (kL := []) (fr' := [(0, aI a0), (1, aD (.slice tI) a1), (5, aD (.slice tI) r1.1), (6, aI r1.2)]) (L' := []) (obs := []) rfl (by kernel_rfl) allP0 ?_
  refine WO_fin [0, 1, 5, 6] [] (fr' := [(0, aI a0), (1, aD (.slice tI) a1), (5, aD (.slice tI) r1.1), (6, aI r1.2)]) (L' := []) (by kernel_rfl) (by kernel_rfl) ?_
  refine seqQ_norm ?_
  refine W_seq (by kernel_rfl) ?_
  refine W_region (by kernel_rfl) ?_
  refine WO_run (j := 2) (k := 2) (orcs := []) (kF := [1, 5, 6, 16, 17]) (kL := []) (fr' := [(1, aD (.slice tI) a1), (5, aD (.slice tI) r1.1), (6, aI r1.2), (16, aI a0), (17, aD (.slice tI) a1)]) (L' := []) (obs := []) rfl (by kernel_rfl) allP0 ?_
  obtain ⟨r3, h4, h⟩ := bind_of h
  refine WO_call0 (us := [none, none]) (d := 18) (p := True) (j := 3) rfl ⟨by kernel_rfl, by kernel_rfl, by kernel_rfl⟩ trivial (ref_WaveCheck_ok h4) (by kernel_rfl) ?_
  refine WO_run (j := 4) (k := 1) (orcs := []) (kF := [1, 5, 6, 7]) (kL := []) (fr' := [(1, aD (.slice tI) a1), (5, aD (.slice tI) r1.1), (6, aI r1.2), (7, aI r3)]) (L' := []) (obs := []) rfl (by kernel_rfl) allP0 ?_
  refine WO_fin [1, 5, 6, 7] [] (fr' := [(1, aD (.slice tI) a1), (5, aD (.slice tI) r1.1), (6, aI r1.2), (7, aI r3)]) (L' := []) (by kernel_rfl) (by kernel_rfl) ?_
  refine seqQ_norm ?_
  refine W_seq (by kernel_rfl) ?_
  refine W_seq (by kernel_rfl) ?_
  refine W_run 2 [] [1, 5, 6, 7, 20] [] (fr' := [(1, aD (.slice tI) a1), (5, aD (.slice tI) r1.1), (6, aI r1.2), (7, aI r3), (20, aB (r3 != (0 : Int)))]) (L' := []) (obs := []) (by kernel_rfl) (by kernel_rfl) (by kernel_rfl) allP0 ?_
  refine seqQ_norm ?_
  refine W_cond (o := .tmp 20) (b := r3 != (0 : Int)) (by kernel_rfl) (by kernel_rfl) (fun h5 => ?_) (fun h5 => ?_)
  · replace h := ofT h5 h
    refine W_seq (by kernel_rfl) ?_
    refine W_run 9 [] [4] [] (fr' := [(4, aB ((r1.2 == r3) && ((List.length r1.1 : Int) == (0 : Int))))]) (L' := []) (obs := []) (by kernel_rfl) (by kernel_rfl) (by kernel_rfl) allP0 ?_
    refine seqQ_norm ?_
    obtain rfl := Option.some.inj h
    refine W_ret [4] [] (fr' := [(4, aB ((r1.2 == r3) && ((List.length r1.1 : Int) == (0 : Int))))]) (L' := []) (by kernel_rfl) (by kernel_rfl) ?_
    refine seqQ_ret ?_
    exact retQ_mk (by kernel_rfl) (by kernel_rfl) (by kernel_rfl)
  · replace h := ofF h5 h
    refine W_skip [1, 5, 6] [] (fr' := [(1, aD (.slice tI) a1), (5, aD (.slice tI) r1.1), (6, aI r1.2)]) (L' := []) (by kernel_rfl) (by kernel_rfl) ?_
    refine seqQ_norm ?_
    refine W_seq (by kernel_rfl) ?_
    refine W_seq (by kernel_rfl) ?_
    refine W_run 2 [] [1, 5, 6, 30] [] (fr' := [(1, aD (.slice tI) a1), (5, aD (.slice tI) r1.1), (6, aI r1.2), (30, aB (r1.2 == (0 : Int)))]) (L' := []) (obs := []) (by kernel_rfl) (by kernel_rfl) (by kernel_rfl) allP0 ?_
    refine seqQ_norm ?_
    refine W_cond (o := .tmp 30) (b := r1.2 == (0 : Int)) (by kernel_rfl) (by kernel_rfl) (fun h6 => ?_) (fun h6 => ?_)
    · replace h := ofT h6 h
      refine W_seq (by kernel_rfl) ?_
      obtain ⟨v22, h23, h⟩ := bind_of h
      refine W_cutK (Q' := (exQ .normal law_WaveBacks_s1) v22) ?_ ?_
      · replace h := h23
        refine W_region (by kernel_rfl) ?_
        refine WO_run (j := 6) (k := 6) (orcs := []) (kF := [1, 5, 36]) (kL := []) (fr' := [(1, aD (.slice tI) a1), (5, aD (.slice tI) r1.1), (36, aB ((List.length r1.1 : Int) == (List.length a1 : Int)))]) (L' := []) (obs := []) rfl (by kernel_rfl) allP0 ?_
        rcases Bool.eq_false_or_eq_true ((List.length r1.1 : Int) == (List.length a1 : Int)) with h17 | h17
        · replace h := ofT h17 h
          refine WO_run (j := 7) (k := 1) (orcs := [(12, .known true)]) (kF := [1, 36, 37]) (kL := []) (fr' := [(1, aD (.slice tI) a1), (36, aB ((List.length r1.1 : Int) == (List.length a1 : Int))), (37, aD (.slice tI) r1.1)]) (L' := []) (obs := [(((List.length r1.1 : Int) == (List.length a1 : Int)) = true)]) rfl (by kernel_rfl) (allP1 h17) ?_
          obtain ⟨r18, h19, h⟩ := bind_of h
          refine WO_call0 (us := [none]) (d := 38) (p := (((List.length r1.1 : Int) == (List.length a1 : Int)) = true)) (j := 8) rfl ⟨by kernel_rfl, by kernel_rfl, by kernel_rfl⟩ h17 (ref_Wave_ok h19) (by kernel_rfl) ?_
          refine WO_run (j := 9) (k := 1) (orcs := [(16, .known true)]) (kF := [36, 38, 39]) (kL := []) (fr' := [(36, aB ((List.length r1.1 : Int) == (List.length a1 : Int))), (38, aD (.slice tI) r18), (39, aD (.slice tI) a1)]) (L' := []) (obs := [(((List.length r1.1 : Int) == (List.length a1 : Int)) = true)]) rfl (by kernel_rfl) (allP1 h17) ?_
          obtain ⟨r20, h21, h⟩ := bind_of h
          refine WO_call0 (us := [none, none]) (d := 40) (p := (((List.length r1.1 : Int) == (List.length a1 : Int)) = true)) (j := 10) rfl ⟨by kernel_rfl, by kernel_rfl, by kernel_rfl⟩ h17 (ref_Ints_ok h21) (by kernel_rfl) ?_
          refine WO_run (j := 12) (k := 2) (orcs := [(21, .val (.dat .bool true))]) (kF := [4]) (kL := []) (fr' := [(4, aB r20)]) (L' := []) (obs := [(((List.length r1.1 : Int) == (List.length a1 : Int)) = true)]) rfl (by kernel_rfl) (allP1 h17) ?_
          obtain rfl := Option.some.inj h
          refine WO_fin [4] [] (fr' := [(4, aB r20)]) (L' := []) (by kernel_rfl) (by kernel_rfl) ?_
          exact exQ_mk (by kernel_rfl) (by kernel_rfl)
        · replace h := ofF h17 h
          refine WO_run (j := 12) (k := 6) (orcs := [(12, .known false), (14, .known false), (16, .known false), (18, .known false), (21, .val (.dat .bool false))]) (kF := [4]) (kL := []) (fr' := [(4, aB false)]) (L' := []) (obs := [(((List.length r1.1 : Int) == (List.length a1 : Int)) = false), (((List.length r1.1 : Int) == (List.length a1 : Int)) = false), (((List.length r1.1 : Int) == (List.length a1 : Int)) = false), (((List.length r1.1 : Int) == (List.length a1 : Int)) = false), (((List.length r1.1 : Int) == (List.length a1 : Int)) = false)]) rfl (by kernel_rfl) (allP2 h17 (allP2 h17 (allP2 h17 (allP2 h17 (allP1 h17))))) ?_
          obtain rfl := Option.some.inj h
          refine WO_fin [4] [] (fr' := [(4, aB false)]) (L' := []) (by kernel_rfl) (by kernel_rfl) ?_
          exact exQ_mk (by kernel_rfl) (by kernel_rfl)
      · intro e fr L hJ
        obtain ⟨rfl, rfl, rfl⟩ := hJ
        refine LT_keep [4] [] (fr' := [(4, aB v22)]) (L' := []) (by kernel_rfl) ?_
        refine seqQ_norm ?_
        obtain rfl := Option.some.inj h
        refine W_ret [4] [] (fr' := [(4, aB v22)]) (L' := []) (by kernel_rfl) (by kernel_rfl) ?_
        refine seqQ_ret ?_
        exact retQ_mk (by kernel_rfl) (by kernel_rfl) (by kernel_rfl)
    · replace h := ofF h6 h
      refine W_skip [1, 5, 6] [] (fr' := [(1, aD (.slice tI) a1), (5, aD (.slice tI) r1.1), (6, aI r1.2)]) (L' := []) (by kernel_rfl) (by kernel_rfl) ?_
      refine seqQ_norm ?_
      refine W_seq (by kernel_rfl) ?_
      refine W_seq (by kernel_rfl) ?_
      refine W_region (by kernel_rfl) ?_
      refine WO_run (j := 1) (k := 1) (orcs := []) (kF := [1, 5, 6, 42]) (kL := []) (fr' := [(1, aD (.slice tI) a1), (5, aD (.slice tI) r1.1), (6, aI r1.2), (42, aD (.slice tI) a1)]) (L' := []) (obs := []) rfl (by kernel_rfl) allP0 ?_
      obtain ⟨r24, h25, h⟩ := bind_of h
      refine WO_call0 (us := [none]) (d := 43) (p := True) (j := 2) rfl ⟨by kernel_rfl, by kernel_rfl, by kernel_rfl⟩ trivial (ref_Wave_ok h25) (by kernel_rfl) ?_
      refine WO_run (j := 4) (k := 2) (orcs := []) (kF := [1, 5, 6, 43, 44, 45]) (kL := []) (fr' := [(1, aD (.slice tI) a1), (5, aD (.slice tI) r1.1), (6, aI r1.2), (43, aD (.slice tI) r24), (44, aI (List.length r24 : Int)), (45, aI (0 : Int))]) (L' := []) (obs := []) rfl (by kernel_rfl) allP0 ?_
      refine WO_fin [1, 5, 6, 43, 44, 45] [] (fr' := [(1, aD (.slice tI) a1), (5, aD (.slice tI) r1.1), (6, aI r1.2), (43, aD (.slice tI) r24), (44, aI (List.length r24 : Int)), (45, aI (0 : Int))]) (L' := []) (by kernel_rfl) (by kernel_rfl) ?_
      refine seqQ_norm ?_
      refine W_block (id := 0) (by kernel_rfl) ?_
      obtain ⟨v47, h48, h⟩ := bind_of h
      refine W_len (t := 43) (u := tI) (xs := r24) (by kernel_rfl) (fun h51 => ?_)
      obtain ⟨h49, h50⟩ := forL_iter h51 h48
      refine W_weaken [1, 5, 6, 43, 44, 45] [] (fr' := ((law_WaveBacks_s3 a1 r1 r24) ((0 : Int), ())).1) (L' := ((law_WaveBacks_s3 a1 r1 r24) ((0 : Int), ())).2) (by kernel_rfl) ?_
      refine W_cutK (W_loop (S := (law_WaveBacks_s3 a1 r1 r24)) (J := (escQ (exQ .ret law_WaveBacks_s4) (exQ (.exit 0) law_WaveBacks_s5))) (by kernel_rfl) ?_ h49 _ v47 h50) ?_
      · rintro ⟨i38, x39⟩ s h
        refine W_seq (by kernel_rfl) ?_
        refine W_run 1 [] [1, 5, 6, 43, 44, 45, 46] [] (fr' := [(1, aD (.slice tI) a1), (5, aD (.slice tI) r1.1), (6, aI r1.2), (43, aD (.slice tI) r24), (44, aI (List.length r24 : Int)), (45, aI i38), (46, aB (decide (i38 < (List.length r24 : Int))))]) (L' := []) (obs := []) (by kernel_rfl) (by kernel_rfl) (by kernel_rfl) allP0 ?_
        refine seqQ_norm ?_
        refine W_seq (by kernel_rfl) ?_
        refine W_cond (o := .tmp 46) (b := decide (i38 < (List.length r24 : Int))) (by kernel_rfl) (by kernel_rfl) (fun h43 => ?_) (fun h43 => ?_)
        · replace h := stepL_true h43 h
          obtain ⟨v41, _, h42, h, rfl⟩ := h
          refine W_skip [1, 5, 6, 43, 44, 45] [] (fr' := [(1, aD (.slice tI) a1), (5, aD (.slice tI) r1.1), (6, aI r1.2), (43, aD (.slice tI) r24), (44, aI (List.length r24 : Int)), (45, aI i38)]) (L' := []) (by kernel_rfl) (by kernel_rfl) ?_
          refine seqQ_norm ?_
          refine W_seq (by kernel_rfl) ?_
          refine W_block (id := 1) (by kernel_rfl) ?_
          refine W_seq (by kernel_rfl) ?_
          refine W_run 3 [(1, .val (.dat tI v41))] [1, 5, 6, 9, 43, 44, 45] [] (fr' := [(1, aD (.slice tI) a1), (5, aD (.slice tI) r1.1), (6, aI r1.2), (9, aI v41), (43, aD (.slice tI) r24), (44, aI (List.length r24 : Int)), (45, aI i38)]) (L' := []) (obs := [Idx r24 i38 v41]) (by kernel_rfl) (by kernel_rfl) (by kernel_rfl) (allP1 (Idx.of h42)) ?_
          refine seqQ_norm ?_
          refine W_seq (by kernel_rfl) ?_
          obtain ⟨_, h44, h⟩ := bind_of h
          replace h44 := ck_some h44
          refine W_run 5 [] [1, 5, 6, 43, 44, 45, 53] [] (fr' := [(1, aD (.slice tI) a1), (5, aD (.slice tI) r1.1), (6, aI r1.2), (43, aD (.slice tI) r24), (44, aI (List.length r24 : Int)), (45, aI i38), (53, aB ((Int.tmod v41 (List.length a1 : Int)) != (0 : Int)))]) (L' := []) (obs := [((List.length a1 : Int) ≠ 0)]) (by kernel_rfl) (by kernel_rfl) (by kernel_rfl) (allP1 h44) ?_
          refine seqQ_norm ?_
          refine W_cond (o := .tmp 53) (b := (Int.tmod v41 (List.length a1 : Int)) != (0 : Int)) (by kernel_rfl) (by kernel_rfl) (fun h45 => ?_) (fun h45 => ?_)
          · replace h := ofT h45 h
            refine W_seq (by kernel_rfl) ?_
            refine W_run 8 [] [4] [] (fr' := [(4, aB ((r1.2 == (5 : Int)) && ((List.length r1.1 : Int) == (0 : Int))))]) (L' := []) (obs := []) (by kernel_rfl) (by kernel_rfl) (by kernel_rfl) allP0 ?_
            refine seqQ_norm ?_
            obtain rfl := Option.some.inj h
            refine W_ret [4] [] (fr' := [(4, aB ((r1.2 == (5 : Int)) && ((List.length r1.1 : Int) == (0 : Int))))]) (L' := []) (by kernel_rfl) (by kernel_rfl) ?_
            refine blockQ_ret ?_
            refine seqQ_ret ?_
            refine round_ret ?_
            refine escQ_ret ?_
            exact exQ_mk (by kernel_rfl) (by kernel_rfl)
          · replace h := ofF h45 h
            refine W_skip [1, 5, 6, 43, 44, 45] [] (fr' := [(1, aD (.slice tI) a1), (5, aD (.slice tI) r1.1), (6, aI r1.2), (43, aD (.slice tI) r24), (44, aI (List.length r24 : Int)), (45, aI i38)]) (L' := []) (by kernel_rfl) (by kernel_rfl) ?_
            refine blockQ_norm ?_
            refine seqQ_norm ?_
            obtain rfl := Option.some.inj h
            refine W_run 2 [] [1, 5, 6, 43, 44, 45] [] (fr' := [(1, aD (.slice tI) a1), (5, aD (.slice tI) r1.1), (6, aI r1.2), (43, aD (.slice tI) r24), (44, aI (List.length r24 : Int)), (45, aI (w64 (i38 + (1 : Int))))]) (L' := []) (obs := []) (by kernel_rfl) (by kernel_rfl) (by kernel_rfl) allP0 ?_
            exact round_next' (by kernel_rfl) (by kernel_rfl)
        · obtain rfl := stepL_false h43 h
          refine W_exit (id := 0) [] [] (fr' := []) (L' := []) (by kernel_rfl) (by kernel_rfl) ?_
          refine seqQ_exit ?_
          refine round_exit ?_
          refine escQ_brk ?_
          exact exQ_mk (by kernel_rfl) (by kernel_rfl)
      · intro e fr L hJ
        rcases v47 with v52 | v53
        · obtain ⟨rfl, rfl, rfl⟩ := hJ
          obtain rfl := Option.some.inj h
          refine LT_keep [4] [] (fr' := [(4, aB v52)]) (L' := []) (by kernel_rfl) ?_
          refine blockQ_ret ?_
          refine seqQ_ret ?_
          exact retQ_mk (by kernel_rfl) (by kernel_rfl) (by kernel_rfl)
        · obtain ⟨rfl, rfl, rfl⟩ := hJ
          refine LT_keep [] [] (fr' := []) (L' := []) (by kernel_rfl) ?_
          refine blockQ_hit ?_
          refine seqQ_norm ?_
          refine W_seq (by kernel_rfl) ?_
          refine W_run 1 [] [4] [] (fr' := [(4, aB false)]) (L' := []) (obs := []) (by kernel_rfl) (by kernel_rfl) (by kernel_rfl) allP0 ?_
          refine seqQ_norm ?_
          obtain rfl := Option.some.inj h
          refine W_ret [4] [] (fr' := [(4, aB false)]) (L' := []) (by kernel_rfl) (by kernel_rfl) ?_
          exact retQ_mk (by kernel_rfl) (by kernel_rfl) (by kernel_rfl)
end Go.Proofs.Ytjgpfbdenfoffaa.waveBacks
