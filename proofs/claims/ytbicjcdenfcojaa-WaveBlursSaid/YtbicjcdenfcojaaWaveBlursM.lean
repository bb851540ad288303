/- What the functions that WaveBlurs calls compute, as models, and that they compute it: written by a program of mine. -/
import Derived.Test.YtbicjcdenfcojaaProg
import Derived.Test.YtbicjcdenfcojaaSl4
set_option linter.all false
set_option maxRecDepth 100000
namespace Go.Proofs.Ytbicjcdenfcojaa.waveBlurs
open Go Go.Sl
def wave_wrong_1 (a0 : Int) : Option Bool :=
some ((decide (a0 < (-1000000000 : Int))) || (decide (a0 > (1000000000 : Int))))
theorem wave_wrong_1_ok {a0 : Int} {r : Bool} (h : wave_wrong_1 a0 = some r) : FnC Try.prog 55 [aI a0] [] (aB r) [] := by
  refine fnC_of_W (B := bodyOf Try.f55) (n := 9) Try.func55 (by kernel_rfl) (by kernel_rfl) (by kernel_rfl) (by kernel_rfl) (by kernel_rfl) ?_
  intro K
  refine W_seq (by kernel_rfl) ?_
  refine W_run 1 [] [0] [] (fr' := [(0, aI a0)]) (L' := []) (obs := []) (by kernel_rfl) (by kernel_rfl) (by kernel_rfl) allP0 ?_
  refine seqQ_norm ?_
  refine W_seq (by kernel_rfl) ?_
  refine W_run 7 [] [2] [] (fr' := [(2, aB ((decide (a0 < (-1000000000 : Int))) || (decide (a0 > (1000000000 : Int)))))]) (L' := []) (obs := []) (by kernel_rfl) (by kernel_rfl) (by kernel_rfl) allP0 ?_
  refine seqQ_norm ?_
  obtain rfl := Option.some.inj h
  refine W_ret [2] [] (fr' := [(2, aB ((decide (a0 < (-1000000000 : Int))) || (decide (a0 > (1000000000 : Int)))))]) (L' := []) (by kernel_rfl) (by kernel_rfl) ?_
  exact retQ_mk (by kernel_rfl) (by kernel_rfl) (by kernel_rfl)

def slices_IndexFunc_Lintint_with_wave_wrong_1_b1 (i15 : Int) (v18 : Int) (x16 : Unit) : Option (Flow Unit (Esc Int Unit)) :=
(wave_wrong_1 v18).bind fun r21 =>
bif r21 then
(some (.done (.ret i15)))
else
(some (.next ()))
@[reducible] def slices_IndexFunc_Lintint_with_wave_wrong_1_s2 (a0 : (List Int)) (v : Int × Unit) : Fr × LL := ([(0, aD (.slice tI) a0), (1, .one (.fn 55 [])), (7, aI (List.length a0 : Int)), (8, aI v.1)], [])
@[reducible] def slices_IndexFunc_Lintint_with_wave_wrong_1_s3 (v : Int) : Fr × LL := ([(4, aI v)], [])
@[reducible] def slices_IndexFunc_Lintint_with_wave_wrong_1_s4 (v : Unit) : Fr × LL := ([], [])
def slices_IndexFunc_Lintint_with_wave_wrong_1 (a0 : (List Int)) : Option Int :=
(forL slices_IndexFunc_Lintint_with_wave_wrong_1_b1 (fun x16 => (.brk ())) a0 0 ()).bind fun v25 =>
match v25 with
| .ret v30 =>
(some v30)
| .brk v31 =>
(some (-1 : Int))
theorem slices_IndexFunc_Lintint_with_wave_wrong_1_ok {a0 : (List Int)} {r : Int} (h : slices_IndexFunc_Lintint_with_wave_wrong_1 a0 = some r) : FnC Try.prog 52 [aD (.slice tI) a0, .one (.fn 55 [])] [] (aI r) [] := by
  refine fnC_of_W (B := bodyOf Try.f52) (n := 19) Try.func52 (by kernel_rfl) (by kernel_rfl) (by kernel_rfl) (by kernel_rfl) (by kernel_rfl) ?_
  intro K
  refine W_seq (by kernel_rfl) ?_
  refine W_run 1 [] [0, 1] [] (fr' := [(0, aD (.slice tI) a0), (1, .one (.fn 55 []))]) (L' := []) (obs := []) (by kernel_rfl) (by kernel_rfl) (by kernel_rfl) allP0 ?_
  refine seqQ_norm ?_
  refine W_seq (by kernel_rfl) ?_
  refine W_seq (by kernel_rfl) ?_
  refine W_run 3 [] [0, 1, 7, 8] [] (fr' := [(0, aD (.slice tI) a0), (1, .one (.fn 55 [])), (7, aI (List.length a0 : Int)), (8, aI (0 : Int))]) (L' := []) (obs := []) (by kernel_rfl) (by kernel_rfl) (by kernel_rfl) allP0 ?_
  refine seqQ_norm ?_
  refine W_block (id := 0) (by kernel_rfl) ?_
  obtain ⟨v25, h26, h⟩ := bind_of h
  refine W_len (t := 0) (u := tI) (xs := a0) (by kernel_rfl) (fun h29 => ?_)
  obtain ⟨h27, h28⟩ := forL_iter h29 h26
  refine W_weaken [0, 1, 7, 8] [] (fr' := ((slices_IndexFunc_Lintint_with_wave_wrong_1_s2 a0) ((0 : Int), ())).1) (L' := ((slices_IndexFunc_Lintint_with_wave_wrong_1_s2 a0) ((0 : Int), ())).2) (by kernel_rfl) ?_
  refine W_cutK (W_loop (S := (slices_IndexFunc_Lintint_with_wave_wrong_1_s2 a0)) (J := (escQ (exQ .ret slices_IndexFunc_Lintint_with_wave_wrong_1_s3) (exQ (.exit 0) slices_IndexFunc_Lintint_with_wave_wrong_1_s4))) (by kernel_rfl) ?_ h27 _ v25 h28) ?_
  · rintro ⟨i15, x16⟩ s h
    refine W_seq (by kernel_rfl) ?_
    refine W_run 1 [] [0, 1, 7, 8, 9] [] (fr' := [(0, aD (.slice tI) a0), (1, .one (.fn 55 [])), (7, aI (List.length a0 : Int)), (8, aI i15), (9, aB (decide (i15 < (List.length a0 : Int))))]) (L' := []) (obs := []) (by kernel_rfl) (by kernel_rfl) (by kernel_rfl) allP0 ?_
    refine seqQ_norm ?_
    refine W_seq (by kernel_rfl) ?_
    refine W_cond (o := .tmp 9) (b := decide (i15 < (List.length a0 : Int))) (by kernel_rfl) (by kernel_rfl) (fun h20 => ?_) (fun h20 => ?_)
    · replace h := stepL_true h20 h
      obtain ⟨v18, _, h19, h, rfl⟩ := h
      refine W_skip [0, 1, 7, 8] [] (fr' := [(0, aD (.slice tI) a0), (1, .one (.fn 55 [])), (7, aI (List.length a0 : Int)), (8, aI i15)]) (L' := []) (by kernel_rfl) (by kernel_rfl) ?_
      refine seqQ_norm ?_
      refine W_seq (by kernel_rfl) ?_
      refine W_block (id := 1) (by kernel_rfl) ?_
      refine W_seq (by kernel_rfl) ?_
      refine W_run 2 [] [0, 1, 5, 7, 8] [] (fr' := [(0, aD (.slice tI) a0), (1, .one (.fn 55 [])), (5, aI i15), (7, aI (List.length a0 : Int)), (8, aI i15)]) (L' := []) (obs := []) (by kernel_rfl) (by kernel_rfl) (by kernel_rfl) allP0 ?_
      refine seqQ_norm ?_
      refine W_seq (by kernel_rfl) ?_
      refine W_region (by kernel_rfl) ?_
      refine WO_run (j := 5) (k := 5) (orcs := [(7, .val (.dat tI v18))]) (kF := [0, 1, 5, 7, 8, 11, 15]) (kL := []) (fr' := [(0, aD (.slice tI) a0), (1, .one (.fn 55 [])), (5, aI i15), (7, aI (List.length a0 : Int)), (8, aI i15), (11, .one (.fn 55 [])), (15, aI v18)]) (L' := []) (obs := [Idx a0 i15 v18]) rfl (by kernel_rfl) (allP1 (Idx.of h19)) ?_
      obtain ⟨r21, h22, h⟩ := bind_of h
      refine WO_call0 (us := [none]) (d := 16) (p := True) (j := 6) rfl ⟨by kernel_rfl, by kernel_rfl, by kernel_rfl⟩ trivial (wave_wrong_1_ok h22) (by kernel_rfl) ?_
      refine WO_fin [0, 1, 5, 7, 8, 16] [] (fr' := [(0, aD (.slice tI) a0), (1, .one (.fn 55 [])), (5, aI i15), (7, aI (List.length a0 : Int)), (8, aI i15), (16, aB r21)]) (L' := []) (by kernel_rfl) (by kernel_rfl) ?_
      refine seqQ_norm ?_
      refine W_cond (o := .tmp 16) (b := r21) (by kernel_rfl) (by kernel_rfl) (fun h23 => ?_) (fun h23 => ?_)
      · replace h := ofT h23 h
        refine W_seq (by kernel_rfl) ?_
        refine W_run 2 [] [4] [] (fr' := [(4, aI i15)]) (L' := []) (obs := []) (by kernel_rfl) (by kernel_rfl) (by kernel_rfl) allP0 ?_
        refine seqQ_norm ?_
        obtain rfl := Option.some.inj h
        refine W_ret [4] [] (fr' := [(4, aI i15)]) (L' := []) (by kernel_rfl) (by kernel_rfl) ?_
        refine blockQ_ret ?_
        refine seqQ_ret ?_
        refine round_ret ?_
        refine escQ_ret ?_
        exact exQ_mk (by kernel_rfl) (by kernel_rfl)
      · replace h := ofF h23 h
        refine W_skip [0, 1, 7, 8] [] (fr' := [(0, aD (.slice tI) a0), (1, .one (.fn 55 [])), (7, aI (List.length a0 : Int)), (8, aI i15)]) (L' := []) (by kernel_rfl) (by kernel_rfl) ?_
        refine blockQ_norm ?_
        refine seqQ_norm ?_
        obtain rfl := Option.some.inj h
        refine W_run 2 [] [0, 1, 7, 8] [] (fr' := [(0, aD (.slice tI) a0), (1, .one (.fn 55 [])), (7, aI (List.length a0 : Int)), (8, aI (w64 (i15 + (1 : Int))))]) (L' := []) (obs := []) (by kernel_rfl) (by kernel_rfl) (by kernel_rfl) allP0 ?_
        exact round_next' (by kernel_rfl) (by kernel_rfl)
    · obtain rfl := stepL_false h20 h
      refine W_exit (id := 0) [] [] (fr' := []) (L' := []) (by kernel_rfl) (by kernel_rfl) ?_
      refine seqQ_exit ?_
      refine round_exit ?_
      refine escQ_brk ?_
      exact exQ_mk (by kernel_rfl) (by kernel_rfl)
  · intro e fr L hJ
    rcases v25 with v30 | v31
    · obtain ⟨rfl, rfl, rfl⟩ := hJ
      obtain rfl := Option.some.inj h
      refine LT_keep [4] [] (fr' := [(4, aI v30)]) (L' := []) (by kernel_rfl) ?_
      refine blockQ_ret ?_
      refine seqQ_ret ?_
      exact retQ_mk (by kernel_rfl) (by kernel_rfl) (by kernel_rfl)
    · obtain ⟨rfl, rfl, rfl⟩ := hJ
      refine LT_keep [] [] (fr' := []) (L' := []) (by kernel_rfl) ?_
      refine blockQ_hit ?_
      refine seqQ_norm ?_
      refine W_seq (by kernel_rfl) ?_
      refine W_run 1 [] [4] [] (fr' := [(4, aI (-1 : Int))]) (L' := []) (obs := []) (by kernel_rfl) (by kernel_rfl) (by kernel_rfl) allP0 ?_
      refine seqQ_norm ?_
      obtain rfl := Option.some.inj h
      refine W_ret [4] [] (fr' := [(4, aI (-1 : Int))]) (L' := []) (by kernel_rfl) (by kernel_rfl) ?_
      exact retQ_mk (by kernel_rfl) (by kernel_rfl) (by kernel_rfl)

def slices_ContainsFunc_Lintint_with_wave_wrong_1 (a0 : (List Int)) : Option Bool :=
(slices_IndexFunc_Lintint_with_wave_wrong_1 a0).bind fun r1 =>
some (decide (r1 ≥ (0 : Int)))
theorem slices_ContainsFunc_Lintint_with_wave_wrong_1_ok {a0 : (List Int)} {r : Bool} (h : slices_ContainsFunc_Lintint_with_wave_wrong_1 a0 = some r) : FnC Try.prog 31 [aD (.slice tI) a0, .one (.fn 55 [])] [] (aB r) [] := by
  refine fnC_of_W (B := bodyOf Try.f31) (n := 9) Try.func31 (by kernel_rfl) (by kernel_rfl) (by kernel_rfl) (by kernel_rfl) (by kernel_rfl) ?_
  intro K
  refine W_seq (by kernel_rfl) ?_
  refine W_run 1 [] [0, 1] [] (fr' := [(0, aD (.slice tI) a0), (1, .one (.fn 55 []))]) (L' := []) (obs := []) (by kernel_rfl) (by kernel_rfl) (by kernel_rfl) allP0 ?_
  refine seqQ_norm ?_
  refine W_seq (by kernel_rfl) ?_
  refine W_region (by kernel_rfl) ?_
  refine WO_run (j := 2) (k := 2) (orcs := []) (kF := [5, 6]) (kL := []) (fr' := [(5, aD (.slice tI) a0), (6, .one (.fn 55 []))]) (L' := []) (obs := []) rfl (by kernel_rfl) allP0 ?_
  obtain ⟨r1, h2, h⟩ := bind_of h
  refine WO_call0 (us := [none, none]) (d := 7) (p := True) (j := 3) rfl ⟨by kernel_rfl, by kernel_rfl, by kernel_rfl⟩ trivial (slices_IndexFunc_Lintint_with_wave_wrong_1_ok h2) (by kernel_rfl) ?_
  refine WO_run (j := 5) (k := 2) (orcs := []) (kF := [4]) (kL := []) (fr' := [(4, aB (decide (r1 ≥ (0 : Int))))]) (L' := []) (obs := []) rfl (by kernel_rfl) allP0 ?_
  refine WO_fin [4] [] (fr' := [(4, aB (decide (r1 ≥ (0 : Int))))]) (L' := []) (by kernel_rfl) (by kernel_rfl) ?_
  refine seqQ_norm ?_
  obtain rfl := Option.some.inj h
  refine W_ret [4] [] (fr' := [(4, aB (decide (r1 ≥ (0 : Int))))]) (L' := []) (by kernel_rfl) (by kernel_rfl) ?_
  exact retQ_mk (by kernel_rfl) (by kernel_rfl) (by kernel_rfl)

def wave_wrong (a0 : Int) (a1 : (List Int)) : Option Int :=
bif (decide (a0 < (0 : Int))) || (decide (a0 > (4 : Int))) then
(some (1 : Int))
else
((ck (0 ≤ a0)).bind fun _ =>
bif (List.length a1 : Int) != (bShl .i64 (1 : Int) a0) then
(some (3 : Int))
else
((slices_ContainsFunc_Lintint_with_wave_wrong_1 a1).bind fun r4 =>
bif r4 then
(some (4 : Int))
else
(some (0 : Int))))
theorem wave_wrong_ok {a0 : Int} {a1 : (List Int)} {r : Int} (h : wave_wrong a0 a1 = some r) : FnC Try.prog 37 [aI a0, aD (.slice tI) a1] [] (aI r) [] := by
  refine fnC_of_W (B := bodyOf Try.f37) (n := 21) Try.func37 (by kernel_rfl) (by kernel_rfl) (by kernel_rfl) (by kernel_rfl) (by kernel_rfl) ?_
  intro K
  refine W_seq (by kernel_rfl) ?_
  refine W_run 1 [] [0, 1] [] (fr' := [(0, aI a0), (1, aD (.slice tI) a1)]) (L' := []) (obs := []) (by kernel_rfl) (by kernel_rfl) (by kernel_rfl) allP0 ?_
  refine seqQ_norm ?_
  refine W_seq (by kernel_rfl) ?_
  refine W_block (id := 0) (by kernel_rfl) ?_
  refine W_seq (by kernel_rfl) ?_
  refine W_run 7 [] [0, 1, 5] [] (fr' := [(0, aI a0), (1, aD (.slice tI) a1), (5, aB ((decide (a0 < (0 : Int))) || (decide (a0 > (4 : Int)))))]) (L' := []) (obs := []) (by kernel_rfl) (by kernel_rfl) (by kernel_rfl) allP0 ?_
  refine seqQ_norm ?_
  refine W_cond (o := .tmp 5) (b := (decide (a0 < (0 : Int))) || (decide (a0 > (4 : Int)))) (by kernel_rfl) (by kernel_rfl) (fun h1 => ?_) (fun h1 => ?_)
  · replace h := ofT h1 h
    refine W_seq (by kernel_rfl) ?_
    refine W_run 1 [] [4] [] (fr' := [(4, aI (1 : Int))]) (L' := []) (obs := []) (by kernel_rfl) (by kernel_rfl) (by kernel_rfl) allP0 ?_
    refine seqQ_norm ?_
    obtain rfl := Option.some.inj h
    refine W_ret [4] [] (fr' := [(4, aI (1 : Int))]) (L' := []) (by kernel_rfl) (by kernel_rfl) ?_
    refine blockQ_ret ?_
    refine seqQ_ret ?_
    exact retQ_mk (by kernel_rfl) (by kernel_rfl) (by kernel_rfl)
  · replace h := ofF h1 h
    refine W_seq (by kernel_rfl) ?_
    obtain ⟨_, h2, h⟩ := bind_of h
    replace h2 := ck_some h2
    refine W_run 6 [] [1, 12] [] (fr' := [(1, aD (.slice tI) a1), (12, aB ((List.length a1 : Int) != (bShl .i64 (1 : Int) a0)))]) (L' := []) (obs := [(0 ≤ a0)]) (by kernel_rfl) (by kernel_rfl) (by kernel_rfl) (allP1 h2) ?_
    refine seqQ_norm ?_
    refine W_cond (o := .tmp 12) (b := (List.length a1 : Int) != (bShl .i64 (1 : Int) a0)) (by kernel_rfl) (by kernel_rfl) (fun h3 => ?_) (fun h3 => ?_)
    · replace h := ofT h3 h
      refine W_seq (by kernel_rfl) ?_
      refine W_run 1 [] [4] [] (fr' := [(4, aI (3 : Int))]) (L' := []) (obs := []) (by kernel_rfl) (by kernel_rfl) (by kernel_rfl) allP0 ?_
      refine seqQ_norm ?_
      obtain rfl := Option.some.inj h
      refine W_ret [4] [] (fr' := [(4, aI (3 : Int))]) (L' := []) (by kernel_rfl) (by kernel_rfl) ?_
      refine blockQ_ret ?_
      refine seqQ_ret ?_
      exact retQ_mk (by kernel_rfl) (by kernel_rfl) (by kernel_rfl)
    · replace h := ofF h3 h
      refine W_seq (by kernel_rfl) ?_
      refine W_region (by kernel_rfl) ?_
      refine WO_run (j := 1) (k := 1) (orcs := []) (kF := [19]) (kL := []) (fr' := [(19, aD (.slice tI) a1)]) (L' := []) (obs := []) rfl (by kernel_rfl) allP0 ?_
      obtain ⟨r4, h5, h⟩ := bind_of h
      refine WO_call0 (us := [none, none]) (d := 20) (p := True) (j := 2) rfl ⟨by kernel_rfl, by kernel_rfl, by kernel_rfl⟩ trivial (slices_ContainsFunc_Lintint_with_wave_wrong_1_ok h5) (by kernel_rfl) ?_
      refine WO_run (j := 3) (k := 1) (orcs := []) (kF := [18]) (kL := []) (fr' := [(18, aB r4)]) (L' := []) (obs := []) rfl (by kernel_rfl) allP0 ?_
      refine WO_fin [18] [] (fr' := [(18, aB r4)]) (L' := []) (by kernel_rfl) (by kernel_rfl) ?_
      refine seqQ_norm ?_
      refine W_cond (o := .tmp 18) (b := r4) (by kernel_rfl) (by kernel_rfl) (fun h6 => ?_) (fun h6 => ?_)
      · replace h := ofT h6 h
        refine W_seq (by kernel_rfl) ?_
        refine W_run 1 [] [4] [] (fr' := [(4, aI (4 : Int))]) (L' := []) (obs := []) (by kernel_rfl) (by kernel_rfl) (by kernel_rfl) allP0 ?_
        refine seqQ_norm ?_
        obtain rfl := Option.some.inj h
        refine W_ret [4] [] (fr' := [(4, aI (4 : Int))]) (L' := []) (by kernel_rfl) (by kernel_rfl) ?_
        refine blockQ_ret ?_
        refine seqQ_ret ?_
        exact retQ_mk (by kernel_rfl) (by kernel_rfl) (by kernel_rfl)
      · replace h := ofF h6 h
        refine W_skip [] [] (fr' := []) (L' := []) (by kernel_rfl) (by kernel_rfl) ?_
        refine blockQ_norm ?_
        refine seqQ_norm ?_
        refine W_seq (by kernel_rfl) ?_
        refine W_run 1 [] [4] [] (fr' := [(4, aI (0 : Int))]) (L' := []) (obs := []) (by kernel_rfl) (by kernel_rfl) (by kernel_rfl) allP0 ?_
        refine seqQ_norm ?_
        obtain rfl := Option.some.inj h
        refine W_ret [4] [] (fr' := [(4, aI (0 : Int))]) (L' := []) (by kernel_rfl) (by kernel_rfl) ?_
        exact retQ_mk (by kernel_rfl) (by kernel_rfl) (by kernel_rfl)

def slices_Clone_Lintint (a0 : (List Int)) : Option (List Int) :=
(ck ((0 : Int) + (List.length a0 : Int) ≤ 4294967296)).bind fun _ =>
some ([] ++ a0)
theorem slices_Clone_Lintint_ok {a0 : (List Int)} {r : (List Int)} (h : slices_Clone_Lintint a0 = some r) : FnC Try.prog 56 [aD (.slice tI) a0] [] (.one (.slc 5)) [(5, .seq tI r)] := by
  refine fnC_of_W (B := bodyOf Try.f56) (n := 8) Try.func56 (by kernel_rfl) (by kernel_rfl) (by kernel_rfl) (by kernel_rfl) (by kernel_rfl) ?_
  intro K
  refine W_seq (by kernel_rfl) ?_
  refine W_run 1 [] [0] [] (fr' := [(0, aD (.slice tI) a0)]) (L' := []) (obs := []) (by kernel_rfl) (by kernel_rfl) (by kernel_rfl) allP0 ?_
  refine seqQ_norm ?_
  refine W_seq (by kernel_rfl) ?_
  refine W_seq (by kernel_rfl) ?_
  refine W_region (by kernel_rfl) ?_
  refine WO_run (j := 1) (k := 1) (orcs := []) (kF := [0, 3]) (kL := []) (fr' := [(0, aD (.slice tI) a0), (3, aD (.slice tI) a0)]) (L' := []) (obs := []) rfl (by kernel_rfl) allP0 ?_
  refine WO_nilcmp (u := tI) (xs := a0) (d := 4) (j := 2) rfl (by kernel_rfl) (by kernel_rfl) (fun h12 h10 => ?_)
  cases h12
  · refine WO_fin [0, 4] [] (fr' := [(0, aD (.slice tI) a0), (4, aB false)]) (L' := []) (by kernel_rfl) (by kernel_rfl) ?_
    refine seqQ_norm ?_
    refine W_cond (o := .tmp 4) (b := false) (by kernel_rfl) (by kernel_rfl) (fun h7 => by have := (rfl : false = false).symm.trans h7; cases this) (fun h7 => ?_)
    refine W_skip [0] [] (fr' := [(0, aD (.slice tI) a0)]) (L' := []) (by kernel_rfl) (by kernel_rfl) ?_
    refine seqQ_norm ?_
    refine W_seq (by kernel_rfl) ?_
    obtain ⟨_, h8, h⟩ := bind_of h
    replace h8 := ck_some h8
    refine W_run 4 [] [2] [5] (fr' := [(2, .one (.slc 5))]) (L' := [(5, .seq tI ([] ++ a0))]) (obs := [SmallLen (List.length ([] : (List Int)) + List.length a0)]) (by kernel_rfl) (by kernel_rfl) (by kernel_rfl) (allP1 h8) ?_
    refine seqQ_norm ?_
    obtain rfl := Option.some.inj h
    refine W_ret [2] [5] (fr' := [(2, .one (.slc 5))]) (L' := [(5, .seq tI ([] ++ a0))]) (by kernel_rfl) (by kernel_rfl) ?_
    exact retQ_mk (by kernel_rfl) (by kernel_rfl) (by kernel_rfl)
  · replace h10 := h10 rfl
    have h11 : (some [] : Option (List Int)) = ((ck ((0 : Int) + (List.length a0 : Int) ≤ 4294967296)).bind fun _ => some ([] ++ a0)) := by rw [h10]; simp [ck]
    replace h := h11.trans h
    refine WO_fin [0, 4] [] (fr' := [(0, aD (.slice tI) a0), (4, aB true)]) (L' := []) (by kernel_rfl) (by kernel_rfl) ?_
    refine seqQ_norm ?_
    refine W_cond (o := .tmp 4) (b := true) (by kernel_rfl) (by kernel_rfl) (fun h9 => ?_) (fun h9 => by have := (rfl : true = true).symm.trans h9; cases this)
    refine W_seq (by kernel_rfl) ?_
    refine W_run 1 [] [2] [] (fr' := [(2, .one (.nilS))]) (L' := []) (obs := []) (by kernel_rfl) (by kernel_rfl) (by kernel_rfl) allP0 ?_
    refine seqQ_norm ?_
    obtain rfl := Option.some.inj h
    refine W_mine 2 5 tI (by kernel_rfl) ?_
    refine W_ret [2] [5] (fr' := [(2, .one (.slc 5))]) (L' := [(5, .seq tI [])]) (by kernel_rfl) (by kernel_rfl) ?_
    refine seqQ_ret ?_
    exact retQ_mk (by kernel_rfl) (by kernel_rfl) (by kernel_rfl)

def wave_Blur_1 (a0 : Int) (a1 : Int) (c0 : Int) : Option (Int × Int) :=
some (w64 (a0 + (w64 (c0 * a1))), w64 ((w64 (c0 * a0)) + a1))
theorem wave_Blur_1_ok {a0 : Int} {a1 : Int} {c0 : Int} {r : (Int × Int)} (h : wave_Blur_1 a0 a1 c0 = some r) : FnC Try.prog 39 [aI a0, aI a1, .one (.ptr 1000 0)] [(1000, .cells [.dat tI c0])] (.tup [.dat tI r.1, .dat tI r.2]) [(1000, .cells [.dat tI c0])] := by
  refine fnC_of_W (B := bodyOf Try.f39) (n := 17) Try.func39 (by kernel_rfl) (by kernel_rfl) (by kernel_rfl) (by kernel_rfl) (by kernel_rfl) ?_
  intro K
  refine W_seq (by kernel_rfl) ?_
  refine W_run 2 [] [0, 1, 2] [1000] (fr' := [(0, aI a0), (1, aI a1), (2, .one (.ptr 1000 0))]) (L' := [(1000, .cells [.dat tI c0])]) (obs := []) (by kernel_rfl) (by kernel_rfl) (by kernel_rfl) allP0 ?_
  refine seqQ_norm ?_
  refine W_seq (by kernel_rfl) ?_
  refine W_draw2 11 [] [] [5, 6] [1000] (fr' := [(5, aI (w64 (a0 + (w64 (c0 * a1))))), (6, aI (w64 ((w64 (c0 * a0)) + a1)))]) (L' := [(1000, .cells [.dat tI c0])]) (out := [(7, aI a0), (8, aI c0), (9, aI a1), (10, aI (w64 (c0 * a1))), (11, aI (w64 (a0 + (w64 (c0 * a1))))), (12, aI c0), (13, aI a0), (14, aI (w64 (c0 * a0))), (15, aI a1), (16, aI (w64 ((w64 (c0 * a0)) + a1))), (5, aI (w64 (a0 + (w64 (c0 * a1)))))]) (obs := []) (obs2 := []) (calls := []) (by kernel_rfl) (by kernel_rfl) (by kernel_rfl) (by kernel_rfl) allP0 allC0 (by kernel_rfl) allP0 ?_
  refine seqQ_norm ?_
  obtain rfl := Option.some.inj h
  refine W_ret [5, 6] [1000] (fr' := [(5, aI (w64 (a0 + (w64 (c0 * a1))))), (6, aI (w64 ((w64 (c0 * a0)) + a1)))]) (L' := [(1000, .cells [.dat tI c0])]) (by kernel_rfl) (by kernel_rfl) ?_
  exact retQ_mk (by kernel_rfl) (by kernel_rfl) (by kernel_rfl)

def wave_each_with_wave_Blur_1_g23 (c0 : Int) (i222 : Int) (i294 : Int) (x295 : (List Int)) : Option (List Int) :=
(ck (0 ≤ i222)).bind fun _ =>
bif (bOr .i64 i294 (bShl .i64 (1 : Int) i222)) != i294 then
((idx x295 i294).bind fun v322 =>
(idx x295 (bOr .i64 i294 (bShl .i64 (1 : Int) i222))).bind fun v324 =>
(wave_Blur_1 v322 v324 c0).bind fun r326 =>
(idx (List.set x295 (Int.toNat i294) r326.1) (bOr .i64 i294 (bShl .i64 (1 : Int) i222))).bind fun v328 =>
some (List.set (List.set x295 (Int.toNat i294) r326.1) (Int.toNat (bOr .i64 i294 (bShl .i64 (1 : Int) i222))) r326.2))
else
(some x295)
@[reducible] def wave_each_with_wave_Blur_1_s24 (a0 : Int) (c0 : Int) (i222 : Int) (x223 : (List Int)) (i294 : Int) (v : (List Int)) : Fr × LL := ([(2, .one (.fn 39 [(1000, 0)])), (7, .one (.slc 12)), (8, aI i222), (13, aI a0), (14, aI i222), (18, aI (List.length x223 : Int)), (19, aI i294)], [(1000, .cells [.dat tI c0]), (12, .seq tI v)])
def wave_each_with_wave_Blur_1_b25 (c0 : Int) (i222 : Int) (i294 : Int) (v297 : Int) (x295 : (List Int)) : Option (Flow (List Int) (List Int)) :=
(wave_each_with_wave_Blur_1_g23 c0 i222 i294 x295).bind fun v330 =>
some (.next v330)
@[reducible] def wave_each_with_wave_Blur_1_s26 (a0 : Int) (c0 : Int) (i222 : Int) (x223 : (List Int)) (v : Int × (List Int)) : Fr × LL := ([(2, .one (.fn 39 [(1000, 0)])), (7, .one (.slc 12)), (8, aI i222), (13, aI a0), (14, aI i222), (18, aI (List.length x223 : Int)), (19, aI v.1)], [(1000, .cells [.dat tI c0]), (12, .seq tI v.2)])
@[reducible] def wave_each_with_wave_Blur_1_s27 (a0 : Int) (c0 : Int) (i222 : Int) (v : (List Int)) : Fr × LL := ([(2, .one (.fn 39 [(1000, 0)])), (7, .one (.slc 12)), (13, aI a0), (14, aI i222)], [(1000, .cells [.dat tI c0]), (12, .seq tI v)])
def wave_each_with_wave_Blur_1_b28 (c0 : Int) (i222 : Int) (x223 : (List Int)) : Option (Flow (List Int) (List Int)) :=
(forL (wave_each_with_wave_Blur_1_b25 c0 i222) (fun x295 => x295) x223 0 x223).bind fun v333 =>
some (.next v333)
@[reducible] def wave_each_with_wave_Blur_1_s29 (a0 : Int) (c0 : Int) (v : Int × (List Int)) : Fr × LL := ([(2, .one (.fn 39 [(1000, 0)])), (7, .one (.slc 12)), (13, aI a0), (14, aI v.1)], [(1000, .cells [.dat tI c0]), (12, .seq tI v.2)])
@[reducible] def wave_each_with_wave_Blur_1_s30 (c0 : Int) (v : (List Int)) : Fr × LL := ([(7, .one (.slc 12))], [(12, .seq tI v), (1000, .cells [.dat tI c0])])
def wave_each_with_wave_Blur_1 (a0 : Int) (a1 : (List Int)) (c0 : Int) : Option (List Int) :=
(slices_Clone_Lintint a1).bind fun r1 =>
(forI (0 : Int) a0 (wave_each_with_wave_Blur_1_b28 c0) (fun x223 => x223) r1).bind fun v339 =>
some v339
theorem wave_each_with_wave_Blur_1_ok {a0 : Int} {a1 : (List Int)} {c0 : Int} {r : (List Int)} (h : wave_each_with_wave_Blur_1 a0 a1 c0 = some r) : FnC Try.prog 38 [aI a0, aD (.slice tI) a1, .one (.fn 39 [(1000, 0)])] [(1000, .cells [.dat tI c0])] (aD (.slice tI) r) [(1000, .cells [.dat tI c0])] := by
  refine fnC_of_W (B := bodyOf Try.f38) (n := 51) Try.func38 (by kernel_rfl) (by kernel_rfl) (by kernel_rfl) (by kernel_rfl) (by kernel_rfl) ?_
  intro K
  refine W_seq (by kernel_rfl) ?_
  refine W_run 1 [] [0, 1, 2] [1000] (fr' := [(0, aI a0), (1, aD (.slice tI) a1), (2, .one (.fn 39 [(1000, 0)]))]) (L' := [(1000, .cells [.dat tI c0])]) (obs := []) (by kernel_rfl) (by kernel_rfl) (by kernel_rfl) allP0 ?_
  refine seqQ_norm ?_
  refine W_seq (by kernel_rfl) ?_
  refine W_region (by kernel_rfl) ?_
  refine WO_run (j := 1) (k := 1) (orcs := []) (kF := [0, 2, 11]) (kL := [1000]) (fr' := [(0, aI a0), (2, .one (.fn 39 [(1000, 0)])), (11, aD (.slice tI) a1)]) (L' := [(1000, .cells [.dat tI c0])]) (obs := []) rfl (by kernel_rfl) allP0 ?_
  obtain ⟨r1, h2, h⟩ := bind_of h
  refine WO_call1 (us := [none]) (d := 12) (t := 12) (p := True) (j := 2) rfl ⟨by kernel_rfl, by kernel_rfl, by kernel_rfl⟩ trivial (slices_Clone_Lintint_ok h2) (by kernel_rfl) ?_
  refine WO_run (j := 3) (k := 1) (orcs := []) (kF := [0, 2, 7]) (kL := [12, 1000]) (fr' := [(0, aI a0), (2, .one (.fn 39 [(1000, 0)])), (7, .one (.slc 12))]) (L' := [(12, .seq tI r1), (1000, .cells [.dat tI c0])]) (obs := []) rfl (by kernel_rfl) allP0 ?_
  refine WO_fin [0, 2, 7] [1000, 12] (fr' := [(0, aI a0), (2, .one (.fn 39 [(1000, 0)])), (7, .one (.slc 12))]) (L' := [(1000, .cells [.dat tI c0]), (12, .seq tI r1)]) (by kernel_rfl) (by kernel_rfl) ?_
  refine seqQ_norm ?_
  refine W_seq (by kernel_rfl) ?_
  refine W_seq (by kernel_rfl) ?_
  refine W_run 2 [] [2, 7, 13, 14] [1000, 12] (fr' := [(2, .one (.fn 39 [(1000, 0)])), (7, .one (.slc 12)), (13, aI a0), (14, aI (0 : Int))]) (L' := [(1000, .cells [.dat tI c0]), (12, .seq tI r1)]) (obs := []) (by kernel_rfl) (by kernel_rfl) (by kernel_rfl) allP0 ?_
  refine seqQ_norm ?_
  refine W_block (id := 0) (by kernel_rfl) ?_
  obtain ⟨v339, h340, h⟩ := bind_of h
  obtain ⟨h341, h342⟩ := forI_iter h340
  refine W_weaken [2, 7, 13, 14] [1000, 12] (fr' := ((wave_each_with_wave_Blur_1_s29 a0 c0) ((0 : Int), r1)).1) (L' := ((wave_each_with_wave_Blur_1_s29 a0 c0) ((0 : Int), r1)).2) (by kernel_rfl) ?_
  refine W_cutK (W_loop (S := (wave_each_with_wave_Blur_1_s29 a0 c0)) (J := (exQ (.exit 0) (wave_each_with_wave_Blur_1_s30 c0))) (by kernel_rfl) ?_ h341 _ v339 h342) ?_
  · rintro ⟨i222, x223⟩ s h
    refine W_seq (by kernel_rfl) ?_
    refine W_run 1 [] [2, 7, 13, 14, 15] [1000, 12] (fr' := [(2, .one (.fn 39 [(1000, 0)])), (7, .one (.slc 12)), (13, aI a0), (14, aI i222), (15, aB (decide (i222 < a0)))]) (L' := [(1000, .cells [.dat tI c0]), (12, .seq tI x223)]) (obs := []) (by kernel_rfl) (by kernel_rfl) (by kernel_rfl) allP0 ?_
    refine seqQ_norm ?_
    refine W_seq (by kernel_rfl) ?_
    refine W_cond (o := .tmp 15) (b := decide (i222 < a0)) (by kernel_rfl) (by kernel_rfl) (fun h225 => ?_) (fun h225 => ?_)
    · replace h := stepI_true h225 h
      obtain ⟨_, h, rfl⟩ := h
      refine W_skip [2, 7, 13, 14] [1000, 12] (fr' := [(2, .one (.fn 39 [(1000, 0)])), (7, .one (.slc 12)), (13, aI a0), (14, aI i222)]) (L' := [(1000, .cells [.dat tI c0]), (12, .seq tI x223)]) (by kernel_rfl) (by kernel_rfl) ?_
      refine seqQ_norm ?_
      refine W_seq (by kernel_rfl) ?_
      refine W_block (id := 1) (by kernel_rfl) ?_
      refine W_seq (by kernel_rfl) ?_
      refine W_run 2 [] [2, 7, 8, 13, 14] [1000, 12] (fr' := [(2, .one (.fn 39 [(1000, 0)])), (7, .one (.slc 12)), (8, aI i222), (13, aI a0), (14, aI i222)]) (L' := [(1000, .cells [.dat tI c0]), (12, .seq tI x223)]) (obs := []) (by kernel_rfl) (by kernel_rfl) (by kernel_rfl) allP0 ?_
      refine seqQ_norm ?_
      refine W_seq (by kernel_rfl) ?_
      refine W_run 3 [] [2, 7, 8, 13, 14, 18, 19] [1000, 12] (fr' := [(2, .one (.fn 39 [(1000, 0)])), (7, .one (.slc 12)), (8, aI i222), (13, aI a0), (14, aI i222), (18, aI (List.length x223 : Int)), (19, aI (0 : Int))]) (L' := [(1000, .cells [.dat tI c0]), (12, .seq tI x223)]) (obs := []) (by kernel_rfl) (by kernel_rfl) (by kernel_rfl) allP0 ?_
      refine seqQ_norm ?_
      refine W_block (id := 2) (by kernel_rfl) ?_
      obtain ⟨v333, h334, h⟩ := bind_of h
      refine W_lenS (s := 12) (u := tI) (xs := x223) (by kernel_rfl) (fun h337 => ?_)
      obtain ⟨h335, h336⟩ := forL_iter h337 h334
      refine W_weaken [2, 7, 8, 13, 14, 18, 19] [1000, 12] (fr' := ((wave_each_with_wave_Blur_1_s26 a0 c0 i222 x223) ((0 : Int), x223)).1) (L' := ((wave_each_with_wave_Blur_1_s26 a0 c0 i222 x223) ((0 : Int), x223)).2) (by kernel_rfl) ?_
      refine W_cutK (W_loop (S := (wave_each_with_wave_Blur_1_s26 a0 c0 i222 x223)) (J := (exQ (.exit 2) (wave_each_with_wave_Blur_1_s27 a0 c0 i222))) (by kernel_rfl) ?_ h335 _ v333 h336) ?_
      · rintro ⟨i294, x295⟩ s h
        refine W_seq (by kernel_rfl) ?_
        refine W_run 1 [] [2, 7, 8, 13, 14, 18, 19, 20] [1000, 12] (fr' := [(2, .one (.fn 39 [(1000, 0)])), (7, .one (.slc 12)), (8, aI i222), (13, aI a0), (14, aI i222), (18, aI (List.length x223 : Int)), (19, aI i294), (20, aB (decide (i294 < (List.length x223 : Int))))]) (L' := [(1000, .cells [.dat tI c0]), (12, .seq tI x295)]) (obs := []) (by kernel_rfl) (by kernel_rfl) (by kernel_rfl) allP0 ?_
        refine seqQ_norm ?_
        refine W_seq (by kernel_rfl) ?_
        refine W_cond (o := .tmp 20) (b := decide (i294 < (List.length x223 : Int))) (by kernel_rfl) (by kernel_rfl) (fun h299 => ?_) (fun h299 => ?_)
        · replace h := stepL_true h299 h
          obtain ⟨v297, _, h298, h, rfl⟩ := h
          refine W_skip [2, 7, 8, 13, 14, 18, 19] [1000, 12] (fr' := [(2, .one (.fn 39 [(1000, 0)])), (7, .one (.slc 12)), (8, aI i222), (13, aI a0), (14, aI i222), (18, aI (List.length x223 : Int)), (19, aI i294)]) (L' := [(1000, .cells [.dat tI c0]), (12, .seq tI x295)]) (by kernel_rfl) (by kernel_rfl) ?_
          refine seqQ_norm ?_
          refine W_seq (by kernel_rfl) ?_
          obtain ⟨v330, h331, h⟩ := bind_of h
          refine W_cutK (Q' := (exQ .normal (wave_each_with_wave_Blur_1_s24 a0 c0 i222 x223 i294)) v330) ?_ ?_
          · replace h := h331
            refine W_block (id := 3) (by kernel_rfl) ?_
            refine W_seq (by kernel_rfl) ?_
            refine W_run 2 [] [2, 7, 8, 9, 13, 14, 18, 19] [1000, 12] (fr' := [(2, .one (.fn 39 [(1000, 0)])), (7, .one (.slc 12)), (8, aI i222), (9, aI i294), (13, aI a0), (14, aI i222), (18, aI (List.length x223 : Int)), (19, aI i294)]) (L' := [(1000, .cells [.dat tI c0]), (12, .seq tI x295)]) (obs := []) (by kernel_rfl) (by kernel_rfl) (by kernel_rfl) allP0 ?_
            refine seqQ_norm ?_
            refine W_seq (by kernel_rfl) ?_
            obtain ⟨_, h320, h⟩ := bind_of h
            replace h320 := ck_some h320
            refine W_run 5 [] [2, 7, 8, 9, 10, 13, 14, 18, 19] [1000, 12] (fr' := [(2, .one (.fn 39 [(1000, 0)])), (7, .one (.slc 12)), (8, aI i222), (9, aI i294), (10, aI (bOr .i64 i294 (bShl .i64 (1 : Int) i222))), (13, aI a0), (14, aI i222), (18, aI (List.length x223 : Int)), (19, aI i294)]) (L' := [(1000, .cells [.dat tI c0]), (12, .seq tI x295)]) (obs := [(0 ≤ i222)]) (by kernel_rfl) (by kernel_rfl) (by kernel_rfl) (allP1 h320) ?_
            refine seqQ_norm ?_
            refine W_seq (by kernel_rfl) ?_
            refine W_run 3 [] [2, 7, 8, 9, 10, 13, 14, 18, 19, 28] [1000, 12] (fr' := [(2, .one (.fn 39 [(1000, 0)])), (7, .one (.slc 12)), (8, aI i222), (9, aI i294), (10, aI (bOr .i64 i294 (bShl .i64 (1 : Int) i222))), (13, aI a0), (14, aI i222), (18, aI (List.length x223 : Int)), (19, aI i294), (28, aB ((bOr .i64 i294 (bShl .i64 (1 : Int) i222)) != i294))]) (L' := [(1000, .cells [.dat tI c0]), (12, .seq tI x295)]) (obs := []) (by kernel_rfl) (by kernel_rfl) (by kernel_rfl) allP0 ?_
            refine seqQ_norm ?_
            refine W_cond (o := .tmp 28) (b := (bOr .i64 i294 (bShl .i64 (1 : Int) i222)) != i294) (by kernel_rfl) (by kernel_rfl) (fun h321 => ?_) (fun h321 => ?_)
            · replace h := ofT h321 h
              obtain ⟨v322, h323, h⟩ := bind_of h
              obtain ⟨v324, h325, h⟩ := bind_of h
              obtain ⟨r326, h327, h⟩ := bind_of h
              obtain ⟨v328, h329, h⟩ := bind_of h
              obtain rfl := Option.some.inj h
              refine W_draw4 17 [2, 3, 16] [(17, .val (.dat tI v322)), (25, .val (.dat tI v324))] [(13, [none, none, none], .tup [.dat tI r326.1, .dat tI r326.2])] [2, 7, 8, 13, 14, 18, 19] [1000, 12] (fr' := [(2, .one (.fn 39 [(1000, 0)])), (7, .one (.slc 12)), (8, aI i222), (13, aI a0), (14, aI i222), (18, aI (List.length x223 : Int)), (19, aI i294)]) (L' := [(1000, .cells [.dat tI c0]), (12, .seq tI (List.set (List.set x295 (Int.toNat i294) r326.1) (Int.toNat (bOr .i64 i294 (bShl .i64 (1 : Int) i222))) r326.2))]) (out := [(30, .one (.slc 12)), (31, aI i294), (32, .one (.slc 12)), (33, aI (bOr .i64 i294 (bShl .i64 (1 : Int) i222))), (34, .one (.fn 39 [(1000, 0)])), (35, .one (.slc 12)), (36, aI i294), (37, .one (.eptr 12 1 i294 0)), (38, aI v322), (39, .one (.slc 12)), (40, aI (bOr .i64 i294 (bShl .i64 (1 : Int) i222))), (41, .one (.eptr 12 1 (bOr .i64 i294 (bShl .i64 (1 : Int) i222)) 0)), (42, aI v324), (43, .tup [.dat tI r326.1, .dat tI r326.2]), (29, .tup [.dat tI r326.1, .dat tI r326.2]), (44, aI r326.1), (45, aI r326.2)]) (obs := [InR i294 (List.length x295), Idx x295 i294 v322, InR (bOr .i64 i294 (bShl .i64 (1 : Int) i222)) (List.length x295), Idx x295 (bOr .i64 i294 (bShl .i64 (1 : Int) i222)) v324, True]) (obs2 := [InR i294 (List.length x295), InR i294 (List.length x295), InR (bOr .i64 i294 (bShl .i64 (1 : Int) i222)) (List.length (List.set x295 (Int.toNat i294) r326.1)), InR (bOr .i64 i294 (bShl .i64 (1 : Int) i222)) (List.length (List.set x295 (Int.toNat i294) r326.1))]) (calls := [(39, [aI v322, aI v324, .one (.ptr 1000 0)], .tup [.dat tI r326.1, .dat tI r326.2])]) (by kernel_rfl) (by kernel_rfl) (by kernel_rfl) (by kernel_rfl) (allP2 (InR.of h323) (allP2 (Idx.of h323) (allP2 (InR.of h325) (allP2 (Idx.of h325) (allP1 trivial))))) (allD2 [(1000, 1000)] _ _ (by kernel_rfl) (wave_Blur_1_ok h327) (by kernel_rfl) (by kernel_rfl) (by kernel_rfl) (by kernel_rfl) allD0) (by kernel_rfl) (allP2 (InR.of h323) (allP2 (InR.of h323) (allP2 (InR.of h329) (allP1 (InR.of h329))))) ?_
              refine blockQ_norm ?_
              exact exQ_mk (by kernel_rfl) (by kernel_rfl)
            · replace h := ofF h321 h
              obtain rfl := Option.some.inj h
              refine W_skip [2, 7, 8, 13, 14, 18, 19] [1000, 12] (fr' := [(2, .one (.fn 39 [(1000, 0)])), (7, .one (.slc 12)), (8, aI i222), (13, aI a0), (14, aI i222), (18, aI (List.length x223 : Int)), (19, aI i294)]) (L' := [(1000, .cells [.dat tI c0]), (12, .seq tI x295)]) (by kernel_rfl) (by kernel_rfl) ?_
              refine blockQ_norm ?_
              exact exQ_mk (by kernel_rfl) (by kernel_rfl)
          · intro e fr L hJ
            obtain ⟨rfl, rfl, rfl⟩ := hJ
            refine LT_keep [2, 7, 8, 13, 14, 18, 19] [1000, 12] (fr' := [(2, .one (.fn 39 [(1000, 0)])), (7, .one (.slc 12)), (8, aI i222), (13, aI a0), (14, aI i222), (18, aI (List.length x223 : Int)), (19, aI i294)]) (L' := [(1000, .cells [.dat tI c0]), (12, .seq tI v330)]) (by kernel_rfl) ?_
            refine seqQ_norm ?_
            obtain rfl := Option.some.inj h
            refine W_run 2 [] [2, 7, 8, 13, 14, 18, 19] [1000, 12] (fr' := [(2, .one (.fn 39 [(1000, 0)])), (7, .one (.slc 12)), (8, aI i222), (13, aI a0), (14, aI i222), (18, aI (List.length x223 : Int)), (19, aI (w64 (i294 + (1 : Int))))]) (L' := [(1000, .cells [.dat tI c0]), (12, .seq tI v330)]) (obs := []) (by kernel_rfl) (by kernel_rfl) (by kernel_rfl) allP0 ?_
            exact round_next' (by kernel_rfl) (by kernel_rfl)
        · obtain rfl := stepL_false h299 h
          refine W_exit (id := 2) [2, 7, 13, 14] [1000, 12] (fr' := [(2, .one (.fn 39 [(1000, 0)])), (7, .one (.slc 12)), (13, aI a0), (14, aI i222)]) (L' := [(1000, .cells [.dat tI c0]), (12, .seq tI x295)]) (by kernel_rfl) (by kernel_rfl) ?_
          refine seqQ_exit ?_
          refine round_exit ?_
          exact exQ_mk (by kernel_rfl) (by kernel_rfl)
      · intro e fr L hJ
        obtain ⟨rfl, rfl, rfl⟩ := hJ
        refine LT_keep [2, 7, 13, 14] [1000, 12] (fr' := [(2, .one (.fn 39 [(1000, 0)])), (7, .one (.slc 12)), (13, aI a0), (14, aI i222)]) (L' := [(1000, .cells [.dat tI c0]), (12, .seq tI v333)]) (by kernel_rfl) ?_
        refine blockQ_hit ?_
        refine blockQ_norm ?_
        refine seqQ_norm ?_
        obtain rfl := Option.some.inj h
        refine W_run 2 [] [2, 7, 13, 14] [1000, 12] (fr' := [(2, .one (.fn 39 [(1000, 0)])), (7, .one (.slc 12)), (13, aI a0), (14, aI (w64 (i222 + (1 : Int))))]) (L' := [(1000, .cells [.dat tI c0]), (12, .seq tI v333)]) (obs := []) (by kernel_rfl) (by kernel_rfl) (by kernel_rfl) allP0 ?_
        exact round_next' (by kernel_rfl) (by kernel_rfl)
    · obtain rfl := stepI_false h225 h
      refine W_exit (id := 0) [7] [12, 1000] (fr' := [(7, .one (.slc 12))]) (L' := [(12, .seq tI x223), (1000, .cells [.dat tI c0])]) (by kernel_rfl) (by kernel_rfl) ?_
      refine seqQ_exit ?_
      refine round_exit ?_
      exact exQ_mk (by kernel_rfl) (by kernel_rfl)
  · intro e fr L hJ
    obtain ⟨rfl, rfl, rfl⟩ := hJ
    refine LT_keep [7] [12, 1000] (fr' := [(7, .one (.slc 12))]) (L' := [(12, .seq tI v339), (1000, .cells [.dat tI c0])]) (by kernel_rfl) ?_
    refine blockQ_hit ?_
    refine seqQ_norm ?_
    refine W_seq (by kernel_rfl) ?_
    refine W_run 2 [] [6] [12, 1000] (fr' := [(6, .one (.slc 12))]) (L' := [(12, .seq tI v339), (1000, .cells [.dat tI c0])]) (obs := []) (by kernel_rfl) (by kernel_rfl) (by kernel_rfl) allP0 ?_
    refine seqQ_norm ?_
    obtain rfl := Option.some.inj h
    refine W_frz 12 (by kernel_rfl) ?_
    refine W_ret [6] [1000] (fr' := [(6, aD (.slice tI) v339)]) (L' := [(1000, .cells [.dat tI c0])]) (by kernel_rfl) (by kernel_rfl) ?_
    exact retQ_mk (by kernel_rfl) (by kernel_rfl) (by kernel_rfl)

def wave_Blur (a0 : Int) (a1 : (List Int)) (a2 : Int) : Option ((List Int) × Int) :=
(wave_wrong a0 a1).bind fun r1 =>
bif r1 != (0 : Int) then
(some ([], r1))
else
(bif (decide (a2 < (0 : Int))) || (decide (a2 > (3 : Int))) then
(some ([], (4 : Int)))
else
((wave_each_with_wave_Blur_1 a0 a1 a2).bind fun r5 =>
some (r5, (0 : Int))))
theorem wave_Blur_ok {a0 : Int} {a1 : (List Int)} {a2 : Int} {r : ((List Int) × Int)} (h : wave_Blur a0 a1 a2 = some r) : FnC Try.prog 16 [aI a0, aD (.slice tI) a1, aI a2] [] (.tup [.dat (.slice tI) r.1, .dat tI r.2]) [] := by
  refine fnC_of_W (B := bodyOf Try.f16) (n := 25) Try.func16 (by kernel_rfl) (by kernel_rfl) (by kernel_rfl) (by kernel_rfl) (by kernel_rfl) ?_
  intro K
  refine W_seq (by kernel_rfl) ?_
  refine W_run 3 [] [0, 1, 5] [5] (fr' := [(0, aI a0), (1, aD (.slice tI) a1), (5, .one (.ptr 5 0))]) (L' := [(5, .cells [.dat tI a2])]) (obs := []) (by kernel_rfl) (by kernel_rfl) (by kernel_rfl) allP0 ?_
  refine seqQ_norm ?_
  refine W_seq (by kernel_rfl) ?_
  refine W_seq (by kernel_rfl) ?_
  refine W_region (by kernel_rfl) ?_
  refine WO_run (j := 2) (k := 2) (orcs := []) (kF := [0, 1, 5, 9, 10]) (kL := [5]) (fr' := [(0, aI a0), (1, aD (.slice tI) a1), (5, .one (.ptr 5 0)), (9, aI a0), (10, aD (.slice tI) a1)]) (L' := [(5, .cells [.dat tI a2])]) (obs := []) rfl (by kernel_rfl) allP0 ?_
  obtain ⟨r1, h2, h⟩ := bind_of h
  refine WO_call0 (us := [none, none]) (d := 11) (p := True) (j := 3) rfl ⟨by kernel_rfl, by kernel_rfl, by kernel_rfl⟩ trivial (wave_wrong_ok h2) (by kernel_rfl) ?_
  refine WO_run (j := 4) (k := 1) (orcs := []) (kF := [0, 1, 5, 8]) (kL := [5]) (fr' := [(0, aI a0), (1, aD (.slice tI) a1), (5, .one (.ptr 5 0)), (8, aI r1)]) (L' := [(5, .cells [.dat tI a2])]) (obs := []) rfl (by kernel_rfl) allP0 ?_
  refine WO_fin [0, 1, 5, 8] [5] (fr' := [(0, aI a0), (1, aD (.slice tI) a1), (5, .one (.ptr 5 0)), (8, aI r1)]) (L' := [(5, .cells [.dat tI a2])]) (by kernel_rfl) (by kernel_rfl) ?_
  refine seqQ_norm ?_
  refine W_seq (by kernel_rfl) ?_
  refine W_run 2 [] [0, 1, 5, 8, 13] [5] (fr' := [(0, aI a0), (1, aD (.slice tI) a1), (5, .one (.ptr 5 0)), (8, aI r1), (13, aB (r1 != (0 : Int)))]) (L' := [(5, .cells [.dat tI a2])]) (obs := []) (by kernel_rfl) (by kernel_rfl) (by kernel_rfl) allP0 ?_
  refine seqQ_norm ?_
  refine W_cond (o := .tmp 13) (b := r1 != (0 : Int)) (by kernel_rfl) (by kernel_rfl) (fun h3 => ?_) (fun h3 => ?_)
  · replace h := ofT h3 h
    refine W_seq (by kernel_rfl) ?_
    refine W_run 3 [] [6, 7] [] (fr' := [(6, .one (.nilS)), (7, aI r1)]) (L' := []) (obs := []) (by kernel_rfl) (by kernel_rfl) (by kernel_rfl) allP0 ?_
    refine seqQ_norm ?_
    obtain rfl := Option.some.inj h
    refine W_cnv 6 (.slice tI) (by kernel_rfl) ?_
    refine W_ret [6, 7] [] (fr' := [(6, aD (.slice tI) []), (7, aI r1)]) (L' := []) (by kernel_rfl) (by kernel_rfl) ?_
    refine seqQ_ret ?_
    exact retQ_mk (by kernel_rfl) (by kernel_rfl) (by kernel_rfl)
  · replace h := ofF h3 h
    refine W_skip [0, 1, 5] [5] (fr' := [(0, aI a0), (1, aD (.slice tI) a1), (5, .one (.ptr 5 0))]) (L' := [(5, .cells [.dat tI a2])]) (by kernel_rfl) (by kernel_rfl) ?_
    refine seqQ_norm ?_
    refine W_seq (by kernel_rfl) ?_
    refine W_seq (by kernel_rfl) ?_
    refine W_run 6 [] [0, 1, 5, 20] [5] (fr' := [(0, aI a0), (1, aD (.slice tI) a1), (5, .one (.ptr 5 0)), (20, aB ((decide (a2 < (0 : Int))) || (decide (a2 > (3 : Int)))))]) (L' := [(5, .cells [.dat tI a2])]) (obs := []) (by kernel_rfl) (by kernel_rfl) (by kernel_rfl) allP0 ?_
    refine seqQ_norm ?_
    refine W_cond (o := .tmp 20) (b := (decide (a2 < (0 : Int))) || (decide (a2 > (3 : Int)))) (by kernel_rfl) (by kernel_rfl) (fun h4 => ?_) (fun h4 => ?_)
    · replace h := ofT h4 h
      refine W_seq (by kernel_rfl) ?_
      refine W_run 2 [] [6, 7] [] (fr' := [(6, .one (.nilS)), (7, aI (4 : Int))]) (L' := []) (obs := []) (by kernel_rfl) (by kernel_rfl) (by kernel_rfl) allP0 ?_
      refine seqQ_norm ?_
      obtain rfl := Option.some.inj h
      refine W_cnv 6 (.slice tI) (by kernel_rfl) ?_
      refine W_ret [6, 7] [] (fr' := [(6, aD (.slice tI) []), (7, aI (4 : Int))]) (L' := []) (by kernel_rfl) (by kernel_rfl) ?_
      refine seqQ_ret ?_
      exact retQ_mk (by kernel_rfl) (by kernel_rfl) (by kernel_rfl)
    · replace h := ofF h4 h
      refine W_skip [0, 1, 5] [5] (fr' := [(0, aI a0), (1, aD (.slice tI) a1), (5, .one (.ptr 5 0))]) (L' := [(5, .cells [.dat tI a2])]) (by kernel_rfl) (by kernel_rfl) ?_
      refine seqQ_norm ?_
      refine W_seq (by kernel_rfl) ?_
      refine W_region (by kernel_rfl) ?_
      refine WO_run (j := 3) (k := 3) (orcs := []) (kF := [21, 22, 23]) (kL := [5]) (fr' := [(21, aI a0), (22, aD (.slice tI) a1), (23, .one (.fn 39 [(5, 0)]))]) (L' := [(5, .cells [.dat tI a2])]) (obs := []) rfl (by kernel_rfl) allP0 ?_
      obtain ⟨r5, h6, h⟩ := bind_of h
      refine WO_lend [(1000, 5)] (us := [none, none, none]) (d := 24) (p := True) (j := 4) rfl ⟨by kernel_rfl, by kernel_rfl, by kernel_rfl⟩ trivial (wave_each_with_wave_Blur_1_ok h6) (by kernel_rfl) (by kernel_rfl) ?_
      refine WO_run (j := 6) (k := 2) (orcs := []) (kF := [6, 7]) (kL := [5]) (fr' := [(6, aD (.slice tI) r5), (7, aI (0 : Int))]) (L' := [(5, .cells [.dat tI a2])]) (obs := []) rfl (by kernel_rfl) allP0 ?_
      refine WO_fin [6, 7] [] (fr' := [(6, aD (.slice tI) r5), (7, aI (0 : Int))]) (L' := []) (by kernel_rfl) (by kernel_rfl) ?_
      refine seqQ_norm ?_
      obtain rfl := Option.some.inj h
      refine W_ret [6, 7] [] (fr' := [(6, aD (.slice tI) r5), (7, aI (0 : Int))]) (L' := []) (by kernel_rfl) (by kernel_rfl) ?_
      exact retQ_mk (by kernel_rfl) (by kernel_rfl) (by kernel_rfl)

def ref_Within (a0 : Int) (a1 : Int) (a2 : Int) : Option Bool :=
some ((decide (a0 ≤ a1)) && (decide (a1 ≤ a2)))
theorem ref_Within_ok {a0 : Int} {a1 : Int} {a2 : Int} {r : Bool} (h : ref_Within a0 a1 a2 = some r) : FnC Try.prog 18 [aI a0, aI a1, aI a2] [] (aB r) [] := by
  refine fnC_of_W (B := bodyOf Try.f18) (n := 15) Try.func18 (by kernel_rfl) (by kernel_rfl) (by kernel_rfl) (by kernel_rfl) (by kernel_rfl) ?_
  intro K
  refine W_seq (by kernel_rfl) ?_
  refine W_run 1 [] [0, 1, 2] [] (fr' := [(0, aI a0), (1, aI a1), (2, aI a2)]) (L' := []) (obs := []) (by kernel_rfl) (by kernel_rfl) (by kernel_rfl) allP0 ?_
  refine seqQ_norm ?_
  refine W_seq (by kernel_rfl) ?_
  refine W_run 9 [] [6] [] (fr' := [(6, aB ((decide (a0 ≤ a1)) && (decide (a1 ≤ a2))))]) (L' := []) (obs := []) (by kernel_rfl) (by kernel_rfl) (by kernel_rfl) allP0 ?_
  refine seqQ_norm ?_
  obtain rfl := Option.some.inj h
  refine W_ret [6] [] (fr' := [(6, aB ((decide (a0 ≤ a1)) && (decide (a1 ≤ a2))))]) (L' := []) (by kernel_rfl) (by kernel_rfl) ?_
  exact retQ_mk (by kernel_rfl) (by kernel_rfl) (by kernel_rfl)

def ref_WaveCheck_b1 (i20 : Int) (v23 : Int) (x21 : Unit) : Option (Flow Unit (Esc Int Unit)) :=
(ref_Within (-1000000000 : Int) v23 (1000000000 : Int)).bind fun r26 =>
bif !r26 then
(some (.done (.ret (4 : Int))))
else
(some (.next ()))
@[reducible] def ref_WaveCheck_s2 (a1 : (List Int)) (v : Int × Unit) : Fr × LL := ([(16, aD (.slice tI) a1), (17, aI (List.length a1 : Int)), (18, aI v.1)], [])
@[reducible] def ref_WaveCheck_s3 (v : Int) : Fr × LL := ([(4, aI v)], [])
@[reducible] def ref_WaveCheck_s4 (v : Unit) : Fr × LL := ([], [])
def ref_WaveCheck (a0 : Int) (a1 : (List Int)) : Option Int :=
(ref_Within (0 : Int) a0 (4 : Int)).bind fun r1 =>
bif !r1 then
(some (1 : Int))
else
((ck (0 ≤ IntKind.wrap .u64 (a0))).bind fun _ =>
bif (List.length a1 : Int) != (bShl .i64 (1 : Int) (IntKind.wrap .u64 (a0))) then
(some (3 : Int))
else
((forL ref_WaveCheck_b1 (fun x21 => (.brk ())) a1 0 ()).bind fun v30 =>
match v30 with
| .ret v35 =>
(some v35)
| .brk v36 =>
(some (0 : Int))))
theorem ref_WaveCheck_ok {a0 : Int} {a1 : (List Int)} {r : Int} (h : ref_WaveCheck a0 a1 = some r) : FnC Try.prog 17 [aI a0, aD (.slice tI) a1] [] (aI r) [] := by
  refine fnC_of_W (B := bodyOf Try.f17) (n := 26) Try.func17 (by kernel_rfl) (by kernel_rfl) (by kernel_rfl) (by kernel_rfl) (by kernel_rfl) ?_
  intro K
  refine W_seq (by kernel_rfl) ?_
  refine W_run 1 [] [0, 1] [] (fr' := [(0, aI a0), (1, aD (.slice tI) a1)]) (L' := []) (obs := []) (by kernel_rfl) (by kernel_rfl) (by kernel_rfl) allP0 ?_
  refine seqQ_norm ?_
  refine W_seq (by kernel_rfl) ?_
  refine W_seq (by kernel_rfl) ?_
  refine W_region (by kernel_rfl) ?_
  refine WO_run (j := 1) (k := 1) (orcs := []) (kF := [0, 1, 7]) (kL := []) (fr' := [(0, aI a0), (1, aD (.slice tI) a1), (7, aI a0)]) (L' := []) (obs := []) rfl (by kernel_rfl) allP0 ?_
  obtain ⟨r1, h2, h⟩ := bind_of h
  refine WO_call0 (us := [none, none, none]) (d := 8) (p := True) (j := 2) rfl ⟨by kernel_rfl, by kernel_rfl, by kernel_rfl⟩ trivial (ref_Within_ok h2) (by kernel_rfl) ?_
  refine WO_run (j := 3) (k := 1) (orcs := []) (kF := [0, 1, 9]) (kL := []) (fr' := [(0, aI a0), (1, aD (.slice tI) a1), (9, aB (!r1))]) (L' := []) (obs := []) rfl (by kernel_rfl) allP0 ?_
  refine WO_fin [0, 1, 9] [] (fr' := [(0, aI a0), (1, aD (.slice tI) a1), (9, aB (!r1))]) (L' := []) (by kernel_rfl) (by kernel_rfl) ?_
  refine seqQ_norm ?_
  refine W_cond (o := .tmp 9) (b := !r1) (by kernel_rfl) (by kernel_rfl) (fun h3 => ?_) (fun h3 => ?_)
  · replace h := ofT h3 h
    refine W_seq (by kernel_rfl) ?_
    refine W_run 1 [] [4] [] (fr' := [(4, aI (1 : Int))]) (L' := []) (obs := []) (by kernel_rfl) (by kernel_rfl) (by kernel_rfl) allP0 ?_
    refine seqQ_norm ?_
    obtain rfl := Option.some.inj h
    refine W_ret [4] [] (fr' := [(4, aI (1 : Int))]) (L' := []) (by kernel_rfl) (by kernel_rfl) ?_
    refine seqQ_ret ?_
    exact retQ_mk (by kernel_rfl) (by kernel_rfl) (by kernel_rfl)
  · replace h := ofF h3 h
    refine W_skip [0, 1] [] (fr' := [(0, aI a0), (1, aD (.slice tI) a1)]) (L' := []) (by kernel_rfl) (by kernel_rfl) ?_
    refine seqQ_norm ?_
    refine W_seq (by kernel_rfl) ?_
    refine W_seq (by kernel_rfl) ?_
    obtain ⟨_, h4, h⟩ := bind_of h
    replace h4 := ck_some h4
    refine W_run 6 [] [1, 15] [] (fr' := [(1, aD (.slice tI) a1), (15, aB ((List.length a1 : Int) != (bShl .i64 (1 : Int) (IntKind.wrap .u64 (a0)))))]) (L' := []) (obs := [(0 ≤ IntKind.wrap .u64 (a0))]) (by kernel_rfl) (by kernel_rfl) (by kernel_rfl) (allP1 h4) ?_
    refine seqQ_norm ?_
    refine W_cond (o := .tmp 15) (b := (List.length a1 : Int) != (bShl .i64 (1 : Int) (IntKind.wrap .u64 (a0)))) (by kernel_rfl) (by kernel_rfl) (fun h5 => ?_) (fun h5 => ?_)
    · replace h := ofT h5 h
      refine W_seq (by kernel_rfl) ?_
      refine W_run 1 [] [4] [] (fr' := [(4, aI (3 : Int))]) (L' := []) (obs := []) (by kernel_rfl) (by kernel_rfl) (by kernel_rfl) allP0 ?_
      refine seqQ_norm ?_
      obtain rfl := Option.some.inj h
      refine W_ret [4] [] (fr' := [(4, aI (3 : Int))]) (L' := []) (by kernel_rfl) (by kernel_rfl) ?_
      refine seqQ_ret ?_
      exact retQ_mk (by kernel_rfl) (by kernel_rfl) (by kernel_rfl)
    · replace h := ofF h5 h
      refine W_skip [1] [] (fr' := [(1, aD (.slice tI) a1)]) (L' := []) (by kernel_rfl) (by kernel_rfl) ?_
      refine seqQ_norm ?_
      refine W_seq (by kernel_rfl) ?_
      refine W_seq (by kernel_rfl) ?_
      refine W_run 3 [] [16, 17, 18] [] (fr' := [(16, aD (.slice tI) a1), (17, aI (List.length a1 : Int)), (18, aI (0 : Int))]) (L' := []) (obs := []) (by kernel_rfl) (by kernel_rfl) (by kernel_rfl) allP0 ?_
      refine seqQ_norm ?_
      refine W_block (id := 0) (by kernel_rfl) ?_
      obtain ⟨v30, h31, h⟩ := bind_of h
      refine W_len (t := 16) (u := tI) (xs := a1) (by kernel_rfl) (fun h34 => ?_)
      obtain ⟨h32, h33⟩ := forL_iter h34 h31
      refine W_weaken [16, 17, 18] [] (fr' := ((ref_WaveCheck_s2 a1) ((0 : Int), ())).1) (L' := ((ref_WaveCheck_s2 a1) ((0 : Int), ())).2) (by kernel_rfl) ?_
      refine W_cutK (W_loop (S := (ref_WaveCheck_s2 a1)) (J := (escQ (exQ .ret ref_WaveCheck_s3) (exQ (.exit 0) ref_WaveCheck_s4))) (by kernel_rfl) ?_ h32 _ v30 h33) ?_
      · rintro ⟨i20, x21⟩ s h
        refine W_seq (by kernel_rfl) ?_
        refine W_run 1 [] [16, 17, 18, 19] [] (fr' := [(16, aD (.slice tI) a1), (17, aI (List.length a1 : Int)), (18, aI i20), (19, aB (decide (i20 < (List.length a1 : Int))))]) (L' := []) (obs := []) (by kernel_rfl) (by kernel_rfl) (by kernel_rfl) allP0 ?_
        refine seqQ_norm ?_
        refine W_seq (by kernel_rfl) ?_
        refine W_cond (o := .tmp 19) (b := decide (i20 < (List.length a1 : Int))) (by kernel_rfl) (by kernel_rfl) (fun h25 => ?_) (fun h25 => ?_)
        · replace h := stepL_true h25 h
          obtain ⟨v23, _, h24, h, rfl⟩ := h
          refine W_skip [16, 17, 18] [] (fr' := [(16, aD (.slice tI) a1), (17, aI (List.length a1 : Int)), (18, aI i20)]) (L' := []) (by kernel_rfl) (by kernel_rfl) ?_
          refine seqQ_norm ?_
          refine W_seq (by kernel_rfl) ?_
          refine W_block (id := 1) (by kernel_rfl) ?_
          refine W_seq (by kernel_rfl) ?_
          refine W_run 3 [(1, .val (.dat tI v23))] [6, 16, 17, 18] [] (fr' := [(6, aI v23), (16, aD (.slice tI) a1), (17, aI (List.length a1 : Int)), (18, aI i20)]) (L' := []) (obs := [Idx a1 i20 v23]) (by kernel_rfl) (by kernel_rfl) (by kernel_rfl) (allP1 (Idx.of h24)) ?_
          refine seqQ_norm ?_
          refine W_seq (by kernel_rfl) ?_
          refine W_region (by kernel_rfl) ?_
          refine WO_run (j := 1) (k := 1) (orcs := []) (kF := [16, 17, 18, 22]) (kL := []) (fr' := [(16, aD (.slice tI) a1), (17, aI (List.length a1 : Int)), (18, aI i20), (22, aI v23)]) (L' := []) (obs := []) rfl (by kernel_rfl) allP0 ?_
          obtain ⟨r26, h27, h⟩ := bind_of h
          refine WO_call0 (us := [none, none, none]) (d := 23) (p := True) (j := 2) rfl ⟨by kernel_rfl, by kernel_rfl, by kernel_rfl⟩ trivial (ref_Within_ok h27) (by kernel_rfl) ?_
          refine WO_run (j := 3) (k := 1) (orcs := []) (kF := [16, 17, 18, 24]) (kL := []) (fr' := [(16, aD (.slice tI) a1), (17, aI (List.length a1 : Int)), (18, aI i20), (24, aB (!r26))]) (L' := []) (obs := []) rfl (by kernel_rfl) allP0 ?_
          refine WO_fin [16, 17, 18, 24] [] (fr' := [(16, aD (.slice tI) a1), (17, aI (List.length a1 : Int)), (18, aI i20), (24, aB (!r26))]) (L' := []) (by kernel_rfl) (by kernel_rfl) ?_
          refine seqQ_norm ?_
          refine W_cond (o := .tmp 24) (b := !r26) (by kernel_rfl) (by kernel_rfl) (fun h28 => ?_) (fun h28 => ?_)
          · replace h := ofT h28 h
            refine W_seq (by kernel_rfl) ?_
            refine W_run 1 [] [4] [] (fr' := [(4, aI (4 : Int))]) (L' := []) (obs := []) (by kernel_rfl) (by kernel_rfl) (by kernel_rfl) allP0 ?_
            refine seqQ_norm ?_
            obtain rfl := Option.some.inj h
            refine W_ret [4] [] (fr' := [(4, aI (4 : Int))]) (L' := []) (by kernel_rfl) (by kernel_rfl) ?_
            refine blockQ_ret ?_
            refine seqQ_ret ?_
            refine round_ret ?_
            refine escQ_ret ?_
            exact exQ_mk (by kernel_rfl) (by kernel_rfl)
          · replace h := ofF h28 h
            refine W_skip [16, 17, 18] [] (fr' := [(16, aD (.slice tI) a1), (17, aI (List.length a1 : Int)), (18, aI i20)]) (L' := []) (by kernel_rfl) (by kernel_rfl) ?_
            refine blockQ_norm ?_
            refine seqQ_norm ?_
            obtain rfl := Option.some.inj h
            refine W_run 2 [] [16, 17, 18] [] (fr' := [(16, aD (.slice tI) a1), (17, aI (List.length a1 : Int)), (18, aI (w64 (i20 + (1 : Int))))]) (L' := []) (obs := []) (by kernel_rfl) (by kernel_rfl) (by kernel_rfl) allP0 ?_
            exact round_next' (by kernel_rfl) (by kernel_rfl)
        · obtain rfl := stepL_false h25 h
          refine W_exit (id := 0) [] [] (fr' := []) (L' := []) (by kernel_rfl) (by kernel_rfl) ?_
          refine seqQ_exit ?_
          refine round_exit ?_
          refine escQ_brk ?_
          exact exQ_mk (by kernel_rfl) (by kernel_rfl)
      · intro e fr L hJ
        rcases v30 with v35 | v36
        · obtain ⟨rfl, rfl, rfl⟩ := hJ
          obtain rfl := Option.some.inj h
          refine LT_keep [4] [] (fr' := [(4, aI v35)]) (L' := []) (by kernel_rfl) ?_
          refine blockQ_ret ?_
          refine seqQ_ret ?_
          exact retQ_mk (by kernel_rfl) (by kernel_rfl) (by kernel_rfl)
        · obtain ⟨rfl, rfl, rfl⟩ := hJ
          refine LT_keep [] [] (fr' := []) (L' := []) (by kernel_rfl) ?_
          refine blockQ_hit ?_
          refine seqQ_norm ?_
          refine W_seq (by kernel_rfl) ?_
          refine W_run 1 [] [4] [] (fr' := [(4, aI (0 : Int))]) (L' := []) (obs := []) (by kernel_rfl) (by kernel_rfl) (by kernel_rfl) allP0 ?_
          refine seqQ_norm ?_
          obtain rfl := Option.some.inj h
          refine W_ret [4] [] (fr' := [(4, aI (0 : Int))]) (L' := []) (by kernel_rfl) (by kernel_rfl) ?_
          exact retQ_mk (by kernel_rfl) (by kernel_rfl) (by kernel_rfl)

def ref_Bit (a0 : Int) (a1 : Int) : Option Bool :=
bif (decide (a1 ≥ (0 : Int))) && (decide (a1 < (63 : Int))) then
((ck (0 ≤ IntKind.wrap .u64 (a1))).bind fun _ =>
some ((bAnd .i64 a0 (bShl .i64 (1 : Int) (IntKind.wrap .u64 (a1)))) != (0 : Int)))
else
(some false)
theorem ref_Bit_ok {a0 : Int} {a1 : Int} {r : Bool} (h : ref_Bit a0 a1 = some r) : FnC Try.prog 48 [aI a0, aI a1] [] (aB r) [] := by
  refine fnC_of_W (B := bodyOf Try.f48) (n := 19) Try.func48 (by kernel_rfl) (by kernel_rfl) (by kernel_rfl) (by kernel_rfl) (by kernel_rfl) ?_
  intro K
  refine W_seq (by kernel_rfl) ?_
  refine W_run 1 [] [0, 1] [] (fr' := [(0, aI a0), (1, aI a1)]) (L' := []) (obs := []) (by kernel_rfl) (by kernel_rfl) (by kernel_rfl) allP0 ?_
  refine seqQ_norm ?_
  refine W_seq (by kernel_rfl) ?_
  refine W_region (by kernel_rfl) ?_
  refine WO_run (j := 7) (k := 7) (orcs := []) (kF := [0, 1, 11]) (kL := []) (fr' := [(0, aI a0), (1, aI a1), (11, aB ((decide (a1 ≥ (0 : Int))) && (decide (a1 < (63 : Int)))))]) (L' := []) (obs := []) rfl (by kernel_rfl) allP0 ?_
  rcases Bool.eq_false_or_eq_true ((decide (a1 ≥ (0 : Int))) && (decide (a1 < (63 : Int)))) with h1 | h1
  · replace h := ofT h1 h
    obtain ⟨_, h2, h⟩ := bind_of h
    replace h2 := ck_some h2
    refine WO_run (j := 15) (k := 8) (orcs := [(14, .known true), (16, .known true), (18, .known true), (20, .known true), (22, .known true), (24, .known true), (27, .val (.dat .bool true))]) (kF := [4]) (kL := []) (fr' := [(4, aB ((bAnd .i64 a0 (bShl .i64 (1 : Int) (IntKind.wrap .u64 (a1)))) != (0 : Int)))]) (L' := []) (obs := [(((decide (a1 ≥ (0 : Int))) && (decide (a1 < (63 : Int)))) = true), (((decide (a1 ≥ (0 : Int))) && (decide (a1 < (63 : Int)))) = true), (((decide (a1 ≥ (0 : Int))) && (decide (a1 < (63 : Int)))) = true), (((decide (a1 ≥ (0 : Int))) && (decide (a1 < (63 : Int)))) = true), (0 ≤ IntKind.wrap .u64 (a1)), (((decide (a1 ≥ (0 : Int))) && (decide (a1 < (63 : Int)))) = true), (((decide (a1 ≥ (0 : Int))) && (decide (a1 < (63 : Int)))) = true), (((decide (a1 ≥ (0 : Int))) && (decide (a1 < (63 : Int)))) = true)]) rfl (by kernel_rfl) (allP2 h1 (allP2 h1 (allP2 h1 (allP2 h1 (allP2 h2 (allP2 h1 (allP2 h1 (allP1 h1)))))))) ?_
    refine WO_fin [4] [] (fr' := [(4, aB ((bAnd .i64 a0 (bShl .i64 (1 : Int) (IntKind.wrap .u64 (a1)))) != (0 : Int)))]) (L' := []) (by kernel_rfl) (by kernel_rfl) ?_
    refine seqQ_norm ?_
    obtain rfl := Option.some.inj h
    refine W_ret [4] [] (fr' := [(4, aB ((bAnd .i64 a0 (bShl .i64 (1 : Int) (IntKind.wrap .u64 (a1)))) != (0 : Int)))]) (L' := []) (by kernel_rfl) (by kernel_rfl) ?_
    exact retQ_mk (by kernel_rfl) (by kernel_rfl) (by kernel_rfl)
  · replace h := ofF h1 h
    refine WO_run (j := 15) (k := 8) (orcs := [(14, .known false), (16, .known false), (18, .known false), (20, .known false), (22, .known false), (24, .known false), (27, .val (.dat .bool false))]) (kF := [4]) (kL := []) (fr' := [(4, aB false)]) (L' := []) (obs := [(((decide (a1 ≥ (0 : Int))) && (decide (a1 < (63 : Int)))) = false), (((decide (a1 ≥ (0 : Int))) && (decide (a1 < (63 : Int)))) = false), (((decide (a1 ≥ (0 : Int))) && (decide (a1 < (63 : Int)))) = false), (((decide (a1 ≥ (0 : Int))) && (decide (a1 < (63 : Int)))) = false), (((decide (a1 ≥ (0 : Int))) && (decide (a1 < (63 : Int)))) = false), (((decide (a1 ≥ (0 : Int))) && (decide (a1 < (63 : Int)))) = false), (((decide (a1 ≥ (0 : Int))) && (decide (a1 < (63 : Int)))) = false)]) rfl (by kernel_rfl) (allP2 h1 (allP2 h1 (allP2 h1 (allP2 h1 (allP2 h1 (allP2 h1 (allP1 h1))))))) ?_
    refine WO_fin [4] [] (fr' := [(4, aB false)]) (L' := []) (by kernel_rfl) (by kernel_rfl) ?_
    refine seqQ_norm ?_
    obtain rfl := Option.some.inj h
    refine W_ret [4] [] (fr' := [(4, aB false)]) (L' := []) (by kernel_rfl) (by kernel_rfl) ?_
    exact retQ_mk (by kernel_rfl) (by kernel_rfl) (by kernel_rfl)

@[reducible] def ref_Size_s3 (a0 : Int) (i27 : Int) (v : Int) : Fr × LL := ([(0, aI a0), (3, aI v), (4, aI i27)], [])
def ref_Size_b4 (a0 : Int) (i27 : Int) (x28 : Int) : Option (Flow Int Int) :=
((ref_Bit a0 i27).bind fun r37 =>
bif r37 then
(some (w64 (x28 + (1 : Int))))
else
(some x28)).bind fun v40 =>
some (.next v40)
@[reducible] def ref_Size_s5 (a0 : Int) (v : Int × Int) : Fr × LL := ([(0, aI a0), (3, aI v.2), (4, aI v.1)], [])
@[reducible] def ref_Size_s6 (v : Int) : Fr × LL := ([(3, aI v)], [])
def ref_Size (a0 : Int) : Option Int :=
(forI (0 : Int) (63 : Int) (ref_Size_b4 a0) (fun x28 => x28) (0 : Int)).bind fun v43 =>
some v43
theorem ref_Size_ok {a0 : Int} {r : Int} (h : ref_Size a0 = some r) : FnC Try.prog 40 [aI a0] [] (aI r) [] := by
  refine fnC_of_W (B := bodyOf Try.f40) (n := 15) Try.func40 (by kernel_rfl) (by kernel_rfl) (by kernel_rfl) (by kernel_rfl) (by kernel_rfl) ?_
  intro K
  refine W_seq (by kernel_rfl) ?_
  refine W_run 1 [] [0] [] (fr' := [(0, aI a0)]) (L' := []) (obs := []) (by kernel_rfl) (by kernel_rfl) (by kernel_rfl) allP0 ?_
  refine seqQ_norm ?_
  refine W_seq (by kernel_rfl) ?_
  refine W_run 1 [] [0, 3] [] (fr' := [(0, aI a0), (3, aI (0 : Int))]) (L' := []) (obs := []) (by kernel_rfl) (by kernel_rfl) (by kernel_rfl) allP0 ?_
  refine seqQ_norm ?_
  refine W_seq (by kernel_rfl) ?_
  refine W_seq (by kernel_rfl) ?_
  refine W_run 1 [] [0, 3, 4] [] (fr' := [(0, aI a0), (3, aI (0 : Int)), (4, aI (0 : Int))]) (L' := []) (obs := []) (by kernel_rfl) (by kernel_rfl) (by kernel_rfl) allP0 ?_
  refine seqQ_norm ?_
  refine W_block (id := 0) (by kernel_rfl) ?_
  obtain ⟨v43, h44, h⟩ := bind_of h
  obtain ⟨h45, h46⟩ := forI_iter h44
  refine W_weaken [0, 3, 4] [] (fr' := ((ref_Size_s5 a0) ((0 : Int), (0 : Int))).1) (L' := ((ref_Size_s5 a0) ((0 : Int), (0 : Int))).2) (by kernel_rfl) ?_
  refine W_cutK (W_loop (S := (ref_Size_s5 a0)) (J := (exQ (.exit 0) ref_Size_s6)) (by kernel_rfl) ?_ h45 _ v43 h46) ?_
  · rintro ⟨i27, x28⟩ s h
    refine W_seq (by kernel_rfl) ?_
    refine W_seq (by kernel_rfl) ?_
    refine W_run 2 [] [0, 3, 4, 6] [] (fr' := [(0, aI a0), (3, aI x28), (4, aI i27), (6, aB (decide (i27 < (63 : Int))))]) (L' := []) (obs := []) (by kernel_rfl) (by kernel_rfl) (by kernel_rfl) allP0 ?_
    refine seqQ_norm ?_
    refine W_cond (o := .tmp 6) (b := decide (i27 < (63 : Int))) (by kernel_rfl) (by kernel_rfl) (fun h30 => ?_) (fun h30 => ?_)
    · replace h := stepI_true h30 h
      obtain ⟨_, h, rfl⟩ := h
      refine W_skip [0, 3, 4] [] (fr' := [(0, aI a0), (3, aI x28), (4, aI i27)]) (L' := []) (by kernel_rfl) (by kernel_rfl) ?_
      refine seqQ_norm ?_
      refine W_seq (by kernel_rfl) ?_
      obtain ⟨v40, h41, h⟩ := bind_of h
      refine W_cutK (Q' := (exQ .normal (ref_Size_s3 a0 i27)) v40) ?_ ?_
      · replace h := h41
        refine W_block (id := 1) (by kernel_rfl) ?_
        refine W_seq (by kernel_rfl) ?_
        refine W_region (by kernel_rfl) ?_
        refine WO_run (j := 2) (k := 2) (orcs := []) (kF := [0, 3, 4, 9, 10]) (kL := []) (fr' := [(0, aI a0), (3, aI x28), (4, aI i27), (9, aI a0), (10, aI i27)]) (L' := []) (obs := []) rfl (by kernel_rfl) allP0 ?_
        obtain ⟨r37, h38, h⟩ := bind_of h
        refine WO_call0 (us := [none, none]) (d := 11) (p := True) (j := 3) rfl ⟨by kernel_rfl, by kernel_rfl, by kernel_rfl⟩ trivial (ref_Bit_ok h38) (by kernel_rfl) ?_
        refine WO_fin [0, 3, 4, 11] [] (fr' := [(0, aI a0), (3, aI x28), (4, aI i27), (11, aB r37)]) (L' := []) (by kernel_rfl) (by kernel_rfl) ?_
        refine seqQ_norm ?_
        refine W_cond (o := .tmp 11) (b := r37) (by kernel_rfl) (by kernel_rfl) (fun h39 => ?_) (fun h39 => ?_)
        · replace h := ofT h39 h
          obtain rfl := Option.some.inj h
          refine W_run 3 [] [0, 3, 4] [] (fr' := [(0, aI a0), (3, aI (w64 (x28 + (1 : Int)))), (4, aI i27)]) (L' := []) (obs := []) (by kernel_rfl) (by kernel_rfl) (by kernel_rfl) allP0 ?_
          refine blockQ_norm ?_
          exact exQ_mk (by kernel_rfl) (by kernel_rfl)
        · replace h := ofF h39 h
          obtain rfl := Option.some.inj h
          refine W_skip [0, 3, 4] [] (fr' := [(0, aI a0), (3, aI x28), (4, aI i27)]) (L' := []) (by kernel_rfl) (by kernel_rfl) ?_
          refine blockQ_norm ?_
          exact exQ_mk (by kernel_rfl) (by kernel_rfl)
      · intro e fr L hJ
        obtain ⟨rfl, rfl, rfl⟩ := hJ
        refine LT_keep [0, 3, 4] [] (fr' := [(0, aI a0), (3, aI v40), (4, aI i27)]) (L' := []) (by kernel_rfl) ?_
        refine seqQ_norm ?_
        obtain rfl := Option.some.inj h
        refine W_run 3 [] [0, 3, 4] [] (fr' := [(0, aI a0), (3, aI v40), (4, aI (w64 (i27 + (1 : Int))))]) (L' := []) (obs := []) (by kernel_rfl) (by kernel_rfl) (by kernel_rfl) allP0 ?_
        exact round_next' (by kernel_rfl) (by kernel_rfl)
    · obtain rfl := stepI_false h30 h
      refine W_exit (id := 0) [3] [] (fr' := [(3, aI x28)]) (L' := []) (by kernel_rfl) (by kernel_rfl) ?_
      refine seqQ_exit ?_
      refine round_exit ?_
      exact exQ_mk (by kernel_rfl) (by kernel_rfl)
  · intro e fr L hJ
    obtain ⟨rfl, rfl, rfl⟩ := hJ
    refine LT_keep [3] [] (fr' := [(3, aI v43)]) (L' := []) (by kernel_rfl) ?_
    refine blockQ_hit ?_
    refine seqQ_norm ?_
    refine W_seq (by kernel_rfl) ?_
    refine W_run 2 [] [2] [] (fr' := [(2, aI v43)]) (L' := []) (obs := []) (by kernel_rfl) (by kernel_rfl) (by kernel_rfl) allP0 ?_
    refine seqQ_norm ?_
    obtain rfl := Option.some.inj h
    refine W_ret [2] [] (fr' := [(2, aI v43)]) (L' := []) (by kernel_rfl) (by kernel_rfl) ?_
    exact retQ_mk (by kernel_rfl) (by kernel_rfl) (by kernel_rfl)

def ref_Power_b1 (a0 : Int) (i5 : Int) (x6 : Int) : Option (Flow Int Int) :=
some (.next (w64 (x6 * a0)))
@[reducible] def ref_Power_s2 (a0 : Int) (a1 : Int) (v : Int × Int) : Fr × LL := ([(0, aI a0), (1, aI a1), (5, aI v.2), (6, aI v.1)], [])
@[reducible] def ref_Power_s3 (v : Int) : Fr × LL := ([(5, aI v)], [])
def ref_Power (a0 : Int) (a1 : Int) : Option Int :=
(forI (0 : Int) a1 (ref_Power_b1 a0) (fun x6 => x6) (1 : Int)).bind fun v10 =>
some v10
theorem ref_Power_ok {a0 : Int} {a1 : Int} {r : Int} (h : ref_Power a0 a1 = some r) : FnC Try.prog 14 [aI a0, aI a1] [] (aI r) [] := by
  refine fnC_of_W (B := bodyOf Try.f14) (n := 16) Try.func14 (by kernel_rfl) (by kernel_rfl) (by kernel_rfl) (by kernel_rfl) (by kernel_rfl) ?_
  intro K
  refine W_seq (by kernel_rfl) ?_
  refine W_run 1 [] [0, 1] [] (fr' := [(0, aI a0), (1, aI a1)]) (L' := []) (obs := []) (by kernel_rfl) (by kernel_rfl) (by kernel_rfl) allP0 ?_
  refine seqQ_norm ?_
  refine W_seq (by kernel_rfl) ?_
  refine W_run 1 [] [0, 1, 5] [] (fr' := [(0, aI a0), (1, aI a1), (5, aI (1 : Int))]) (L' := []) (obs := []) (by kernel_rfl) (by kernel_rfl) (by kernel_rfl) allP0 ?_
  refine seqQ_norm ?_
  refine W_seq (by kernel_rfl) ?_
  refine W_seq (by kernel_rfl) ?_
  refine W_run 1 [] [0, 1, 5, 6] [] (fr' := [(0, aI a0), (1, aI a1), (5, aI (1 : Int)), (6, aI (0 : Int))]) (L' := []) (obs := []) (by kernel_rfl) (by kernel_rfl) (by kernel_rfl) allP0 ?_
  refine seqQ_norm ?_
  refine W_block (id := 0) (by kernel_rfl) ?_
  obtain ⟨v10, h11, h⟩ := bind_of h
  obtain ⟨h12, h13⟩ := forI_iter h11
  refine W_weaken [0, 1, 5, 6] [] (fr' := ((ref_Power_s2 a0 a1) ((0 : Int), (1 : Int))).1) (L' := ((ref_Power_s2 a0 a1) ((0 : Int), (1 : Int))).2) (by kernel_rfl) ?_
  refine W_cutK (W_loop (S := (ref_Power_s2 a0 a1)) (J := (exQ (.exit 0) ref_Power_s3)) (by kernel_rfl) ?_ h12 _ v10 h13) ?_
  · rintro ⟨i5, x6⟩ s h
    refine W_seq (by kernel_rfl) ?_
    refine W_seq (by kernel_rfl) ?_
    refine W_run 3 [] [0, 1, 5, 6, 9] [] (fr' := [(0, aI a0), (1, aI a1), (5, aI x6), (6, aI i5), (9, aB (decide (i5 < a1)))]) (L' := []) (obs := []) (by kernel_rfl) (by kernel_rfl) (by kernel_rfl) allP0 ?_
    refine seqQ_norm ?_
    refine W_cond (o := .tmp 9) (b := decide (i5 < a1)) (by kernel_rfl) (by kernel_rfl) (fun h8 => ?_) (fun h8 => ?_)
    · replace h := stepI_true h8 h
      obtain ⟨_, h, rfl⟩ := h
      refine W_skip [0, 1, 5, 6] [] (fr' := [(0, aI a0), (1, aI a1), (5, aI x6), (6, aI i5)]) (L' := []) (by kernel_rfl) (by kernel_rfl) ?_
      refine seqQ_norm ?_
      refine W_seq (by kernel_rfl) ?_
      refine W_block (id := 1) (by kernel_rfl) ?_
      refine W_run 4 [] [0, 1, 5, 6] [] (fr' := [(0, aI a0), (1, aI a1), (5, aI (w64 (x6 * a0))), (6, aI i5)]) (L' := []) (obs := []) (by kernel_rfl) (by kernel_rfl) (by kernel_rfl) allP0 ?_
      refine blockQ_norm ?_
      refine seqQ_norm ?_
      obtain rfl := Option.some.inj h
      refine W_run 3 [] [0, 1, 5, 6] [] (fr' := [(0, aI a0), (1, aI a1), (5, aI (w64 (x6 * a0))), (6, aI (w64 (i5 + (1 : Int))))]) (L' := []) (obs := []) (by kernel_rfl) (by kernel_rfl) (by kernel_rfl) allP0 ?_
      exact round_next' (by kernel_rfl) (by kernel_rfl)
    · obtain rfl := stepI_false h8 h
      refine W_exit (id := 0) [5] [] (fr' := [(5, aI x6)]) (L' := []) (by kernel_rfl) (by kernel_rfl) ?_
      refine seqQ_exit ?_
      refine round_exit ?_
      exact exQ_mk (by kernel_rfl) (by kernel_rfl)
  · intro e fr L hJ
    obtain ⟨rfl, rfl, rfl⟩ := hJ
    refine LT_keep [5] [] (fr' := [(5, aI v10)]) (L' := []) (by kernel_rfl) ?_
    refine blockQ_hit ?_
    refine seqQ_norm ?_
    refine W_seq (by kernel_rfl) ?_
    refine W_run 2 [] [4] [] (fr' := [(4, aI v10)]) (L' := []) (obs := []) (by kernel_rfl) (by kernel_rfl) (by kernel_rfl) allP0 ?_
    refine seqQ_norm ?_
    obtain rfl := Option.some.inj h
    refine W_ret [4] [] (fr' := [(4, aI v10)]) (L' := []) (by kernel_rfl) (by kernel_rfl) ?_
    exact retQ_mk (by kernel_rfl) (by kernel_rfl) (by kernel_rfl)

def ref_Blur_b7 (a1 : Int) (i70 : Int) (i92 : Int) (v95 : Int) (x93 : Int) : Option (Flow Int Int) :=
(ref_Size (bXor .i64 i70 i92)).bind fun r98 =>
(ref_Power a1 r98).bind fun r100 =>
some (.next (w64 (x93 + (w64 (v95 * r100)))))
@[reducible] def ref_Blur_s8 (a0 : (List Int)) (a1 : Int) (i70 : Int) (x71 : (List Int)) (v : Int × Int) : Fr × LL := ([(0, aD (.slice tI) a0), (1, aI a1), (5, .one (.slc 37)), (6, aI i70), (7, aI v.2), (8, aI v.1)], [(37, .seq tI x71)])
@[reducible] def ref_Blur_s9 (a0 : (List Int)) (a1 : Int) (i70 : Int) (x71 : (List Int)) (v : Int) : Fr × LL := ([(0, aD (.slice tI) a0), (1, aI a1), (5, .one (.slc 37)), (6, aI i70), (7, aI v)], [(37, .seq tI x71)])
def ref_Blur_b10 (a0 : (List Int)) (a1 : Int) (i70 : Int) (v73 : Int) (x71 : (List Int)) : Option (Flow (List Int) (List Int)) :=
(forL (ref_Blur_b7 a1 i70) (fun x93 => x93) a0 0 (0 : Int)).bind fun v103 =>
(ck ((List.length x71 : Int) + 1 ≤ 4294967296)).bind fun _ =>
some (.next (x71 ++ [v103]))
@[reducible] def ref_Blur_s11 (a0 : (List Int)) (a1 : Int) (v : Int × (List Int)) : Fr × LL := ([(0, aD (.slice tI) a0), (1, aI a1), (5, .one (.slc 37)), (6, aI v.1)], [(37, .seq tI v.2)])
@[reducible] def ref_Blur_s12 (v : (List Int)) : Fr × LL := ([(5, .one (.slc 37))], [(37, .seq tI v)])
def ref_Blur (a0 : (List Int)) (a1 : Int) : Option (List Int) :=
(forL (ref_Blur_b10 a0 a1) (fun x71 => x71) a0 0 []).bind fun v110 =>
some v110
theorem ref_Blur_ok {a0 : (List Int)} {a1 : Int} {r : (List Int)} (h : ref_Blur a0 a1 = some r) : FnC Try.prog 20 [aD (.slice tI) a0, aI a1] [] (aD (.slice tI) r) [] := by
  refine fnC_of_W (B := bodyOf Try.f20) (n := 39) Try.func20 (by kernel_rfl) (by kernel_rfl) (by kernel_rfl) (by kernel_rfl) (by kernel_rfl) ?_
  intro K
  refine W_seq (by kernel_rfl) ?_
  refine W_run 1 [] [0, 1] [] (fr' := [(0, aD (.slice tI) a0), (1, aI a1)]) (L' := []) (obs := []) (by kernel_rfl) (by kernel_rfl) (by kernel_rfl) allP0 ?_
  refine seqQ_norm ?_
  refine W_seq (by kernel_rfl) ?_
  refine W_run 1 [] [0, 1, 5] [] (fr' := [(0, aD (.slice tI) a0), (1, aI a1), (5, .one (.nilS))]) (L' := []) (obs := []) (by kernel_rfl) (by kernel_rfl) (by kernel_rfl) allP0 ?_
  refine seqQ_norm ?_
  refine W_seq (by kernel_rfl) ?_
  refine W_seq (by kernel_rfl) ?_
  refine W_run 1 [] [0, 1, 5, 6] [] (fr' := [(0, aD (.slice tI) a0), (1, aI a1), (5, .one (.nilS)), (6, aI (0 : Int))]) (L' := []) (obs := []) (by kernel_rfl) (by kernel_rfl) (by kernel_rfl) allP0 ?_
  refine seqQ_norm ?_
  refine W_block (id := 0) (by kernel_rfl) ?_
  obtain ⟨v110, h111, h⟩ := bind_of h
  refine W_len (t := 0) (u := tI) (xs := a0) (by kernel_rfl) (fun h114 => ?_)
  obtain ⟨h112, h113⟩ := forL_iter h114 h111
  refine W_mine 5 37 tI (by kernel_rfl) ?_
  refine W_weaken [0, 1, 5, 6] [37] (fr' := ((ref_Blur_s11 a0 a1) ((0 : Int), [])).1) (L' := ((ref_Blur_s11 a0 a1) ((0 : Int), [])).2) (by kernel_rfl) ?_
  refine W_cutK (W_loop (S := (ref_Blur_s11 a0 a1)) (J := (exQ (.exit 0) ref_Blur_s12)) (by kernel_rfl) ?_ h112 _ v110 h113) ?_
  · rintro ⟨i70, x71⟩ s h
    refine W_seq (by kernel_rfl) ?_
    refine W_seq (by kernel_rfl) ?_
    refine W_run 4 [] [0, 1, 5, 6, 12] [37] (fr' := [(0, aD (.slice tI) a0), (1, aI a1), (5, .one (.slc 37)), (6, aI i70), (12, aB (decide (i70 < (List.length a0 : Int))))]) (L' := [(37, .seq tI x71)]) (obs := []) (by kernel_rfl) (by kernel_rfl) (by kernel_rfl) allP0 ?_
    refine seqQ_norm ?_
    refine W_cond (o := .tmp 12) (b := decide (i70 < (List.length a0 : Int))) (by kernel_rfl) (by kernel_rfl) (fun h75 => ?_) (fun h75 => ?_)
    · replace h := stepL_true h75 h
      obtain ⟨v73, _, h74, h, rfl⟩ := h
      refine W_skip [0, 1, 5, 6] [37] (fr' := [(0, aD (.slice tI) a0), (1, aI a1), (5, .one (.slc 37)), (6, aI i70)]) (L' := [(37, .seq tI x71)]) (by kernel_rfl) (by kernel_rfl) ?_
      refine seqQ_norm ?_
      refine W_seq (by kernel_rfl) ?_
      refine W_block (id := 1) (by kernel_rfl) ?_
      refine W_seq (by kernel_rfl) ?_
      refine W_run 1 [] [0, 1, 5, 6, 7] [37] (fr' := [(0, aD (.slice tI) a0), (1, aI a1), (5, .one (.slc 37)), (6, aI i70), (7, aI (0 : Int))]) (L' := [(37, .seq tI x71)]) (obs := []) (by kernel_rfl) (by kernel_rfl) (by kernel_rfl) allP0 ?_
      refine seqQ_norm ?_
      refine W_seq (by kernel_rfl) ?_
      refine W_seq (by kernel_rfl) ?_
      refine W_run 1 [] [0, 1, 5, 6, 7, 8] [37] (fr' := [(0, aD (.slice tI) a0), (1, aI a1), (5, .one (.slc 37)), (6, aI i70), (7, aI (0 : Int)), (8, aI (0 : Int))]) (L' := [(37, .seq tI x71)]) (obs := []) (by kernel_rfl) (by kernel_rfl) (by kernel_rfl) allP0 ?_
      refine seqQ_norm ?_
      refine W_block (id := 2) (by kernel_rfl) ?_
      obtain ⟨v103, h104, h⟩ := bind_of h
      refine W_len (t := 0) (u := tI) (xs := a0) (by kernel_rfl) (fun h107 => ?_)
      obtain ⟨h105, h106⟩ := forL_iter h107 h104
      refine W_weaken [0, 1, 5, 6, 7, 8] [37] (fr' := ((ref_Blur_s8 a0 a1 i70 x71) ((0 : Int), (0 : Int))).1) (L' := ((ref_Blur_s8 a0 a1 i70 x71) ((0 : Int), (0 : Int))).2) (by kernel_rfl) ?_
      refine W_cutK (W_loop (S := (ref_Blur_s8 a0 a1 i70 x71)) (J := (exQ (.exit 2) (ref_Blur_s9 a0 a1 i70 x71))) (by kernel_rfl) ?_ h105 _ v103 h106) ?_
      · rintro ⟨i92, x93⟩ s h
        refine W_seq (by kernel_rfl) ?_
        refine W_seq (by kernel_rfl) ?_
        refine W_run 4 [] [0, 1, 5, 6, 7, 8, 18] [37] (fr' := [(0, aD (.slice tI) a0), (1, aI a1), (5, .one (.slc 37)), (6, aI i70), (7, aI x93), (8, aI i92), (18, aB (decide (i92 < (List.length a0 : Int))))]) (L' := [(37, .seq tI x71)]) (obs := []) (by kernel_rfl) (by kernel_rfl) (by kernel_rfl) allP0 ?_
        refine seqQ_norm ?_
        refine W_cond (o := .tmp 18) (b := decide (i92 < (List.length a0 : Int))) (by kernel_rfl) (by kernel_rfl) (fun h97 => ?_) (fun h97 => ?_)
        · replace h := stepL_true h97 h
          obtain ⟨v95, _, h96, h, rfl⟩ := h
          refine W_skip [0, 1, 5, 6, 7, 8] [37] (fr' := [(0, aD (.slice tI) a0), (1, aI a1), (5, .one (.slc 37)), (6, aI i70), (7, aI x93), (8, aI i92)]) (L' := [(37, .seq tI x71)]) (by kernel_rfl) (by kernel_rfl) ?_
          refine seqQ_norm ?_
          refine W_seq (by kernel_rfl) ?_
          refine W_block (id := 3) (by kernel_rfl) ?_
          obtain ⟨r98, h99, h⟩ := bind_of h
          obtain ⟨r100, h101, h⟩ := bind_of h
          refine W_draw2 13 [(7, .val (.dat tI v95))] [(9, [none], aI r98), (10, [none, none], aI r100)] [0, 1, 5, 6, 7, 8] [37] (fr' := [(0, aD (.slice tI) a0), (1, aI a1), (5, .one (.slc 37)), (6, aI i70), (7, aI (w64 (x93 + (w64 (v95 * r100))))), (8, aI i92)]) (L' := [(37, .seq tI x71)]) (out := [(21, aI x93), (22, aD (.slice tI) a0), (23, aI i92), (24, .one (.dptr tI v95)), (25, aI v95), (26, aI a1), (27, aI i70), (28, aI i92), (29, aI (bXor .i64 i70 i92)), (30, aI r98), (31, aI r100), (32, aI (w64 (v95 * r100))), (33, aI (w64 (x93 + (w64 (v95 * r100)))))]) (obs := [Idx a0 i92 v95, True, True]) (obs2 := []) (calls := [(40, [aI (bXor .i64 i70 i92)], aI r98), (14, [aI a1, aI r98], aI r100)]) (by kernel_rfl) (by kernel_rfl) (by kernel_rfl) (by kernel_rfl) (allP2 (Idx.of h96) (allP2 trivial (allP1 trivial))) (allC1 (by kernel_rfl) (ref_Size_ok h99) (by kernel_rfl) (allC1 (by kernel_rfl) (ref_Power_ok h101) (by kernel_rfl) allC0)) (by kernel_rfl) allP0 ?_
          refine blockQ_norm ?_
          refine seqQ_norm ?_
          obtain rfl := Option.some.inj h
          refine W_run 3 [] [0, 1, 5, 6, 7, 8] [37] (fr' := [(0, aD (.slice tI) a0), (1, aI a1), (5, .one (.slc 37)), (6, aI i70), (7, aI (w64 (x93 + (w64 (v95 * r100))))), (8, aI (w64 (i92 + (1 : Int))))]) (L' := [(37, .seq tI x71)]) (obs := []) (by kernel_rfl) (by kernel_rfl) (by kernel_rfl) allP0 ?_
          exact round_next' (by kernel_rfl) (by kernel_rfl)
        · obtain rfl := stepL_false h97 h
          refine W_exit (id := 2) [0, 1, 5, 6, 7] [37] (fr' := [(0, aD (.slice tI) a0), (1, aI a1), (5, .one (.slc 37)), (6, aI i70), (7, aI x93)]) (L' := [(37, .seq tI x71)]) (by kernel_rfl) (by kernel_rfl) ?_
          refine seqQ_exit ?_
          refine round_exit ?_
          exact exQ_mk (by kernel_rfl) (by kernel_rfl)
      · intro e fr L hJ
        obtain ⟨rfl, rfl, rfl⟩ := hJ
        refine LT_keep [0, 1, 5, 6, 7] [37] (fr' := [(0, aD (.slice tI) a0), (1, aI a1), (5, .one (.slc 37)), (6, aI i70), (7, aI v103)]) (L' := [(37, .seq tI x71)]) (by kernel_rfl) ?_
        refine blockQ_hit ?_
        refine seqQ_norm ?_
        obtain ⟨_, h108, h⟩ := bind_of h
        replace h108 := ck_some h108
        refine W_run 5 [] [0, 1, 5, 6] [37] (fr' := [(0, aD (.slice tI) a0), (1, aI a1), (5, .one (.slc 37)), (6, aI i70)]) (L' := [(37, .seq tI (x71 ++ [v103]))]) (obs := [SmallLen (List.length x71 + List.length [v103])]) (by kernel_rfl) (by kernel_rfl) (by kernel_rfl) (allP1 h108) ?_
        refine blockQ_norm ?_
        refine seqQ_norm ?_
        obtain rfl := Option.some.inj h
        refine W_run 3 [] [0, 1, 5, 6] [37] (fr' := [(0, aD (.slice tI) a0), (1, aI a1), (5, .one (.slc 37)), (6, aI (w64 (i70 + (1 : Int))))]) (L' := [(37, .seq tI (x71 ++ [v103]))]) (obs := []) (by kernel_rfl) (by kernel_rfl) (by kernel_rfl) allP0 ?_
        exact round_next' (by kernel_rfl) (by kernel_rfl)
    · obtain rfl := stepL_false h75 h
      refine W_exit (id := 0) [5] [37] (fr' := [(5, .one (.slc 37))]) (L' := [(37, .seq tI x71)]) (by kernel_rfl) (by kernel_rfl) ?_
      refine seqQ_exit ?_
      refine round_exit ?_
      exact exQ_mk (by kernel_rfl) (by kernel_rfl)
  · intro e fr L hJ
    obtain ⟨rfl, rfl, rfl⟩ := hJ
    refine LT_keep [5] [37] (fr' := [(5, .one (.slc 37))]) (L' := [(37, .seq tI v110)]) (by kernel_rfl) ?_
    refine blockQ_hit ?_
    refine seqQ_norm ?_
    refine W_seq (by kernel_rfl) ?_
    refine W_run 2 [] [4] [37] (fr' := [(4, .one (.slc 37))]) (L' := [(37, .seq tI v110)]) (obs := []) (by kernel_rfl) (by kernel_rfl) (by kernel_rfl) allP0 ?_
    refine seqQ_norm ?_
    obtain rfl := Option.some.inj h
    refine W_frz 37 (by kernel_rfl) ?_
    refine W_ret [4] [] (fr' := [(4, aD (.slice tI) v110)]) (L' := []) (by kernel_rfl) (by kernel_rfl) ?_
    exact retQ_mk (by kernel_rfl) (by kernel_rfl) (by kernel_rfl)

def ref_Ints_b1 (a1 : (List Int)) (i16 : Int) (v19 : Int) (x17 : Unit) : Option (Flow Unit (Esc Bool Unit)) :=
(idx a1 i16).bind fun v22 =>
bif v19 != v22 then
(some (.done (.ret false)))
else
(some (.next ()))
@[reducible] def ref_Ints_s2 (a0 : (List Int)) (a1 : (List Int)) (v : Int × Unit) : Fr × LL := ([(0, aD (.slice tI) a0), (1, aD (.slice tI) a1), (5, aI v.1)], [])
@[reducible] def ref_Ints_s3 (v : Bool) : Fr × LL := ([(4, aB v)], [])
@[reducible] def ref_Ints_s4 (v : Unit) : Fr × LL := ([], [])
def ref_Ints (a0 : (List Int)) (a1 : (List Int)) : Option Bool :=
bif (List.length a0 : Int) != (List.length a1 : Int) then
(some false)
else
((forL (ref_Ints_b1 a1) (fun x17 => (.brk ())) a0 0 ()).bind fun v26 =>
match v26 with
| .ret v31 =>
(some v31)
| .brk v32 =>
(some true))
theorem ref_Ints_ok {a0 : (List Int)} {a1 : (List Int)} {r : Bool} (h : ref_Ints a0 a1 = some r) : FnC Try.prog 19 [aD (.slice tI) a0, aD (.slice tI) a1] [] (aB r) [] := by
  refine fnC_of_W (B := bodyOf Try.f19) (n := 26) Try.func19 (by kernel_rfl) (by kernel_rfl) (by kernel_rfl) (by kernel_rfl) (by kernel_rfl) ?_
  intro K
  refine W_seq (by kernel_rfl) ?_
  refine W_run 1 [] [0, 1] [] (fr' := [(0, aD (.slice tI) a0), (1, aD (.slice tI) a1)]) (L' := []) (obs := []) (by kernel_rfl) (by kernel_rfl) (by kernel_rfl) allP0 ?_
  refine seqQ_norm ?_
  refine W_seq (by kernel_rfl) ?_
  refine W_seq (by kernel_rfl) ?_
  refine W_run 5 [] [0, 1, 10] [] (fr' := [(0, aD (.slice tI) a0), (1, aD (.slice tI) a1), (10, aB ((List.length a0 : Int) != (List.length a1 : Int)))]) (L' := []) (obs := []) (by kernel_rfl) (by kernel_rfl) (by kernel_rfl) allP0 ?_
  refine seqQ_norm ?_
  refine W_cond (o := .tmp 10) (b := (List.length a0 : Int) != (List.length a1 : Int)) (by kernel_rfl) (by kernel_rfl) (fun h1 => ?_) (fun h1 => ?_)
  · replace h := ofT h1 h
    refine W_seq (by kernel_rfl) ?_
    refine W_run 1 [] [4] [] (fr' := [(4, aB false)]) (L' := []) (obs := []) (by kernel_rfl) (by kernel_rfl) (by kernel_rfl) allP0 ?_
    refine seqQ_norm ?_
    obtain rfl := Option.some.inj h
    refine W_ret [4] [] (fr' := [(4, aB false)]) (L' := []) (by kernel_rfl) (by kernel_rfl) ?_
    refine seqQ_ret ?_
    exact retQ_mk (by kernel_rfl) (by kernel_rfl) (by kernel_rfl)
  · replace h := ofF h1 h
    refine W_skip [0, 1] [] (fr' := [(0, aD (.slice tI) a0), (1, aD (.slice tI) a1)]) (L' := []) (by kernel_rfl) (by kernel_rfl) ?_
    refine seqQ_norm ?_
    refine W_seq (by kernel_rfl) ?_
    refine W_seq (by kernel_rfl) ?_
    refine W_run 1 [] [0, 1, 5] [] (fr' := [(0, aD (.slice tI) a0), (1, aD (.slice tI) a1), (5, aI (0 : Int))]) (L' := []) (obs := []) (by kernel_rfl) (by kernel_rfl) (by kernel_rfl) allP0 ?_
    refine seqQ_norm ?_
    refine W_block (id := 0) (by kernel_rfl) ?_
    obtain ⟨v26, h27, h⟩ := bind_of h
    refine W_len (t := 0) (u := tI) (xs := a0) (by kernel_rfl) (fun h30 => ?_)
    obtain ⟨h28, h29⟩ := forL_iter h30 h27
    refine W_weaken [0, 1, 5] [] (fr' := ((ref_Ints_s2 a0 a1) ((0 : Int), ())).1) (L' := ((ref_Ints_s2 a0 a1) ((0 : Int), ())).2) (by kernel_rfl) ?_
    refine W_cutK (W_loop (S := (ref_Ints_s2 a0 a1)) (J := (escQ (exQ .ret ref_Ints_s3) (exQ (.exit 0) ref_Ints_s4))) (by kernel_rfl) ?_ h28 _ v26 h29) ?_
    · rintro ⟨i16, x17⟩ s h
      refine W_seq (by kernel_rfl) ?_
      refine W_seq (by kernel_rfl) ?_
      refine W_run 4 [] [0, 1, 5, 14] [] (fr' := [(0, aD (.slice tI) a0), (1, aD (.slice tI) a1), (5, aI i16), (14, aB (decide (i16 < (List.length a0 : Int))))]) (L' := []) (obs := []) (by kernel_rfl) (by kernel_rfl) (by kernel_rfl) allP0 ?_
      refine seqQ_norm ?_
      refine W_cond (o := .tmp 14) (b := decide (i16 < (List.length a0 : Int))) (by kernel_rfl) (by kernel_rfl) (fun h21 => ?_) (fun h21 => ?_)
      · replace h := stepL_true h21 h
        obtain ⟨v19, _, h20, h, rfl⟩ := h
        refine W_skip [0, 1, 5] [] (fr' := [(0, aD (.slice tI) a0), (1, aD (.slice tI) a1), (5, aI i16)]) (L' := []) (by kernel_rfl) (by kernel_rfl) ?_
        refine seqQ_norm ?_
        refine W_seq (by kernel_rfl) ?_
        refine W_block (id := 1) (by kernel_rfl) ?_
        refine W_seq (by kernel_rfl) ?_
        obtain ⟨v22, h23, h⟩ := bind_of h
        refine W_draw2 9 [(5, .val (.dat tI v19)), (13, .val (.dat tI v22))] [] [0, 1, 5, 25] [] (fr' := [(0, aD (.slice tI) a0), (1, aD (.slice tI) a1), (5, aI i16), (25, aB (v19 != v22))]) (L' := []) (out := [(17, aD (.slice tI) a0), (18, aI i16), (19, .one (.dptr tI v19)), (20, aI v19), (21, aD (.slice tI) a1), (22, aI i16), (23, .one (.dptr tI v22)), (24, aI v22), (25, aB (v19 != v22))]) (obs := [Idx a0 i16 v19, Idx a1 i16 v22]) (obs2 := []) (calls := []) (by kernel_rfl) (by kernel_rfl) (by kernel_rfl) (by kernel_rfl) (allP2 (Idx.of h20) (allP1 (Idx.of h23))) allC0 (by kernel_rfl) allP0 ?_
        refine seqQ_norm ?_
        refine W_cond (o := .tmp 25) (b := v19 != v22) (by kernel_rfl) (by kernel_rfl) (fun h24 => ?_) (fun h24 => ?_)
        · replace h := ofT h24 h
          refine W_seq (by kernel_rfl) ?_
          refine W_run 1 [] [4] [] (fr' := [(4, aB false)]) (L' := []) (obs := []) (by kernel_rfl) (by kernel_rfl) (by kernel_rfl) allP0 ?_
          refine seqQ_norm ?_
          obtain rfl := Option.some.inj h
          refine W_ret [4] [] (fr' := [(4, aB false)]) (L' := []) (by kernel_rfl) (by kernel_rfl) ?_
          refine blockQ_ret ?_
          refine seqQ_ret ?_
          refine round_ret ?_
          refine escQ_ret ?_
          exact exQ_mk (by kernel_rfl) (by kernel_rfl)
        · replace h := ofF h24 h
          refine W_skip [0, 1, 5] [] (fr' := [(0, aD (.slice tI) a0), (1, aD (.slice tI) a1), (5, aI i16)]) (L' := []) (by kernel_rfl) (by kernel_rfl) ?_
          refine blockQ_norm ?_
          refine seqQ_norm ?_
          obtain rfl := Option.some.inj h
          refine W_run 3 [] [0, 1, 5] [] (fr' := [(0, aD (.slice tI) a0), (1, aD (.slice tI) a1), (5, aI (w64 (i16 + (1 : Int))))]) (L' := []) (obs := []) (by kernel_rfl) (by kernel_rfl) (by kernel_rfl) allP0 ?_
          exact round_next' (by kernel_rfl) (by kernel_rfl)
      · obtain rfl := stepL_false h21 h
        refine W_exit (id := 0) [] [] (fr' := []) (L' := []) (by kernel_rfl) (by kernel_rfl) ?_
        refine seqQ_exit ?_
        refine round_exit ?_
        refine escQ_brk ?_
        exact exQ_mk (by kernel_rfl) (by kernel_rfl)
    · intro e fr L hJ
      rcases v26 with v31 | v32
      · obtain ⟨rfl, rfl, rfl⟩ := hJ
        obtain rfl := Option.some.inj h
        refine LT_keep [4] [] (fr' := [(4, aB v31)]) (L' := []) (by kernel_rfl) ?_
        refine blockQ_ret ?_
        refine seqQ_ret ?_
        exact retQ_mk (by kernel_rfl) (by kernel_rfl) (by kernel_rfl)
      · obtain ⟨rfl, rfl, rfl⟩ := hJ
        refine LT_keep [] [] (fr' := []) (L' := []) (by kernel_rfl) ?_
        refine blockQ_hit ?_
        refine seqQ_norm ?_
        refine W_seq (by kernel_rfl) ?_
        refine W_run 1 [] [4] [] (fr' := [(4, aB true)]) (L' := []) (obs := []) (by kernel_rfl) (by kernel_rfl) (by kernel_rfl) allP0 ?_
        refine seqQ_norm ?_
        obtain rfl := Option.some.inj h
        refine W_ret [4] [] (fr' := [(4, aB true)]) (L' := []) (by kernel_rfl) (by kernel_rfl) ?_
        exact retQ_mk (by kernel_rfl) (by kernel_rfl) (by kernel_rfl)

@[reducible] def law_WaveBlurs_s3 (a1 : (List Int)) (a2 : Int) (r1 : ((List Int) × Int)) (r3 : Int) (v : Bool) : Fr × LL := ([(1, aD (.slice tI) a1), (2, aI a2), (7, aD (.slice tI) r1.1), (8, aI r1.2), (9, aI r3), (26, aB v)], [])
def law_WaveBlurs_g4 (a2 : Int) (r3 : Int) : Option Int :=
(bif r3 == (0 : Int) then
((ref_Within (0 : Int) a2 (3 : Int)).bind fun r36 =>
some (!r36))
else
(some false)).bind fun v38 =>
bif v38 then
(some (4 : Int))
else
(some r3)
@[reducible] def law_WaveBlurs_s5 (v : Bool) : Fr × LL := ([(6, aB v)], [])
@[reducible] def law_WaveBlurs_s6 (a1 : (List Int)) (a2 : Int) (r1 : ((List Int) × Int)) (v : Int) : Fr × LL := ([(1, aD (.slice tI) a1), (2, aI a2), (7, aD (.slice tI) r1.1), (8, aI r1.2), (9, aI v)], [])
def law_WaveBlurs (a0 : Int) (a1 : (List Int)) (a2 : Int) : Option Bool :=
(wave_Blur a0 a1 a2).bind fun r1 =>
(ref_WaveCheck a0 a1).bind fun r3 =>
(law_WaveBlurs_g4 a2 r3).bind fun v41 =>
bif v41 != (0 : Int) then
(some ((r1.2 == v41) && ((List.length r1.1 : Int) == (0 : Int))))
else
((bif r1.2 == (0 : Int) then
((ref_Blur a1 a2).bind fun r55 =>
(ref_Ints r1.1 r55).bind fun r57 =>
some r57)
else
(some false)).bind fun v59 =>
some v59)
theorem law_WaveBlurs_ok {a0 : Int} {a1 : (List Int)} {a2 : Int} {r : Bool} (h : law_WaveBlurs a0 a1 a2 = some r) : FnC Try.prog 5 [aI a0, aD (.slice tI) a1, aI a2] [] (aB r) [] := by
  refine fnC_of_W (B := bodyOf Try.f5) (n := 46) Try.func5 (by kernel_rfl) (by kernel_rfl) (by kernel_rfl) (by kernel_rfl) (by kernel_rfl) ?_
  intro K
  refine W_seq (by kernel_rfl) ?_
  refine W_run 1 [] [0, 1, 2] [] (fr' := [(0, aI a0), (1, aD (.slice tI) a1), (2, aI a2)]) (L' := []) (obs := []) (by kernel_rfl) (by kernel_rfl) (by kernel_rfl) allP0 ?_
  refine seqQ_norm ?_
  refine W_seq (by kernel_rfl) ?_
  refine W_region (by kernel_rfl) ?_
  refine WO_run (j := 3) (k := 3) (orcs := []) (kF := [0, 1, 2, 11, 12, 13]) (kL := []) (fr' := [(0, aI a0), (1, aD (.slice tI) a1), (2, aI a2), (11, aI a0), (12, aD (.slice tI) a1), (13, aI a2)]) (L' := []) (obs := []) rfl (by kernel_rfl) allP0 ?_
  obtain ⟨r1, h2, h⟩ := bind_of h
  refine WO_call0 (us := [none, none, none]) (d := 14) (p := True) (j := 4) rfl ⟨by kernel_rfl, by kernel_rfl, by kernel_rfl⟩ trivial (wave_Blur_ok h2) (by kernel_rfl) ?_
  refine WO_run (j := 9) (k := 5) (orcs := []) (kF := [0, 1, 2, 7, 8]) (kL := []) (fr' := [(0, aI a0), (1, aD (.slice tI) a1), (2, aI a2), (7, aD (.slice tI) r1.1), (8, aI r1.2)]) (L' := []) (obs := []) rfl (by kernel_rfl) allP0 ?_
  refine WO_fin [0, 1, 2, 7, 8] [] (fr' := [(0, aI a0), (1, aD (.slice tI) a1), (2, aI a2), (7, aD (.slice tI) r1.1), (8, aI r1.2)]) (L' := []) (by kernel_rfl) (by kernel_rfl) ?_
  refine seqQ_norm ?_
  refine W_seq (by kernel_rfl) ?_
  refine W_region (by kernel_rfl) ?_
  refine WO_run (j := 2) (k := 2) (orcs := []) (kF := [1, 2, 7, 8, 17, 18]) (kL := []) (fr' := [(1, aD (.slice tI) a1), (2, aI a2), (7, aD (.slice tI) r1.1), (8, aI r1.2), (17, aI a0), (18, aD (.slice tI) a1)]) (L' := []) (obs := []) rfl (by kernel_rfl) allP0 ?_
  obtain ⟨r3, h4, h⟩ := bind_of h
  refine WO_call0 (us := [none, none]) (d := 19) (p := True) (j := 3) rfl ⟨by kernel_rfl, by kernel_rfl, by kernel_rfl⟩ trivial (ref_WaveCheck_ok h4) (by kernel_rfl) ?_
  refine WO_run (j := 4) (k := 1) (orcs := []) (kF := [1, 2, 7, 8, 9]) (kL := []) (fr' := [(1, aD (.slice tI) a1), (2, aI a2), (7, aD (.slice tI) r1.1), (8, aI r1.2), (9, aI r3)]) (L' := []) (obs := []) rfl (by kernel_rfl) allP0 ?_
  refine WO_fin [1, 2, 7, 8, 9] [] (fr' := [(1, aD (.slice tI) a1), (2, aI a2), (7, aD (.slice tI) r1.1), (8, aI r1.2), (9, aI r3)]) (L' := []) (by kernel_rfl) (by kernel_rfl) ?_
  refine seqQ_norm ?_
  refine W_seq (by kernel_rfl) ?_
  obtain ⟨v41, h42, h⟩ := bind_of h
  refine W_cutK (Q' := (exQ .normal (law_WaveBlurs_s6 a1 a2 r1)) v41) ?_ ?_
  · replace h := h42
    refine W_seq (by kernel_rfl) ?_
    obtain ⟨v38, h39, h⟩ := bind_of h
    refine W_cutK (Q' := (exQ .normal (law_WaveBlurs_s3 a1 a2 r1 r3)) v38) ?_ ?_
    · replace h := h39
      refine W_region (by kernel_rfl) ?_
      refine WO_run (j := 3) (k := 3) (orcs := []) (kF := [1, 2, 7, 8, 9, 22]) (kL := []) (fr' := [(1, aD (.slice tI) a1), (2, aI a2), (7, aD (.slice tI) r1.1), (8, aI r1.2), (9, aI r3), (22, aB (r3 == (0 : Int)))]) (L' := []) (obs := []) rfl (by kernel_rfl) allP0 ?_
      rcases Bool.eq_false_or_eq_true (r3 == (0 : Int)) with h35 | h35
      · replace h := ofT h35 h
        refine WO_run (j := 4) (k := 1) (orcs := [(6, .known true)]) (kF := [1, 2, 7, 8, 9, 22, 23]) (kL := []) (fr' := [(1, aD (.slice tI) a1), (2, aI a2), (7, aD (.slice tI) r1.1), (8, aI r1.2), (9, aI r3), (22, aB (r3 == (0 : Int))), (23, aI a2)]) (L' := []) (obs := [((r3 == (0 : Int)) = true)]) rfl (by kernel_rfl) (allP1 h35) ?_
        obtain ⟨r36, h37, h⟩ := bind_of h
        refine WO_call0 (us := [none, none, none]) (d := 24) (p := ((r3 == (0 : Int)) = true)) (j := 5) rfl ⟨by kernel_rfl, by kernel_rfl, by kernel_rfl⟩ h35 (ref_Within_ok h37) (by kernel_rfl) ?_
        refine WO_run (j := 7) (k := 2) (orcs := [(10, .known true), (13, .val (.dat .bool true))]) (kF := [1, 2, 7, 8, 9, 26]) (kL := []) (fr' := [(1, aD (.slice tI) a1), (2, aI a2), (7, aD (.slice tI) r1.1), (8, aI r1.2), (9, aI r3), (26, aB (!r36))]) (L' := []) (obs := [((r3 == (0 : Int)) = true), ((r3 == (0 : Int)) = true)]) rfl (by kernel_rfl) (allP2 h35 (allP1 h35)) ?_
        obtain rfl := Option.some.inj h
        refine WO_fin [1, 2, 7, 8, 9, 26] [] (fr' := [(1, aD (.slice tI) a1), (2, aI a2), (7, aD (.slice tI) r1.1), (8, aI r1.2), (9, aI r3), (26, aB (!r36))]) (L' := []) (by kernel_rfl) (by kernel_rfl) ?_
        exact exQ_mk (by kernel_rfl) (by kernel_rfl)
      · replace h := ofF h35 h
        refine WO_run (j := 7) (k := 4) (orcs := [(6, .known false), (8, .known false), (10, .known false), (13, .val (.dat .bool false))]) (kF := [1, 2, 7, 8, 9, 26]) (kL := []) (fr' := [(1, aD (.slice tI) a1), (2, aI a2), (7, aD (.slice tI) r1.1), (8, aI r1.2), (9, aI r3), (26, aB false)]) (L' := []) (obs := [((r3 == (0 : Int)) = false), ((r3 == (0 : Int)) = false), ((r3 == (0 : Int)) = false), ((r3 == (0 : Int)) = false)]) rfl (by kernel_rfl) (allP2 h35 (allP2 h35 (allP2 h35 (allP1 h35)))) ?_
        obtain rfl := Option.some.inj h
        refine WO_fin [1, 2, 7, 8, 9, 26] [] (fr' := [(1, aD (.slice tI) a1), (2, aI a2), (7, aD (.slice tI) r1.1), (8, aI r1.2), (9, aI r3), (26, aB false)]) (L' := []) (by kernel_rfl) (by kernel_rfl) ?_
        exact exQ_mk (by kernel_rfl) (by kernel_rfl)
    · intro e fr L hJ
      obtain ⟨rfl, rfl, rfl⟩ := hJ
      refine LT_keep [1, 2, 7, 8, 9, 26] [] (fr' := [(1, aD (.slice tI) a1), (2, aI a2), (7, aD (.slice tI) r1.1), (8, aI r1.2), (9, aI r3), (26, aB v38)]) (L' := []) (by kernel_rfl) ?_
      refine seqQ_norm ?_
      refine W_cond (o := .tmp 26) (b := v38) (by kernel_rfl) (by kernel_rfl) (fun h40 => ?_) (fun h40 => ?_)
      · replace h := ofT h40 h
        obtain rfl := Option.some.inj h
        refine W_run 1 [] [1, 2, 7, 8, 9] [] (fr' := [(1, aD (.slice tI) a1), (2, aI a2), (7, aD (.slice tI) r1.1), (8, aI r1.2), (9, aI (4 : Int))]) (L' := []) (obs := []) (by kernel_rfl) (by kernel_rfl) (by kernel_rfl) allP0 ?_
        exact exQ_mk (by kernel_rfl) (by kernel_rfl)
      · replace h := ofF h40 h
        obtain rfl := Option.some.inj h
        refine W_skip [1, 2, 7, 8, 9] [] (fr' := [(1, aD (.slice tI) a1), (2, aI a2), (7, aD (.slice tI) r1.1), (8, aI r1.2), (9, aI r3)]) (L' := []) (by kernel_rfl) (by kernel_rfl) ?_
        exact exQ_mk (by kernel_rfl) (by kernel_rfl)
  · intro e fr L hJ
    obtain ⟨rfl, rfl, rfl⟩ := hJ
    refine LT_keep [1, 2, 7, 8, 9] [] (fr' := [(1, aD (.slice tI) a1), (2, aI a2), (7, aD (.slice tI) r1.1), (8, aI r1.2), (9, aI v41)]) (L' := []) (by kernel_rfl) ?_
    refine seqQ_norm ?_
    refine W_seq (by kernel_rfl) ?_
    refine W_seq (by kernel_rfl) ?_
    refine W_run 2 [] [1, 2, 7, 8, 9, 28] [] (fr' := [(1, aD (.slice tI) a1), (2, aI a2), (7, aD (.slice tI) r1.1), (8, aI r1.2), (9, aI v41), (28, aB (v41 != (0 : Int)))]) (L' := []) (obs := []) (by kernel_rfl) (by kernel_rfl) (by kernel_rfl) allP0 ?_
    refine seqQ_norm ?_
    refine W_cond (o := .tmp 28) (b := v41 != (0 : Int)) (by kernel_rfl) (by kernel_rfl) (fun h43 => ?_) (fun h43 => ?_)
    · replace h := ofT h43 h
      refine W_seq (by kernel_rfl) ?_
      refine W_run 9 [] [6] [] (fr' := [(6, aB ((r1.2 == v41) && ((List.length r1.1 : Int) == (0 : Int))))]) (L' := []) (obs := []) (by kernel_rfl) (by kernel_rfl) (by kernel_rfl) allP0 ?_
      refine seqQ_norm ?_
      obtain rfl := Option.some.inj h
      refine W_ret [6] [] (fr' := [(6, aB ((r1.2 == v41) && ((List.length r1.1 : Int) == (0 : Int))))]) (L' := []) (by kernel_rfl) (by kernel_rfl) ?_
      refine seqQ_ret ?_
      exact retQ_mk (by kernel_rfl) (by kernel_rfl) (by kernel_rfl)
    · replace h := ofF h43 h
      refine W_skip [1, 2, 7, 8] [] (fr' := [(1, aD (.slice tI) a1), (2, aI a2), (7, aD (.slice tI) r1.1), (8, aI r1.2)]) (L' := []) (by kernel_rfl) (by kernel_rfl) ?_
      refine seqQ_norm ?_
      refine W_seq (by kernel_rfl) ?_
      obtain ⟨v59, h60, h⟩ := bind_of h
      refine W_cutK (Q' := (exQ .normal law_WaveBlurs_s5) v59) ?_ ?_
      · replace h := h60
        refine W_region (by kernel_rfl) ?_
        refine WO_run (j := 3) (k := 3) (orcs := []) (kF := [1, 2, 7, 39]) (kL := []) (fr' := [(1, aD (.slice tI) a1), (2, aI a2), (7, aD (.slice tI) r1.1), (39, aB (r1.2 == (0 : Int)))]) (L' := []) (obs := []) rfl (by kernel_rfl) allP0 ?_
        rcases Bool.eq_false_or_eq_true (r1.2 == (0 : Int)) with h54 | h54
        · replace h := ofT h54 h
          refine WO_run (j := 6) (k := 3) (orcs := [(6, .known true), (8, .known true), (10, .known true)]) (kF := [39, 40, 41, 42]) (kL := []) (fr' := [(39, aB (r1.2 == (0 : Int))), (40, aD (.slice tI) r1.1), (41, aD (.slice tI) a1), (42, aI a2)]) (L' := []) (obs := [((r1.2 == (0 : Int)) = true), ((r1.2 == (0 : Int)) = true), ((r1.2 == (0 : Int)) = true)]) rfl (by kernel_rfl) (allP2 h54 (allP2 h54 (allP1 h54))) ?_
          obtain ⟨r55, h56, h⟩ := bind_of h
          refine WO_call0 (us := [none, none]) (d := 43) (p := ((r1.2 == (0 : Int)) = true)) (j := 7) rfl ⟨by kernel_rfl, by kernel_rfl, by kernel_rfl⟩ h54 (ref_Blur_ok h56) (by kernel_rfl) ?_
          obtain ⟨r57, h58, h⟩ := bind_of h
          refine WO_call0 (us := [none, none]) (d := 44) (p := ((r1.2 == (0 : Int)) = true)) (j := 8) rfl ⟨by kernel_rfl, by kernel_rfl, by kernel_rfl⟩ h54 (ref_Ints_ok h58) (by kernel_rfl) ?_
          refine WO_run (j := 10) (k := 2) (orcs := [(17, .val (.dat .bool true))]) (kF := [6]) (kL := []) (fr' := [(6, aB r57)]) (L' := []) (obs := [((r1.2 == (0 : Int)) = true)]) rfl (by kernel_rfl) (allP1 h54) ?_
          obtain rfl := Option.some.inj h
          refine WO_fin [6] [] (fr' := [(6, aB r57)]) (L' := []) (by kernel_rfl) (by kernel_rfl) ?_
          exact exQ_mk (by kernel_rfl) (by kernel_rfl)
        · replace h := ofF h54 h
          refine WO_run (j := 10) (k := 7) (orcs := [(6, .known false), (8, .known false), (10, .known false), (12, .known false), (14, .known false), (17, .val (.dat .bool false))]) (kF := [6]) (kL := []) (fr' := [(6, aB false)]) (L' := []) (obs := [((r1.2 == (0 : Int)) = false), ((r1.2 == (0 : Int)) = false), ((r1.2 == (0 : Int)) = false), ((r1.2 == (0 : Int)) = false), ((r1.2 == (0 : Int)) = false), ((r1.2 == (0 : Int)) = false)]) rfl (by kernel_rfl) (allP2 h54 (allP2 h54 (allP2 h54 (allP2 h54 (allP2 h54 (allP1 h54)))))) ?_
          obtain rfl := Option.some.inj h
          refine WO_fin [6] [] (fr' := [(6, aB false)]) (L' := []) (by kernel_rfl) (by kernel_rfl) ?_
          exact exQ_mk (by kernel_rfl) (by kernel_rfl)
      · intro e fr L hJ
        obtain ⟨rfl, rfl, rfl⟩ := hJ
        refine LT_keep [6] [] (fr' := [(6, aB v59)]) (L' := []) (by kernel_rfl) ?_
        refine seqQ_norm ?_
        obtain rfl := Option.some.inj h
        refine W_ret [6] [] (fr' := [(6, aB v59)]) (L' := []) (by kernel_rfl) (by kernel_rfl) ?_
        exact retQ_mk (by kernel_rfl) (by kernel_rfl) (by kernel_rfl)
end Go.Proofs.Ytbicjcdenfcojaa.waveBlurs
