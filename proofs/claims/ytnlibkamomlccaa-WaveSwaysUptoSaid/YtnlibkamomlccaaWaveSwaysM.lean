/- What the functions that WaveSways calls compute, as models, and that they compute it: written by a program of mine. -/
import Derived.Test.YtnlibkamomlccaaProg
import Derived.Test.YtnlibkamomlccaaSl3
set_option linter.all false
set_option maxRecDepth 100000
namespace Go.Proofs.Ytnlibkamomlccaa.waveSways
open Go Go.Sl
def wave_wrong_1 (a0 : Int) : Option Bool :=
some ((decide (a0 < (-1000000000 : Int))) || (decide (a0 > (1000000000 : Int))))
theorem wave_wrong_1_ok {a0 : Int} {r : Bool} (h : wave_wrong_1 a0 = some r) : FnC Try.prog 51 [aI a0] [] (aB r) [] := by
  refine fnC_of_W (B := bodyOf Try.f51) (n := 9) Try.func51 (by kernel_rfl) (by kernel_rfl) (by kernel_rfl) (by kernel_rfl) (by kernel_rfl) ?_
  intro K
  refine W_seq (by kernel_rfl) ?_
  refine W_run 1 [] [0] [] (fr' := [(0, aI a0)]) (L' := []) (obs := []) (by kernel_rfl) (by kernel_rfl) (by kernel_rfl) allP0 ?_
  refine seqQ_norm ?_
  refine W_seq (by kernel_rfl) ?_
  refine W_run 7 [] [2] [] (fr' := [(2, aB ((decide (a0 < (-1000000000 : Int))) || (decide (a0 > (1000000000 : Int)))))]) (L' := []) (obs := []) (by kernel_rfl) (by kernel_rfl) (by kernel_rfl) allP0 ?_
  refine seqQ_norm ?_
  obtain rfl := Option.some.inj h
  refine W_ret [2] [] (fr' := [(2, aB ((decide (a0 < (-1000000000 : Int))) || (decide (a0 > (1000000000 : Int)))))]) (L' := []) (by kernel_rfl) (by kernel_rfl) ?_
  exact retQ_mk (by kernel_rfl) (by kernel_rfl) (by kernel_rfl)

def slices_IndexFunc_Lintint_with_wave_wrong_1_b1 (i15 : Int) (v18 : Int) (x16 : Unit) : Option (Flow Unit (Esc Int Unit)) :=
(wave_wrong_1 v18).bind fun r21 =>
bif r21 then
(some (.done (.ret i15)))
else
(some (.next ()))
@[reducible] def slices_IndexFunc_Lintint_with_wave_wrong_1_s2 (a0 : (List Int)) (v : Int × Unit) : Fr × LL := ([(0, aD (.slice tI) a0), (1, .one (.fn 51 [])), (7, aI (List.length a0 : Int)), (8, aI v.1)], [])
@[reducible] def slices_IndexFunc_Lintint_with_wave_wrong_1_s3 (v : Int) : Fr × LL := ([(4, aI v)], [])
@[reducible] def slices_IndexFunc_Lintint_with_wave_wrong_1_s4 (v : Unit) : Fr × LL := ([], [])
def slices_IndexFunc_Lintint_with_wave_wrong_1 (a0 : (List Int)) : Option Int :=
(forL slices_IndexFunc_Lintint_with_wave_wrong_1_b1 (fun x16 => (.brk ())) a0 0 ()).bind fun v25 =>
match v25 with
| .ret v30 =>
(some v30)
| .brk v31 =>
(some (-1 : Int))
theorem slices_IndexFunc_Lintint_with_wave_wrong_1_ok {a0 : (List Int)} {r : Int} (h : slices_IndexFunc_Lintint_with_wave_wrong_1 a0 = some r) : FnC Try.prog 52 [aD (.slice tI) a0, .one (.fn 51 [])] [] (aI r) [] := by
  refine fnC_of_W (B := bodyOf Try.f52) (n := 19) Try.func52 (by kernel_rfl) (by kernel_rfl) (by kernel_rfl) (by kernel_rfl) (by kernel_rfl) ?_
  intro K
  refine W_seq (by kernel_rfl) ?_
  refine W_run 1 [] [0, 1] [] (fr' := [(0, aD (.slice tI) a0), (1, .one (.fn 51 []))]) (L' := []) (obs := []) (by kernel_rfl) (by kernel_rfl) (by kernel_rfl) allP0 ?_
  refine seqQ_norm ?_
  refine W_seq (by kernel_rfl) ?_
  refine W_seq (by kernel_rfl) ?_
  refine W_run 3 [] [0, 1, 7, 8] [] (fr' := [(0, aD (.slice tI) a0), (1, .one (.fn 51 [])), (7, aI (List.length a0 : Int)), (8, aI (0 : Int))]) (L' := []) (obs := []) (by kernel_rfl) (by kernel_rfl) (by kernel_rfl) allP0 ?_
  refine seqQ_norm ?_
  refine W_block (id := 0) (by kernel_rfl) ?_
  obtain ⟨v25, h26, h⟩ := bind_of h
  refine W_len (t := 0) (u := tI) (xs := a0) (by kernel_rfl) (fun h29 => ?_)
  obtain ⟨h27, h28⟩ := forL_iter h29 h26
  refine W_weaken [0, 1, 7, 8] [] (fr' := ((slices_IndexFunc_Lintint_with_wave_wrong_1_s2 a0) ((0 : Int), ())).1) (L' := ((slices_IndexFunc_Lintint_with_wave_wrong_1_s2 a0) ((0 : Int), ())).2) (by kernel_rfl) ?_
  refine W_cutK (W_loop (S := (slices_IndexFunc_Lintint_with_wave_wrong_1_s2 a0)) (J := (escQ (exQ .ret slices_IndexFunc_Lintint_with_wave_wrong_1_s3) (exQ (.exit 0) slices_IndexFunc_Lintint_with_wave_wrong_1_s4))) (by kernel_rfl) ?_ h27 _ v25 h28) ?_
  · rintro ⟨i15, x16⟩ s h
    refine W_seq (by kernel_rfl) ?_
    refine W_run 1 [] [0, 1, 7, 8, 9] [] (fr' := [(0, aD (.slice tI) a0), (1, .one (.fn 51 [])), (7, aI (List.length a0 : Int)), (8, aI i15), (9, aB (decide (i15 < (List.length a0 : Int))))]) (L' := []) (obs := []) (by kernel_rfl) (by kernel_rfl) (by kernel_rfl) allP0 ?_
    refine seqQ_norm ?_
    refine W_seq (by kernel_rfl) ?_
    refine W_cond (o := .tmp 9) (b := decide (i15 < (List.length a0 : Int))) (by kernel_rfl) (by kernel_rfl) (fun h20 => ?_) (fun h20 => ?_)
    · replace h := stepL_true h20 h
      obtain ⟨v18, _, h19, h, rfl⟩ := h
      refine W_skip [0, 1, 7, 8] [] (fr' := [(0, aD (.slice tI) a0), (1, .one (.fn 51 [])), (7, aI (List.length a0 : Int)), (8, aI i15)]) (L' := []) (by kernel_rfl) (by kernel_rfl) ?_
      refine seqQ_norm ?_
      refine W_seq (by kernel_rfl) ?_
      refine W_block (id := 1) (by kernel_rfl) ?_
      refine W_seq (by kernel_rfl) ?_
      refine W_run 2 [] [0, 1, 5, 7, 8] [] (fr' := [(0, aD (.slice tI) a0), (1, .one (.fn 51 [])), (5, aI i15), (7, aI (List.length a0 : Int)), (8, aI i15)]) (L' := []) (obs := []) (by kernel_rfl) (by kernel_rfl) (by kernel_rfl) allP0 ?_
      refine seqQ_norm ?_
      refine W_seq (by kernel_rfl) ?_
      refine W_region (by kernel_rfl) ?_
      refine WO_run (j := 5) (k := 5) (orcs := [(7, .val (.dat tI v18))]) (kF := [0, 1, 5, 7, 8, 11, 15]) (kL := []) (fr' := [(0, aD (.slice tI) a0), (1, .one (.fn 51 [])), (5, aI i15), (7, aI (List.length a0 : Int)), (8, aI i15), (11, .one (.fn 51 [])), (15, aI v18)]) (L' := []) (obs := [Idx a0 i15 v18]) rfl (by kernel_rfl) (allP1 (Idx.of h19)) ?_
      obtain ⟨r21, h22, h⟩ := bind_of h
      refine WO_call0 (us := [none]) (d := 16) (p := True) (j := 6) rfl ⟨by kernel_rfl, by kernel_rfl, by kernel_rfl⟩ trivial (wave_wrong_1_ok h22) (by kernel_rfl) ?_
      refine WO_fin [0, 1, 5, 7, 8, 16] [] (fr' := [(0, aD (.slice tI) a0), (1, .one (.fn 51 [])), (5, aI i15), (7, aI (List.length a0 : Int)), (8, aI i15), (16, aB r21)]) (L' := []) (by kernel_rfl) (by kernel_rfl) ?_
      refine seqQ_norm ?_
      refine W_cond (o := .tmp 16) (b := r21) (by kernel_rfl) (by kernel_rfl) (fun h23 => ?_) (fun h23 => ?_)
      · replace h := ofT h23 h
        refine W_seq (by kernel_rfl) ?_
        refine W_run 2 [] [4] [] (fr' := [(4, aI i15)]) (L' := []) (obs := []) (by kernel_rfl) (by kernel_rfl) (by kernel_rfl) allP0 ?_
        refine seqQ_norm ?_
        obtain rfl := Option.some.inj h
        refine W_ret [4] [] (fr' := [(4, aI i15)]) (L' := []) (by kernel_rfl) (by kernel_rfl) ?_
        refine blockQ_ret ?_
        refine seqQ_ret ?_
        refine round_ret ?_
        refine escQ_ret ?_
        exact exQ_mk (by kernel_rfl) (by kernel_rfl)
      · replace h := ofF h23 h
        refine W_skip [0, 1, 7, 8] [] (fr' := [(0, aD (.slice tI) a0), (1, .one (.fn 51 [])), (7, aI (List.length a0 : Int)), (8, aI i15)]) (L' := []) (by kernel_rfl) (by kernel_rfl) ?_
        refine blockQ_norm ?_
        refine seqQ_norm ?_
        obtain rfl := Option.some.inj h
        refine W_run 2 [] [0, 1, 7, 8] [] (fr' := [(0, aD (.slice tI) a0), (1, .one (.fn 51 [])), (7, aI (List.length a0 : Int)), (8, aI (w64 (i15 + (1 : Int))))]) (L' := []) (obs := []) (by kernel_rfl) (by kernel_rfl) (by kernel_rfl) allP0 ?_
        exact round_next' (by kernel_rfl) (by kernel_rfl)
    · obtain rfl := stepL_false h20 h
      refine W_exit (id := 0) [] [] (fr' := []) (L' := []) (by kernel_rfl) (by kernel_rfl) ?_
      refine seqQ_exit ?_
      refine round_exit ?_
      refine escQ_brk ?_
      exact exQ_mk (by kernel_rfl) (by kernel_rfl)
  · intro e fr L hJ
    rcases v25 with v30 | v31
    · obtain ⟨rfl, rfl, rfl⟩ := hJ
      obtain rfl := Option.some.inj h
      refine LT_keep [4] [] (fr' := [(4, aI v30)]) (L' := []) (by kernel_rfl) ?_
      refine blockQ_ret ?_
      refine seqQ_ret ?_
      exact retQ_mk (by kernel_rfl) (by kernel_rfl) (by kernel_rfl)
    · obtain ⟨rfl, rfl, rfl⟩ := hJ
      refine LT_keep [] [] (fr' := []) (L' := []) (by kernel_rfl) ?_
      refine blockQ_hit ?_
      refine seqQ_norm ?_
      refine W_seq (by kernel_rfl) ?_
      refine W_run 1 [] [4] [] (fr' := [(4, aI (-1 : Int))]) (L' := []) (obs := []) (by kernel_rfl) (by kernel_rfl) (by kernel_rfl) allP0 ?_
      refine seqQ_norm ?_
      obtain rfl := Option.some.inj h
      refine W_ret [4] [] (fr' := [(4, aI (-1 : Int))]) (L' := []) (by kernel_rfl) (by kernel_rfl) ?_
      exact retQ_mk (by kernel_rfl) (by kernel_rfl) (by kernel_rfl)

def slices_ContainsFunc_Lintint_with_wave_wrong_1 (a0 : (List Int)) : Option Bool :=
(slices_IndexFunc_Lintint_with_wave_wrong_1 a0).bind fun r1 =>
some (decide (r1 ≥ (0 : Int)))
theorem slices_ContainsFunc_Lintint_with_wave_wrong_1_ok {a0 : (List Int)} {r : Bool} (h : slices_ContainsFunc_Lintint_with_wave_wrong_1 a0 = some r) : FnC Try.prog 50 [aD (.slice tI) a0, .one (.fn 51 [])] [] (aB r) [] := by
  refine fnC_of_W (B := bodyOf Try.f50) (n := 9) Try.func50 (by kernel_rfl) (by kernel_rfl) (by kernel_rfl) (by kernel_rfl) (by kernel_rfl) ?_
  intro K
  refine W_seq (by kernel_rfl) ?_
  refine W_run 1 [] [0, 1] [] (fr' := [(0, aD (.slice tI) a0), (1, .one (.fn 51 []))]) (L' := []) (obs := []) (by kernel_rfl) (by kernel_rfl) (by kernel_rfl) allP0 ?_
  refine seqQ_norm ?_
  refine W_seq (by kernel_rfl) ?_
  refine W_region (by kernel_rfl) ?_
  refine WO_run (j := 2) (k := 2) (orcs := []) (kF := [5, 6]) (kL := []) (fr' := [(5, aD (.slice tI) a0), (6, .one (.fn 51 []))]) (L' := []) (obs := []) rfl (by kernel_rfl) allP0 ?_
  obtain ⟨r1, h2, h⟩ := bind_of h
  refine WO_call0 (us := [none, none]) (d := 7) (p := True) (j := 3) rfl ⟨by kernel_rfl, by kernel_rfl, by kernel_rfl⟩ trivial (slices_IndexFunc_Lintint_with_wave_wrong_1_ok h2) (by kernel_rfl) ?_
  refine WO_run (j := 5) (k := 2) (orcs := []) (kF := [4]) (kL := []) (fr' := [(4, aB (decide (r1 ≥ (0 : Int))))]) (L' := []) (obs := []) rfl (by kernel_rfl) allP0 ?_
  refine WO_fin [4] [] (fr' := [(4, aB (decide (r1 ≥ (0 : Int))))]) (L' := []) (by kernel_rfl) (by kernel_rfl) ?_
  refine seqQ_norm ?_
  obtain rfl := Option.some.inj h
  refine W_ret [4] [] (fr' := [(4, aB (decide (r1 ≥ (0 : Int))))]) (L' := []) (by kernel_rfl) (by kernel_rfl) ?_
  exact retQ_mk (by kernel_rfl) (by kernel_rfl) (by kernel_rfl)

def wave_wrong (a0 : Int) (a1 : (List Int)) : Option Int :=
bif (decide (a0 < (0 : Int))) || (decide (a0 > (4 : Int))) then
(some (1 : Int))
else
((ck (0 ≤ a0)).bind fun _ =>
bif (List.length a1 : Int) != (bShl .i64 (1 : Int) a0) then
(some (3 : Int))
else
((slices_ContainsFunc_Lintint_with_wave_wrong_1 a1).bind fun r4 =>
bif r4 then
(some (4 : Int))
else
(some (0 : Int))))
theorem wave_wrong_ok {a0 : Int} {a1 : (List Int)} {r : Int} (h : wave_wrong a0 a1 = some r) : FnC Try.prog 46 [aI a0, aD (.slice tI) a1] [] (aI r) [] := by
  refine fnC_of_W (B := bodyOf Try.f46) (n := 21) Try.func46 (by kernel_rfl) (by kernel_rfl) (by kernel_rfl) (by kernel_rfl) (by kernel_rfl) ?_
  intro K
  refine W_seq (by kernel_rfl) ?_
  refine W_run 1 [] [0, 1] [] (fr' := [(0, aI a0), (1, aD (.slice tI) a1)]) (L' := []) (obs := []) (by kernel_rfl) (by kernel_rfl) (by kernel_rfl) allP0 ?_
  refine seqQ_norm ?_
  refine W_seq (by kernel_rfl) ?_
  refine W_block (id := 0) (by kernel_rfl) ?_
  refine W_seq (by kernel_rfl) ?_
  refine W_run 7 [] [0, 1, 5] [] (fr' := [(0, aI a0), (1, aD (.slice tI) a1), (5, aB ((decide (a0 < (0 : Int))) || (decide (a0 > (4 : Int)))))]) (L' := []) (obs := []) (by kernel_rfl) (by kernel_rfl) (by kernel_rfl) allP0 ?_
  refine seqQ_norm ?_
  refine W_cond (o := .tmp 5) (b := (decide (a0 < (0 : Int))) || (decide (a0 > (4 : Int)))) (by kernel_rfl) (by kernel_rfl) (fun h1 => ?_) (fun h1 => ?_)
  · replace h := ofT h1 h
    refine W_seq (by kernel_rfl) ?_
    refine W_run 1 [] [4] [] (fr' := [(4, aI (1 : Int))]) (L' := []) (obs := []) (by kernel_rfl) (by kernel_rfl) (by kernel_rfl) allP0 ?_
    refine seqQ_norm ?_
    obtain rfl := Option.some.inj h
    refine W_ret [4] [] (fr' := [(4, aI (1 : Int))]) (L' := []) (by kernel_rfl) (by kernel_rfl) ?_
    refine blockQ_ret ?_
    refine seqQ_ret ?_
    exact retQ_mk (by kernel_rfl) (by kernel_rfl) (by kernel_rfl)
  · replace h := ofF h1 h
    refine W_seq (by kernel_rfl) ?_
    obtain ⟨_, h2, h⟩ := bind_of h
    replace h2 := ck_some h2
    refine W_run 6 [] [1, 12] [] (fr' := [(1, aD (.slice tI) a1), (12, aB ((List.length a1 : Int) != (bShl .i64 (1 : Int) a0)))]) (L' := []) (obs := [(0 ≤ a0)]) (by kernel_rfl) (by kernel_rfl) (by kernel_rfl) (allP1 h2) ?_
    refine seqQ_norm ?_
    refine W_cond (o := .tmp 12) (b := (List.length a1 : Int) != (bShl .i64 (1 : Int) a0)) (by kernel_rfl) (by kernel_rfl) (fun h3 => ?_) (fun h3 => ?_)
    · replace h := ofT h3 h
      refine W_seq (by kernel_rfl) ?_
      refine W_run 1 [] [4] [] (fr' := [(4, aI (3 : Int))]) (L' := []) (obs := []) (by kernel_rfl) (by kernel_rfl) (by kernel_rfl) allP0 ?_
      refine seqQ_norm ?_
      obtain rfl := Option.some.inj h
      refine W_ret [4] [] (fr' := [(4, aI (3 : Int))]) (L' := []) (by kernel_rfl) (by kernel_rfl) ?_
      refine blockQ_ret ?_
      refine seqQ_ret ?_
      exact retQ_mk (by kernel_rfl) (by kernel_rfl) (by kernel_rfl)
    · replace h := ofF h3 h
      refine W_seq (by kernel_rfl) ?_
      refine W_region (by kernel_rfl) ?_
      refine WO_run (j := 1) (k := 1) (orcs := []) (kF := [19]) (kL := []) (fr' := [(19, aD (.slice tI) a1)]) (L' := []) (obs := []) rfl (by kernel_rfl) allP0 ?_
      obtain ⟨r4, h5, h⟩ := bind_of h
      refine WO_call0 (us := [none, none]) (d := 20) (p := True) (j := 2) rfl ⟨by kernel_rfl, by kernel_rfl, by kernel_rfl⟩ trivial (slices_ContainsFunc_Lintint_with_wave_wrong_1_ok h5) (by kernel_rfl) ?_
      refine WO_run (j := 3) (k := 1) (orcs := []) (kF := [18]) (kL := []) (fr' := [(18, aB r4)]) (L' := []) (obs := []) rfl (by kernel_rfl) allP0 ?_
      refine WO_fin [18] [] (fr' := [(18, aB r4)]) (L' := []) (by kernel_rfl) (by kernel_rfl) ?_
      refine seqQ_norm ?_
      refine W_cond (o := .tmp 18) (b := r4) (by kernel_rfl) (by kernel_rfl) (fun h6 => ?_) (fun h6 => ?_)
      · replace h := ofT h6 h
        refine W_seq (by kernel_rfl) ?_
        refine W_run 1 [] [4] [] (fr' := [(4, aI (4 : Int))]) (L' := []) (obs := []) (by kernel_rfl) (by kernel_rfl) (by kernel_rfl) allP0 ?_
        refine seqQ_norm ?_
        obtain rfl := Option.some.inj h
        refine W_ret [4] [] (fr' := [(4, aI (4 : Int))]) (L' := []) (by kernel_rfl) (by kernel_rfl) ?_
        refine blockQ_ret ?_
        refine seqQ_ret ?_
        exact retQ_mk (by kernel_rfl) (by kernel_rfl) (by kernel_rfl)
      · replace h := ofF h6 h
        refine W_skip [] [] (fr' := []) (L' := []) (by kernel_rfl) (by kernel_rfl) ?_
        refine blockQ_norm ?_
        refine seqQ_norm ?_
        refine W_seq (by kernel_rfl) ?_
        refine W_run 1 [] [4] [] (fr' := [(4, aI (0 : Int))]) (L' := []) (obs := []) (by kernel_rfl) (by kernel_rfl) (by kernel_rfl) allP0 ?_
        refine seqQ_norm ?_
        obtain rfl := Option.some.inj h
        refine W_ret [4] [] (fr' := [(4, aI (0 : Int))]) (L' := []) (by kernel_rfl) (by kernel_rfl) ?_
        exact retQ_mk (by kernel_rfl) (by kernel_rfl) (by kernel_rfl)

def wave_Sways_g23 (a1 : (List Bool)) (i177 : Int) (i239 : Int) (x240 : (List Int)) (v242 : Bool) : Option (List Int) :=
(ck (0 ≤ i177)).bind fun _ =>
(idx a1 (bXor .i64 i239 (bShl .i64 (1 : Int) i177))).bind fun v258 =>
bif !(v258 == v242) then
((idx x240 i177).bind fun v261 =>
some (List.set x240 (Int.toNat i177) (w64 (v261 + (1 : Int)))))
else
(some x240)
@[reducible] def wave_Sways_s24 (a0 : Int) (a1 : (List Bool)) (i177 : Int) (i239 : Int) (v : (List Int)) : Fr × LL := ([(1, aD (.slice .bool) a1), (7, .one (.slc 20)), (8, aI i177), (22, aI (List.length (List.replicate (Int.toNat a0) (0 : Int)) : Int)), (23, aI i177), (26, aD (.slice .bool) a1), (27, aI (List.length a1 : Int)), (28, aI i239)], [(20, .seq tI v)])
def wave_Sways_b25 (a1 : (List Bool)) (i177 : Int) (i239 : Int) (v242 : Bool) (x240 : (List Int)) : Option (Flow (List Int) (List Int)) :=
(wave_Sways_g23 a1 i177 i239 x240 v242).bind fun v263 =>
some (.next v263)
@[reducible] def wave_Sways_s26 (a0 : Int) (a1 : (List Bool)) (i177 : Int) (v : Int × (List Int)) : Fr × LL := ([(1, aD (.slice .bool) a1), (7, .one (.slc 20)), (8, aI i177), (22, aI (List.length (List.replicate (Int.toNat a0) (0 : Int)) : Int)), (23, aI i177), (26, aD (.slice .bool) a1), (27, aI (List.length a1 : Int)), (28, aI v.1)], [(20, .seq tI v.2)])
@[reducible] def wave_Sways_s27 (a0 : Int) (a1 : (List Bool)) (i177 : Int) (v : (List Int)) : Fr × LL := ([(1, aD (.slice .bool) a1), (7, .one (.slc 20)), (22, aI (List.length (List.replicate (Int.toNat a0) (0 : Int)) : Int)), (23, aI i177)], [(20, .seq tI v)])
def wave_Sways_b28 (a1 : (List Bool)) (i177 : Int) (v180 : Int) (x178 : (List Int)) : Option (Flow (List Int) (List Int)) :=
(forL (wave_Sways_b25 a1 i177) (fun x240 => x240) a1 0 x178).bind fun v266 =>
some (.next v266)
@[reducible] def wave_Sways_s29 (a0 : Int) (a1 : (List Bool)) (v : Int × (List Int)) : Fr × LL := ([(1, aD (.slice .bool) a1), (7, .one (.slc 20)), (22, aI (List.length (List.replicate (Int.toNat a0) (0 : Int)) : Int)), (23, aI v.1)], [(20, .seq tI v.2)])
@[reducible] def wave_Sways_s30 (v : (List Int)) : Fr × LL := ([(7, .one (.slc 20))], [(20, .seq tI v)])
def wave_Sways (a0 : Int) (a1 : (List Bool)) : Option ((List Int) × Int) :=
(ck (0 ≤ (List.length a1 : Int) ∧ (List.length a1 : Int) = (List.length a1 : Int) ∧ (List.length a1 : Int) ≤ 4294967296)).bind fun _ =>
(wave_wrong a0 (List.replicate (Int.toNat (List.length a1 : Int)) (0 : Int))).bind fun r2 =>
bif r2 != (0 : Int) then
(some ([], r2))
else
((ck (0 ≤ a0 ∧ a0 = a0 ∧ a0 ≤ 4294967296)).bind fun _ =>
(forL (wave_Sways_b28 a1) (fun x178 => x178) (List.replicate (Int.toNat a0) (0 : Int)) 0 (List.replicate (Int.toNat a0) (0 : Int))).bind fun v272 =>
some (v272, (0 : Int)))
theorem wave_Sways_ok {a0 : Int} {a1 : (List Bool)} {r : ((List Int) × Int)} (h : wave_Sways a0 a1 = some r) : FnC Try.prog 33 [aI a0, aD (.slice .bool) a1] [] (.tup [.dat (.slice tI) r.1, .dat tI r.2]) [] := by
  refine fnC_of_W (B := bodyOf Try.f33) (n := 51) Try.func33 (by kernel_rfl) (by kernel_rfl) (by kernel_rfl) (by kernel_rfl) (by kernel_rfl) ?_
  intro K
  refine W_seq (by kernel_rfl) ?_
  refine W_run 2 [] [0, 1] [] (fr' := [(0, aI a0), (1, aD (.slice .bool) a1)]) (L' := []) (obs := []) (by kernel_rfl) (by kernel_rfl) (by kernel_rfl) allP0 ?_
  refine seqQ_norm ?_
  refine W_seq (by kernel_rfl) ?_
  refine W_seq (by kernel_rfl) ?_
  obtain ⟨_, h1, h⟩ := bind_of h
  replace h1 := ck_some h1
  refine W_region (by kernel_rfl) ?_
  refine WO_run (j := 4) (k := 4) (orcs := []) (kF := [0, 1, 11, 14]) (kL := [14]) (fr' := [(0, aI a0), (1, aD (.slice .bool) a1), (11, aI a0), (14, .one (.slc 14))]) (L' := [(14, .seq tI (List.replicate (Int.toNat (List.length a1 : Int)) (0 : Int)))]) (obs := [0 ≤ (List.length a1 : Int) ∧ (List.length a1 : Int) = (List.length a1 : Int) ∧ SmallLen (List.length a1 : Int)]) rfl (by kernel_rfl) (allP1 h1) ?_
  obtain ⟨r2, h3, h⟩ := bind_of h
  refine WO_frz 14 (by kernel_rfl) ?_
  refine WO_call0 (us := [none, none]) (d := 15) (p := True) (j := 5) rfl ⟨by kernel_rfl, by kernel_rfl, by kernel_rfl⟩ trivial (wave_wrong_ok h3) (by kernel_rfl) ?_
  refine WO_run (j := 6) (k := 1) (orcs := []) (kF := [0, 1, 6]) (kL := []) (fr' := [(0, aI a0), (1, aD (.slice .bool) a1), (6, aI r2)]) (L' := []) (obs := []) rfl (by kernel_rfl) allP0 ?_
  refine WO_fin [0, 1, 6] [] (fr' := [(0, aI a0), (1, aD (.slice .bool) a1), (6, aI r2)]) (L' := []) (by kernel_rfl) (by kernel_rfl) ?_
  refine seqQ_norm ?_
  refine W_seq (by kernel_rfl) ?_
  refine W_run 2 [] [0, 1, 6, 17] [] (fr' := [(0, aI a0), (1, aD (.slice .bool) a1), (6, aI r2), (17, aB (r2 != (0 : Int)))]) (L' := []) (obs := []) (by kernel_rfl) (by kernel_rfl) (by kernel_rfl) allP0 ?_
  refine seqQ_norm ?_
  refine W_cond (o := .tmp 17) (b := r2 != (0 : Int)) (by kernel_rfl) (by kernel_rfl) (fun h4 => ?_) (fun h4 => ?_)
  · replace h := ofT h4 h
    refine W_seq (by kernel_rfl) ?_
    refine W_run 3 [] [4, 5] [] (fr' := [(4, .one (.nilS)), (5, aI r2)]) (L' := []) (obs := []) (by kernel_rfl) (by kernel_rfl) (by kernel_rfl) allP0 ?_
    refine seqQ_norm ?_
    obtain rfl := Option.some.inj h
    refine W_cnv 4 (.slice tI) (by kernel_rfl) ?_
    refine W_ret [4, 5] [] (fr' := [(4, aD (.slice tI) []), (5, aI r2)]) (L' := []) (by kernel_rfl) (by kernel_rfl) ?_
    refine seqQ_ret ?_
    exact retQ_mk (by kernel_rfl) (by kernel_rfl) (by kernel_rfl)
  · replace h := ofF h4 h
    refine W_skip [0, 1] [] (fr' := [(0, aI a0), (1, aD (.slice .bool) a1)]) (L' := []) (by kernel_rfl) (by kernel_rfl) ?_
    refine seqQ_norm ?_
    refine W_seq (by kernel_rfl) ?_
    obtain ⟨_, h5, h⟩ := bind_of h
    replace h5 := ck_some h5
    refine W_run 3 [] [1, 7] [20] (fr' := [(1, aD (.slice .bool) a1), (7, .one (.slc 20))]) (L' := [(20, .seq tI (List.replicate (Int.toNat a0) (0 : Int)))]) (obs := [0 ≤ a0 ∧ a0 = a0 ∧ SmallLen a0]) (by kernel_rfl) (by kernel_rfl) (by kernel_rfl) (allP1 h5) ?_
    refine seqQ_norm ?_
    refine W_seq (by kernel_rfl) ?_
    refine W_seq (by kernel_rfl) ?_
    refine W_run 3 [] [1, 7, 22, 23] [20] (fr' := [(1, aD (.slice .bool) a1), (7, .one (.slc 20)), (22, aI (List.length (List.replicate (Int.toNat a0) (0 : Int)) : Int)), (23, aI (0 : Int))]) (L' := [(20, .seq tI (List.replicate (Int.toNat a0) (0 : Int)))]) (obs := []) (by kernel_rfl) (by kernel_rfl) (by kernel_rfl) allP0 ?_
    refine seqQ_norm ?_
    refine W_block (id := 0) (by kernel_rfl) ?_
    obtain ⟨v272, h273, h⟩ := bind_of h
    refine W_lenS (s := 20) (u := tI) (xs := List.replicate (Int.toNat a0) (0 : Int)) (by kernel_rfl) (fun h276 => ?_)
    obtain ⟨h274, h275⟩ := forL_iter h276 h273
    refine W_weaken [1, 7, 22, 23] [20] (fr' := ((wave_Sways_s29 a0 a1) ((0 : Int), List.replicate (Int.toNat a0) (0 : Int))).1) (L' := ((wave_Sways_s29 a0 a1) ((0 : Int), List.replicate (Int.toNat a0) (0 : Int))).2) (by kernel_rfl) ?_
    refine W_cutK (W_loop (S := (wave_Sways_s29 a0 a1)) (J := (exQ (.exit 0) wave_Sways_s30)) (by kernel_rfl) ?_ h274 _ v272 h275) ?_
    · rintro ⟨i177, x178⟩ s h
      refine W_seq (by kernel_rfl) ?_
      refine W_run 1 [] [1, 7, 22, 23, 24] [20] (fr' := [(1, aD (.slice .bool) a1), (7, .one (.slc 20)), (22, aI (List.length (List.replicate (Int.toNat a0) (0 : Int)) : Int)), (23, aI i177), (24, aB (decide (i177 < (List.length (List.replicate (Int.toNat a0) (0 : Int)) : Int))))]) (L' := [(20, .seq tI x178)]) (obs := []) (by kernel_rfl) (by kernel_rfl) (by kernel_rfl) allP0 ?_
      refine seqQ_norm ?_
      refine W_seq (by kernel_rfl) ?_
      refine W_cond (o := .tmp 24) (b := decide (i177 < (List.length (List.replicate (Int.toNat a0) (0 : Int)) : Int))) (by kernel_rfl) (by kernel_rfl) (fun h182 => ?_) (fun h182 => ?_)
      · replace h := stepL_true h182 h
        obtain ⟨v180, _, h181, h, rfl⟩ := h
        refine W_skip [1, 7, 22, 23] [20] (fr' := [(1, aD (.slice .bool) a1), (7, .one (.slc 20)), (22, aI (List.length (List.replicate (Int.toNat a0) (0 : Int)) : Int)), (23, aI i177)]) (L' := [(20, .seq tI x178)]) (by kernel_rfl) (by kernel_rfl) ?_
        refine seqQ_norm ?_
        refine W_seq (by kernel_rfl) ?_
        refine W_block (id := 1) (by kernel_rfl) ?_
        refine W_seq (by kernel_rfl) ?_
        refine W_run 2 [] [1, 7, 8, 22, 23] [20] (fr' := [(1, aD (.slice .bool) a1), (7, .one (.slc 20)), (8, aI i177), (22, aI (List.length (List.replicate (Int.toNat a0) (0 : Int)) : Int)), (23, aI i177)]) (L' := [(20, .seq tI x178)]) (obs := []) (by kernel_rfl) (by kernel_rfl) (by kernel_rfl) allP0 ?_
        refine seqQ_norm ?_
        refine W_seq (by kernel_rfl) ?_
        refine W_run 3 [] [1, 7, 8, 22, 23, 26, 27, 28] [20] (fr' := [(1, aD (.slice .bool) a1), (7, .one (.slc 20)), (8, aI i177), (22, aI (List.length (List.replicate (Int.toNat a0) (0 : Int)) : Int)), (23, aI i177), (26, aD (.slice .bool) a1), (27, aI (List.length a1 : Int)), (28, aI (0 : Int))]) (L' := [(20, .seq tI x178)]) (obs := []) (by kernel_rfl) (by kernel_rfl) (by kernel_rfl) allP0 ?_
        refine seqQ_norm ?_
        refine W_block (id := 2) (by kernel_rfl) ?_
        obtain ⟨v266, h267, h⟩ := bind_of h
        refine W_len (t := 26) (u := .bool) (xs := a1) (by kernel_rfl) (fun h270 => ?_)
        obtain ⟨h268, h269⟩ := forL_iter h270 h267
        refine W_weaken [1, 7, 8, 22, 23, 26, 27, 28] [20] (fr' := ((wave_Sways_s26 a0 a1 i177) ((0 : Int), x178)).1) (L' := ((wave_Sways_s26 a0 a1 i177) ((0 : Int), x178)).2) (by kernel_rfl) ?_
        refine W_cutK (W_loop (S := (wave_Sways_s26 a0 a1 i177)) (J := (exQ (.exit 2) (wave_Sways_s27 a0 a1 i177))) (by kernel_rfl) ?_ h268 _ v266 h269) ?_
        · rintro ⟨i239, x240⟩ s h
          refine W_seq (by kernel_rfl) ?_
          refine W_run 1 [] [1, 7, 8, 22, 23, 26, 27, 28, 29] [20] (fr' := [(1, aD (.slice .bool) a1), (7, .one (.slc 20)), (8, aI i177), (22, aI (List.length (List.replicate (Int.toNat a0) (0 : Int)) : Int)), (23, aI i177), (26, aD (.slice .bool) a1), (27, aI (List.length a1 : Int)), (28, aI i239), (29, aB (decide (i239 < (List.length a1 : Int))))]) (L' := [(20, .seq tI x240)]) (obs := []) (by kernel_rfl) (by kernel_rfl) (by kernel_rfl) allP0 ?_
          refine seqQ_norm ?_
          refine W_seq (by kernel_rfl) ?_
          refine W_cond (o := .tmp 29) (b := decide (i239 < (List.length a1 : Int))) (by kernel_rfl) (by kernel_rfl) (fun h244 => ?_) (fun h244 => ?_)
          · replace h := stepL_true h244 h
            obtain ⟨v242, _, h243, h, rfl⟩ := h
            refine W_skip [1, 7, 8, 22, 23, 26, 27, 28] [20] (fr' := [(1, aD (.slice .bool) a1), (7, .one (.slc 20)), (8, aI i177), (22, aI (List.length (List.replicate (Int.toNat a0) (0 : Int)) : Int)), (23, aI i177), (26, aD (.slice .bool) a1), (27, aI (List.length a1 : Int)), (28, aI i239)]) (L' := [(20, .seq tI x240)]) (by kernel_rfl) (by kernel_rfl) ?_
            refine seqQ_norm ?_
            refine W_seq (by kernel_rfl) ?_
            obtain ⟨v263, h264, h⟩ := bind_of h
            refine W_cutK (Q' := (exQ .normal (wave_Sways_s24 a0 a1 i177 i239)) v263) ?_ ?_
            · replace h := h264
              refine W_block (id := 3) (by kernel_rfl) ?_
              refine W_seq (by kernel_rfl) ?_
              refine W_run 5 [(3, .val (.dat .bool v242))] [1, 7, 8, 9, 10, 22, 23, 26, 27, 28] [20] (fr' := [(1, aD (.slice .bool) a1), (7, .one (.slc 20)), (8, aI i177), (9, aI i239), (10, aB v242), (22, aI (List.length (List.replicate (Int.toNat a0) (0 : Int)) : Int)), (23, aI i177), (26, aD (.slice .bool) a1), (27, aI (List.length a1 : Int)), (28, aI i239)]) (L' := [(20, .seq tI x240)]) (obs := [Idx a1 i239 v242]) (by kernel_rfl) (by kernel_rfl) (by kernel_rfl) (allP1 (Idx.of h243)) ?_
              refine seqQ_norm ?_
              refine W_seq (by kernel_rfl) ?_
              obtain ⟨_, h257, h⟩ := bind_of h
              replace h257 := ck_some h257
              obtain ⟨v258, h259, h⟩ := bind_of h
              refine W_run 9 [(11, .val (.dat .bool v258))] [1, 7, 8, 22, 23, 26, 27, 28, 41] [20] (fr' := [(1, aD (.slice .bool) a1), (7, .one (.slc 20)), (8, aI i177), (22, aI (List.length (List.replicate (Int.toNat a0) (0 : Int)) : Int)), (23, aI i177), (26, aD (.slice .bool) a1), (27, aI (List.length a1 : Int)), (28, aI i239), (41, aB (!(v258 == v242)))]) (L' := [(20, .seq tI x240)]) (obs := [(0 ≤ i177), Idx a1 (bXor .i64 i239 (bShl .i64 (1 : Int) i177)) v258]) (by kernel_rfl) (by kernel_rfl) (by kernel_rfl) (allP2 h257 (allP1 (Idx.of h259))) ?_
              refine seqQ_norm ?_
              refine W_cond (o := .tmp 41) (b := !(v258 == v242)) (by kernel_rfl) (by kernel_rfl) (fun h260 => ?_) (fun h260 => ?_)
              · replace h := ofT h260 h
                obtain ⟨v261, h262, h⟩ := bind_of h
                obtain rfl := Option.some.inj h
                refine W_run 7 [(7, .val (.dat tI v261))] [1, 7, 8, 22, 23, 26, 27, 28] [20] (fr' := [(1, aD (.slice .bool) a1), (7, .one (.slc 20)), (8, aI i177), (22, aI (List.length (List.replicate (Int.toNat a0) (0 : Int)) : Int)), (23, aI i177), (26, aD (.slice .bool) a1), (27, aI (List.length a1 : Int)), (28, aI i239)]) (L' := [(20, .seq tI (List.set x240 (Int.toNat i177) (w64 (v261 + (1 : Int)))))]) (obs := [InR i177 (List.length x240), Idx x240 i177 v261, InR i177 (List.length x240), InR i177 (List.length x240)]) (by kernel_rfl) (by kernel_rfl) (by kernel_rfl) (allP2 (InR.of h262) (allP2 (Idx.of h262) (allP2 (InR.of h262) (allP1 (InR.of h262))))) ?_
                refine blockQ_norm ?_
                exact exQ_mk (by kernel_rfl) (by kernel_rfl)
              · replace h := ofF h260 h
                obtain rfl := Option.some.inj h
                refine W_skip [1, 7, 8, 22, 23, 26, 27, 28] [20] (fr' := [(1, aD (.slice .bool) a1), (7, .one (.slc 20)), (8, aI i177), (22, aI (List.length (List.replicate (Int.toNat a0) (0 : Int)) : Int)), (23, aI i177), (26, aD (.slice .bool) a1), (27, aI (List.length a1 : Int)), (28, aI i239)]) (L' := [(20, .seq tI x240)]) (by kernel_rfl) (by kernel_rfl) ?_
                refine blockQ_norm ?_
                exact exQ_mk (by kernel_rfl) (by kernel_rfl)
            · intro e fr L hJ
              obtain ⟨rfl, rfl, rfl⟩ := hJ
              refine LT_keep [1, 7, 8, 22, 23, 26, 27, 28] [20] (fr' := [(1, aD (.slice .bool) a1), (7, .one (.slc 20)), (8, aI i177), (22, aI (List.length (List.replicate (Int.toNat a0) (0 : Int)) : Int)), (23, aI i177), (26, aD (.slice .bool) a1), (27, aI (List.length a1 : Int)), (28, aI i239)]) (L' := [(20, .seq tI v263)]) (by kernel_rfl) ?_
              refine seqQ_norm ?_
              obtain rfl := Option.some.inj h
              refine W_run 2 [] [1, 7, 8, 22, 23, 26, 27, 28] [20] (fr' := [(1, aD (.slice .bool) a1), (7, .one (.slc 20)), (8, aI i177), (22, aI (List.length (List.replicate (Int.toNat a0) (0 : Int)) : Int)), (23, aI i177), (26, aD (.slice .bool) a1), (27, aI (List.length a1 : Int)), (28, aI (w64 (i239 + (1 : Int))))]) (L' := [(20, .seq tI v263)]) (obs := []) (by kernel_rfl) (by kernel_rfl) (by kernel_rfl) allP0 ?_
              exact round_next' (by kernel_rfl) (by kernel_rfl)
          · obtain rfl := stepL_false h244 h
            refine W_exit (id := 2) [1, 7, 22, 23] [20] (fr' := [(1, aD (.slice .bool) a1), (7, .one (.slc 20)), (22, aI (List.length (List.replicate (Int.toNat a0) (0 : Int)) : Int)), (23, aI i177)]) (L' := [(20, .seq tI x240)]) (by kernel_rfl) (by kernel_rfl) ?_
            refine seqQ_exit ?_
            refine round_exit ?_
            exact exQ_mk (by kernel_rfl) (by kernel_rfl)
        · intro e fr L hJ
          obtain ⟨rfl, rfl, rfl⟩ := hJ
          refine LT_keep [1, 7, 22, 23] [20] (fr' := [(1, aD (.slice .bool) a1), (7, .one (.slc 20)), (22, aI (List.length (List.replicate (Int.toNat a0) (0 : Int)) : Int)), (23, aI i177)]) (L' := [(20, .seq tI v266)]) (by kernel_rfl) ?_
          refine blockQ_hit ?_
          refine blockQ_norm ?_
          refine seqQ_norm ?_
          obtain rfl := Option.some.inj h
          refine W_run 2 [] [1, 7, 22, 23] [20] (fr' := [(1, aD (.slice .bool) a1), (7, .one (.slc 20)), (22, aI (List.length (List.replicate (Int.toNat a0) (0 : Int)) : Int)), (23, aI (w64 (i177 + (1 : Int))))]) (L' := [(20, .seq tI v266)]) (obs := []) (by kernel_rfl) (by kernel_rfl) (by kernel_rfl) allP0 ?_
          exact round_next' (by kernel_rfl) (by kernel_rfl)
      · obtain rfl := stepL_false h182 h
        refine W_exit (id := 0) [7] [20] (fr' := [(7, .one (.slc 20))]) (L' := [(20, .seq tI x178)]) (by kernel_rfl) (by kernel_rfl) ?_
        refine seqQ_exit ?_
        refine round_exit ?_
        exact exQ_mk (by kernel_rfl) (by kernel_rfl)
    · intro e fr L hJ
      obtain ⟨rfl, rfl, rfl⟩ := hJ
      refine LT_keep [7] [20] (fr' := [(7, .one (.slc 20))]) (L' := [(20, .seq tI v272)]) (by kernel_rfl) ?_
      refine blockQ_hit ?_
      refine seqQ_norm ?_
      refine W_seq (by kernel_rfl) ?_
      refine W_run 3 [] [4, 5] [20] (fr' := [(4, .one (.slc 20)), (5, aI (0 : Int))]) (L' := [(20, .seq tI v272)]) (obs := []) (by kernel_rfl) (by kernel_rfl) (by kernel_rfl) allP0 ?_
      refine seqQ_norm ?_
      obtain rfl := Option.some.inj h
      refine W_frz 20 (by kernel_rfl) ?_
      refine W_ret [4, 5] [] (fr' := [(4, aD (.slice tI) v272), (5, aI (0 : Int))]) (L' := []) (by kernel_rfl) (by kernel_rfl) ?_
      exact retQ_mk (by kernel_rfl) (by kernel_rfl) (by kernel_rfl)

def ref_Within (a0 : Int) (a1 : Int) (a2 : Int) : Option Bool :=
some ((decide (a0 ≤ a1)) && (decide (a1 ≤ a2)))
theorem ref_Within_ok {a0 : Int} {a1 : Int} {a2 : Int} {r : Bool} (h : ref_Within a0 a1 a2 = some r) : FnC Try.prog 34 [aI a0, aI a1, aI a2] [] (aB r) [] := by
  refine fnC_of_W (B := bodyOf Try.f34) (n := 15) Try.func34 (by kernel_rfl) (by kernel_rfl) (by kernel_rfl) (by kernel_rfl) (by kernel_rfl) ?_
  intro K
  refine W_seq (by kernel_rfl) ?_
  refine W_run 1 [] [0, 1, 2] [] (fr' := [(0, aI a0), (1, aI a1), (2, aI a2)]) (L' := []) (obs := []) (by kernel_rfl) (by kernel_rfl) (by kernel_rfl) allP0 ?_
  refine seqQ_norm ?_
  refine W_seq (by kernel_rfl) ?_
  refine W_run 9 [] [6] [] (fr' := [(6, aB ((decide (a0 ≤ a1)) && (decide (a1 ≤ a2))))]) (L' := []) (obs := []) (by kernel_rfl) (by kernel_rfl) (by kernel_rfl) allP0 ?_
  refine seqQ_norm ?_
  obtain rfl := Option.some.inj h
  refine W_ret [6] [] (fr' := [(6, aB ((decide (a0 ≤ a1)) && (decide (a1 ≤ a2))))]) (L' := []) (by kernel_rfl) (by kernel_rfl) ?_
  exact retQ_mk (by kernel_rfl) (by kernel_rfl) (by kernel_rfl)

def ref_Inside_b1 (a0 : Int) (i11 : Int) (v14 : Int) (x12 : Unit) : Option (Flow Unit (Esc Bool Unit)) :=
bif (decide (v14 < (0 : Int))) || (decide (v14 ≥ a0)) then
(some (.done (.ret false)))
else
(some (.next ()))
@[reducible] def ref_Inside_s2 (a0 : Int) (a1 : (List Int)) (v : Int × Unit) : Fr × LL := ([(0, aI a0), (7, aD (.slice tI) a1), (8, aI (List.length a1 : Int)), (9, aI v.1)], [])
@[reducible] def ref_Inside_s3 (v : Bool) : Fr × LL := ([(4, aB v)], [])
@[reducible] def ref_Inside_s4 (v : Unit) : Fr × LL := ([], [])
def ref_Inside (a0 : Int) (a1 : (List Int)) : Option Bool :=
(forL (ref_Inside_b1 a0) (fun x12 => (.brk ())) a1 0 ()).bind fun v19 =>
match v19 with
| .ret v24 =>
(some v24)
| .brk v25 =>
(some true)
theorem ref_Inside_ok {a0 : Int} {a1 : (List Int)} {r : Bool} (h : ref_Inside a0 a1 = some r) : FnC Try.prog 35 [aI a0, aD (.slice tI) a1] [] (aB r) [] := by
  refine fnC_of_W (B := bodyOf Try.f35) (n := 21) Try.func35 (by kernel_rfl) (by kernel_rfl) (by kernel_rfl) (by kernel_rfl) (by kernel_rfl) ?_
  intro K
  refine W_seq (by kernel_rfl) ?_
  refine W_run 1 [] [0, 1] [] (fr' := [(0, aI a0), (1, aD (.slice tI) a1)]) (L' := []) (obs := []) (by kernel_rfl) (by kernel_rfl) (by kernel_rfl) allP0 ?_
  refine seqQ_norm ?_
  refine W_seq (by kernel_rfl) ?_
  refine W_seq (by kernel_rfl) ?_
  refine W_run 3 [] [0, 7, 8, 9] [] (fr' := [(0, aI a0), (7, aD (.slice tI) a1), (8, aI (List.length a1 : Int)), (9, aI (0 : Int))]) (L' := []) (obs := []) (by kernel_rfl) (by kernel_rfl) (by kernel_rfl) allP0 ?_
  refine seqQ_norm ?_
  refine W_block (id := 0) (by kernel_rfl) ?_
  obtain ⟨v19, h20, h⟩ := bind_of h
  refine W_len (t := 7) (u := tI) (xs := a1) (by kernel_rfl) (fun h23 => ?_)
  obtain ⟨h21, h22⟩ := forL_iter h23 h20
  refine W_weaken [0, 7, 8, 9] [] (fr' := ((ref_Inside_s2 a0 a1) ((0 : Int), ())).1) (L' := ((ref_Inside_s2 a0 a1) ((0 : Int), ())).2) (by kernel_rfl) ?_
  refine W_cutK (W_loop (S := (ref_Inside_s2 a0 a1)) (J := (escQ (exQ .ret ref_Inside_s3) (exQ (.exit 0) ref_Inside_s4))) (by kernel_rfl) ?_ h21 _ v19 h22) ?_
  · rintro ⟨i11, x12⟩ s h
    refine W_seq (by kernel_rfl) ?_
    refine W_run 1 [] [0, 7, 8, 9, 10] [] (fr' := [(0, aI a0), (7, aD (.slice tI) a1), (8, aI (List.length a1 : Int)), (9, aI i11), (10, aB (decide (i11 < (List.length a1 : Int))))]) (L' := []) (obs := []) (by kernel_rfl) (by kernel_rfl) (by kernel_rfl) allP0 ?_
    refine seqQ_norm ?_
    refine W_seq (by kernel_rfl) ?_
    refine W_cond (o := .tmp 10) (b := decide (i11 < (List.length a1 : Int))) (by kernel_rfl) (by kernel_rfl) (fun h16 => ?_) (fun h16 => ?_)
    · replace h := stepL_true h16 h
      obtain ⟨v14, _, h15, h, rfl⟩ := h
      refine W_skip [0, 7, 8, 9] [] (fr' := [(0, aI a0), (7, aD (.slice tI) a1), (8, aI (List.length a1 : Int)), (9, aI i11)]) (L' := []) (by kernel_rfl) (by kernel_rfl) ?_
      refine seqQ_norm ?_
      refine W_seq (by kernel_rfl) ?_
      refine W_block (id := 1) (by kernel_rfl) ?_
      refine W_seq (by kernel_rfl) ?_
      refine W_run 3 [(1, .val (.dat tI v14))] [0, 6, 7, 8, 9] [] (fr' := [(0, aI a0), (6, aI v14), (7, aD (.slice tI) a1), (8, aI (List.length a1 : Int)), (9, aI i11)]) (L' := []) (obs := [Idx a1 i11 v14]) (by kernel_rfl) (by kernel_rfl) (by kernel_rfl) (allP1 (Idx.of h15)) ?_
      refine seqQ_norm ?_
      refine W_seq (by kernel_rfl) ?_
      refine W_run 7 [] [0, 7, 8, 9, 19] [] (fr' := [(0, aI a0), (7, aD (.slice tI) a1), (8, aI (List.length a1 : Int)), (9, aI i11), (19, aB ((decide (v14 < (0 : Int))) || (decide (v14 ≥ a0))))]) (L' := []) (obs := []) (by kernel_rfl) (by kernel_rfl) (by kernel_rfl) allP0 ?_
      refine seqQ_norm ?_
      refine W_cond (o := .tmp 19) (b := (decide (v14 < (0 : Int))) || (decide (v14 ≥ a0))) (by kernel_rfl) (by kernel_rfl) (fun h17 => ?_) (fun h17 => ?_)
      · replace h := ofT h17 h
        refine W_seq (by kernel_rfl) ?_
        refine W_run 1 [] [4] [] (fr' := [(4, aB false)]) (L' := []) (obs := []) (by kernel_rfl) (by kernel_rfl) (by kernel_rfl) allP0 ?_
        refine seqQ_norm ?_
        obtain rfl := Option.some.inj h
        refine W_ret [4] [] (fr' := [(4, aB false)]) (L' := []) (by kernel_rfl) (by kernel_rfl) ?_
        refine blockQ_ret ?_
        refine seqQ_ret ?_
        refine round_ret ?_
        refine escQ_ret ?_
        exact exQ_mk (by kernel_rfl) (by kernel_rfl)
      · replace h := ofF h17 h
        refine W_skip [0, 7, 8, 9] [] (fr' := [(0, aI a0), (7, aD (.slice tI) a1), (8, aI (List.length a1 : Int)), (9, aI i11)]) (L' := []) (by kernel_rfl) (by kernel_rfl) ?_
        refine blockQ_norm ?_
        refine seqQ_norm ?_
        obtain rfl := Option.some.inj h
        refine W_run 2 [] [0, 7, 8, 9] [] (fr' := [(0, aI a0), (7, aD (.slice tI) a1), (8, aI (List.length a1 : Int)), (9, aI (w64 (i11 + (1 : Int))))]) (L' := []) (obs := []) (by kernel_rfl) (by kernel_rfl) (by kernel_rfl) allP0 ?_
        exact round_next' (by kernel_rfl) (by kernel_rfl)
    · obtain rfl := stepL_false h16 h
      refine W_exit (id := 0) [] [] (fr' := []) (L' := []) (by kernel_rfl) (by kernel_rfl) ?_
      refine seqQ_exit ?_
      refine round_exit ?_
      refine escQ_brk ?_
      exact exQ_mk (by kernel_rfl) (by kernel_rfl)
  · intro e fr L hJ
    rcases v19 with v24 | v25
    · obtain ⟨rfl, rfl, rfl⟩ := hJ
      obtain rfl := Option.some.inj h
      refine LT_keep [4] [] (fr' := [(4, aB v24)]) (L' := []) (by kernel_rfl) ?_
      refine blockQ_ret ?_
      refine seqQ_ret ?_
      exact retQ_mk (by kernel_rfl) (by kernel_rfl) (by kernel_rfl)
    · obtain ⟨rfl, rfl, rfl⟩ := hJ
      refine LT_keep [] [] (fr' := []) (L' := []) (by kernel_rfl) ?_
      refine blockQ_hit ?_
      refine seqQ_norm ?_
      refine W_seq (by kernel_rfl) ?_
      refine W_run 1 [] [4] [] (fr' := [(4, aB true)]) (L' := []) (obs := []) (by kernel_rfl) (by kernel_rfl) (by kernel_rfl) allP0 ?_
      refine seqQ_norm ?_
      obtain rfl := Option.some.inj h
      refine W_ret [4] [] (fr' := [(4, aB true)]) (L' := []) (by kernel_rfl) (by kernel_rfl) ?_
      exact retQ_mk (by kernel_rfl) (by kernel_rfl) (by kernel_rfl)

def ref_TableCheck (a0 : Int) (a1 : (List Bool)) (a2 : Int) : Option Int :=
(ref_Within (0 : Int) a0 (4 : Int)).bind fun r1 =>
bif !r1 then
(some (1 : Int))
else
((ck (0 ≤ IntKind.wrap .u64 (a0))).bind fun _ =>
bif (List.length a1 : Int) != (bShl .i64 (1 : Int) (IntKind.wrap .u64 (a0))) then
(some (3 : Int))
else
((ref_Inside (List.length a1 : Int) [a2]).bind fun r6 =>
bif !r6 then
(some (4 : Int))
else
(some (0 : Int))))
theorem ref_TableCheck_ok {a0 : Int} {a1 : (List Bool)} {a2 : Int} {r : Int} (h : ref_TableCheck a0 a1 a2 = some r) : FnC Try.prog 18 [aI a0, aD (.slice .bool) a1, aI a2] [] (aI r) [] := by
  refine fnC_of_W (B := bodyOf Try.f18) (n := 22) Try.func18 (by kernel_rfl) (by kernel_rfl) (by kernel_rfl) (by kernel_rfl) (by kernel_rfl) ?_
  intro K
  refine W_seq (by kernel_rfl) ?_
  refine W_run 1 [] [0, 1, 2] [] (fr' := [(0, aI a0), (1, aD (.slice .bool) a1), (2, aI a2)]) (L' := []) (obs := []) (by kernel_rfl) (by kernel_rfl) (by kernel_rfl) allP0 ?_
  refine seqQ_norm ?_
  refine W_seq (by kernel_rfl) ?_
  refine W_seq (by kernel_rfl) ?_
  refine W_region (by kernel_rfl) ?_
  refine WO_run (j := 1) (k := 1) (orcs := []) (kF := [0, 1, 2, 7]) (kL := []) (fr' := [(0, aI a0), (1, aD (.slice .bool) a1), (2, aI a2), (7, aI a0)]) (L' := []) (obs := []) rfl (by kernel_rfl) allP0 ?_
  obtain ⟨r1, h2, h⟩ := bind_of h
  refine WO_call0 (us := [none, none, none]) (d := 8) (p := True) (j := 2) rfl ⟨by kernel_rfl, by kernel_rfl, by kernel_rfl⟩ trivial (ref_Within_ok h2) (by kernel_rfl) ?_
  refine WO_run (j := 3) (k := 1) (orcs := []) (kF := [0, 1, 2, 9]) (kL := []) (fr' := [(0, aI a0), (1, aD (.slice .bool) a1), (2, aI a2), (9, aB (!r1))]) (L' := []) (obs := []) rfl (by kernel_rfl) allP0 ?_
  refine WO_fin [0, 1, 2, 9] [] (fr' := [(0, aI a0), (1, aD (.slice .bool) a1), (2, aI a2), (9, aB (!r1))]) (L' := []) (by kernel_rfl) (by kernel_rfl) ?_
  refine seqQ_norm ?_
  refine W_cond (o := .tmp 9) (b := !r1) (by kernel_rfl) (by kernel_rfl) (fun h3 => ?_) (fun h3 => ?_)
  · replace h := ofT h3 h
    refine W_seq (by kernel_rfl) ?_
    refine W_run 1 [] [6] [] (fr' := [(6, aI (1 : Int))]) (L' := []) (obs := []) (by kernel_rfl) (by kernel_rfl) (by kernel_rfl) allP0 ?_
    refine seqQ_norm ?_
    obtain rfl := Option.some.inj h
    refine W_ret [6] [] (fr' := [(6, aI (1 : Int))]) (L' := []) (by kernel_rfl) (by kernel_rfl) ?_
    refine seqQ_ret ?_
    exact retQ_mk (by kernel_rfl) (by kernel_rfl) (by kernel_rfl)
  · replace h := ofF h3 h
    refine W_skip [0, 1, 2] [] (fr' := [(0, aI a0), (1, aD (.slice .bool) a1), (2, aI a2)]) (L' := []) (by kernel_rfl) (by kernel_rfl) ?_
    refine seqQ_norm ?_
    refine W_seq (by kernel_rfl) ?_
    refine W_seq (by kernel_rfl) ?_
    obtain ⟨_, h4, h⟩ := bind_of h
    replace h4 := ck_some h4
    refine W_run 6 [] [1, 2, 15] [] (fr' := [(1, aD (.slice .bool) a1), (2, aI a2), (15, aB ((List.length a1 : Int) != (bShl .i64 (1 : Int) (IntKind.wrap .u64 (a0)))))]) (L' := []) (obs := [(0 ≤ IntKind.wrap .u64 (a0))]) (by kernel_rfl) (by kernel_rfl) (by kernel_rfl) (allP1 h4) ?_
    refine seqQ_norm ?_
    refine W_cond (o := .tmp 15) (b := (List.length a1 : Int) != (bShl .i64 (1 : Int) (IntKind.wrap .u64 (a0)))) (by kernel_rfl) (by kernel_rfl) (fun h5 => ?_) (fun h5 => ?_)
    · replace h := ofT h5 h
      refine W_seq (by kernel_rfl) ?_
      refine W_run 1 [] [6] [] (fr' := [(6, aI (3 : Int))]) (L' := []) (obs := []) (by kernel_rfl) (by kernel_rfl) (by kernel_rfl) allP0 ?_
      refine seqQ_norm ?_
      obtain rfl := Option.some.inj h
      refine W_ret [6] [] (fr' := [(6, aI (3 : Int))]) (L' := []) (by kernel_rfl) (by kernel_rfl) ?_
      refine seqQ_ret ?_
      exact retQ_mk (by kernel_rfl) (by kernel_rfl) (by kernel_rfl)
    · replace h := ofF h5 h
      refine W_skip [1, 2] [] (fr' := [(1, aD (.slice .bool) a1), (2, aI a2)]) (L' := []) (by kernel_rfl) (by kernel_rfl) ?_
      refine seqQ_norm ?_
      refine W_seq (by kernel_rfl) ?_
      refine W_seq (by kernel_rfl) ?_
      refine W_region (by kernel_rfl) ?_
      refine WO_run (j := 4) (k := 4) (orcs := []) (kF := [17, 19]) (kL := [19]) (fr' := [(17, aI (List.length a1 : Int)), (19, .one (.slc 19))]) (L' := [(19, .seq tI [a2])]) (obs := []) rfl (by kernel_rfl) allP0 ?_
      obtain ⟨r6, h7, h⟩ := bind_of h
      refine WO_frz 19 (by kernel_rfl) ?_
      refine WO_call0 (us := [none, none]) (d := 20) (p := True) (j := 5) rfl ⟨by kernel_rfl, by kernel_rfl, by kernel_rfl⟩ trivial (ref_Inside_ok h7) (by kernel_rfl) ?_
      refine WO_run (j := 6) (k := 1) (orcs := []) (kF := [21]) (kL := []) (fr' := [(21, aB (!r6))]) (L' := []) (obs := []) rfl (by kernel_rfl) allP0 ?_
      refine WO_fin [21] [] (fr' := [(21, aB (!r6))]) (L' := []) (by kernel_rfl) (by kernel_rfl) ?_
      refine seqQ_norm ?_
      refine W_cond (o := .tmp 21) (b := !r6) (by kernel_rfl) (by kernel_rfl) (fun h8 => ?_) (fun h8 => ?_)
      · replace h := ofT h8 h
        refine W_seq (by kernel_rfl) ?_
        refine W_run 1 [] [6] [] (fr' := [(6, aI (4 : Int))]) (L' := []) (obs := []) (by kernel_rfl) (by kernel_rfl) (by kernel_rfl) allP0 ?_
        refine seqQ_norm ?_
        obtain rfl := Option.some.inj h
        refine W_ret [6] [] (fr' := [(6, aI (4 : Int))]) (L' := []) (by kernel_rfl) (by kernel_rfl) ?_
        refine seqQ_ret ?_
        exact retQ_mk (by kernel_rfl) (by kernel_rfl) (by kernel_rfl)
      · replace h := ofF h8 h
        refine W_skip [] [] (fr' := []) (L' := []) (by kernel_rfl) (by kernel_rfl) ?_
        refine seqQ_norm ?_
        refine W_seq (by kernel_rfl) ?_
        refine W_run 1 [] [6] [] (fr' := [(6, aI (0 : Int))]) (L' := []) (obs := []) (by kernel_rfl) (by kernel_rfl) (by kernel_rfl) allP0 ?_
        refine seqQ_norm ?_
        obtain rfl := Option.some.inj h
        refine W_ret [6] [] (fr' := [(6, aI (0 : Int))]) (L' := []) (by kernel_rfl) (by kernel_rfl) ?_
        exact retQ_mk (by kernel_rfl) (by kernel_rfl) (by kernel_rfl)

def law_WaveSways_g201 (x453 : Int) (i1354 : Int) (v1357 : Bool) (i1458 : Int) (v1461 : Bool) : Option Bool :=
(ck (0 ≤ IntKind.wrap .u64 (x453))).bind fun _ =>
bif (bXor .i64 i1354 i1458) == (bShl .i64 (1 : Int) (IntKind.wrap .u64 (x453))) then
(some (!(v1357 == v1461)))
else
(some false)
@[reducible] def law_WaveSways_s202 (a0 : Int) (a1 : (List Bool)) (r1 : ((List Int) × Int)) (x453 : Int) (i1354 : Int) (i1458 : Int) (x1459 : Int) (v : Bool) : Fr × LL := ([(0, aI a0), (1, aD (.slice .bool) a1), (5, aD (.slice tI) r1.1), (6, aI r1.2), (8, aI x453), (9, aI x1459), (10, aI i1354), (11, aI i1458), (71, aB v)], [])
@[reducible] def law_WaveSways_s203 (a0 : Int) (a1 : (List Bool)) (r1 : ((List Int) × Int)) (x453 : Int) (i1354 : Int) (i1458 : Int) (v : Int) : Fr × LL := ([(0, aI a0), (1, aD (.slice .bool) a1), (5, aD (.slice tI) r1.1), (6, aI r1.2), (8, aI x453), (9, aI v), (10, aI i1354), (11, aI i1458)], [])
def law_WaveSways_b204 (x453 : Int) (i1354 : Int) (v1357 : Bool) (i1458 : Int) (v1461 : Bool) (x1459 : Int) : Option (Flow Int Int) :=
((law_WaveSways_g201 x453 i1354 v1357 i1458 v1461).bind fun v1488 =>
bif v1488 then
(some (w64 (x1459 + (1 : Int))))
else
(some x1459)).bind fun v1491 =>
some (.next v1491)
@[reducible] def law_WaveSways_s205 (a0 : Int) (a1 : (List Bool)) (r1 : ((List Int) × Int)) (x453 : Int) (i1354 : Int) (v : Int × Int) : Fr × LL := ([(0, aI a0), (1, aD (.slice .bool) a1), (5, aD (.slice tI) r1.1), (6, aI r1.2), (8, aI x453), (9, aI v.2), (10, aI i1354), (11, aI v.1)], [])
@[reducible] def law_WaveSways_s206 (a0 : Int) (a1 : (List Bool)) (r1 : ((List Int) × Int)) (x453 : Int) (i1354 : Int) (v : Int) : Fr × LL := ([(0, aI a0), (1, aD (.slice .bool) a1), (5, aD (.slice tI) r1.1), (6, aI r1.2), (8, aI x453), (9, aI v), (10, aI i1354)], [])
def law_WaveSways_b207 (a1 : (List Bool)) (x453 : Int) (i1354 : Int) (v1357 : Bool) (x1355 : Int) : Option (Flow Int Int) :=
(forL (law_WaveSways_b204 x453 i1354 v1357) (fun x1459 => x1459) a1 0 x1355).bind fun v1494 =>
some (.next v1494)
@[reducible] def law_WaveSways_s208 (a0 : Int) (a1 : (List Bool)) (r1 : ((List Int) × Int)) (x453 : Int) (v : Int × Int) : Fr × LL := ([(0, aI a0), (1, aD (.slice .bool) a1), (5, aD (.slice tI) r1.1), (6, aI r1.2), (8, aI x453), (9, aI v.2), (10, aI v.1)], [])
@[reducible] def law_WaveSways_s209 (a0 : Int) (a1 : (List Bool)) (r1 : ((List Int) × Int)) (x453 : Int) (v : Int) : Fr × LL := ([(0, aI a0), (1, aD (.slice .bool) a1), (5, aD (.slice tI) r1.1), (6, aI r1.2), (8, aI x453), (9, aI v)], [])
def law_WaveSways_b210 (a0 : Int) (a1 : (List Bool)) (r1 : ((List Int) × Int)) (x453 : Int) : Option (Flow Int (Esc Bool Unit)) :=
bif (decide (x453 < a0)) && (decide (x453 < (List.length r1.1 : Int))) then
((forL (law_WaveSways_b207 a1 x453) (fun x1355 => x1355) a1 0 (0 : Int)).bind fun v1500 =>
(idx r1.1 x453).bind fun v1505 =>
bif v1505 != v1500 then
(some (.done (.ret false)))
else
(some (.next (w64 (x453 + (1 : Int))))))
else
(some (.done (.brk ())))
@[reducible] def law_WaveSways_s211 (a0 : Int) (a1 : (List Bool)) (r1 : ((List Int) × Int)) (v : Int) : Fr × LL := ([(0, aI a0), (1, aD (.slice .bool) a1), (5, aD (.slice tI) r1.1), (6, aI r1.2), (8, aI v)], [])
@[reducible] def law_WaveSways_s212 (v : Bool) : Fr × LL := ([(4, aB v)], [])
@[reducible] def law_WaveSways_s213 (a0 : Int) (r1 : ((List Int) × Int)) (v : Unit) : Fr × LL := ([(0, aI a0), (5, aD (.slice tI) r1.1), (6, aI r1.2)], [])
def law_WaveSways (fuel : Nat) (a0 : Int) (a1 : (List Bool)) : Option Bool :=
(wave_Sways a0 a1).bind fun r1 =>
(ref_TableCheck a0 a1 (0 : Int)).bind fun r3 =>
bif r3 != (0 : Int) then
(some ((r1.2 == r3) && ((List.length r1.1 : Int) == (0 : Int))))
else
((iter (law_WaveSways_b210 a0 a1 r1) fuel (0 : Int)).bind fun v1508 =>
match v1508 with
| .ret v1512 =>
(some v1512)
| .brk v1513 =>
(some ((r1.2 == (0 : Int)) && ((List.length r1.1 : Int) == a0))))
theorem law_WaveSways_ok {fuel : Nat} {a0 : Int} {a1 : (List Bool)} {r : Bool} (h : law_WaveSways fuel a0 a1 = some r) : FnC Try.prog 13 [aI a0, aD (.slice .bool) a1] [] (aB r) [] := by
  refine fnC_of_W (B := bodyOf Try.f13) (n := 88) Try.func13 (by kernel_rfl) (by kernel_rfl) (by kernel_rfl) (by kernel_rfl) (by kernel_rfl) ?_
  intro K
  refine W_seq (by kernel_rfl) ?_
  refine W_run 1 [] [0, 1] [] (fr' := [(0, aI a0), (1, aD (.slice .bool) a1)]) (L' := []) (obs := []) (by kernel_rfl) (by kernel_rfl) (by kernel_rfl) allP0 ?_
  refine seqQ_norm ?_
  refine W_seq (by kernel_rfl) ?_
  refine W_region (by kernel_rfl) ?_
  refine WO_run (j := 2) (k := 2) (orcs := []) (kF := [0, 1, 13, 14]) (kL := []) (fr' := [(0, aI a0), (1, aD (.slice .bool) a1), (13, aI a0), (14, aD (.slice .bool) a1)]) (L' := []) (obs := []) rfl (by kernel_rfl) allP0 ?_
  obtain ⟨r1, h2, h⟩ := bind_of h
  refine WO_call0 (us := [none, none]) (d := 15) (p := True) (j := 3) rfl ⟨by kernel_rfl, by kernel_rfl, by kernel_rfl⟩ trivial (wave_Sways_ok h2) (by kernel_rfl) ?_
  refine WO_run (j := 8) (k := 5) (orcs := []) (kF := [0, 1, 5, 6]) (kL := []) (fr' := [(0, aI a0), (1, aD (.slice .bool) a1), (5, aD (.slice tI) r1.1), (6, aI r1.2)]) (L' := []) (obs := []) rfl (by kernel_rfl) allP0 ?_
  refine WO_fin [0, 1, 5, 6] [] (fr' := [(0, aI a0), (1, aD (.slice .bool) a1), (5, aD (.slice tI) r1.1), (6, aI r1.2)]) (L' := []) (by kernel_rfl) (by kernel_rfl) ?_
  refine seqQ_norm ?_
  refine W_seq (by kernel_rfl) ?_
  refine W_region (by kernel_rfl) ?_
  refine WO_run (j := 2) (k := 2) (orcs := []) (kF := [0, 1, 5, 6, 18, 19]) (kL := []) (fr' := [(0, aI a0), (1, aD (.slice .bool) a1), (5, aD (.slice tI) r1.1), (6, aI r1.2), (18, aI a0), (19, aD (.slice .bool) a1)]) (L' := []) (obs := []) rfl (by kernel_rfl) allP0 ?_
  obtain ⟨r3, h4, h⟩ := bind_of h
  refine WO_call0 (us := [none, none, none]) (d := 20) (p := True) (j := 3) rfl ⟨by kernel_rfl, by kernel_rfl, by kernel_rfl⟩ trivial (ref_TableCheck_ok h4) (by kernel_rfl) ?_
  refine WO_run (j := 4) (k := 1) (orcs := []) (kF := [0, 1, 5, 6, 7]) (kL := []) (fr' := [(0, aI a0), (1, aD (.slice .bool) a1), (5, aD (.slice tI) r1.1), (6, aI r1.2), (7, aI r3)]) (L' := []) (obs := []) rfl (by kernel_rfl) allP0 ?_
  refine WO_fin [0, 1, 5, 6, 7] [] (fr' := [(0, aI a0), (1, aD (.slice .bool) a1), (5, aD (.slice tI) r1.1), (6, aI r1.2), (7, aI r3)]) (L' := []) (by kernel_rfl) (by kernel_rfl) ?_
  refine seqQ_norm ?_
  refine W_seq (by kernel_rfl) ?_
  refine W_seq (by kernel_rfl) ?_
  refine W_run 2 [] [0, 1, 5, 6, 7, 22] [] (fr' := [(0, aI a0), (1, aD (.slice .bool) a1), (5, aD (.slice tI) r1.1), (6, aI r1.2), (7, aI r3), (22, aB (r3 != (0 : Int)))]) (L' := []) (obs := []) (by kernel_rfl) (by kernel_rfl) (by kernel_rfl) allP0 ?_
  refine seqQ_norm ?_
  refine W_cond (o := .tmp 22) (b := r3 != (0 : Int)) (by kernel_rfl) (by kernel_rfl) (fun h5 => ?_) (fun h5 => ?_)
  · replace h := ofT h5 h
    refine W_seq (by kernel_rfl) ?_
    refine W_run 9 [] [4] [] (fr' := [(4, aB ((r1.2 == r3) && ((List.length r1.1 : Int) == (0 : Int))))]) (L' := []) (obs := []) (by kernel_rfl) (by kernel_rfl) (by kernel_rfl) allP0 ?_
    refine seqQ_norm ?_
    obtain rfl := Option.some.inj h
    refine W_ret [4] [] (fr' := [(4, aB ((r1.2 == r3) && ((List.length r1.1 : Int) == (0 : Int))))]) (L' := []) (by kernel_rfl) (by kernel_rfl) ?_
    refine seqQ_ret ?_
    exact retQ_mk (by kernel_rfl) (by kernel_rfl) (by kernel_rfl)
  · replace h := ofF h5 h
    refine W_skip [0, 1, 5, 6] [] (fr' := [(0, aI a0), (1, aD (.slice .bool) a1), (5, aD (.slice tI) r1.1), (6, aI r1.2)]) (L' := []) (by kernel_rfl) (by kernel_rfl) ?_
    refine seqQ_norm ?_
    refine W_seq (by kernel_rfl) ?_
    refine W_seq (by kernel_rfl) ?_
    refine W_run 1 [] [0, 1, 5, 6, 8] [] (fr' := [(0, aI a0), (1, aD (.slice .bool) a1), (5, aD (.slice tI) r1.1), (6, aI r1.2), (8, aI (0 : Int))]) (L' := []) (obs := []) (by kernel_rfl) (by kernel_rfl) (by kernel_rfl) allP0 ?_
    refine seqQ_norm ?_
    refine W_block (id := 0) (by kernel_rfl) ?_
    obtain ⟨v1508, h1509, h⟩ := bind_of h
    refine W_weaken [0, 1, 5, 6, 8] [] (fr' := ((law_WaveSways_s211 a0 a1 r1) (0 : Int)).1) (L' := ((law_WaveSways_s211 a0 a1 r1) (0 : Int)).2) (by kernel_rfl) ?_
    refine W_cutK (W_loop (S := (law_WaveSways_s211 a0 a1 r1)) (J := (escQ (exQ .ret law_WaveSways_s212) (exQ (.exit 0) (law_WaveSways_s213 a0 r1)))) (by kernel_rfl) ?_ fuel _ v1508 h1509) ?_
    · rintro x453 s h
      refine W_seq (by kernel_rfl) ?_
      refine W_seq (by kernel_rfl) ?_
      refine W_run 9 [] [0, 1, 5, 6, 8, 39] [] (fr' := [(0, aI a0), (1, aD (.slice .bool) a1), (5, aD (.slice tI) r1.1), (6, aI r1.2), (8, aI x453), (39, aB ((decide (x453 < a0)) && (decide (x453 < (List.length r1.1 : Int)))))]) (L' := []) (obs := []) (by kernel_rfl) (by kernel_rfl) (by kernel_rfl) allP0 ?_
      refine seqQ_norm ?_
      refine W_cond (o := .tmp 39) (b := (decide (x453 < a0)) && (decide (x453 < (List.length r1.1 : Int)))) (by kernel_rfl) (by kernel_rfl) (fun h981 => ?_) (fun h981 => ?_)
      · replace h := ofT h981 h
        refine W_skip [0, 1, 5, 6, 8] [] (fr' := [(0, aI a0), (1, aD (.slice .bool) a1), (5, aD (.slice tI) r1.1), (6, aI r1.2), (8, aI x453)]) (L' := []) (by kernel_rfl) (by kernel_rfl) ?_
        refine seqQ_norm ?_
        refine W_seq (by kernel_rfl) ?_
        refine W_block (id := 1) (by kernel_rfl) ?_
        refine W_seq (by kernel_rfl) ?_
        refine W_run 1 [] [0, 1, 5, 6, 8, 9] [] (fr' := [(0, aI a0), (1, aD (.slice .bool) a1), (5, aD (.slice tI) r1.1), (6, aI r1.2), (8, aI x453), (9, aI (0 : Int))]) (L' := []) (obs := []) (by kernel_rfl) (by kernel_rfl) (by kernel_rfl) allP0 ?_
        refine seqQ_norm ?_
        refine W_seq (by kernel_rfl) ?_
        refine W_seq (by kernel_rfl) ?_
        refine W_run 1 [] [0, 1, 5, 6, 8, 9, 10] [] (fr' := [(0, aI a0), (1, aD (.slice .bool) a1), (5, aD (.slice tI) r1.1), (6, aI r1.2), (8, aI x453), (9, aI (0 : Int)), (10, aI (0 : Int))]) (L' := []) (obs := []) (by kernel_rfl) (by kernel_rfl) (by kernel_rfl) allP0 ?_
        refine seqQ_norm ?_
        refine W_block (id := 2) (by kernel_rfl) ?_
        obtain ⟨v1500, h1501, h⟩ := bind_of h
        refine W_len (t := 1) (u := .bool) (xs := a1) (by kernel_rfl) (fun h1504 => ?_)
        obtain ⟨h1502, h1503⟩ := forL_iter h1504 h1501
        refine W_weaken [0, 1, 5, 6, 8, 9, 10] [] (fr' := ((law_WaveSways_s208 a0 a1 r1 x453) ((0 : Int), (0 : Int))).1) (L' := ((law_WaveSways_s208 a0 a1 r1 x453) ((0 : Int), (0 : Int))).2) (by kernel_rfl) ?_
        refine W_cutK (W_loop (S := (law_WaveSways_s208 a0 a1 r1 x453)) (J := (exQ (.exit 2) (law_WaveSways_s209 a0 a1 r1 x453))) (by kernel_rfl) ?_ h1502 _ v1500 h1503) ?_
        · rintro ⟨i1354, x1355⟩ s h
          refine W_seq (by kernel_rfl) ?_
          refine W_seq (by kernel_rfl) ?_
          refine W_run 4 [] [0, 1, 5, 6, 8, 9, 10, 45] [] (fr' := [(0, aI a0), (1, aD (.slice .bool) a1), (5, aD (.slice tI) r1.1), (6, aI r1.2), (8, aI x453), (9, aI x1355), (10, aI i1354), (45, aB (decide (i1354 < (List.length a1 : Int))))]) (L' := []) (obs := []) (by kernel_rfl) (by kernel_rfl) (by kernel_rfl) allP0 ?_
          refine seqQ_norm ?_
          refine W_cond (o := .tmp 45) (b := decide (i1354 < (List.length a1 : Int))) (by kernel_rfl) (by kernel_rfl) (fun h1359 => ?_) (fun h1359 => ?_)
          · replace h := stepL_true h1359 h
            obtain ⟨v1357, _, h1358, h, rfl⟩ := h
            refine W_skip [0, 1, 5, 6, 8, 9, 10] [] (fr' := [(0, aI a0), (1, aD (.slice .bool) a1), (5, aD (.slice tI) r1.1), (6, aI r1.2), (8, aI x453), (9, aI x1355), (10, aI i1354)]) (L' := []) (by kernel_rfl) (by kernel_rfl) ?_
            refine seqQ_norm ?_
            refine W_seq (by kernel_rfl) ?_
            refine W_block (id := 3) (by kernel_rfl) ?_
            refine W_seq (by kernel_rfl) ?_
            refine W_run 1 [] [0, 1, 5, 6, 8, 9, 10, 11] [] (fr' := [(0, aI a0), (1, aD (.slice .bool) a1), (5, aD (.slice tI) r1.1), (6, aI r1.2), (8, aI x453), (9, aI x1355), (10, aI i1354), (11, aI (0 : Int))]) (L' := []) (obs := []) (by kernel_rfl) (by kernel_rfl) (by kernel_rfl) allP0 ?_
            refine seqQ_norm ?_
            refine W_block (id := 4) (by kernel_rfl) ?_
            obtain ⟨v1494, h1495, h⟩ := bind_of h
            refine W_len (t := 1) (u := .bool) (xs := a1) (by kernel_rfl) (fun h1498 => ?_)
            obtain ⟨h1496, h1497⟩ := forL_iter h1498 h1495
            refine W_weaken [0, 1, 5, 6, 8, 9, 10, 11] [] (fr' := ((law_WaveSways_s205 a0 a1 r1 x453 i1354) ((0 : Int), x1355)).1) (L' := ((law_WaveSways_s205 a0 a1 r1 x453 i1354) ((0 : Int), x1355)).2) (by kernel_rfl) ?_
            refine W_cutK (W_loop (S := (law_WaveSways_s205 a0 a1 r1 x453 i1354)) (J := (exQ (.exit 4) (law_WaveSways_s206 a0 a1 r1 x453 i1354))) (by kernel_rfl) ?_ h1496 _ v1494 h1497) ?_
            · rintro ⟨i1458, x1459⟩ s h
              refine W_seq (by kernel_rfl) ?_
              refine W_seq (by kernel_rfl) ?_
              refine W_run 4 [] [0, 1, 5, 6, 8, 9, 10, 11, 51] [] (fr' := [(0, aI a0), (1, aD (.slice .bool) a1), (5, aD (.slice tI) r1.1), (6, aI r1.2), (8, aI x453), (9, aI x1459), (10, aI i1354), (11, aI i1458), (51, aB (decide (i1458 < (List.length a1 : Int))))]) (L' := []) (obs := []) (by kernel_rfl) (by kernel_rfl) (by kernel_rfl) allP0 ?_
              refine seqQ_norm ?_
              refine W_cond (o := .tmp 51) (b := decide (i1458 < (List.length a1 : Int))) (by kernel_rfl) (by kernel_rfl) (fun h1463 => ?_) (fun h1463 => ?_)
              · replace h := stepL_true h1463 h
                obtain ⟨v1461, _, h1462, h, rfl⟩ := h
                refine W_skip [0, 1, 5, 6, 8, 9, 10, 11] [] (fr' := [(0, aI a0), (1, aD (.slice .bool) a1), (5, aD (.slice tI) r1.1), (6, aI r1.2), (8, aI x453), (9, aI x1459), (10, aI i1354), (11, aI i1458)]) (L' := []) (by kernel_rfl) (by kernel_rfl) ?_
                refine seqQ_norm ?_
                refine W_seq (by kernel_rfl) ?_
                obtain ⟨v1491, h1492, h⟩ := bind_of h
                refine W_cutK (Q' := (exQ .normal (law_WaveSways_s203 a0 a1 r1 x453 i1354 i1458)) v1491) ?_ ?_
                · replace h := h1492
                  refine W_block (id := 5) (by kernel_rfl) ?_
                  refine W_seq (by kernel_rfl) ?_
                  obtain ⟨v1488, h1489, h⟩ := bind_of h
                  refine W_cutK (Q' := (exQ .normal (law_WaveSways_s202 a0 a1 r1 x453 i1354 i1458 x1459)) v1488) ?_ ?_
                  · replace h := h1489
                    obtain ⟨_, h1486, h⟩ := bind_of h
                    replace h1486 := ck_some h1486
                    rcases Bool.eq_false_or_eq_true ((bXor .i64 i1354 i1458) == (bShl .i64 (1 : Int) (IntKind.wrap .u64 (x453)))) with h1487 | h1487
                    · replace h := ofT h1487 h
                      obtain rfl := Option.some.inj h
                      refine W_draw2 18 [(16, .known true), (18, .known true), (20, .known true), (21, .val (.dat .bool v1357)), (22, .known true), (24, .known true), (26, .known true), (28, .known true), (29, .val (.dat .bool v1461)), (30, .known true), (32, .known true), (35, .val (.dat .bool true))] [] [0, 1, 5, 6, 8, 9, 10, 11, 71] [] (fr' := [(0, aI a0), (1, aD (.slice .bool) a1), (5, aD (.slice tI) r1.1), (6, aI r1.2), (8, aI x453), (9, aI x1459), (10, aI i1354), (11, aI i1458), (71, aB (!(v1357 == v1461)))]) (L' := []) (out := [(54, aI i1354), (55, aI i1458), (56, aI (bXor .i64 i1354 i1458)), (57, aI x453), (58, aD (.int .u64) (IntKind.wrap .u64 (x453))), (59, aI (bShl .i64 (1 : Int) (IntKind.wrap .u64 (x453)))), (60, aB ((bXor .i64 i1354 i1458) == (bShl .i64 (1 : Int) (IntKind.wrap .u64 (x453))))), (61, aB ((bXor .i64 i1354 i1458) == (bShl .i64 (1 : Int) (IntKind.wrap .u64 (x453))))), (62, aD (.slice .bool) a1), (63, aI i1354), (64, .one (.dptr .bool v1357)), (65, aB v1357), (66, aD (.slice .bool) a1), (67, aI i1458), (68, .one (.dptr .bool v1461)), (69, aB v1461), (70, aB (!(v1357 == v1461))), (71, aB (!(v1357 == v1461)))]) (obs := [(0 ≤ IntKind.wrap .u64 (x453)), (((bXor .i64 i1354 i1458) == (bShl .i64 (1 : Int) (IntKind.wrap .u64 (x453)))) = true), (((bXor .i64 i1354 i1458) == (bShl .i64 (1 : Int) (IntKind.wrap .u64 (x453)))) = true), (((bXor .i64 i1354 i1458) == (bShl .i64 (1 : Int) (IntKind.wrap .u64 (x453)))) = true), Idx a1 i1354 v1357, (((bXor .i64 i1354 i1458) == (bShl .i64 (1 : Int) (IntKind.wrap .u64 (x453)))) = true), (((bXor .i64 i1354 i1458) == (bShl .i64 (1 : Int) (IntKind.wrap .u64 (x453)))) = true), (((bXor .i64 i1354 i1458) == (bShl .i64 (1 : Int) (IntKind.wrap .u64 (x453)))) = true), (((bXor .i64 i1354 i1458) == (bShl .i64 (1 : Int) (IntKind.wrap .u64 (x453)))) = true), Idx a1 i1458 v1461, (((bXor .i64 i1354 i1458) == (bShl .i64 (1 : Int) (IntKind.wrap .u64 (x453)))) = true), (((bXor .i64 i1354 i1458) == (bShl .i64 (1 : Int) (IntKind.wrap .u64 (x453)))) = true), (((bXor .i64 i1354 i1458) == (bShl .i64 (1 : Int) (IntKind.wrap .u64 (x453)))) = true)]) (obs2 := []) (calls := []) (by kernel_rfl) (by kernel_rfl) (by kernel_rfl) (by kernel_rfl) (allP2 h1486 (allP2 h1487 (allP2 h1487 (allP2 h1487 (allP2 (Idx.of h1358) (allP2 h1487 (allP2 h1487 (allP2 h1487 (allP2 h1487 (allP2 (Idx.of h1462) (allP2 h1487 (allP2 h1487 (allP1 h1487))))))))))))) allC0 (by kernel_rfl) allP0 ?_
                      exact exQ_mk (by kernel_rfl) (by kernel_rfl)
                    · replace h := ofF h1487 h
                      obtain rfl := Option.some.inj h
                      refine W_draw2 18 [(16, .known false), (18, .known false), (20, .known false), (22, .known false), (24, .known false), (26, .known false), (28, .known false), (30, .known false), (32, .known false), (35, .val (.dat .bool false))] [] [0, 1, 5, 6, 8, 9, 10, 11, 71] [] (fr' := [(0, aI a0), (1, aD (.slice .bool) a1), (5, aD (.slice tI) r1.1), (6, aI r1.2), (8, aI x453), (9, aI x1459), (10, aI i1354), (11, aI i1458), (71, aB false)]) (L' := []) (out := [(54, aI i1354), (55, aI i1458), (56, aI (bXor .i64 i1354 i1458)), (57, aI x453), (58, aD (.int .u64) (IntKind.wrap .u64 (x453))), (59, aI (bShl .i64 (1 : Int) (IntKind.wrap .u64 (x453)))), (60, aB ((bXor .i64 i1354 i1458) == (bShl .i64 (1 : Int) (IntKind.wrap .u64 (x453))))), (61, aB ((bXor .i64 i1354 i1458) == (bShl .i64 (1 : Int) (IntKind.wrap .u64 (x453))))), (62, .tup []), (63, .tup []), (64, .tup []), (65, .tup []), (66, .tup []), (67, .tup []), (68, .tup []), (69, .tup []), (70, .tup []), (71, aB false)]) (obs := [(0 ≤ IntKind.wrap .u64 (x453)), (((bXor .i64 i1354 i1458) == (bShl .i64 (1 : Int) (IntKind.wrap .u64 (x453)))) = false), (((bXor .i64 i1354 i1458) == (bShl .i64 (1 : Int) (IntKind.wrap .u64 (x453)))) = false), (((bXor .i64 i1354 i1458) == (bShl .i64 (1 : Int) (IntKind.wrap .u64 (x453)))) = false), (((bXor .i64 i1354 i1458) == (bShl .i64 (1 : Int) (IntKind.wrap .u64 (x453)))) = false), (((bXor .i64 i1354 i1458) == (bShl .i64 (1 : Int) (IntKind.wrap .u64 (x453)))) = false), (((bXor .i64 i1354 i1458) == (bShl .i64 (1 : Int) (IntKind.wrap .u64 (x453)))) = false), (((bXor .i64 i1354 i1458) == (bShl .i64 (1 : Int) (IntKind.wrap .u64 (x453)))) = false), (((bXor .i64 i1354 i1458) == (bShl .i64 (1 : Int) (IntKind.wrap .u64 (x453)))) = false), (((bXor .i64 i1354 i1458) == (bShl .i64 (1 : Int) (IntKind.wrap .u64 (x453)))) = false), (((bXor .i64 i1354 i1458) == (bShl .i64 (1 : Int) (IntKind.wrap .u64 (x453)))) = false)]) (obs2 := []) (calls := []) (by kernel_rfl) (by kernel_rfl) (by kernel_rfl) (by kernel_rfl) (allP2 h1486 (allP2 h1487 (allP2 h1487 (allP2 h1487 (allP2 h1487 (allP2 h1487 (allP2 h1487 (allP2 h1487 (allP2 h1487 (allP2 h1487 (allP1 h1487))))))))))) allC0 (by kernel_rfl) allP0 ?_
                      exact exQ_mk (by kernel_rfl) (by kernel_rfl)
                  · intro e fr L hJ
                    obtain ⟨rfl, rfl, rfl⟩ := hJ
                    refine LT_keep [0, 1, 5, 6, 8, 9, 10, 11, 71] [] (fr' := [(0, aI a0), (1, aD (.slice .bool) a1), (5, aD (.slice tI) r1.1), (6, aI r1.2), (8, aI x453), (9, aI x1459), (10, aI i1354), (11, aI i1458), (71, aB v1488)]) (L' := []) (by kernel_rfl) ?_
                    refine seqQ_norm ?_
                    refine W_cond (o := .tmp 71) (b := v1488) (by kernel_rfl) (by kernel_rfl) (fun h1490 => ?_) (fun h1490 => ?_)
                    · replace h := ofT h1490 h
                      obtain rfl := Option.some.inj h
                      refine W_run 3 [] [0, 1, 5, 6, 8, 9, 10, 11] [] (fr' := [(0, aI a0), (1, aD (.slice .bool) a1), (5, aD (.slice tI) r1.1), (6, aI r1.2), (8, aI x453), (9, aI (w64 (x1459 + (1 : Int)))), (10, aI i1354), (11, aI i1458)]) (L' := []) (obs := []) (by kernel_rfl) (by kernel_rfl) (by kernel_rfl) allP0 ?_
                      refine blockQ_norm ?_
                      exact exQ_mk (by kernel_rfl) (by kernel_rfl)
                    · replace h := ofF h1490 h
                      obtain rfl := Option.some.inj h
                      refine W_skip [0, 1, 5, 6, 8, 9, 10, 11] [] (fr' := [(0, aI a0), (1, aD (.slice .bool) a1), (5, aD (.slice tI) r1.1), (6, aI r1.2), (8, aI x453), (9, aI x1459), (10, aI i1354), (11, aI i1458)]) (L' := []) (by kernel_rfl) (by kernel_rfl) ?_
                      refine blockQ_norm ?_
                      exact exQ_mk (by kernel_rfl) (by kernel_rfl)
                · intro e fr L hJ
                  obtain ⟨rfl, rfl, rfl⟩ := hJ
                  refine LT_keep [0, 1, 5, 6, 8, 9, 10, 11] [] (fr' := [(0, aI a0), (1, aD (.slice .bool) a1), (5, aD (.slice tI) r1.1), (6, aI r1.2), (8, aI x453), (9, aI v1491), (10, aI i1354), (11, aI i1458)]) (L' := []) (by kernel_rfl) ?_
                  refine seqQ_norm ?_
                  obtain rfl := Option.some.inj h
                  refine W_run 3 [] [0, 1, 5, 6, 8, 9, 10, 11] [] (fr' := [(0, aI a0), (1, aD (.slice .bool) a1), (5, aD (.slice tI) r1.1), (6, aI r1.2), (8, aI x453), (9, aI v1491), (10, aI i1354), (11, aI (w64 (i1458 + (1 : Int))))]) (L' := []) (obs := []) (by kernel_rfl) (by kernel_rfl) (by kernel_rfl) allP0 ?_
                  exact round_next' (by kernel_rfl) (by kernel_rfl)
              · obtain rfl := stepL_false h1463 h
                refine W_exit (id := 4) [0, 1, 5, 6, 8, 9, 10] [] (fr' := [(0, aI a0), (1, aD (.slice .bool) a1), (5, aD (.slice tI) r1.1), (6, aI r1.2), (8, aI x453), (9, aI x1459), (10, aI i1354)]) (L' := []) (by kernel_rfl) (by kernel_rfl) ?_
                refine seqQ_exit ?_
                refine round_exit ?_
                exact exQ_mk (by kernel_rfl) (by kernel_rfl)
            · intro e fr L hJ
              obtain ⟨rfl, rfl, rfl⟩ := hJ
              refine LT_keep [0, 1, 5, 6, 8, 9, 10] [] (fr' := [(0, aI a0), (1, aD (.slice .bool) a1), (5, aD (.slice tI) r1.1), (6, aI r1.2), (8, aI x453), (9, aI v1494), (10, aI i1354)]) (L' := []) (by kernel_rfl) ?_
              refine blockQ_hit ?_
              refine blockQ_norm ?_
              refine seqQ_norm ?_
              obtain rfl := Option.some.inj h
              refine W_run 3 [] [0, 1, 5, 6, 8, 9, 10] [] (fr' := [(0, aI a0), (1, aD (.slice .bool) a1), (5, aD (.slice tI) r1.1), (6, aI r1.2), (8, aI x453), (9, aI v1494), (10, aI (w64 (i1354 + (1 : Int))))]) (L' := []) (obs := []) (by kernel_rfl) (by kernel_rfl) (by kernel_rfl) allP0 ?_
              exact round_next' (by kernel_rfl) (by kernel_rfl)
          · obtain rfl := stepL_false h1359 h
            refine W_exit (id := 2) [0, 1, 5, 6, 8, 9] [] (fr' := [(0, aI a0), (1, aD (.slice .bool) a1), (5, aD (.slice tI) r1.1), (6, aI r1.2), (8, aI x453), (9, aI x1355)]) (L' := []) (by kernel_rfl) (by kernel_rfl) ?_
            refine seqQ_exit ?_
            refine round_exit ?_
            exact exQ_mk (by kernel_rfl) (by kernel_rfl)
        · intro e fr L hJ
          obtain ⟨rfl, rfl, rfl⟩ := hJ
          refine LT_keep [0, 1, 5, 6, 8, 9] [] (fr' := [(0, aI a0), (1, aD (.slice .bool) a1), (5, aD (.slice tI) r1.1), (6, aI r1.2), (8, aI x453), (9, aI v1500)]) (L' := []) (by kernel_rfl) ?_
          refine blockQ_hit ?_
          refine seqQ_norm ?_
          refine W_seq (by kernel_rfl) ?_
          obtain ⟨v1505, h1506, h⟩ := bind_of h
          refine W_run 6 [(5, .val (.dat tI v1505))] [0, 1, 5, 6, 8, 79] [] (fr' := [(0, aI a0), (1, aD (.slice .bool) a1), (5, aD (.slice tI) r1.1), (6, aI r1.2), (8, aI x453), (79, aB (v1505 != v1500))]) (L' := []) (obs := [Idx r1.1 x453 v1505]) (by kernel_rfl) (by kernel_rfl) (by kernel_rfl) (allP1 (Idx.of h1506)) ?_
          refine seqQ_norm ?_
          refine W_cond (o := .tmp 79) (b := v1505 != v1500) (by kernel_rfl) (by kernel_rfl) (fun h1507 => ?_) (fun h1507 => ?_)
          · replace h := ofT h1507 h
            refine W_seq (by kernel_rfl) ?_
            refine W_run 1 [] [4] [] (fr' := [(4, aB false)]) (L' := []) (obs := []) (by kernel_rfl) (by kernel_rfl) (by kernel_rfl) allP0 ?_
            refine seqQ_norm ?_
            obtain rfl := Option.some.inj h
            refine W_ret [4] [] (fr' := [(4, aB false)]) (L' := []) (by kernel_rfl) (by kernel_rfl) ?_
            refine blockQ_ret ?_
            refine seqQ_ret ?_
            refine round_ret ?_
            refine escQ_ret ?_
            exact exQ_mk (by kernel_rfl) (by kernel_rfl)
          · replace h := ofF h1507 h
            refine W_skip [0, 1, 5, 6, 8] [] (fr' := [(0, aI a0), (1, aD (.slice .bool) a1), (5, aD (.slice tI) r1.1), (6, aI r1.2), (8, aI x453)]) (L' := []) (by kernel_rfl) (by kernel_rfl) ?_
            refine blockQ_norm ?_
            refine seqQ_norm ?_
            obtain rfl := Option.some.inj h
            refine W_run 3 [] [0, 1, 5, 6, 8] [] (fr' := [(0, aI a0), (1, aD (.slice .bool) a1), (5, aD (.slice tI) r1.1), (6, aI r1.2), (8, aI (w64 (x453 + (1 : Int))))]) (L' := []) (obs := []) (by kernel_rfl) (by kernel_rfl) (by kernel_rfl) allP0 ?_
            exact round_next' (by kernel_rfl) (by kernel_rfl)
      · replace h := ofF h981 h
        obtain rfl := Option.some.inj h
        refine W_exit (id := 0) [0, 5, 6] [] (fr' := [(0, aI a0), (5, aD (.slice tI) r1.1), (6, aI r1.2)]) (L' := []) (by kernel_rfl) (by kernel_rfl) ?_
        refine seqQ_exit ?_
        refine round_exit ?_
        refine escQ_brk ?_
        exact exQ_mk (by kernel_rfl) (by kernel_rfl)
    · intro e fr L hJ
      rcases v1508 with v1512 | v1513
      · obtain ⟨rfl, rfl, rfl⟩ := hJ
        obtain rfl := Option.some.inj h
        refine LT_keep [4] [] (fr' := [(4, aB v1512)]) (L' := []) (by kernel_rfl) ?_
        refine blockQ_ret ?_
        refine seqQ_ret ?_
        exact retQ_mk (by kernel_rfl) (by kernel_rfl) (by kernel_rfl)
      · obtain ⟨rfl, rfl, rfl⟩ := hJ
        refine LT_keep [0, 5, 6] [] (fr' := [(0, aI a0), (5, aD (.slice tI) r1.1), (6, aI r1.2)]) (L' := []) (by kernel_rfl) ?_
        refine blockQ_hit ?_
        refine seqQ_norm ?_
        refine W_seq (by kernel_rfl) ?_
        refine W_run 9 [] [4] [] (fr' := [(4, aB ((r1.2 == (0 : Int)) && ((List.length r1.1 : Int) == a0)))]) (L' := []) (obs := []) (by kernel_rfl) (by kernel_rfl) (by kernel_rfl) allP0 ?_
        refine seqQ_norm ?_
        obtain rfl := Option.some.inj h
        refine W_ret [4] [] (fr' := [(4, aB ((r1.2 == (0 : Int)) && ((List.length r1.1 : Int) == a0)))]) (L' := []) (by kernel_rfl) (by kernel_rfl) ?_
        exact retQ_mk (by kernel_rfl) (by kernel_rfl) (by kernel_rfl)
end Go.Proofs.Ytnlibkamomlccaa.waveSways
