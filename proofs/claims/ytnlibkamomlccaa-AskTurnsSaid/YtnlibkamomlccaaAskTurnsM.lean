/- What the functions that AskTurns calls compute, as models, and that they compute it: written by a program of mine. -/
import Derived.Test.YtnlibkamomlccaaProg
import Derived.Test.YtnlibkamomlccaaSl3
set_option linter.all false
set_option maxRecDepth 100000
namespace Go.Proofs.Ytnlibkamomlccaa.askTurns
open Go Go.Sl
def ask_wrong (a0 : Int) (a1 : (List Bool)) (a2 : Int) : Option Int :=
bif (decide (a0 < (0 : Int))) || (decide (a0 > (4 : Int))) then
(some (1 : Int))
else
((ck (0 ≤ a0)).bind fun _ =>
bif (List.length a1 : Int) != (bShl .i64 (1 : Int) a0) then
(some (3 : Int))
else
(bif decide (a2 < (0 : Int)) then
(some (4 : Int))
else
(bif decide (a2 ≥ (bShl .i64 (1 : Int) a0)) then
(some (4 : Int))
else
(some (0 : Int)))))
theorem ask_wrong_ok {a0 : Int} {a1 : (List Bool)} {a2 : Int} {r : Int} (h : ask_wrong a0 a1 a2 = some r) : FnC Try.prog 37 [aI a0, aD (.slice .bool) a1, aI a2] [] (aI r) [] := by
  refine fnC_of_W (B := bodyOf Try.f37) (n := 29) Try.func37 (by kernel_rfl) (by kernel_rfl) (by kernel_rfl) (by kernel_rfl) (by kernel_rfl) ?_
  intro K
  refine W_seq (by kernel_rfl) ?_
  refine W_run 1 [] [0, 1, 2] [] (fr' := [(0, aI a0), (1, aD (.slice .bool) a1), (2, aI a2)]) (L' := []) (obs := []) (by kernel_rfl) (by kernel_rfl) (by kernel_rfl) allP0 ?_
  refine seqQ_norm ?_
  refine W_seq (by kernel_rfl) ?_
  refine W_block (id := 0) (by kernel_rfl) ?_
  refine W_seq (by kernel_rfl) ?_
  refine W_run 7 [] [0, 1, 2, 7] [] (fr' := [(0, aI a0), (1, aD (.slice .bool) a1), (2, aI a2), (7, aB ((decide (a0 < (0 : Int))) || (decide (a0 > (4 : Int)))))]) (L' := []) (obs := []) (by kernel_rfl) (by kernel_rfl) (by kernel_rfl) allP0 ?_
  refine seqQ_norm ?_
  refine W_cond (o := .tmp 7) (b := (decide (a0 < (0 : Int))) || (decide (a0 > (4 : Int)))) (by kernel_rfl) (by kernel_rfl) (fun h1 => ?_) (fun h1 => ?_)
  · replace h := ofT h1 h
    refine W_seq (by kernel_rfl) ?_
    refine W_run 1 [] [6] [] (fr' := [(6, aI (1 : Int))]) (L' := []) (obs := []) (by kernel_rfl) (by kernel_rfl) (by kernel_rfl) allP0 ?_
    refine seqQ_norm ?_
    obtain rfl := Option.some.inj h
    refine W_ret [6] [] (fr' := [(6, aI (1 : Int))]) (L' := []) (by kernel_rfl) (by kernel_rfl) ?_
    refine blockQ_ret ?_
    refine seqQ_ret ?_
    exact retQ_mk (by kernel_rfl) (by kernel_rfl) (by kernel_rfl)
  · replace h := ofF h1 h
    refine W_seq (by kernel_rfl) ?_
    obtain ⟨_, h2, h⟩ := bind_of h
    replace h2 := ck_some h2
    refine W_run 6 [] [0, 2, 14] [] (fr' := [(0, aI a0), (2, aI a2), (14, aB ((List.length a1 : Int) != (bShl .i64 (1 : Int) a0)))]) (L' := []) (obs := [(0 ≤ a0)]) (by kernel_rfl) (by kernel_rfl) (by kernel_rfl) (allP1 h2) ?_
    refine seqQ_norm ?_
    refine W_cond (o := .tmp 14) (b := (List.length a1 : Int) != (bShl .i64 (1 : Int) a0)) (by kernel_rfl) (by kernel_rfl) (fun h3 => ?_) (fun h3 => ?_)
    · replace h := ofT h3 h
      refine W_seq (by kernel_rfl) ?_
      refine W_run 1 [] [6] [] (fr' := [(6, aI (3 : Int))]) (L' := []) (obs := []) (by kernel_rfl) (by kernel_rfl) (by kernel_rfl) allP0 ?_
      refine seqQ_norm ?_
      obtain rfl := Option.some.inj h
      refine W_ret [6] [] (fr' := [(6, aI (3 : Int))]) (L' := []) (by kernel_rfl) (by kernel_rfl) ?_
      refine blockQ_ret ?_
      refine seqQ_ret ?_
      exact retQ_mk (by kernel_rfl) (by kernel_rfl) (by kernel_rfl)
    · replace h := ofF h3 h
      refine W_seq (by kernel_rfl) ?_
      refine W_region (by kernel_rfl) ?_
      refine WO_run (j := 3) (k := 3) (orcs := []) (kF := [0, 2, 23]) (kL := []) (fr' := [(0, aI a0), (2, aI a2), (23, aB (decide (a2 < (0 : Int))))]) (L' := []) (obs := []) rfl (by kernel_rfl) allP0 ?_
      rcases Bool.eq_false_or_eq_true (decide (a2 < (0 : Int))) with h4 | h4
      · replace h := ofT h4 h
        refine WO_run (j := 9) (k := 6) (orcs := [(6, .known true), (8, .known true), (10, .known true), (12, .known true), (15, .val (.dat .bool true))]) (kF := [20]) (kL := []) (fr' := [(20, aB true)]) (L' := []) (obs := [((decide (a2 < (0 : Int))) = true), ((decide (a2 < (0 : Int))) = true), ((decide (a2 < (0 : Int))) = true), ((decide (a2 < (0 : Int))) = true), ((decide (a2 < (0 : Int))) = true)]) rfl (by kernel_rfl) (allP2 h4 (allP2 h4 (allP2 h4 (allP2 h4 (allP1 h4))))) ?_
        refine WO_fin [20] [] (fr' := [(20, aB true)]) (L' := []) (by kernel_rfl) (by kernel_rfl) ?_
        refine seqQ_norm ?_
        refine W_cond (o := .tmp 20) (b := true) (by kernel_rfl) (by kernel_rfl) (fun h5 => ?_) (fun h5 => by have := (rfl : true = true).symm.trans h5; cases this)
        refine W_seq (by kernel_rfl) ?_
        refine W_run 1 [] [6] [] (fr' := [(6, aI (4 : Int))]) (L' := []) (obs := []) (by kernel_rfl) (by kernel_rfl) (by kernel_rfl) allP0 ?_
        refine seqQ_norm ?_
        obtain rfl := Option.some.inj h
        refine W_ret [6] [] (fr' := [(6, aI (4 : Int))]) (L' := []) (by kernel_rfl) (by kernel_rfl) ?_
        refine blockQ_ret ?_
        refine seqQ_ret ?_
        exact retQ_mk (by kernel_rfl) (by kernel_rfl) (by kernel_rfl)
      · replace h := ofF h4 h
        refine WO_run (j := 9) (k := 6) (orcs := [(6, .known false), (8, .known false), (10, .known false), (12, .known false), (15, .val (.dat .bool false))]) (kF := [20]) (kL := []) (fr' := [(20, aB (decide (a2 ≥ (bShl .i64 (1 : Int) a0))))]) (L' := []) (obs := [((decide (a2 < (0 : Int))) = false), ((decide (a2 < (0 : Int))) = false), ((decide (a2 < (0 : Int))) = false), (0 ≤ a0), ((decide (a2 < (0 : Int))) = false), ((decide (a2 < (0 : Int))) = false)]) rfl (by kernel_rfl) (allP2 h4 (allP2 h4 (allP2 h4 (allP2 h2 (allP2 h4 (allP1 h4)))))) ?_
        refine WO_fin [20] [] (fr' := [(20, aB (decide (a2 ≥ (bShl .i64 (1 : Int) a0))))]) (L' := []) (by kernel_rfl) (by kernel_rfl) ?_
        refine seqQ_norm ?_
        refine W_cond (o := .tmp 20) (b := decide (a2 ≥ (bShl .i64 (1 : Int) a0))) (by kernel_rfl) (by kernel_rfl) (fun h6 => ?_) (fun h6 => ?_)
        · replace h := ofT h6 h
          refine W_seq (by kernel_rfl) ?_
          refine W_run 1 [] [6] [] (fr' := [(6, aI (4 : Int))]) (L' := []) (obs := []) (by kernel_rfl) (by kernel_rfl) (by kernel_rfl) allP0 ?_
          refine seqQ_norm ?_
          obtain rfl := Option.some.inj h
          refine W_ret [6] [] (fr' := [(6, aI (4 : Int))]) (L' := []) (by kernel_rfl) (by kernel_rfl) ?_
          refine blockQ_ret ?_
          refine seqQ_ret ?_
          exact retQ_mk (by kernel_rfl) (by kernel_rfl) (by kernel_rfl)
        · replace h := ofF h6 h
          refine W_skip [] [] (fr' := []) (L' := []) (by kernel_rfl) (by kernel_rfl) ?_
          refine blockQ_norm ?_
          refine seqQ_norm ?_
          refine W_seq (by kernel_rfl) ?_
          refine W_run 1 [] [6] [] (fr' := [(6, aI (0 : Int))]) (L' := []) (obs := []) (by kernel_rfl) (by kernel_rfl) (by kernel_rfl) allP0 ?_
          refine seqQ_norm ?_
          obtain rfl := Option.some.inj h
          refine W_ret [6] [] (fr' := [(6, aI (0 : Int))]) (L' := []) (by kernel_rfl) (by kernel_rfl) ?_
          exact retQ_mk (by kernel_rfl) (by kernel_rfl) (by kernel_rfl)

def ask_Turns_g20 (a1 : (List Bool)) (i116 : Int) (v119 : Bool) (i151 : Int) (x152 : Int) : Option Int :=
(ck (0 ≤ i151)).bind fun _ =>
(idx a1 (bXor .i64 i116 (bShl .i64 (1 : Int) i151))).bind fun v164 =>
bif !(v164 == v119) then
(some (w64 (x152 + (1 : Int))))
else
(some x152)
@[reducible] def ask_Turns_s21 (a0 : Int) (a1 : (List Bool)) (i116 : Int) (x117 : Int) (v119 : Bool) (i151 : Int) (v : Int) : Fr × LL := ([(0, aI a0), (1, aD (.slice .bool) a1), (7, aI x117), (8, aI i116), (9, aB v119), (10, aI v), (18, aD (.slice .bool) a1), (19, aI (List.length a1 : Int)), (20, aI i116), (25, aI a0), (26, aI i151)], [])
def ask_Turns_b22 (a1 : (List Bool)) (i116 : Int) (v119 : Bool) (i151 : Int) (x152 : Int) : Option (Flow Int Int) :=
(ask_Turns_g20 a1 i116 v119 i151 x152).bind fun v167 =>
some (.next v167)
@[reducible] def ask_Turns_s23 (a0 : Int) (a1 : (List Bool)) (i116 : Int) (x117 : Int) (v119 : Bool) (v : Int × Int) : Fr × LL := ([(0, aI a0), (1, aD (.slice .bool) a1), (7, aI x117), (8, aI i116), (9, aB v119), (10, aI v.2), (18, aD (.slice .bool) a1), (19, aI (List.length a1 : Int)), (20, aI i116), (25, aI a0), (26, aI v.1)], [])
@[reducible] def ask_Turns_s24 (a0 : Int) (a1 : (List Bool)) (i116 : Int) (x117 : Int) (v : Int) : Fr × LL := ([(0, aI a0), (1, aD (.slice .bool) a1), (7, aI x117), (10, aI v), (18, aD (.slice .bool) a1), (19, aI (List.length a1 : Int)), (20, aI i116)], [])
def ask_Turns_b25 (a0 : Int) (a1 : (List Bool)) (i116 : Int) (v119 : Bool) (x117 : Int) : Option (Flow Int Int) :=
(forI (0 : Int) a0 (ask_Turns_b22 a1 i116 v119) (fun x152 => x152) (0 : Int)).bind fun v170 =>
some (.next (imax x117 v170))
@[reducible] def ask_Turns_s26 (a0 : Int) (a1 : (List Bool)) (v : Int × Int) : Fr × LL := ([(0, aI a0), (1, aD (.slice .bool) a1), (7, aI v.2), (18, aD (.slice .bool) a1), (19, aI (List.length a1 : Int)), (20, aI v.1)], [])
@[reducible] def ask_Turns_s27 (v : Int) : Fr × LL := ([(7, aI v)], [])
def ask_Turns (a0 : Int) (a1 : (List Bool)) : Option (Int × Int) :=
(ask_wrong a0 a1 (0 : Int)).bind fun r1 =>
bif r1 != (0 : Int) then
(some ((0 : Int), r1))
else
((forL (ask_Turns_b25 a0 a1) (fun x117 => x117) a1 0 (0 : Int)).bind fun v175 =>
some (v175, (0 : Int)))
theorem ask_Turns_ok {a0 : Int} {a1 : (List Bool)} {r : (Int × Int)} (h : ask_Turns a0 a1 = some r) : FnC Try.prog 17 [aI a0, aD (.slice .bool) a1] [] (.tup [.dat tI r.1, .dat tI r.2]) [] := by
  refine fnC_of_W (B := bodyOf Try.f17) (n := 46) Try.func17 (by kernel_rfl) (by kernel_rfl) (by kernel_rfl) (by kernel_rfl) (by kernel_rfl) ?_
  intro K
  refine W_seq (by kernel_rfl) ?_
  refine W_run 2 [] [0, 1] [] (fr' := [(0, aI a0), (1, aD (.slice .bool) a1)]) (L' := []) (obs := []) (by kernel_rfl) (by kernel_rfl) (by kernel_rfl) allP0 ?_
  refine seqQ_norm ?_
  refine W_seq (by kernel_rfl) ?_
  refine W_seq (by kernel_rfl) ?_
  refine W_region (by kernel_rfl) ?_
  refine WO_run (j := 2) (k := 2) (orcs := []) (kF := [0, 1, 12, 13]) (kL := []) (fr' := [(0, aI a0), (1, aD (.slice .bool) a1), (12, aI a0), (13, aD (.slice .bool) a1)]) (L' := []) (obs := []) rfl (by kernel_rfl) allP0 ?_
  obtain ⟨r1, h2, h⟩ := bind_of h
  refine WO_call0 (us := [none, none, none]) (d := 14) (p := True) (j := 3) rfl ⟨by kernel_rfl, by kernel_rfl, by kernel_rfl⟩ trivial (ask_wrong_ok h2) (by kernel_rfl) ?_
  refine WO_run (j := 4) (k := 1) (orcs := []) (kF := [0, 1, 6]) (kL := []) (fr' := [(0, aI a0), (1, aD (.slice .bool) a1), (6, aI r1)]) (L' := []) (obs := []) rfl (by kernel_rfl) allP0 ?_
  refine WO_fin [0, 1, 6] [] (fr' := [(0, aI a0), (1, aD (.slice .bool) a1), (6, aI r1)]) (L' := []) (by kernel_rfl) (by kernel_rfl) ?_
  refine seqQ_norm ?_
  refine W_seq (by kernel_rfl) ?_
  refine W_run 2 [] [0, 1, 6, 16] [] (fr' := [(0, aI a0), (1, aD (.slice .bool) a1), (6, aI r1), (16, aB (r1 != (0 : Int)))]) (L' := []) (obs := []) (by kernel_rfl) (by kernel_rfl) (by kernel_rfl) allP0 ?_
  refine seqQ_norm ?_
  refine W_cond (o := .tmp 16) (b := r1 != (0 : Int)) (by kernel_rfl) (by kernel_rfl) (fun h3 => ?_) (fun h3 => ?_)
  · replace h := ofT h3 h
    refine W_seq (by kernel_rfl) ?_
    refine W_run 3 [] [4, 5] [] (fr' := [(4, aI (0 : Int)), (5, aI r1)]) (L' := []) (obs := []) (by kernel_rfl) (by kernel_rfl) (by kernel_rfl) allP0 ?_
    refine seqQ_norm ?_
    obtain rfl := Option.some.inj h
    refine W_ret [4, 5] [] (fr' := [(4, aI (0 : Int)), (5, aI r1)]) (L' := []) (by kernel_rfl) (by kernel_rfl) ?_
    refine seqQ_ret ?_
    exact retQ_mk (by kernel_rfl) (by kernel_rfl) (by kernel_rfl)
  · replace h := ofF h3 h
    refine W_skip [0, 1] [] (fr' := [(0, aI a0), (1, aD (.slice .bool) a1)]) (L' := []) (by kernel_rfl) (by kernel_rfl) ?_
    refine seqQ_norm ?_
    refine W_seq (by kernel_rfl) ?_
    refine W_run 1 [] [0, 1, 7] [] (fr' := [(0, aI a0), (1, aD (.slice .bool) a1), (7, aI (0 : Int))]) (L' := []) (obs := []) (by kernel_rfl) (by kernel_rfl) (by kernel_rfl) allP0 ?_
    refine seqQ_norm ?_
    refine W_seq (by kernel_rfl) ?_
    refine W_seq (by kernel_rfl) ?_
    refine W_run 3 [] [0, 1, 7, 18, 19, 20] [] (fr' := [(0, aI a0), (1, aD (.slice .bool) a1), (7, aI (0 : Int)), (18, aD (.slice .bool) a1), (19, aI (List.length a1 : Int)), (20, aI (0 : Int))]) (L' := []) (obs := []) (by kernel_rfl) (by kernel_rfl) (by kernel_rfl) allP0 ?_
    refine seqQ_norm ?_
    refine W_block (id := 0) (by kernel_rfl) ?_
    obtain ⟨v175, h176, h⟩ := bind_of h
    refine W_len (t := 18) (u := .bool) (xs := a1) (by kernel_rfl) (fun h179 => ?_)
    obtain ⟨h177, h178⟩ := forL_iter h179 h176
    refine W_weaken [0, 1, 7, 18, 19, 20] [] (fr' := ((ask_Turns_s26 a0 a1) ((0 : Int), (0 : Int))).1) (L' := ((ask_Turns_s26 a0 a1) ((0 : Int), (0 : Int))).2) (by kernel_rfl) ?_
    refine W_cutK (W_loop (S := (ask_Turns_s26 a0 a1)) (J := (exQ (.exit 0) ask_Turns_s27)) (by kernel_rfl) ?_ h177 _ v175 h178) ?_
    · rintro ⟨i116, x117⟩ s h
      refine W_seq (by kernel_rfl) ?_
      refine W_run 1 [] [0, 1, 7, 18, 19, 20, 21] [] (fr' := [(0, aI a0), (1, aD (.slice .bool) a1), (7, aI x117), (18, aD (.slice .bool) a1), (19, aI (List.length a1 : Int)), (20, aI i116), (21, aB (decide (i116 < (List.length a1 : Int))))]) (L' := []) (obs := []) (by kernel_rfl) (by kernel_rfl) (by kernel_rfl) allP0 ?_
      refine seqQ_norm ?_
      refine W_seq (by kernel_rfl) ?_
      refine W_cond (o := .tmp 21) (b := decide (i116 < (List.length a1 : Int))) (by kernel_rfl) (by kernel_rfl) (fun h121 => ?_) (fun h121 => ?_)
      · replace h := stepL_true h121 h
        obtain ⟨v119, _, h120, h, rfl⟩ := h
        refine W_skip [0, 1, 7, 18, 19, 20] [] (fr' := [(0, aI a0), (1, aD (.slice .bool) a1), (7, aI x117), (18, aD (.slice .bool) a1), (19, aI (List.length a1 : Int)), (20, aI i116)]) (L' := []) (by kernel_rfl) (by kernel_rfl) ?_
        refine seqQ_norm ?_
        refine W_seq (by kernel_rfl) ?_
        refine W_block (id := 1) (by kernel_rfl) ?_
        refine W_seq (by kernel_rfl) ?_
        refine W_run 5 [(3, .val (.dat .bool v119))] [0, 1, 7, 8, 9, 18, 19, 20] [] (fr' := [(0, aI a0), (1, aD (.slice .bool) a1), (7, aI x117), (8, aI i116), (9, aB v119), (18, aD (.slice .bool) a1), (19, aI (List.length a1 : Int)), (20, aI i116)]) (L' := []) (obs := [Idx a1 i116 v119]) (by kernel_rfl) (by kernel_rfl) (by kernel_rfl) (allP1 (Idx.of h120)) ?_
        refine seqQ_norm ?_
        refine W_seq (by kernel_rfl) ?_
        refine W_run 1 [] [0, 1, 7, 8, 9, 10, 18, 19, 20] [] (fr' := [(0, aI a0), (1, aD (.slice .bool) a1), (7, aI x117), (8, aI i116), (9, aB v119), (10, aI (0 : Int)), (18, aD (.slice .bool) a1), (19, aI (List.length a1 : Int)), (20, aI i116)]) (L' := []) (obs := []) (by kernel_rfl) (by kernel_rfl) (by kernel_rfl) allP0 ?_
        refine seqQ_norm ?_
        refine W_seq (by kernel_rfl) ?_
        refine W_seq (by kernel_rfl) ?_
        refine W_run 2 [] [0, 1, 7, 8, 9, 10, 18, 19, 20, 25, 26] [] (fr' := [(0, aI a0), (1, aD (.slice .bool) a1), (7, aI x117), (8, aI i116), (9, aB v119), (10, aI (0 : Int)), (18, aD (.slice .bool) a1), (19, aI (List.length a1 : Int)), (20, aI i116), (25, aI a0), (26, aI (0 : Int))]) (L' := []) (obs := []) (by kernel_rfl) (by kernel_rfl) (by kernel_rfl) allP0 ?_
        refine seqQ_norm ?_
        refine W_block (id := 2) (by kernel_rfl) ?_
        obtain ⟨v170, h171, h⟩ := bind_of h
        obtain ⟨h172, h173⟩ := forI_iter h171
        refine W_weaken [0, 1, 7, 8, 9, 10, 18, 19, 20, 25, 26] [] (fr' := ((ask_Turns_s23 a0 a1 i116 x117 v119) ((0 : Int), (0 : Int))).1) (L' := ((ask_Turns_s23 a0 a1 i116 x117 v119) ((0 : Int), (0 : Int))).2) (by kernel_rfl) ?_
        refine W_cutK (W_loop (S := (ask_Turns_s23 a0 a1 i116 x117 v119)) (J := (exQ (.exit 2) (ask_Turns_s24 a0 a1 i116 x117))) (by kernel_rfl) ?_ h172 _ v170 h173) ?_
        · rintro ⟨i151, x152⟩ s h
          refine W_seq (by kernel_rfl) ?_
          refine W_run 1 [] [0, 1, 7, 8, 9, 10, 18, 19, 20, 25, 26, 27] [] (fr' := [(0, aI a0), (1, aD (.slice .bool) a1), (7, aI x117), (8, aI i116), (9, aB v119), (10, aI x152), (18, aD (.slice .bool) a1), (19, aI (List.length a1 : Int)), (20, aI i116), (25, aI a0), (26, aI i151), (27, aB (decide (i151 < a0)))]) (L' := []) (obs := []) (by kernel_rfl) (by kernel_rfl) (by kernel_rfl) allP0 ?_
          refine seqQ_norm ?_
          refine W_seq (by kernel_rfl) ?_
          refine W_cond (o := .tmp 27) (b := decide (i151 < a0)) (by kernel_rfl) (by kernel_rfl) (fun h154 => ?_) (fun h154 => ?_)
          · replace h := stepI_true h154 h
            obtain ⟨_, h, rfl⟩ := h
            refine W_skip [0, 1, 7, 8, 9, 10, 18, 19, 20, 25, 26] [] (fr' := [(0, aI a0), (1, aD (.slice .bool) a1), (7, aI x117), (8, aI i116), (9, aB v119), (10, aI x152), (18, aD (.slice .bool) a1), (19, aI (List.length a1 : Int)), (20, aI i116), (25, aI a0), (26, aI i151)]) (L' := []) (by kernel_rfl) (by kernel_rfl) ?_
            refine seqQ_norm ?_
            refine W_seq (by kernel_rfl) ?_
            obtain ⟨v167, h168, h⟩ := bind_of h
            refine W_cutK (Q' := (exQ .normal (ask_Turns_s21 a0 a1 i116 x117 v119 i151)) v167) ?_ ?_
            · replace h := h168
              refine W_block (id := 3) (by kernel_rfl) ?_
              refine W_seq (by kernel_rfl) ?_
              refine W_run 2 [] [0, 1, 7, 8, 9, 10, 11, 18, 19, 20, 25, 26] [] (fr' := [(0, aI a0), (1, aD (.slice .bool) a1), (7, aI x117), (8, aI i116), (9, aB v119), (10, aI x152), (11, aI i151), (18, aD (.slice .bool) a1), (19, aI (List.length a1 : Int)), (20, aI i116), (25, aI a0), (26, aI i151)]) (L' := []) (obs := []) (by kernel_rfl) (by kernel_rfl) (by kernel_rfl) allP0 ?_
              refine seqQ_norm ?_
              refine W_seq (by kernel_rfl) ?_
              obtain ⟨_, h163, h⟩ := bind_of h
              replace h163 := ck_some h163
              obtain ⟨v164, h165, h⟩ := bind_of h
              refine W_run 9 [(11, .val (.dat .bool v164))] [0, 1, 7, 8, 9, 10, 18, 19, 20, 25, 26, 37] [] (fr' := [(0, aI a0), (1, aD (.slice .bool) a1), (7, aI x117), (8, aI i116), (9, aB v119), (10, aI x152), (18, aD (.slice .bool) a1), (19, aI (List.length a1 : Int)), (20, aI i116), (25, aI a0), (26, aI i151), (37, aB (!(v164 == v119)))]) (L' := []) (obs := [(0 ≤ i151), Idx a1 (bXor .i64 i116 (bShl .i64 (1 : Int) i151)) v164]) (by kernel_rfl) (by kernel_rfl) (by kernel_rfl) (allP2 h163 (allP1 (Idx.of h165))) ?_
              refine seqQ_norm ?_
              refine W_cond (o := .tmp 37) (b := !(v164 == v119)) (by kernel_rfl) (by kernel_rfl) (fun h166 => ?_) (fun h166 => ?_)
              · replace h := ofT h166 h
                obtain rfl := Option.some.inj h
                refine W_run 3 [] [0, 1, 7, 8, 9, 10, 18, 19, 20, 25, 26] [] (fr' := [(0, aI a0), (1, aD (.slice .bool) a1), (7, aI x117), (8, aI i116), (9, aB v119), (10, aI (w64 (x152 + (1 : Int)))), (18, aD (.slice .bool) a1), (19, aI (List.length a1 : Int)), (20, aI i116), (25, aI a0), (26, aI i151)]) (L' := []) (obs := []) (by kernel_rfl) (by kernel_rfl) (by kernel_rfl) allP0 ?_
                refine blockQ_norm ?_
                exact exQ_mk (by kernel_rfl) (by kernel_rfl)
              · replace h := ofF h166 h
                obtain rfl := Option.some.inj h
                refine W_skip [0, 1, 7, 8, 9, 10, 18, 19, 20, 25, 26] [] (fr' := [(0, aI a0), (1, aD (.slice .bool) a1), (7, aI x117), (8, aI i116), (9, aB v119), (10, aI x152), (18, aD (.slice .bool) a1), (19, aI (List.length a1 : Int)), (20, aI i116), (25, aI a0), (26, aI i151)]) (L' := []) (by kernel_rfl) (by kernel_rfl) ?_
                refine blockQ_norm ?_
                exact exQ_mk (by kernel_rfl) (by kernel_rfl)
            · intro e fr L hJ
              obtain ⟨rfl, rfl, rfl⟩ := hJ
              refine LT_keep [0, 1, 7, 8, 9, 10, 18, 19, 20, 25, 26] [] (fr' := [(0, aI a0), (1, aD (.slice .bool) a1), (7, aI x117), (8, aI i116), (9, aB v119), (10, aI v167), (18, aD (.slice .bool) a1), (19, aI (List.length a1 : Int)), (20, aI i116), (25, aI a0), (26, aI i151)]) (L' := []) (by kernel_rfl) ?_
              refine seqQ_norm ?_
              obtain rfl := Option.some.inj h
              refine W_run 2 [] [0, 1, 7, 8, 9, 10, 18, 19, 20, 25, 26] [] (fr' := [(0, aI a0), (1, aD (.slice .bool) a1), (7, aI x117), (8, aI i116), (9, aB v119), (10, aI v167), (18, aD (.slice .bool) a1), (19, aI (List.length a1 : Int)), (20, aI i116), (25, aI a0), (26, aI (w64 (i151 + (1 : Int))))]) (L' := []) (obs := []) (by kernel_rfl) (by kernel_rfl) (by kernel_rfl) allP0 ?_
              exact round_next' (by kernel_rfl) (by kernel_rfl)
          · obtain rfl := stepI_false h154 h
            refine W_exit (id := 2) [0, 1, 7, 10, 18, 19, 20] [] (fr' := [(0, aI a0), (1, aD (.slice .bool) a1), (7, aI x117), (10, aI x152), (18, aD (.slice .bool) a1), (19, aI (List.length a1 : Int)), (20, aI i116)]) (L' := []) (by kernel_rfl) (by kernel_rfl) ?_
            refine seqQ_exit ?_
            refine round_exit ?_
            exact exQ_mk (by kernel_rfl) (by kernel_rfl)
        · intro e fr L hJ
          obtain ⟨rfl, rfl, rfl⟩ := hJ
          refine LT_keep [0, 1, 7, 10, 18, 19, 20] [] (fr' := [(0, aI a0), (1, aD (.slice .bool) a1), (7, aI x117), (10, aI v170), (18, aD (.slice .bool) a1), (19, aI (List.length a1 : Int)), (20, aI i116)]) (L' := []) (by kernel_rfl) ?_
          refine blockQ_hit ?_
          refine seqQ_norm ?_
          refine W_run 4 [] [0, 1, 7, 18, 19, 20] [] (fr' := [(0, aI a0), (1, aD (.slice .bool) a1), (7, aI (imax x117 v170)), (18, aD (.slice .bool) a1), (19, aI (List.length a1 : Int)), (20, aI i116)]) (L' := []) (obs := []) (by kernel_rfl) (by kernel_rfl) (by kernel_rfl) allP0 ?_
          refine blockQ_norm ?_
          refine seqQ_norm ?_
          obtain rfl := Option.some.inj h
          refine W_run 2 [] [0, 1, 7, 18, 19, 20] [] (fr' := [(0, aI a0), (1, aD (.slice .bool) a1), (7, aI (imax x117 v170)), (18, aD (.slice .bool) a1), (19, aI (List.length a1 : Int)), (20, aI (w64 (i116 + (1 : Int))))]) (L' := []) (obs := []) (by kernel_rfl) (by kernel_rfl) (by kernel_rfl) allP0 ?_
          exact round_next' (by kernel_rfl) (by kernel_rfl)
      · obtain rfl := stepL_false h121 h
        refine W_exit (id := 0) [7] [] (fr' := [(7, aI x117)]) (L' := []) (by kernel_rfl) (by kernel_rfl) ?_
        refine seqQ_exit ?_
        refine round_exit ?_
        exact exQ_mk (by kernel_rfl) (by kernel_rfl)
    · intro e fr L hJ
      obtain ⟨rfl, rfl, rfl⟩ := hJ
      refine LT_keep [7] [] (fr' := [(7, aI v175)]) (L' := []) (by kernel_rfl) ?_
      refine blockQ_hit ?_
      refine seqQ_norm ?_
      refine W_seq (by kernel_rfl) ?_
      refine W_run 3 [] [4, 5] [] (fr' := [(4, aI v175), (5, aI (0 : Int))]) (L' := []) (obs := []) (by kernel_rfl) (by kernel_rfl) (by kernel_rfl) allP0 ?_
      refine seqQ_norm ?_
      obtain rfl := Option.some.inj h
      refine W_ret [4, 5] [] (fr' := [(4, aI v175), (5, aI (0 : Int))]) (L' := []) (by kernel_rfl) (by kernel_rfl) ?_
      exact retQ_mk (by kernel_rfl) (by kernel_rfl) (by kernel_rfl)

def ref_Within (a0 : Int) (a1 : Int) (a2 : Int) : Option Bool :=
some ((decide (a0 ≤ a1)) && (decide (a1 ≤ a2)))
theorem ref_Within_ok {a0 : Int} {a1 : Int} {a2 : Int} {r : Bool} (h : ref_Within a0 a1 a2 = some r) : FnC Try.prog 34 [aI a0, aI a1, aI a2] [] (aB r) [] := by
  refine fnC_of_W (B := bodyOf Try.f34) (n := 15) Try.func34 (by kernel_rfl) (by kernel_rfl) (by kernel_rfl) (by kernel_rfl) (by kernel_rfl) ?_
  intro K
  refine W_seq (by kernel_rfl) ?_
  refine W_run 1 [] [0, 1, 2] [] (fr' := [(0, aI a0), (1, aI a1), (2, aI a2)]) (L' := []) (obs := []) (by kernel_rfl) (by kernel_rfl) (by kernel_rfl) allP0 ?_
  refine seqQ_norm ?_
  refine W_seq (by kernel_rfl) ?_
  refine W_run 9 [] [6] [] (fr' := [(6, aB ((decide (a0 ≤ a1)) && (decide (a1 ≤ a2))))]) (L' := []) (obs := []) (by kernel_rfl) (by kernel_rfl) (by kernel_rfl) allP0 ?_
  refine seqQ_norm ?_
  obtain rfl := Option.some.inj h
  refine W_ret [6] [] (fr' := [(6, aB ((decide (a0 ≤ a1)) && (decide (a1 ≤ a2))))]) (L' := []) (by kernel_rfl) (by kernel_rfl) ?_
  exact retQ_mk (by kernel_rfl) (by kernel_rfl) (by kernel_rfl)

def ref_Inside_b1 (a0 : Int) (i11 : Int) (v14 : Int) (x12 : Unit) : Option (Flow Unit (Esc Bool Unit)) :=
bif (decide (v14 < (0 : Int))) || (decide (v14 ≥ a0)) then
(some (.done (.ret false)))
else
(some (.next ()))
@[reducible] def ref_Inside_s2 (a0 : Int) (a1 : (List Int)) (v : Int × Unit) : Fr × LL := ([(0, aI a0), (7, aD (.slice tI) a1), (8, aI (List.length a1 : Int)), (9, aI v.1)], [])
@[reducible] def ref_Inside_s3 (v : Bool) : Fr × LL := ([(4, aB v)], [])
@[reducible] def ref_Inside_s4 (v : Unit) : Fr × LL := ([], [])
def ref_Inside (a0 : Int) (a1 : (List Int)) : Option Bool :=
(forL (ref_Inside_b1 a0) (fun x12 => (.brk ())) a1 0 ()).bind fun v19 =>
match v19 with
| .ret v24 =>
(some v24)
| .brk v25 =>
(some true)
theorem ref_Inside_ok {a0 : Int} {a1 : (List Int)} {r : Bool} (h : ref_Inside a0 a1 = some r) : FnC Try.prog 35 [aI a0, aD (.slice tI) a1] [] (aB r) [] := by
  refine fnC_of_W (B := bodyOf Try.f35) (n := 21) Try.func35 (by kernel_rfl) (by kernel_rfl) (by kernel_rfl) (by kernel_rfl) (by kernel_rfl) ?_
  intro K
  refine W_seq (by kernel_rfl) ?_
  refine W_run 1 [] [0, 1] [] (fr' := [(0, aI a0), (1, aD (.slice tI) a1)]) (L' := []) (obs := []) (by kernel_rfl) (by kernel_rfl) (by kernel_rfl) allP0 ?_
  refine seqQ_norm ?_
  refine W_seq (by kernel_rfl) ?_
  refine W_seq (by kernel_rfl) ?_
  refine W_run 3 [] [0, 7, 8, 9] [] (fr' := [(0, aI a0), (7, aD (.slice tI) a1), (8, aI (List.length a1 : Int)), (9, aI (0 : Int))]) (L' := []) (obs := []) (by kernel_rfl) (by kernel_rfl) (by kernel_rfl) allP0 ?_
  refine seqQ_norm ?_
  refine W_block (id := 0) (by kernel_rfl) ?_
  obtain ⟨v19, h20, h⟩ := bind_of h
  refine W_len (t := 7) (u := tI) (xs := a1) (by kernel_rfl) (fun h23 => ?_)
  obtain ⟨h21, h22⟩ := forL_iter h23 h20
  refine W_weaken [0, 7, 8, 9] [] (fr' := ((ref_Inside_s2 a0 a1) ((0 : Int), ())).1) (L' := ((ref_Inside_s2 a0 a1) ((0 : Int), ())).2) (by kernel_rfl) ?_
  refine W_cutK (W_loop (S := (ref_Inside_s2 a0 a1)) (J := (escQ (exQ .ret ref_Inside_s3) (exQ (.exit 0) ref_Inside_s4))) (by kernel_rfl) ?_ h21 _ v19 h22) ?_
  · rintro ⟨i11, x12⟩ s h
    refine W_seq (by kernel_rfl) ?_
    refine W_run 1 [] [0, 7, 8, 9, 10] [] (fr' := [(0, aI a0), (7, aD (.slice tI) a1), (8, aI (List.length a1 : Int)), (9, aI i11), (10, aB (decide (i11 < (List.length a1 : Int))))]) (L' := []) (obs := []) (by kernel_rfl) (by kernel_rfl) (by kernel_rfl) allP0 ?_
    refine seqQ_norm ?_
    refine W_seq (by kernel_rfl) ?_
    refine W_cond (o := .tmp 10) (b := decide (i11 < (List.length a1 : Int))) (by kernel_rfl) (by kernel_rfl) (fun h16 => ?_) (fun h16 => ?_)
    · replace h := stepL_true h16 h
      obtain ⟨v14, _, h15, h, rfl⟩ := h
      refine W_skip [0, 7, 8, 9] [] (fr' := [(0, aI a0), (7, aD (.slice tI) a1), (8, aI (List.length a1 : Int)), (9, aI i11)]) (L' := []) (by kernel_rfl) (by kernel_rfl) ?_
      refine seqQ_norm ?_
      refine W_seq (by kernel_rfl) ?_
      refine W_block (id := 1) (by kernel_rfl) ?_
      refine W_seq (by kernel_rfl) ?_
      refine W_run 3 [(1, .val (.dat tI v14))] [0, 6, 7, 8, 9] [] (fr' := [(0, aI a0), (6, aI v14), (7, aD (.slice tI) a1), (8, aI (List.length a1 : Int)), (9, aI i11)]) (L' := []) (obs := [Idx a1 i11 v14]) (by kernel_rfl) (by kernel_rfl) (by kernel_rfl) (allP1 (Idx.of h15)) ?_
      refine seqQ_norm ?_
      refine W_seq (by kernel_rfl) ?_
      refine W_run 7 [] [0, 7, 8, 9, 19] [] (fr' := [(0, aI a0), (7, aD (.slice tI) a1), (8, aI (List.length a1 : Int)), (9, aI i11), (19, aB ((decide (v14 < (0 : Int))) || (decide (v14 ≥ a0))))]) (L' := []) (obs := []) (by kernel_rfl) (by kernel_rfl) (by kernel_rfl) allP0 ?_
      refine seqQ_norm ?_
      refine W_cond (o := .tmp 19) (b := (decide (v14 < (0 : Int))) || (decide (v14 ≥ a0))) (by kernel_rfl) (by kernel_rfl) (fun h17 => ?_) (fun h17 => ?_)
      · replace h := ofT h17 h
        refine W_seq (by kernel_rfl) ?_
        refine W_run 1 [] [4] [] (fr' := [(4, aB false)]) (L' := []) (obs := []) (by kernel_rfl) (by kernel_rfl) (by kernel_rfl) allP0 ?_
        refine seqQ_norm ?_
        obtain rfl := Option.some.inj h
        refine W_ret [4] [] (fr' := [(4, aB false)]) (L' := []) (by kernel_rfl) (by kernel_rfl) ?_
        refine blockQ_ret ?_
        refine seqQ_ret ?_
        refine round_ret ?_
        refine escQ_ret ?_
        exact exQ_mk (by kernel_rfl) (by kernel_rfl)
      · replace h := ofF h17 h
        refine W_skip [0, 7, 8, 9] [] (fr' := [(0, aI a0), (7, aD (.slice tI) a1), (8, aI (List.length a1 : Int)), (9, aI i11)]) (L' := []) (by kernel_rfl) (by kernel_rfl) ?_
        refine blockQ_norm ?_
        refine seqQ_norm ?_
        obtain rfl := Option.some.inj h
        refine W_run 2 [] [0, 7, 8, 9] [] (fr' := [(0, aI a0), (7, aD (.slice tI) a1), (8, aI (List.length a1 : Int)), (9, aI (w64 (i11 + (1 : Int))))]) (L' := []) (obs := []) (by kernel_rfl) (by kernel_rfl) (by kernel_rfl) allP0 ?_
        exact round_next' (by kernel_rfl) (by kernel_rfl)
    · obtain rfl := stepL_false h16 h
      refine W_exit (id := 0) [] [] (fr' := []) (L' := []) (by kernel_rfl) (by kernel_rfl) ?_
      refine seqQ_exit ?_
      refine round_exit ?_
      refine escQ_brk ?_
      exact exQ_mk (by kernel_rfl) (by kernel_rfl)
  · intro e fr L hJ
    rcases v19 with v24 | v25
    · obtain ⟨rfl, rfl, rfl⟩ := hJ
      obtain rfl := Option.some.inj h
      refine LT_keep [4] [] (fr' := [(4, aB v24)]) (L' := []) (by kernel_rfl) ?_
      refine blockQ_ret ?_
      refine seqQ_ret ?_
      exact retQ_mk (by kernel_rfl) (by kernel_rfl) (by kernel_rfl)
    · obtain ⟨rfl, rfl, rfl⟩ := hJ
      refine LT_keep [] [] (fr' := []) (L' := []) (by kernel_rfl) ?_
      refine blockQ_hit ?_
      refine seqQ_norm ?_
      refine W_seq (by kernel_rfl) ?_
      refine W_run 1 [] [4] [] (fr' := [(4, aB true)]) (L' := []) (obs := []) (by kernel_rfl) (by kernel_rfl) (by kernel_rfl) allP0 ?_
      refine seqQ_norm ?_
      obtain rfl := Option.some.inj h
      refine W_ret [4] [] (fr' := [(4, aB true)]) (L' := []) (by kernel_rfl) (by kernel_rfl) ?_
      exact retQ_mk (by kernel_rfl) (by kernel_rfl) (by kernel_rfl)

def ref_TableCheck (a0 : Int) (a1 : (List Bool)) (a2 : Int) : Option Int :=
(ref_Within (0 : Int) a0 (4 : Int)).bind fun r1 =>
bif !r1 then
(some (1 : Int))
else
((ck (0 ≤ IntKind.wrap .u64 (a0))).bind fun _ =>
bif (List.length a1 : Int) != (bShl .i64 (1 : Int) (IntKind.wrap .u64 (a0))) then
(some (3 : Int))
else
((ref_Inside (List.length a1 : Int) [a2]).bind fun r6 =>
bif !r6 then
(some (4 : Int))
else
(some (0 : Int))))
theorem ref_TableCheck_ok {a0 : Int} {a1 : (List Bool)} {a2 : Int} {r : Int} (h : ref_TableCheck a0 a1 a2 = some r) : FnC Try.prog 18 [aI a0, aD (.slice .bool) a1, aI a2] [] (aI r) [] := by
  refine fnC_of_W (B := bodyOf Try.f18) (n := 22) Try.func18 (by kernel_rfl) (by kernel_rfl) (by kernel_rfl) (by kernel_rfl) (by kernel_rfl) ?_
  intro K
  refine W_seq (by kernel_rfl) ?_
  refine W_run 1 [] [0, 1, 2] [] (fr' := [(0, aI a0), (1, aD (.slice .bool) a1), (2, aI a2)]) (L' := []) (obs := []) (by kernel_rfl) (by kernel_rfl) (by kernel_rfl) allP0 ?_
  refine seqQ_norm ?_
  refine W_seq (by kernel_rfl) ?_
  refine W_seq (by kernel_rfl) ?_
  refine W_region (by kernel_rfl) ?_
  refine WO_run (j := 1) (k := 1) (orcs := []) (kF := [0, 1, 2, 7]) (kL := []) (fr' := [(0, aI a0), (1, aD (.slice .bool) a1), (2, aI a2), (7, aI a0)]) (L' := []) (obs := []) rfl (by kernel_rfl) allP0 ?_
  obtain ⟨r1, h2, h⟩ := bind_of h
  refine WO_call0 (us := [none, none, none]) (d := 8) (p := True) (j := 2) rfl ⟨by kernel_rfl, by kernel_rfl, by kernel_rfl⟩ trivial (ref_Within_ok h2) (by kernel_rfl) ?_
  refine WO_run (j := 3) (k := 1) (orcs := []) (kF := [0, 1, 2, 9]) (kL := []) (fr' := [(0, aI a0), (1, aD (.slice .bool) a1), (2, aI a2), (9, aB (!r1))]) (L' := []) (obs := []) rfl (by kernel_rfl) allP0 ?_
  refine WO_fin [0, 1, 2, 9] [] (fr' := [(0, aI a0), (1, aD (.slice .bool) a1), (2, aI a2), (9, aB (!r1))]) (L' := []) (by kernel_rfl) (by kernel_rfl) ?_
  refine seqQ_norm ?_
  refine W_cond (o := .tmp 9) (b := !r1) (by kernel_rfl) (by kernel_rfl) (fun h3 => ?_) (fun h3 => ?_)
  · replace h := ofT h3 h
    refine W_seq (by kernel_rfl) ?_
    refine W_run 1 [] [6] [] (fr' := [(6, aI (1 : Int))]) (L' := []) (obs := []) (by kernel_rfl) (by kernel_rfl) (by kernel_rfl) allP0 ?_
    refine seqQ_norm ?_
    obtain rfl := Option.some.inj h
    refine W_ret [6] [] (fr' := [(6, aI (1 : Int))]) (L' := []) (by kernel_rfl) (by kernel_rfl) ?_
    refine seqQ_ret ?_
    exact retQ_mk (by kernel_rfl) (by kernel_rfl) (by kernel_rfl)
  · replace h := ofF h3 h
    refine W_skip [0, 1, 2] [] (fr' := [(0, aI a0), (1, aD (.slice .bool) a1), (2, aI a2)]) (L' := []) (by kernel_rfl) (by kernel_rfl) ?_
    refine seqQ_norm ?_
    refine W_seq (by kernel_rfl) ?_
    refine W_seq (by kernel_rfl) ?_
    obtain ⟨_, h4, h⟩ := bind_of h
    replace h4 := ck_some h4
    refine W_run 6 [] [1, 2, 15] [] (fr' := [(1, aD (.slice .bool) a1), (2, aI a2), (15, aB ((List.length a1 : Int) != (bShl .i64 (1 : Int) (IntKind.wrap .u64 (a0)))))]) (L' := []) (obs := [(0 ≤ IntKind.wrap .u64 (a0))]) (by kernel_rfl) (by kernel_rfl) (by kernel_rfl) (allP1 h4) ?_
    refine seqQ_norm ?_
    refine W_cond (o := .tmp 15) (b := (List.length a1 : Int) != (bShl .i64 (1 : Int) (IntKind.wrap .u64 (a0)))) (by kernel_rfl) (by kernel_rfl) (fun h5 => ?_) (fun h5 => ?_)
    · replace h := ofT h5 h
      refine W_seq (by kernel_rfl) ?_
      refine W_run 1 [] [6] [] (fr' := [(6, aI (3 : Int))]) (L' := []) (obs := []) (by kernel_rfl) (by kernel_rfl) (by kernel_rfl) allP0 ?_
      refine seqQ_norm ?_
      obtain rfl := Option.some.inj h
      refine W_ret [6] [] (fr' := [(6, aI (3 : Int))]) (L' := []) (by kernel_rfl) (by kernel_rfl) ?_
      refine seqQ_ret ?_
      exact retQ_mk (by kernel_rfl) (by kernel_rfl) (by kernel_rfl)
    · replace h := ofF h5 h
      refine W_skip [1, 2] [] (fr' := [(1, aD (.slice .bool) a1), (2, aI a2)]) (L' := []) (by kernel_rfl) (by kernel_rfl) ?_
      refine seqQ_norm ?_
      refine W_seq (by kernel_rfl) ?_
      refine W_seq (by kernel_rfl) ?_
      refine W_region (by kernel_rfl) ?_
      refine WO_run (j := 4) (k := 4) (orcs := []) (kF := [17, 19]) (kL := [19]) (fr' := [(17, aI (List.length a1 : Int)), (19, .one (.slc 19))]) (L' := [(19, .seq tI [a2])]) (obs := []) rfl (by kernel_rfl) allP0 ?_
      obtain ⟨r6, h7, h⟩ := bind_of h
      refine WO_frz 19 (by kernel_rfl) ?_
      refine WO_call0 (us := [none, none]) (d := 20) (p := True) (j := 5) rfl ⟨by kernel_rfl, by kernel_rfl, by kernel_rfl⟩ trivial (ref_Inside_ok h7) (by kernel_rfl) ?_
      refine WO_run (j := 6) (k := 1) (orcs := []) (kF := [21]) (kL := []) (fr' := [(21, aB (!r6))]) (L' := []) (obs := []) rfl (by kernel_rfl) allP0 ?_
      refine WO_fin [21] [] (fr' := [(21, aB (!r6))]) (L' := []) (by kernel_rfl) (by kernel_rfl) ?_
      refine seqQ_norm ?_
      refine W_cond (o := .tmp 21) (b := !r6) (by kernel_rfl) (by kernel_rfl) (fun h8 => ?_) (fun h8 => ?_)
      · replace h := ofT h8 h
        refine W_seq (by kernel_rfl) ?_
        refine W_run 1 [] [6] [] (fr' := [(6, aI (4 : Int))]) (L' := []) (obs := []) (by kernel_rfl) (by kernel_rfl) (by kernel_rfl) allP0 ?_
        refine seqQ_norm ?_
        obtain rfl := Option.some.inj h
        refine W_ret [6] [] (fr' := [(6, aI (4 : Int))]) (L' := []) (by kernel_rfl) (by kernel_rfl) ?_
        refine seqQ_ret ?_
        exact retQ_mk (by kernel_rfl) (by kernel_rfl) (by kernel_rfl)
      · replace h := ofF h8 h
        refine W_skip [] [] (fr' := []) (L' := []) (by kernel_rfl) (by kernel_rfl) ?_
        refine seqQ_norm ?_
        refine W_seq (by kernel_rfl) ?_
        refine W_run 1 [] [6] [] (fr' := [(6, aI (0 : Int))]) (L' := []) (obs := []) (by kernel_rfl) (by kernel_rfl) (by kernel_rfl) allP0 ?_
        refine seqQ_norm ?_
        obtain rfl := Option.some.inj h
        refine W_ret [6] [] (fr' := [(6, aI (0 : Int))]) (L' := []) (by kernel_rfl) (by kernel_rfl) ?_
        exact retQ_mk (by kernel_rfl) (by kernel_rfl) (by kernel_rfl)

def ref_Bit (a0 : Int) (a1 : Int) : Option Bool :=
bif (decide (a1 ≥ (0 : Int))) && (decide (a1 < (63 : Int))) then
((ck (0 ≤ IntKind.wrap .u64 (a1))).bind fun _ =>
some ((bAnd .i64 a0 (bShl .i64 (1 : Int) (IntKind.wrap .u64 (a1)))) != (0 : Int)))
else
(some false)
theorem ref_Bit_ok {a0 : Int} {a1 : Int} {r : Bool} (h : ref_Bit a0 a1 = some r) : FnC Try.prog 36 [aI a0, aI a1] [] (aB r) [] := by
  refine fnC_of_W (B := bodyOf Try.f36) (n := 19) Try.func36 (by kernel_rfl) (by kernel_rfl) (by kernel_rfl) (by kernel_rfl) (by kernel_rfl) ?_
  intro K
  refine W_seq (by kernel_rfl) ?_
  refine W_run 1 [] [0, 1] [] (fr' := [(0, aI a0), (1, aI a1)]) (L' := []) (obs := []) (by kernel_rfl) (by kernel_rfl) (by kernel_rfl) allP0 ?_
  refine seqQ_norm ?_
  refine W_seq (by kernel_rfl) ?_
  refine W_region (by kernel_rfl) ?_
  refine WO_run (j := 7) (k := 7) (orcs := []) (kF := [0, 1, 11]) (kL := []) (fr' := [(0, aI a0), (1, aI a1), (11, aB ((decide (a1 ≥ (0 : Int))) && (decide (a1 < (63 : Int)))))]) (L' := []) (obs := []) rfl (by kernel_rfl) allP0 ?_
  rcases Bool.eq_false_or_eq_true ((decide (a1 ≥ (0 : Int))) && (decide (a1 < (63 : Int)))) with h1 | h1
  · replace h := ofT h1 h
    obtain ⟨_, h2, h⟩ := bind_of h
    replace h2 := ck_some h2
    refine WO_run (j := 15) (k := 8) (orcs := [(14, .known true), (16, .known true), (18, .known true), (20, .known true), (22, .known true), (24, .known true), (27, .val (.dat .bool true))]) (kF := [4]) (kL := []) (fr' := [(4, aB ((bAnd .i64 a0 (bShl .i64 (1 : Int) (IntKind.wrap .u64 (a1)))) != (0 : Int)))]) (L' := []) (obs := [(((decide (a1 ≥ (0 : Int))) && (decide (a1 < (63 : Int)))) = true), (((decide (a1 ≥ (0 : Int))) && (decide (a1 < (63 : Int)))) = true), (((decide (a1 ≥ (0 : Int))) && (decide (a1 < (63 : Int)))) = true), (((decide (a1 ≥ (0 : Int))) && (decide (a1 < (63 : Int)))) = true), (0 ≤ IntKind.wrap .u64 (a1)), (((decide (a1 ≥ (0 : Int))) && (decide (a1 < (63 : Int)))) = true), (((decide (a1 ≥ (0 : Int))) && (decide (a1 < (63 : Int)))) = true), (((decide (a1 ≥ (0 : Int))) && (decide (a1 < (63 : Int)))) = true)]) rfl (by kernel_rfl) (allP2 h1 (allP2 h1 (allP2 h1 (allP2 h1 (allP2 h2 (allP2 h1 (allP2 h1 (allP1 h1)))))))) ?_
    refine WO_fin [4] [] (fr' := [(4, aB ((bAnd .i64 a0 (bShl .i64 (1 : Int) (IntKind.wrap .u64 (a1)))) != (0 : Int)))]) (L' := []) (by kernel_rfl) (by kernel_rfl) ?_
    refine seqQ_norm ?_
    obtain rfl := Option.some.inj h
    refine W_ret [4] [] (fr' := [(4, aB ((bAnd .i64 a0 (bShl .i64 (1 : Int) (IntKind.wrap .u64 (a1)))) != (0 : Int)))]) (L' := []) (by kernel_rfl) (by kernel_rfl) ?_
    exact retQ_mk (by kernel_rfl) (by kernel_rfl) (by kernel_rfl)
  · replace h := ofF h1 h
    refine WO_run (j := 15) (k := 8) (orcs := [(14, .known false), (16, .known false), (18, .known false), (20, .known false), (22, .known false), (24, .known false), (27, .val (.dat .bool false))]) (kF := [4]) (kL := []) (fr' := [(4, aB false)]) (L' := []) (obs := [(((decide (a1 ≥ (0 : Int))) && (decide (a1 < (63 : Int)))) = false), (((decide (a1 ≥ (0 : Int))) && (decide (a1 < (63 : Int)))) = false), (((decide (a1 ≥ (0 : Int))) && (decide (a1 < (63 : Int)))) = false), (((decide (a1 ≥ (0 : Int))) && (decide (a1 < (63 : Int)))) = false), (((decide (a1 ≥ (0 : Int))) && (decide (a1 < (63 : Int)))) = false), (((decide (a1 ≥ (0 : Int))) && (decide (a1 < (63 : Int)))) = false), (((decide (a1 ≥ (0 : Int))) && (decide (a1 < (63 : Int)))) = false)]) rfl (by kernel_rfl) (allP2 h1 (allP2 h1 (allP2 h1 (allP2 h1 (allP2 h1 (allP2 h1 (allP1 h1))))))) ?_
    refine WO_fin [4] [] (fr' := [(4, aB false)]) (L' := []) (by kernel_rfl) (by kernel_rfl) ?_
    refine seqQ_norm ?_
    obtain rfl := Option.some.inj h
    refine W_ret [4] [] (fr' := [(4, aB false)]) (L' := []) (by kernel_rfl) (by kernel_rfl) ?_
    exact retQ_mk (by kernel_rfl) (by kernel_rfl) (by kernel_rfl)

@[reducible] def ref_Size_s3 (a0 : Int) (i27 : Int) (v : Int) : Fr × LL := ([(0, aI a0), (3, aI v), (4, aI i27)], [])
def ref_Size_b4 (a0 : Int) (i27 : Int) (x28 : Int) : Option (Flow Int Int) :=
((ref_Bit a0 i27).bind fun r37 =>
bif r37 then
(some (w64 (x28 + (1 : Int))))
else
(some x28)).bind fun v40 =>
some (.next v40)
@[reducible] def ref_Size_s5 (a0 : Int) (v : Int × Int) : Fr × LL := ([(0, aI a0), (3, aI v.2), (4, aI v.1)], [])
@[reducible] def ref_Size_s6 (v : Int) : Fr × LL := ([(3, aI v)], [])
def ref_Size (a0 : Int) : Option Int :=
(forI (0 : Int) (63 : Int) (ref_Size_b4 a0) (fun x28 => x28) (0 : Int)).bind fun v43 =>
some v43
theorem ref_Size_ok {a0 : Int} {r : Int} (h : ref_Size a0 = some r) : FnC Try.prog 19 [aI a0] [] (aI r) [] := by
  refine fnC_of_W (B := bodyOf Try.f19) (n := 15) Try.func19 (by kernel_rfl) (by kernel_rfl) (by kernel_rfl) (by kernel_rfl) (by kernel_rfl) ?_
  intro K
  refine W_seq (by kernel_rfl) ?_
  refine W_run 1 [] [0] [] (fr' := [(0, aI a0)]) (L' := []) (obs := []) (by kernel_rfl) (by kernel_rfl) (by kernel_rfl) allP0 ?_
  refine seqQ_norm ?_
  refine W_seq (by kernel_rfl) ?_
  refine W_run 1 [] [0, 3] [] (fr' := [(0, aI a0), (3, aI (0 : Int))]) (L' := []) (obs := []) (by kernel_rfl) (by kernel_rfl) (by kernel_rfl) allP0 ?_
  refine seqQ_norm ?_
  refine W_seq (by kernel_rfl) ?_
  refine W_seq (by kernel_rfl) ?_
  refine W_run 1 [] [0, 3, 4] [] (fr' := [(0, aI a0), (3, aI (0 : Int)), (4, aI (0 : Int))]) (L' := []) (obs := []) (by kernel_rfl) (by kernel_rfl) (by kernel_rfl) allP0 ?_
  refine seqQ_norm ?_
  refine W_block (id := 0) (by kernel_rfl) ?_
  obtain ⟨v43, h44, h⟩ := bind_of h
  obtain ⟨h45, h46⟩ := forI_iter h44
  refine W_weaken [0, 3, 4] [] (fr' := ((ref_Size_s5 a0) ((0 : Int), (0 : Int))).1) (L' := ((ref_Size_s5 a0) ((0 : Int), (0 : Int))).2) (by kernel_rfl) ?_
  refine W_cutK (W_loop (S := (ref_Size_s5 a0)) (J := (exQ (.exit 0) ref_Size_s6)) (by kernel_rfl) ?_ h45 _ v43 h46) ?_
  · rintro ⟨i27, x28⟩ s h
    refine W_seq (by kernel_rfl) ?_
    refine W_seq (by kernel_rfl) ?_
    refine W_run 2 [] [0, 3, 4, 6] [] (fr' := [(0, aI a0), (3, aI x28), (4, aI i27), (6, aB (decide (i27 < (63 : Int))))]) (L' := []) (obs := []) (by kernel_rfl) (by kernel_rfl) (by kernel_rfl) allP0 ?_
    refine seqQ_norm ?_
    refine W_cond (o := .tmp 6) (b := decide (i27 < (63 : Int))) (by kernel_rfl) (by kernel_rfl) (fun h30 => ?_) (fun h30 => ?_)
    · replace h := stepI_true h30 h
      obtain ⟨_, h, rfl⟩ := h
      refine W_skip [0, 3, 4] [] (fr' := [(0, aI a0), (3, aI x28), (4, aI i27)]) (L' := []) (by kernel_rfl) (by kernel_rfl) ?_
      refine seqQ_norm ?_
      refine W_seq (by kernel_rfl) ?_
      obtain ⟨v40, h41, h⟩ := bind_of h
      refine W_cutK (Q' := (exQ .normal (ref_Size_s3 a0 i27)) v40) ?_ ?_
      · replace h := h41
        refine W_block (id := 1) (by kernel_rfl) ?_
        refine W_seq (by kernel_rfl) ?_
        refine W_region (by kernel_rfl) ?_
        refine WO_run (j := 2) (k := 2) (orcs := []) (kF := [0, 3, 4, 9, 10]) (kL := []) (fr' := [(0, aI a0), (3, aI x28), (4, aI i27), (9, aI a0), (10, aI i27)]) (L' := []) (obs := []) rfl (by kernel_rfl) allP0 ?_
        obtain ⟨r37, h38, h⟩ := bind_of h
        refine WO_call0 (us := [none, none]) (d := 11) (p := True) (j := 3) rfl ⟨by kernel_rfl, by kernel_rfl, by kernel_rfl⟩ trivial (ref_Bit_ok h38) (by kernel_rfl) ?_
        refine WO_fin [0, 3, 4, 11] [] (fr' := [(0, aI a0), (3, aI x28), (4, aI i27), (11, aB r37)]) (L' := []) (by kernel_rfl) (by kernel_rfl) ?_
        refine seqQ_norm ?_
        refine W_cond (o := .tmp 11) (b := r37) (by kernel_rfl) (by kernel_rfl) (fun h39 => ?_) (fun h39 => ?_)
        · replace h := ofT h39 h
          obtain rfl := Option.some.inj h
          refine W_run 3 [] [0, 3, 4] [] (fr' := [(0, aI a0), (3, aI (w64 (x28 + (1 : Int)))), (4, aI i27)]) (L' := []) (obs := []) (by kernel_rfl) (by kernel_rfl) (by kernel_rfl) allP0 ?_
          refine blockQ_norm ?_
          exact exQ_mk (by kernel_rfl) (by kernel_rfl)
        · replace h := ofF h39 h
          obtain rfl := Option.some.inj h
          refine W_skip [0, 3, 4] [] (fr' := [(0, aI a0), (3, aI x28), (4, aI i27)]) (L' := []) (by kernel_rfl) (by kernel_rfl) ?_
          refine blockQ_norm ?_
          exact exQ_mk (by kernel_rfl) (by kernel_rfl)
      · intro e fr L hJ
        obtain ⟨rfl, rfl, rfl⟩ := hJ
        refine LT_keep [0, 3, 4] [] (fr' := [(0, aI a0), (3, aI v40), (4, aI i27)]) (L' := []) (by kernel_rfl) ?_
        refine seqQ_norm ?_
        obtain rfl := Option.some.inj h
        refine W_run 3 [] [0, 3, 4] [] (fr' := [(0, aI a0), (3, aI v40), (4, aI (w64 (i27 + (1 : Int))))]) (L' := []) (obs := []) (by kernel_rfl) (by kernel_rfl) (by kernel_rfl) allP0 ?_
        exact round_next' (by kernel_rfl) (by kernel_rfl)
    · obtain rfl := stepI_false h30 h
      refine W_exit (id := 0) [3] [] (fr' := [(3, aI x28)]) (L' := []) (by kernel_rfl) (by kernel_rfl) ?_
      refine seqQ_exit ?_
      refine round_exit ?_
      exact exQ_mk (by kernel_rfl) (by kernel_rfl)
  · intro e fr L hJ
    obtain ⟨rfl, rfl, rfl⟩ := hJ
    refine LT_keep [3] [] (fr' := [(3, aI v43)]) (L' := []) (by kernel_rfl) ?_
    refine blockQ_hit ?_
    refine seqQ_norm ?_
    refine W_seq (by kernel_rfl) ?_
    refine W_run 2 [] [2] [] (fr' := [(2, aI v43)]) (L' := []) (obs := []) (by kernel_rfl) (by kernel_rfl) (by kernel_rfl) allP0 ?_
    refine seqQ_norm ?_
    obtain rfl := Option.some.inj h
    refine W_ret [2] [] (fr' := [(2, aI v43)]) (L' := []) (by kernel_rfl) (by kernel_rfl) ?_
    exact retQ_mk (by kernel_rfl) (by kernel_rfl) (by kernel_rfl)

@[reducible] def law_AskTurns_s193 (a1 : (List Bool)) (r1 : (Int × Int)) (i1286 : Int) (x1287 : Int) (i1742 : Int) (x1743 : Int) (v : Bool) : Fr × LL := ([(1, aD (.slice .bool) a1), (5, aI r1.1), (6, aI r1.2), (8, aI x1287), (9, aI i1286), (10, aI x1743), (11, aI i1742), (57, aB v)], [])
def law_AskTurns_g194 (i1286 : Int) (v1289 : Bool) (i1742 : Int) (x1743 : Int) (v1745 : Bool) : Option Int :=
((ref_Size (bXor .i64 i1286 i1742)).bind fun r1778 =>
bif r1778 == (1 : Int) then
(some (!(v1289 == v1745)))
else
(some false)).bind fun v1781 =>
bif v1781 then
(some (w64 (x1743 + (1 : Int))))
else
(some x1743)
@[reducible] def law_AskTurns_s195 (a1 : (List Bool)) (r1 : (Int × Int)) (i1286 : Int) (x1287 : Int) (i1742 : Int) (v : Int) : Fr × LL := ([(1, aD (.slice .bool) a1), (5, aI r1.1), (6, aI r1.2), (8, aI x1287), (9, aI i1286), (10, aI v), (11, aI i1742)], [])
def law_AskTurns_b196 (i1286 : Int) (v1289 : Bool) (i1742 : Int) (v1745 : Bool) (x1743 : Int) : Option (Flow Int Int) :=
(law_AskTurns_g194 i1286 v1289 i1742 x1743 v1745).bind fun v1784 =>
some (.next v1784)
@[reducible] def law_AskTurns_s197 (a1 : (List Bool)) (r1 : (Int × Int)) (i1286 : Int) (x1287 : Int) (v : Int × Int) : Fr × LL := ([(1, aD (.slice .bool) a1), (5, aI r1.1), (6, aI r1.2), (8, aI x1287), (9, aI i1286), (10, aI v.2), (11, aI v.1)], [])
@[reducible] def law_AskTurns_s198 (a1 : (List Bool)) (r1 : (Int × Int)) (i1286 : Int) (x1287 : Int) (v : Int) : Fr × LL := ([(1, aD (.slice .bool) a1), (5, aI r1.1), (6, aI r1.2), (8, aI x1287), (9, aI i1286), (10, aI v)], [])
@[reducible] def law_AskTurns_s199 (a1 : (List Bool)) (r1 : (Int × Int)) (i1286 : Int) (v : Int) : Fr × LL := ([(1, aD (.slice .bool) a1), (5, aI r1.1), (6, aI r1.2), (8, aI v), (9, aI i1286)], [])
def law_AskTurns_b200 (a1 : (List Bool)) (i1286 : Int) (v1289 : Bool) (x1287 : Int) : Option (Flow Int Int) :=
((forL (law_AskTurns_b196 i1286 v1289) (fun x1743 => x1743) a1 0 (0 : Int)).bind fun v1787 =>
bif decide (v1787 > x1287) then
(some v1787)
else
(some x1287)).bind fun v1793 =>
some (.next v1793)
@[reducible] def law_AskTurns_s201 (a1 : (List Bool)) (r1 : (Int × Int)) (v : Int × Int) : Fr × LL := ([(1, aD (.slice .bool) a1), (5, aI r1.1), (6, aI r1.2), (8, aI v.2), (9, aI v.1)], [])
@[reducible] def law_AskTurns_s202 (r1 : (Int × Int)) (v : Int) : Fr × LL := ([(5, aI r1.1), (6, aI r1.2), (8, aI v)], [])
def law_AskTurns (a0 : Int) (a1 : (List Bool)) : Option Bool :=
(ask_Turns a0 a1).bind fun r1 =>
(ref_TableCheck a0 a1 (0 : Int)).bind fun r3 =>
bif r3 != (0 : Int) then
(some ((r1.2 == r3) && (r1.1 == (0 : Int))))
else
((forL (law_AskTurns_b200 a1) (fun x1287 => x1287) a1 0 (0 : Int)).bind fun v1796 =>
some ((r1.2 == (0 : Int)) && (r1.1 == v1796)))
theorem law_AskTurns_ok {a0 : Int} {a1 : (List Bool)} {r : Bool} (h : law_AskTurns a0 a1 = some r) : FnC Try.prog 4 [aI a0, aD (.slice .bool) a1] [] (aB r) [] := by
  refine fnC_of_W (B := bodyOf Try.f4) (n := 71) Try.func4 (by kernel_rfl) (by kernel_rfl) (by kernel_rfl) (by kernel_rfl) (by kernel_rfl) ?_
  intro K
  refine W_seq (by kernel_rfl) ?_
  refine W_run 1 [] [0, 1] [] (fr' := [(0, aI a0), (1, aD (.slice .bool) a1)]) (L' := []) (obs := []) (by kernel_rfl) (by kernel_rfl) (by kernel_rfl) allP0 ?_
  refine seqQ_norm ?_
  refine W_seq (by kernel_rfl) ?_
  refine W_region (by kernel_rfl) ?_
  refine WO_run (j := 2) (k := 2) (orcs := []) (kF := [0, 1, 13, 14]) (kL := []) (fr' := [(0, aI a0), (1, aD (.slice .bool) a1), (13, aI a0), (14, aD (.slice .bool) a1)]) (L' := []) (obs := []) rfl (by kernel_rfl) allP0 ?_
  obtain ⟨r1, h2, h⟩ := bind_of h
  refine WO_call0 (us := [none, none]) (d := 15) (p := True) (j := 3) rfl ⟨by kernel_rfl, by kernel_rfl, by kernel_rfl⟩ trivial (ask_Turns_ok h2) (by kernel_rfl) ?_
  refine WO_run (j := 8) (k := 5) (orcs := []) (kF := [0, 1, 5, 6]) (kL := []) (fr' := [(0, aI a0), (1, aD (.slice .bool) a1), (5, aI r1.1), (6, aI r1.2)]) (L' := []) (obs := []) rfl (by kernel_rfl) allP0 ?_
  refine WO_fin [0, 1, 5, 6] [] (fr' := [(0, aI a0), (1, aD (.slice .bool) a1), (5, aI r1.1), (6, aI r1.2)]) (L' := []) (by kernel_rfl) (by kernel_rfl) ?_
  refine seqQ_norm ?_
  refine W_seq (by kernel_rfl) ?_
  refine W_region (by kernel_rfl) ?_
  refine WO_run (j := 2) (k := 2) (orcs := []) (kF := [1, 5, 6, 18, 19]) (kL := []) (fr' := [(1, aD (.slice .bool) a1), (5, aI r1.1), (6, aI r1.2), (18, aI a0), (19, aD (.slice .bool) a1)]) (L' := []) (obs := []) rfl (by kernel_rfl) allP0 ?_
  obtain ⟨r3, h4, h⟩ := bind_of h
  refine WO_call0 (us := [none, none, none]) (d := 20) (p := True) (j := 3) rfl ⟨by kernel_rfl, by kernel_rfl, by kernel_rfl⟩ trivial (ref_TableCheck_ok h4) (by kernel_rfl) ?_
  refine WO_run (j := 4) (k := 1) (orcs := []) (kF := [1, 5, 6, 7]) (kL := []) (fr' := [(1, aD (.slice .bool) a1), (5, aI r1.1), (6, aI r1.2), (7, aI r3)]) (L' := []) (obs := []) rfl (by kernel_rfl) allP0 ?_
  refine WO_fin [1, 5, 6, 7] [] (fr' := [(1, aD (.slice .bool) a1), (5, aI r1.1), (6, aI r1.2), (7, aI r3)]) (L' := []) (by kernel_rfl) (by kernel_rfl) ?_
  refine seqQ_norm ?_
  refine W_seq (by kernel_rfl) ?_
  refine W_seq (by kernel_rfl) ?_
  refine W_run 2 [] [1, 5, 6, 7, 22] [] (fr' := [(1, aD (.slice .bool) a1), (5, aI r1.1), (6, aI r1.2), (7, aI r3), (22, aB (r3 != (0 : Int)))]) (L' := []) (obs := []) (by kernel_rfl) (by kernel_rfl) (by kernel_rfl) allP0 ?_
  refine seqQ_norm ?_
  refine W_cond (o := .tmp 22) (b := r3 != (0 : Int)) (by kernel_rfl) (by kernel_rfl) (fun h5 => ?_) (fun h5 => ?_)
  · replace h := ofT h5 h
    refine W_seq (by kernel_rfl) ?_
    refine W_run 8 [] [4] [] (fr' := [(4, aB ((r1.2 == r3) && (r1.1 == (0 : Int))))]) (L' := []) (obs := []) (by kernel_rfl) (by kernel_rfl) (by kernel_rfl) allP0 ?_
    refine seqQ_norm ?_
    obtain rfl := Option.some.inj h
    refine W_ret [4] [] (fr' := [(4, aB ((r1.2 == r3) && (r1.1 == (0 : Int))))]) (L' := []) (by kernel_rfl) (by kernel_rfl) ?_
    refine seqQ_ret ?_
    exact retQ_mk (by kernel_rfl) (by kernel_rfl) (by kernel_rfl)
  · replace h := ofF h5 h
    refine W_skip [1, 5, 6] [] (fr' := [(1, aD (.slice .bool) a1), (5, aI r1.1), (6, aI r1.2)]) (L' := []) (by kernel_rfl) (by kernel_rfl) ?_
    refine seqQ_norm ?_
    refine W_seq (by kernel_rfl) ?_
    refine W_run 1 [] [1, 5, 6, 8] [] (fr' := [(1, aD (.slice .bool) a1), (5, aI r1.1), (6, aI r1.2), (8, aI (0 : Int))]) (L' := []) (obs := []) (by kernel_rfl) (by kernel_rfl) (by kernel_rfl) allP0 ?_
    refine seqQ_norm ?_
    refine W_seq (by kernel_rfl) ?_
    refine W_seq (by kernel_rfl) ?_
    refine W_run 1 [] [1, 5, 6, 8, 9] [] (fr' := [(1, aD (.slice .bool) a1), (5, aI r1.1), (6, aI r1.2), (8, aI (0 : Int)), (9, aI (0 : Int))]) (L' := []) (obs := []) (by kernel_rfl) (by kernel_rfl) (by kernel_rfl) allP0 ?_
    refine seqQ_norm ?_
    refine W_block (id := 0) (by kernel_rfl) ?_
    obtain ⟨v1796, h1797, h⟩ := bind_of h
    refine W_len (t := 1) (u := .bool) (xs := a1) (by kernel_rfl) (fun h1800 => ?_)
    obtain ⟨h1798, h1799⟩ := forL_iter h1800 h1797
    refine W_weaken [1, 5, 6, 8, 9] [] (fr' := ((law_AskTurns_s201 a1 r1) ((0 : Int), (0 : Int))).1) (L' := ((law_AskTurns_s201 a1 r1) ((0 : Int), (0 : Int))).2) (by kernel_rfl) ?_
    refine W_cutK (W_loop (S := (law_AskTurns_s201 a1 r1)) (J := (exQ (.exit 0) (law_AskTurns_s202 r1))) (by kernel_rfl) ?_ h1798 _ v1796 h1799) ?_
    · rintro ⟨i1286, x1287⟩ s h
      refine W_seq (by kernel_rfl) ?_
      refine W_seq (by kernel_rfl) ?_
      refine W_run 4 [] [1, 5, 6, 8, 9, 33] [] (fr' := [(1, aD (.slice .bool) a1), (5, aI r1.1), (6, aI r1.2), (8, aI x1287), (9, aI i1286), (33, aB (decide (i1286 < (List.length a1 : Int))))]) (L' := []) (obs := []) (by kernel_rfl) (by kernel_rfl) (by kernel_rfl) allP0 ?_
      refine seqQ_norm ?_
      refine W_cond (o := .tmp 33) (b := decide (i1286 < (List.length a1 : Int))) (by kernel_rfl) (by kernel_rfl) (fun h1291 => ?_) (fun h1291 => ?_)
      · replace h := stepL_true h1291 h
        obtain ⟨v1289, _, h1290, h, rfl⟩ := h
        refine W_skip [1, 5, 6, 8, 9] [] (fr' := [(1, aD (.slice .bool) a1), (5, aI r1.1), (6, aI r1.2), (8, aI x1287), (9, aI i1286)]) (L' := []) (by kernel_rfl) (by kernel_rfl) ?_
        refine seqQ_norm ?_
        refine W_seq (by kernel_rfl) ?_
        obtain ⟨v1793, h1794, h⟩ := bind_of h
        refine W_cutK (Q' := (exQ .normal (law_AskTurns_s199 a1 r1 i1286)) v1793) ?_ ?_
        · replace h := h1794
          refine W_block (id := 1) (by kernel_rfl) ?_
          refine W_seq (by kernel_rfl) ?_
          refine W_run 1 [] [1, 5, 6, 8, 9, 10] [] (fr' := [(1, aD (.slice .bool) a1), (5, aI r1.1), (6, aI r1.2), (8, aI x1287), (9, aI i1286), (10, aI (0 : Int))]) (L' := []) (obs := []) (by kernel_rfl) (by kernel_rfl) (by kernel_rfl) allP0 ?_
          refine seqQ_norm ?_
          refine W_seq (by kernel_rfl) ?_
          refine W_seq (by kernel_rfl) ?_
          refine W_run 1 [] [1, 5, 6, 8, 9, 10, 11] [] (fr' := [(1, aD (.slice .bool) a1), (5, aI r1.1), (6, aI r1.2), (8, aI x1287), (9, aI i1286), (10, aI (0 : Int)), (11, aI (0 : Int))]) (L' := []) (obs := []) (by kernel_rfl) (by kernel_rfl) (by kernel_rfl) allP0 ?_
          refine seqQ_norm ?_
          refine W_block (id := 2) (by kernel_rfl) ?_
          obtain ⟨v1787, h1788, h⟩ := bind_of h
          refine W_len (t := 1) (u := .bool) (xs := a1) (by kernel_rfl) (fun h1791 => ?_)
          obtain ⟨h1789, h1790⟩ := forL_iter h1791 h1788
          refine W_weaken [1, 5, 6, 8, 9, 10, 11] [] (fr' := ((law_AskTurns_s197 a1 r1 i1286 x1287) ((0 : Int), (0 : Int))).1) (L' := ((law_AskTurns_s197 a1 r1 i1286 x1287) ((0 : Int), (0 : Int))).2) (by kernel_rfl) ?_
          refine W_cutK (W_loop (S := (law_AskTurns_s197 a1 r1 i1286 x1287)) (J := (exQ (.exit 2) (law_AskTurns_s198 a1 r1 i1286 x1287))) (by kernel_rfl) ?_ h1789 _ v1787 h1790) ?_
          · rintro ⟨i1742, x1743⟩ s h
            refine W_seq (by kernel_rfl) ?_
            refine W_seq (by kernel_rfl) ?_
            refine W_run 4 [] [1, 5, 6, 8, 9, 10, 11, 39] [] (fr' := [(1, aD (.slice .bool) a1), (5, aI r1.1), (6, aI r1.2), (8, aI x1287), (9, aI i1286), (10, aI x1743), (11, aI i1742), (39, aB (decide (i1742 < (List.length a1 : Int))))]) (L' := []) (obs := []) (by kernel_rfl) (by kernel_rfl) (by kernel_rfl) allP0 ?_
            refine seqQ_norm ?_
            refine W_cond (o := .tmp 39) (b := decide (i1742 < (List.length a1 : Int))) (by kernel_rfl) (by kernel_rfl) (fun h1747 => ?_) (fun h1747 => ?_)
            · replace h := stepL_true h1747 h
              obtain ⟨v1745, _, h1746, h, rfl⟩ := h
              refine W_skip [1, 5, 6, 8, 9, 10, 11] [] (fr' := [(1, aD (.slice .bool) a1), (5, aI r1.1), (6, aI r1.2), (8, aI x1287), (9, aI i1286), (10, aI x1743), (11, aI i1742)]) (L' := []) (by kernel_rfl) (by kernel_rfl) ?_
              refine seqQ_norm ?_
              refine W_seq (by kernel_rfl) ?_
              obtain ⟨v1784, h1785, h⟩ := bind_of h
              refine W_cutK (Q' := (exQ .normal (law_AskTurns_s195 a1 r1 i1286 x1287 i1742)) v1784) ?_ ?_
              · replace h := h1785
                refine W_block (id := 3) (by kernel_rfl) ?_
                refine W_seq (by kernel_rfl) ?_
                obtain ⟨v1781, h1782, h⟩ := bind_of h
                refine W_cutK (Q' := (exQ .normal (law_AskTurns_s193 a1 r1 i1286 x1287 i1742 x1743)) v1781) ?_ ?_
                · replace h := h1782
                  obtain ⟨r1778, h1779, h⟩ := bind_of h
                  rcases Bool.eq_false_or_eq_true (r1778 == (1 : Int)) with h1780 | h1780
                  · replace h := ofT h1780 h
                    obtain rfl := Option.some.inj h
                    refine W_draw2 16 [(12, .known true), (14, .known true), (16, .known true), (17, .val (.dat .bool v1289)), (18, .known true), (20, .known true), (22, .known true), (24, .known true), (25, .val (.dat .bool v1745)), (26, .known true), (28, .known true), (31, .val (.dat .bool true))] [(3, [none], aI r1778)] [1, 5, 6, 8, 9, 10, 11, 57] [] (fr' := [(1, aD (.slice .bool) a1), (5, aI r1.1), (6, aI r1.2), (8, aI x1287), (9, aI i1286), (10, aI x1743), (11, aI i1742), (57, aB (!(v1289 == v1745)))]) (L' := []) (out := [(42, aI i1286), (43, aI i1742), (44, aI (bXor .i64 i1286 i1742)), (45, aI r1778), (46, aB (r1778 == (1 : Int))), (47, aB (r1778 == (1 : Int))), (48, aD (.slice .bool) a1), (49, aI i1286), (50, .one (.dptr .bool v1289)), (51, aB v1289), (52, aD (.slice .bool) a1), (53, aI i1742), (54, .one (.dptr .bool v1745)), (55, aB v1745), (56, aB (!(v1289 == v1745))), (57, aB (!(v1289 == v1745)))]) (obs := [True, ((r1778 == (1 : Int)) = true), ((r1778 == (1 : Int)) = true), ((r1778 == (1 : Int)) = true), Idx a1 i1286 v1289, ((r1778 == (1 : Int)) = true), ((r1778 == (1 : Int)) = true), ((r1778 == (1 : Int)) = true), ((r1778 == (1 : Int)) = true), Idx a1 i1742 v1745, ((r1778 == (1 : Int)) = true), ((r1778 == (1 : Int)) = true), ((r1778 == (1 : Int)) = true)]) (obs2 := []) (calls := [(19, [aI (bXor .i64 i1286 i1742)], aI r1778)]) (by kernel_rfl) (by kernel_rfl) (by kernel_rfl) (by kernel_rfl) (allP2 trivial (allP2 h1780 (allP2 h1780 (allP2 h1780 (allP2 (Idx.of h1290) (allP2 h1780 (allP2 h1780 (allP2 h1780 (allP2 h1780 (allP2 (Idx.of h1746) (allP2 h1780 (allP2 h1780 (allP1 h1780))))))))))))) (allC1 (by kernel_rfl) (ref_Size_ok h1779) (by kernel_rfl) allC0) (by kernel_rfl) allP0 ?_
                    exact exQ_mk (by kernel_rfl) (by kernel_rfl)
                  · replace h := ofF h1780 h
                    obtain rfl := Option.some.inj h
                    refine W_draw2 16 [(12, .known false), (14, .known false), (16, .known false), (18, .known false), (20, .known false), (22, .known false), (24, .known false), (26, .known false), (28, .known false), (31, .val (.dat .bool false))] [(3, [none], aI r1778)] [1, 5, 6, 8, 9, 10, 11, 57] [] (fr' := [(1, aD (.slice .bool) a1), (5, aI r1.1), (6, aI r1.2), (8, aI x1287), (9, aI i1286), (10, aI x1743), (11, aI i1742), (57, aB false)]) (L' := []) (out := [(42, aI i1286), (43, aI i1742), (44, aI (bXor .i64 i1286 i1742)), (45, aI r1778), (46, aB (r1778 == (1 : Int))), (47, aB (r1778 == (1 : Int))), (48, .tup []), (49, .tup []), (50, .tup []), (51, .tup []), (52, .tup []), (53, .tup []), (54, .tup []), (55, .tup []), (56, .tup []), (57, aB false)]) (obs := [True, ((r1778 == (1 : Int)) = false), ((r1778 == (1 : Int)) = false), ((r1778 == (1 : Int)) = false), ((r1778 == (1 : Int)) = false), ((r1778 == (1 : Int)) = false), ((r1778 == (1 : Int)) = false), ((r1778 == (1 : Int)) = false), ((r1778 == (1 : Int)) = false), ((r1778 == (1 : Int)) = false), ((r1778 == (1 : Int)) = false)]) (obs2 := []) (calls := [(19, [aI (bXor .i64 i1286 i1742)], aI r1778)]) (by kernel_rfl) (by kernel_rfl) (by kernel_rfl) (by kernel_rfl) (allP2 trivial (allP2 h1780 (allP2 h1780 (allP2 h1780 (allP2 h1780 (allP2 h1780 (allP2 h1780 (allP2 h1780 (allP2 h1780 (allP2 h1780 (allP1 h1780))))))))))) (allC1 (by kernel_rfl) (ref_Size_ok h1779) (by kernel_rfl) allC0) (by kernel_rfl) allP0 ?_
                    exact exQ_mk (by kernel_rfl) (by kernel_rfl)
                · intro e fr L hJ
                  obtain ⟨rfl, rfl, rfl⟩ := hJ
                  refine LT_keep [1, 5, 6, 8, 9, 10, 11, 57] [] (fr' := [(1, aD (.slice .bool) a1), (5, aI r1.1), (6, aI r1.2), (8, aI x1287), (9, aI i1286), (10, aI x1743), (11, aI i1742), (57, aB v1781)]) (L' := []) (by kernel_rfl) ?_
                  refine seqQ_norm ?_
                  refine W_cond (o := .tmp 57) (b := v1781) (by kernel_rfl) (by kernel_rfl) (fun h1783 => ?_) (fun h1783 => ?_)
                  · replace h := ofT h1783 h
                    obtain rfl := Option.some.inj h
                    refine W_run 3 [] [1, 5, 6, 8, 9, 10, 11] [] (fr' := [(1, aD (.slice .bool) a1), (5, aI r1.1), (6, aI r1.2), (8, aI x1287), (9, aI i1286), (10, aI (w64 (x1743 + (1 : Int)))), (11, aI i1742)]) (L' := []) (obs := []) (by kernel_rfl) (by kernel_rfl) (by kernel_rfl) allP0 ?_
                    refine blockQ_norm ?_
                    exact exQ_mk (by kernel_rfl) (by kernel_rfl)
                  · replace h := ofF h1783 h
                    obtain rfl := Option.some.inj h
                    refine W_skip [1, 5, 6, 8, 9, 10, 11] [] (fr' := [(1, aD (.slice .bool) a1), (5, aI r1.1), (6, aI r1.2), (8, aI x1287), (9, aI i1286), (10, aI x1743), (11, aI i1742)]) (L' := []) (by kernel_rfl) (by kernel_rfl) ?_
                    refine blockQ_norm ?_
                    exact exQ_mk (by kernel_rfl) (by kernel_rfl)
              · intro e fr L hJ
                obtain ⟨rfl, rfl, rfl⟩ := hJ
                refine LT_keep [1, 5, 6, 8, 9, 10, 11] [] (fr' := [(1, aD (.slice .bool) a1), (5, aI r1.1), (6, aI r1.2), (8, aI x1287), (9, aI i1286), (10, aI v1784), (11, aI i1742)]) (L' := []) (by kernel_rfl) ?_
                refine seqQ_norm ?_
                obtain rfl := Option.some.inj h
                refine W_run 3 [] [1, 5, 6, 8, 9, 10, 11] [] (fr' := [(1, aD (.slice .bool) a1), (5, aI r1.1), (6, aI r1.2), (8, aI x1287), (9, aI i1286), (10, aI v1784), (11, aI (w64 (i1742 + (1 : Int))))]) (L' := []) (obs := []) (by kernel_rfl) (by kernel_rfl) (by kernel_rfl) allP0 ?_
                exact round_next' (by kernel_rfl) (by kernel_rfl)
            · obtain rfl := stepL_false h1747 h
              refine W_exit (id := 2) [1, 5, 6, 8, 9, 10] [] (fr' := [(1, aD (.slice .bool) a1), (5, aI r1.1), (6, aI r1.2), (8, aI x1287), (9, aI i1286), (10, aI x1743)]) (L' := []) (by kernel_rfl) (by kernel_rfl) ?_
              refine seqQ_exit ?_
              refine round_exit ?_
              exact exQ_mk (by kernel_rfl) (by kernel_rfl)
          · intro e fr L hJ
            obtain ⟨rfl, rfl, rfl⟩ := hJ
            refine LT_keep [1, 5, 6, 8, 9, 10] [] (fr' := [(1, aD (.slice .bool) a1), (5, aI r1.1), (6, aI r1.2), (8, aI x1287), (9, aI i1286), (10, aI v1787)]) (L' := []) (by kernel_rfl) ?_
            refine blockQ_hit ?_
            refine seqQ_norm ?_
            refine W_seq (by kernel_rfl) ?_
            refine W_run 3 [] [1, 5, 6, 8, 9, 10, 62] [] (fr' := [(1, aD (.slice .bool) a1), (5, aI r1.1), (6, aI r1.2), (8, aI x1287), (9, aI i1286), (10, aI v1787), (62, aB (decide (v1787 > x1287)))]) (L' := []) (obs := []) (by kernel_rfl) (by kernel_rfl) (by kernel_rfl) allP0 ?_
            refine seqQ_norm ?_
            refine W_cond (o := .tmp 62) (b := decide (v1787 > x1287)) (by kernel_rfl) (by kernel_rfl) (fun h1792 => ?_) (fun h1792 => ?_)
            · replace h := ofT h1792 h
              obtain rfl := Option.some.inj h
              refine W_run 2 [] [1, 5, 6, 8, 9] [] (fr' := [(1, aD (.slice .bool) a1), (5, aI r1.1), (6, aI r1.2), (8, aI v1787), (9, aI i1286)]) (L' := []) (obs := []) (by kernel_rfl) (by kernel_rfl) (by kernel_rfl) allP0 ?_
              refine blockQ_norm ?_
              exact exQ_mk (by kernel_rfl) (by kernel_rfl)
            · replace h := ofF h1792 h
              obtain rfl := Option.some.inj h
              refine W_skip [1, 5, 6, 8, 9] [] (fr' := [(1, aD (.slice .bool) a1), (5, aI r1.1), (6, aI r1.2), (8, aI x1287), (9, aI i1286)]) (L' := []) (by kernel_rfl) (by kernel_rfl) ?_
              refine blockQ_norm ?_
              exact exQ_mk (by kernel_rfl) (by kernel_rfl)
        · intro e fr L hJ
          obtain ⟨rfl, rfl, rfl⟩ := hJ
          refine LT_keep [1, 5, 6, 8, 9] [] (fr' := [(1, aD (.slice .bool) a1), (5, aI r1.1), (6, aI r1.2), (8, aI v1793), (9, aI i1286)]) (L' := []) (by kernel_rfl) ?_
          refine seqQ_norm ?_
          obtain rfl := Option.some.inj h
          refine W_run 3 [] [1, 5, 6, 8, 9] [] (fr' := [(1, aD (.slice .bool) a1), (5, aI r1.1), (6, aI r1.2), (8, aI v1793), (9, aI (w64 (i1286 + (1 : Int))))]) (L' := []) (obs := []) (by kernel_rfl) (by kernel_rfl) (by kernel_rfl) allP0 ?_
          exact round_next' (by kernel_rfl) (by kernel_rfl)
      · obtain rfl := stepL_false h1291 h
        refine W_exit (id := 0) [5, 6, 8] [] (fr' := [(5, aI r1.1), (6, aI r1.2), (8, aI x1287)]) (L' := []) (by kernel_rfl) (by kernel_rfl) ?_
        refine seqQ_exit ?_
        refine round_exit ?_
        exact exQ_mk (by kernel_rfl) (by kernel_rfl)
    · intro e fr L hJ
      obtain ⟨rfl, rfl, rfl⟩ := hJ
      refine LT_keep [5, 6, 8] [] (fr' := [(5, aI r1.1), (6, aI r1.2), (8, aI v1796)]) (L' := []) (by kernel_rfl) ?_
      refine blockQ_hit ?_
      refine seqQ_norm ?_
      refine W_seq (by kernel_rfl) ?_
      refine W_run 8 [] [4] [] (fr' := [(4, aB ((r1.2 == (0 : Int)) && (r1.1 == v1796)))]) (L' := []) (obs := []) (by kernel_rfl) (by kernel_rfl) (by kernel_rfl) allP0 ?_
      refine seqQ_norm ?_
      obtain rfl := Option.some.inj h
      refine W_ret [4] [] (fr' := [(4, aB ((r1.2 == (0 : Int)) && (r1.1 == v1796)))]) (L' := []) (by kernel_rfl) (by kernel_rfl) ?_
      exact retQ_mk (by kernel_rfl) (by kernel_rfl) (by kernel_rfl)
end Go.Proofs.Ytnlibkamomlccaa.askTurns
