/- What the functions that AskTrees calls compute, as models, and that they compute it: written by a program of mine. -/
import Derived.Test.YtnlibkamomlccaaProg
import Derived.Test.YtnlibkamomlccaaSl3
set_option linter.all false
set_option maxRecDepth 100000
namespace Go.Proofs.Ytnlibkamomlccaa.askTrees
open Go Go.Sl
def ask_wrong (a0 : Int) (a1 : (List Bool)) (a2 : Int) : Option Int :=
bif (decide (a0 < (0 : Int))) || (decide (a0 > (4 : Int))) then
(some (1 : Int))
else
((ck (0 ≤ a0)).bind fun _ =>
bif (List.length a1 : Int) != (bShl .i64 (1 : Int) a0) then
(some (3 : Int))
else
(bif decide (a2 < (0 : Int)) then
(some (4 : Int))
else
(bif decide (a2 ≥ (bShl .i64 (1 : Int) a0)) then
(some (4 : Int))
else
(some (0 : Int)))))
theorem ask_wrong_ok {a0 : Int} {a1 : (List Bool)} {a2 : Int} {r : Int} (h : ask_wrong a0 a1 a2 = some r) : FnC Try.prog 37 [aI a0, aD (.slice .bool) a1, aI a2] [] (aI r) [] := by
  refine fnC_of_W (B := bodyOf Try.f37) (n := 29) Try.func37 (by kernel_rfl) (by kernel_rfl) (by kernel_rfl) (by kernel_rfl) (by kernel_rfl) ?_
  intro K
  refine W_seq (by kernel_rfl) ?_
  refine W_run 1 [] [0, 1, 2] [] (fr' := [(0, aI a0), (1, aD (.slice .bool) a1), (2, aI a2)]) (L' := []) (obs := []) (by kernel_rfl) (by kernel_rfl) (by kernel_rfl) allP0 ?_
  refine seqQ_norm ?_
  refine W_seq (by kernel_rfl) ?_
  refine W_block (id := 0) (by kernel_rfl) ?_
  refine W_seq (by kernel_rfl) ?_
  refine W_run 7 [] [0, 1, 2, 7] [] (fr' := [(0, aI a0), (1, aD (.slice .bool) a1), (2, aI a2), (7, aB ((decide (a0 < (0 : Int))) || (decide (a0 > (4 : Int)))))]) (L' := []) (obs := []) (by kernel_rfl) (by kernel_rfl) (by kernel_rfl) allP0 ?_
  refine seqQ_norm ?_
  refine W_cond (o := .tmp 7) (b := (decide (a0 < (0 : Int))) || (decide (a0 > (4 : Int)))) (by kernel_rfl) (by kernel_rfl) (fun h1 => ?_) (fun h1 => ?_)
  · replace h := ofT h1 h
    refine W_seq (by kernel_rfl) ?_
    refine W_run 1 [] [6] [] (fr' := [(6, aI (1 : Int))]) (L' := []) (obs := []) (by kernel_rfl) (by kernel_rfl) (by kernel_rfl) allP0 ?_
    refine seqQ_norm ?_
    obtain rfl := Option.some.inj h
    refine W_ret [6] [] (fr' := [(6, aI (1 : Int))]) (L' := []) (by kernel_rfl) (by kernel_rfl) ?_
    refine blockQ_ret ?_
    refine seqQ_ret ?_
    exact retQ_mk (by kernel_rfl) (by kernel_rfl) (by kernel_rfl)
  · replace h := ofF h1 h
    refine W_seq (by kernel_rfl) ?_
    obtain ⟨_, h2, h⟩ := bind_of h
    replace h2 := ck_some h2
    refine W_run 6 [] [0, 2, 14] [] (fr' := [(0, aI a0), (2, aI a2), (14, aB ((List.length a1 : Int) != (bShl .i64 (1 : Int) a0)))]) (L' := []) (obs := [(0 ≤ a0)]) (by kernel_rfl) (by kernel_rfl) (by kernel_rfl) (allP1 h2) ?_
    refine seqQ_norm ?_
    refine W_cond (o := .tmp 14) (b := (List.length a1 : Int) != (bShl .i64 (1 : Int) a0)) (by kernel_rfl) (by kernel_rfl) (fun h3 => ?_) (fun h3 => ?_)
    · replace h := ofT h3 h
      refine W_seq (by kernel_rfl) ?_
      refine W_run 1 [] [6] [] (fr' := [(6, aI (3 : Int))]) (L' := []) (obs := []) (by kernel_rfl) (by kernel_rfl) (by kernel_rfl) allP0 ?_
      refine seqQ_norm ?_
      obtain rfl := Option.some.inj h
      refine W_ret [6] [] (fr' := [(6, aI (3 : Int))]) (L' := []) (by kernel_rfl) (by kernel_rfl) ?_
      refine blockQ_ret ?_
      refine seqQ_ret ?_
      exact retQ_mk (by kernel_rfl) (by kernel_rfl) (by kernel_rfl)
    · replace h := ofF h3 h
      refine W_seq (by kernel_rfl) ?_
      refine W_region (by kernel_rfl) ?_
      refine WO_run (j := 3) (k := 3) (orcs := []) (kF := [0, 2, 23]) (kL := []) (fr' := [(0, aI a0), (2, aI a2), (23, aB (decide (a2 < (0 : Int))))]) (L' := []) (obs := []) rfl (by kernel_rfl) allP0 ?_
      rcases Bool.eq_false_or_eq_true (decide (a2 < (0 : Int))) with h4 | h4
      · replace h := ofT h4 h
        refine WO_run (j := 9) (k := 6) (orcs := [(6, .known true), (8, .known true), (10, .known true), (12, .known true), (15, .val (.dat .bool true))]) (kF := [20]) (kL := []) (fr' := [(20, aB true)]) (L' := []) (obs := [((decide (a2 < (0 : Int))) = true), ((decide (a2 < (0 : Int))) = true), ((decide (a2 < (0 : Int))) = true), ((decide (a2 < (0 : Int))) = true), ((decide (a2 < (0 : Int))) = true)]) rfl (by kernel_rfl) (allP2 h4 (allP2 h4 (allP2 h4 (allP2 h4 (allP1 h4))))) ?_
        refine WO_fin [20] [] (fr' := [(20, aB true)]) (L' := []) (by kernel_rfl) (by kernel_rfl) ?_
        refine seqQ_norm ?_
        refine W_cond (o := .tmp 20) (b := true) (by kernel_rfl) (by kernel_rfl) (fun h5 => ?_) (fun h5 => by have := (rfl : true = true).symm.trans h5; cases this)
        refine W_seq (by kernel_rfl) ?_
        refine W_run 1 [] [6] [] (fr' := [(6, aI (4 : Int))]) (L' := []) (obs := []) (by kernel_rfl) (by kernel_rfl) (by kernel_rfl) allP0 ?_
        refine seqQ_norm ?_
        obtain rfl := Option.some.inj h
        refine W_ret [6] [] (fr' := [(6, aI (4 : Int))]) (L' := []) (by kernel_rfl) (by kernel_rfl) ?_
        refine blockQ_ret ?_
        refine seqQ_ret ?_
        exact retQ_mk (by kernel_rfl) (by kernel_rfl) (by kernel_rfl)
      · replace h := ofF h4 h
        refine WO_run (j := 9) (k := 6) (orcs := [(6, .known false), (8, .known false), (10, .known false), (12, .known false), (15, .val (.dat .bool false))]) (kF := [20]) (kL := []) (fr' := [(20, aB (decide (a2 ≥ (bShl .i64 (1 : Int) a0))))]) (L' := []) (obs := [((decide (a2 < (0 : Int))) = false), ((decide (a2 < (0 : Int))) = false), ((decide (a2 < (0 : Int))) = false), (0 ≤ a0), ((decide (a2 < (0 : Int))) = false), ((decide (a2 < (0 : Int))) = false)]) rfl (by kernel_rfl) (allP2 h4 (allP2 h4 (allP2 h4 (allP2 h2 (allP2 h4 (allP1 h4)))))) ?_
        refine WO_fin [20] [] (fr' := [(20, aB (decide (a2 ≥ (bShl .i64 (1 : Int) a0))))]) (L' := []) (by kernel_rfl) (by kernel_rfl) ?_
        refine seqQ_norm ?_
        refine W_cond (o := .tmp 20) (b := decide (a2 ≥ (bShl .i64 (1 : Int) a0))) (by kernel_rfl) (by kernel_rfl) (fun h6 => ?_) (fun h6 => ?_)
        · replace h := ofT h6 h
          refine W_seq (by kernel_rfl) ?_
          refine W_run 1 [] [6] [] (fr' := [(6, aI (4 : Int))]) (L' := []) (obs := []) (by kernel_rfl) (by kernel_rfl) (by kernel_rfl) allP0 ?_
          refine seqQ_norm ?_
          obtain rfl := Option.some.inj h
          refine W_ret [6] [] (fr' := [(6, aI (4 : Int))]) (L' := []) (by kernel_rfl) (by kernel_rfl) ?_
          refine blockQ_ret ?_
          refine seqQ_ret ?_
          exact retQ_mk (by kernel_rfl) (by kernel_rfl) (by kernel_rfl)
        · replace h := ofF h6 h
          refine W_skip [] [] (fr' := []) (L' := []) (by kernel_rfl) (by kernel_rfl) ?_
          refine blockQ_norm ?_
          refine seqQ_norm ?_
          refine W_seq (by kernel_rfl) ?_
          refine W_run 1 [] [6] [] (fr' := [(6, aI (0 : Int))]) (L' := []) (obs := []) (by kernel_rfl) (by kernel_rfl) (by kernel_rfl) allP0 ?_
          refine seqQ_norm ?_
          obtain rfl := Option.some.inj h
          refine W_ret [6] [] (fr' := [(6, aI (0 : Int))]) (L' := []) (by kernel_rfl) (by kernel_rfl) ?_
          exact retQ_mk (by kernel_rfl) (by kernel_rfl) (by kernel_rfl)

@[reducible] def ask_same_s3 (a0 : (List Bool)) (a1 : Int) (a2 : Int) (i33 : Int) (v : Bool) : Fr × LL := ([(0, aD (.slice .bool) a0), (1, aI a1), (2, aI a2), (9, aD (.slice .bool) a0), (10, aI (List.length a0 : Int)), (11, aI i33), (29, aB v)], [])
def ask_same_b4 (a0 : (List Bool)) (a1 : Int) (a2 : Int) (i33 : Int) (v36 : Bool) (x34 : Unit) : Option (Flow Unit (Esc Bool Unit)) :=
(bif (bAnd .i64 (bXor .i64 a2 i33) a1) == (0 : Int) then
((idx a0 a2).bind fun v46 =>
some (!(v36 == v46)))
else
(some false)).bind fun v48 =>
bif v48 then
(some (.done (.ret false)))
else
(some (.next ()))
@[reducible] def ask_same_s5 (a0 : (List Bool)) (a1 : Int) (a2 : Int) (v : Int × Unit) : Fr × LL := ([(0, aD (.slice .bool) a0), (1, aI a1), (2, aI a2), (9, aD (.slice .bool) a0), (10, aI (List.length a0 : Int)), (11, aI v.1)], [])
@[reducible] def ask_same_s6 (v : Bool) : Fr × LL := ([(6, aB v)], [])
@[reducible] def ask_same_s7 (v : Unit) : Fr × LL := ([], [])
def ask_same (a0 : (List Bool)) (a1 : Int) (a2 : Int) : Option Bool :=
(forL (ask_same_b4 a0 a1 a2) (fun x34 => (.brk ())) a0 0 ()).bind fun v52 =>
match v52 with
| .ret v57 =>
(some v57)
| .brk v58 =>
(some true)
theorem ask_same_ok {a0 : (List Bool)} {a1 : Int} {a2 : Int} {r : Bool} (h : ask_same a0 a1 a2 = some r) : FnC Try.prog 47 [aD (.slice .bool) a0, aI a1, aI a2] [] (aB r) [] := by
  refine fnC_of_W (B := bodyOf Try.f47) (n := 31) Try.func47 (by kernel_rfl) (by kernel_rfl) (by kernel_rfl) (by kernel_rfl) (by kernel_rfl) ?_
  intro K
  refine W_seq (by kernel_rfl) ?_
  refine W_run 1 [] [0, 1, 2] [] (fr' := [(0, aD (.slice .bool) a0), (1, aI a1), (2, aI a2)]) (L' := []) (obs := []) (by kernel_rfl) (by kernel_rfl) (by kernel_rfl) allP0 ?_
  refine seqQ_norm ?_
  refine W_seq (by kernel_rfl) ?_
  refine W_seq (by kernel_rfl) ?_
  refine W_run 3 [] [0, 1, 2, 9, 10, 11] [] (fr' := [(0, aD (.slice .bool) a0), (1, aI a1), (2, aI a2), (9, aD (.slice .bool) a0), (10, aI (List.length a0 : Int)), (11, aI (0 : Int))]) (L' := []) (obs := []) (by kernel_rfl) (by kernel_rfl) (by kernel_rfl) allP0 ?_
  refine seqQ_norm ?_
  refine W_block (id := 0) (by kernel_rfl) ?_
  obtain ⟨v52, h53, h⟩ := bind_of h
  refine W_len (t := 9) (u := .bool) (xs := a0) (by kernel_rfl) (fun h56 => ?_)
  obtain ⟨h54, h55⟩ := forL_iter h56 h53
  refine W_weaken [0, 1, 2, 9, 10, 11] [] (fr' := ((ask_same_s5 a0 a1 a2) ((0 : Int), ())).1) (L' := ((ask_same_s5 a0 a1 a2) ((0 : Int), ())).2) (by kernel_rfl) ?_
  refine W_cutK (W_loop (S := (ask_same_s5 a0 a1 a2)) (J := (escQ (exQ .ret ask_same_s6) (exQ (.exit 0) ask_same_s7))) (by kernel_rfl) ?_ h54 _ v52 h55) ?_
  · rintro ⟨i33, x34⟩ s h
    refine W_seq (by kernel_rfl) ?_
    refine W_run 1 [] [0, 1, 2, 9, 10, 11, 12] [] (fr' := [(0, aD (.slice .bool) a0), (1, aI a1), (2, aI a2), (9, aD (.slice .bool) a0), (10, aI (List.length a0 : Int)), (11, aI i33), (12, aB (decide (i33 < (List.length a0 : Int))))]) (L' := []) (obs := []) (by kernel_rfl) (by kernel_rfl) (by kernel_rfl) allP0 ?_
    refine seqQ_norm ?_
    refine W_seq (by kernel_rfl) ?_
    refine W_cond (o := .tmp 12) (b := decide (i33 < (List.length a0 : Int))) (by kernel_rfl) (by kernel_rfl) (fun h38 => ?_) (fun h38 => ?_)
    · replace h := stepL_true h38 h
      obtain ⟨v36, _, h37, h, rfl⟩ := h
      refine W_skip [0, 1, 2, 9, 10, 11] [] (fr' := [(0, aD (.slice .bool) a0), (1, aI a1), (2, aI a2), (9, aD (.slice .bool) a0), (10, aI (List.length a0 : Int)), (11, aI i33)]) (L' := []) (by kernel_rfl) (by kernel_rfl) ?_
      refine seqQ_norm ?_
      refine W_seq (by kernel_rfl) ?_
      refine W_block (id := 1) (by kernel_rfl) ?_
      refine W_seq (by kernel_rfl) ?_
      refine W_run 5 [(3, .val (.dat .bool v36))] [0, 1, 2, 7, 8, 9, 10, 11] [] (fr' := [(0, aD (.slice .bool) a0), (1, aI a1), (2, aI a2), (7, aI i33), (8, aB v36), (9, aD (.slice .bool) a0), (10, aI (List.length a0 : Int)), (11, aI i33)]) (L' := []) (obs := [Idx a0 i33 v36]) (by kernel_rfl) (by kernel_rfl) (by kernel_rfl) (allP1 (Idx.of h37)) ?_
      refine seqQ_norm ?_
      refine W_seq (by kernel_rfl) ?_
      obtain ⟨v48, h49, h⟩ := bind_of h
      refine W_cutK (Q' := (exQ .normal (ask_same_s3 a0 a1 a2 i33)) v48) ?_ ?_
      · replace h := h49
        refine W_region (by kernel_rfl) ?_
        refine WO_run (j := 7) (k := 7) (orcs := []) (kF := [0, 1, 2, 8, 9, 10, 11, 22]) (kL := []) (fr' := [(0, aD (.slice .bool) a0), (1, aI a1), (2, aI a2), (8, aB v36), (9, aD (.slice .bool) a0), (10, aI (List.length a0 : Int)), (11, aI i33), (22, aB ((bAnd .i64 (bXor .i64 a2 i33) a1) == (0 : Int)))]) (L' := []) (obs := []) rfl (by kernel_rfl) allP0 ?_
        rcases Bool.eq_false_or_eq_true ((bAnd .i64 (bXor .i64 a2 i33) a1) == (0 : Int)) with h45 | h45
        · replace h := ofT h45 h
          obtain ⟨v46, h47, h⟩ := bind_of h
          refine WO_run (j := 14) (k := 7) (orcs := [(14, .known true), (16, .known true), (18, .known true), (20, .known true), (21, .val (.dat .bool v46)), (22, .known true), (24, .known true), (27, .val (.dat .bool true))]) (kF := [0, 1, 2, 9, 10, 11, 29]) (kL := []) (fr' := [(0, aD (.slice .bool) a0), (1, aI a1), (2, aI a2), (9, aD (.slice .bool) a0), (10, aI (List.length a0 : Int)), (11, aI i33), (29, aB (!(v36 == v46)))]) (L' := []) (obs := [(((bAnd .i64 (bXor .i64 a2 i33) a1) == (0 : Int)) = true), (((bAnd .i64 (bXor .i64 a2 i33) a1) == (0 : Int)) = true), (((bAnd .i64 (bXor .i64 a2 i33) a1) == (0 : Int)) = true), (((bAnd .i64 (bXor .i64 a2 i33) a1) == (0 : Int)) = true), Idx a0 a2 v46, (((bAnd .i64 (bXor .i64 a2 i33) a1) == (0 : Int)) = true), (((bAnd .i64 (bXor .i64 a2 i33) a1) == (0 : Int)) = true), (((bAnd .i64 (bXor .i64 a2 i33) a1) == (0 : Int)) = true)]) rfl (by kernel_rfl) (allP2 h45 (allP2 h45 (allP2 h45 (allP2 h45 (allP2 (Idx.of h47) (allP2 h45 (allP2 h45 (allP1 h45)))))))) ?_
          obtain rfl := Option.some.inj h
          refine WO_fin [0, 1, 2, 9, 10, 11, 29] [] (fr' := [(0, aD (.slice .bool) a0), (1, aI a1), (2, aI a2), (9, aD (.slice .bool) a0), (10, aI (List.length a0 : Int)), (11, aI i33), (29, aB (!(v36 == v46)))]) (L' := []) (by kernel_rfl) (by kernel_rfl) ?_
          exact exQ_mk (by kernel_rfl) (by kernel_rfl)
        · replace h := ofF h45 h
          refine WO_run (j := 14) (k := 7) (orcs := [(14, .known false), (16, .known false), (18, .known false), (20, .known false), (22, .known false), (24, .known false), (27, .val (.dat .bool false))]) (kF := [0, 1, 2, 9, 10, 11, 29]) (kL := []) (fr' := [(0, aD (.slice .bool) a0), (1, aI a1), (2, aI a2), (9, aD (.slice .bool) a0), (10, aI (List.length a0 : Int)), (11, aI i33), (29, aB false)]) (L' := []) (obs := [(((bAnd .i64 (bXor .i64 a2 i33) a1) == (0 : Int)) = false), (((bAnd .i64 (bXor .i64 a2 i33) a1) == (0 : Int)) = false), (((bAnd .i64 (bXor .i64 a2 i33) a1) == (0 : Int)) = false), (((bAnd .i64 (bXor .i64 a2 i33) a1) == (0 : Int)) = false), (((bAnd .i64 (bXor .i64 a2 i33) a1) == (0 : Int)) = false), (((bAnd .i64 (bXor .i64 a2 i33) a1) == (0 : Int)) = false), (((bAnd .i64 (bXor .i64 a2 i33) a1) == (0 : Int)) = false)]) rfl (by kernel_rfl) (allP2 h45 (allP2 h45 (allP2 h45 (allP2 h45 (allP2 h45 (allP2 h45 (allP1 h45))))))) ?_
          obtain rfl := Option.some.inj h
          refine WO_fin [0, 1, 2, 9, 10, 11, 29] [] (fr' := [(0, aD (.slice .bool) a0), (1, aI a1), (2, aI a2), (9, aD (.slice .bool) a0), (10, aI (List.length a0 : Int)), (11, aI i33), (29, aB false)]) (L' := []) (by kernel_rfl) (by kernel_rfl) ?_
          exact exQ_mk (by kernel_rfl) (by kernel_rfl)
      · intro e fr L hJ
        obtain ⟨rfl, rfl, rfl⟩ := hJ
        refine LT_keep [0, 1, 2, 9, 10, 11, 29] [] (fr' := [(0, aD (.slice .bool) a0), (1, aI a1), (2, aI a2), (9, aD (.slice .bool) a0), (10, aI (List.length a0 : Int)), (11, aI i33), (29, aB v48)]) (L' := []) (by kernel_rfl) ?_
        refine seqQ_norm ?_
        refine W_cond (o := .tmp 29) (b := v48) (by kernel_rfl) (by kernel_rfl) (fun h50 => ?_) (fun h50 => ?_)
        · replace h := ofT h50 h
          refine W_seq (by kernel_rfl) ?_
          refine W_run 1 [] [6] [] (fr' := [(6, aB false)]) (L' := []) (obs := []) (by kernel_rfl) (by kernel_rfl) (by kernel_rfl) allP0 ?_
          refine seqQ_norm ?_
          obtain rfl := Option.some.inj h
          refine W_ret [6] [] (fr' := [(6, aB false)]) (L' := []) (by kernel_rfl) (by kernel_rfl) ?_
          refine blockQ_ret ?_
          refine seqQ_ret ?_
          refine round_ret ?_
          refine escQ_ret ?_
          exact exQ_mk (by kernel_rfl) (by kernel_rfl)
        · replace h := ofF h50 h
          refine W_skip [0, 1, 2, 9, 10, 11] [] (fr' := [(0, aD (.slice .bool) a0), (1, aI a1), (2, aI a2), (9, aD (.slice .bool) a0), (10, aI (List.length a0 : Int)), (11, aI i33)]) (L' := []) (by kernel_rfl) (by kernel_rfl) ?_
          refine blockQ_norm ?_
          refine seqQ_norm ?_
          obtain rfl := Option.some.inj h
          refine W_run 2 [] [0, 1, 2, 9, 10, 11] [] (fr' := [(0, aD (.slice .bool) a0), (1, aI a1), (2, aI a2), (9, aD (.slice .bool) a0), (10, aI (List.length a0 : Int)), (11, aI (w64 (i33 + (1 : Int))))]) (L' := []) (obs := []) (by kernel_rfl) (by kernel_rfl) (by kernel_rfl) allP0 ?_
          exact round_next' (by kernel_rfl) (by kernel_rfl)
    · obtain rfl := stepL_false h38 h
      refine W_exit (id := 0) [] [] (fr' := []) (L' := []) (by kernel_rfl) (by kernel_rfl) ?_
      refine seqQ_exit ?_
      refine round_exit ?_
      refine escQ_brk ?_
      exact exQ_mk (by kernel_rfl) (by kernel_rfl)
  · intro e fr L hJ
    rcases v52 with v57 | v58
    · obtain ⟨rfl, rfl, rfl⟩ := hJ
      obtain rfl := Option.some.inj h
      refine LT_keep [6] [] (fr' := [(6, aB v57)]) (L' := []) (by kernel_rfl) ?_
      refine blockQ_ret ?_
      refine seqQ_ret ?_
      exact retQ_mk (by kernel_rfl) (by kernel_rfl) (by kernel_rfl)
    · obtain ⟨rfl, rfl, rfl⟩ := hJ
      refine LT_keep [] [] (fr' := []) (L' := []) (by kernel_rfl) ?_
      refine blockQ_hit ?_
      refine seqQ_norm ?_
      refine W_seq (by kernel_rfl) ?_
      refine W_run 1 [] [6] [] (fr' := [(6, aB true)]) (L' := []) (obs := []) (by kernel_rfl) (by kernel_rfl) (by kernel_rfl) allP0 ?_
      refine seqQ_norm ?_
      obtain rfl := Option.some.inj h
      refine W_ret [6] [] (fr' := [(6, aB true)]) (L' := []) (by kernel_rfl) (by kernel_rfl) ?_
      exact retQ_mk (by kernel_rfl) (by kernel_rfl) (by kernel_rfl)

def ask_least_g5 (a0 : Int) (a1 : (List Bool)) (a2 : Int) (a3 : Int) (rf_ask_least : Int → (List Bool) → Int → Int → Option (Int × Int)) (i51 : Int) (x52 : (Int × Int)) : Option (Int × Int) :=
(ck (0 ≤ i51)).bind fun _ =>
bif (bAnd .i64 a2 (bShl .i64 (1 : Int) i51)) != (0 : Int) then
(some (x52.1, x52.2))
else
((rf_ask_least a0 a1 (bOr .i64 a2 (bShl .i64 (1 : Int) i51)) (bClr .i64 a3 (bShl .i64 (1 : Int) i51))).bind fun r71 =>
(rf_ask_least a0 a1 (bOr .i64 a2 (bShl .i64 (1 : Int) i51)) (bOr .i64 a3 (bShl .i64 (1 : Int) i51))).bind fun r73 =>
bif decide ((w64 ((1 : Int) + (imax r71.1 r73.1))) < x52.1) then
(some (w64 ((1 : Int) + (imax r71.1 r73.1)), i51))
else
(some (x52.1, x52.2)))
@[reducible] def ask_least_s6 (a0 : Int) (a1 : (List Bool)) (a2 : Int) (a3 : Int) (i51 : Int) (v : (Int × Int)) : Fr × LL := ([(0, aI a0), (1, aD (.slice .bool) a1), (2, aI a2), (3, aI a3), (10, aI v.1), (11, aI v.2), (25, aI a0), (26, aI i51)], [])
def ask_least_b7 (a0 : Int) (a1 : (List Bool)) (a2 : Int) (a3 : Int) (rf_ask_least : Int → (List Bool) → Int → Int → Option (Int × Int)) (i51 : Int) (x52 : (Int × Int)) : Option (Flow (Int × Int) (Int × Int)) :=
(ask_least_g5 a0 a1 a2 a3 rf_ask_least i51 x52).bind fun v76 =>
some (.next (v76.1, v76.2))
@[reducible] def ask_least_s8 (a0 : Int) (a1 : (List Bool)) (a2 : Int) (a3 : Int) (v : Int × (Int × Int)) : Fr × LL := ([(0, aI a0), (1, aD (.slice .bool) a1), (2, aI a2), (3, aI a3), (10, aI v.2.1), (11, aI v.2.2), (25, aI a0), (26, aI v.1)], [])
@[reducible] def ask_least_s9 (v : (Int × Int)) : Fr × LL := ([(10, aI v.1), (11, aI v.2)], [])
def ask_least_step (rf_ask_least : Int → (List Bool) → Int → Int → Option (Int × Int)) (fuel : Nat) (a0 : Int) (a1 : (List Bool)) (a2 : Int) (a3 : Int) : Option (Int × Int) :=
(ask_same a1 a2 a3).bind fun r1 =>
bif r1 then
(some ((0 : Int), (-1 : Int)))
else
((forI (0 : Int) a0 (ask_least_b7 a0 a1 a2 a3 rf_ask_least) (fun x52 => (x52.1, x52.2)) (w64 (a0 + (1 : Int)), (-1 : Int))).bind fun v79 =>
some (v79.1, v79.2))
def ask_least : Nat → Int → (List Bool) → Int → Int → Option (Int × Int)
  | 0 => fun _ _ _ _ => none
  | fuel + 1 => fun a0 a1 a2 a3 => ask_least_step (ask_least fuel) fuel a0 a1 a2 a3
theorem ask_least_step_ok {rf_ask_least : Int → (List Bool) → Int → Int → Option (Int × Int)} (ih_ask_least : ∀ {a0 : Int} {a1 : (List Bool)} {a2 : Int} {a3 : Int} {r : (Int × Int)}, rf_ask_least a0 a1 a2 a3 = some r → FnC Try.prog 39 [aI a0, aD (.slice .bool) a1, aI a2, aI a3] [] (.tup [.dat tI r.1, .dat tI r.2]) []) {fuel : Nat} {a0 : Int} {a1 : (List Bool)} {a2 : Int} {a3 : Int} {r : (Int × Int)} (h : ask_least_step rf_ask_least fuel a0 a1 a2 a3 = some r) : FnC Try.prog 39 [aI a0, aD (.slice .bool) a1, aI a2, aI a3] [] (.tup [.dat tI r.1, .dat tI r.2]) [] := by
  refine fnC_of_W (B := bodyOf Try.f39) (n := 71) Try.func39 (by kernel_rfl) (by kernel_rfl) (by kernel_rfl) (by kernel_rfl) (by kernel_rfl) ?_
  intro K
  refine W_seq (by kernel_rfl) ?_
  refine W_run 2 [] [0, 1, 2, 3] [] (fr' := [(0, aI a0), (1, aD (.slice .bool) a1), (2, aI a2), (3, aI a3)]) (L' := []) (obs := []) (by kernel_rfl) (by kernel_rfl) (by kernel_rfl) allP0 ?_
  refine seqQ_norm ?_
  refine W_seq (by kernel_rfl) ?_
  refine W_seq (by kernel_rfl) ?_
  refine W_region (by kernel_rfl) ?_
  refine WO_run (j := 3) (k := 3) (orcs := []) (kF := [0, 1, 2, 3, 19, 20, 21]) (kL := []) (fr' := [(0, aI a0), (1, aD (.slice .bool) a1), (2, aI a2), (3, aI a3), (19, aD (.slice .bool) a1), (20, aI a2), (21, aI a3)]) (L' := []) (obs := []) rfl (by kernel_rfl) allP0 ?_
  obtain ⟨r1, h2, h⟩ := bind_of h
  refine WO_call0 (us := [none, none, none]) (d := 22) (p := True) (j := 4) rfl ⟨by kernel_rfl, by kernel_rfl, by kernel_rfl⟩ trivial (ask_same_ok h2) (by kernel_rfl) ?_
  refine WO_fin [0, 1, 2, 3, 22] [] (fr' := [(0, aI a0), (1, aD (.slice .bool) a1), (2, aI a2), (3, aI a3), (22, aB r1)]) (L' := []) (by kernel_rfl) (by kernel_rfl) ?_
  refine seqQ_norm ?_
  refine W_cond (o := .tmp 22) (b := r1) (by kernel_rfl) (by kernel_rfl) (fun h3 => ?_) (fun h3 => ?_)
  · replace h := ofT h3 h
    refine W_seq (by kernel_rfl) ?_
    refine W_run 2 [] [8, 9] [] (fr' := [(8, aI (0 : Int)), (9, aI (-1 : Int))]) (L' := []) (obs := []) (by kernel_rfl) (by kernel_rfl) (by kernel_rfl) allP0 ?_
    refine seqQ_norm ?_
    obtain rfl := Option.some.inj h
    refine W_ret [8, 9] [] (fr' := [(8, aI (0 : Int)), (9, aI (-1 : Int))]) (L' := []) (by kernel_rfl) (by kernel_rfl) ?_
    refine seqQ_ret ?_
    exact retQ_mk (by kernel_rfl) (by kernel_rfl) (by kernel_rfl)
  · replace h := ofF h3 h
    refine W_skip [0, 1, 2, 3] [] (fr' := [(0, aI a0), (1, aD (.slice .bool) a1), (2, aI a2), (3, aI a3)]) (L' := []) (by kernel_rfl) (by kernel_rfl) ?_
    refine seqQ_norm ?_
    refine W_seq (by kernel_rfl) ?_
    refine W_run 4 [] [0, 1, 2, 3, 10, 11] [] (fr' := [(0, aI a0), (1, aD (.slice .bool) a1), (2, aI a2), (3, aI a3), (10, aI (w64 (a0 + (1 : Int)))), (11, aI (-1 : Int))]) (L' := []) (obs := []) (by kernel_rfl) (by kernel_rfl) (by kernel_rfl) allP0 ?_
    refine seqQ_norm ?_
    refine W_seq (by kernel_rfl) ?_
    refine W_seq (by kernel_rfl) ?_
    refine W_run 2 [] [0, 1, 2, 3, 10, 11, 25, 26] [] (fr' := [(0, aI a0), (1, aD (.slice .bool) a1), (2, aI a2), (3, aI a3), (10, aI (w64 (a0 + (1 : Int)))), (11, aI (-1 : Int)), (25, aI a0), (26, aI (0 : Int))]) (L' := []) (obs := []) (by kernel_rfl) (by kernel_rfl) (by kernel_rfl) allP0 ?_
    refine seqQ_norm ?_
    refine W_block (id := 0) (by kernel_rfl) ?_
    obtain ⟨v79, h80, h⟩ := bind_of h
    obtain ⟨h81, h82⟩ := forI_iter h80
    refine W_weaken [0, 1, 2, 3, 10, 11, 25, 26] [] (fr' := ((ask_least_s8 a0 a1 a2 a3) ((0 : Int), (w64 (a0 + (1 : Int)), (-1 : Int)))).1) (L' := ((ask_least_s8 a0 a1 a2 a3) ((0 : Int), (w64 (a0 + (1 : Int)), (-1 : Int)))).2) (by kernel_rfl) ?_
    refine W_cutK (W_loop (S := (ask_least_s8 a0 a1 a2 a3)) (J := (exQ (.exit 0) ask_least_s9)) (by kernel_rfl) ?_ h81 _ v79 h82) ?_
    · rintro ⟨i51, x52⟩ s h
      refine W_seq (by kernel_rfl) ?_
      refine W_run 1 [] [0, 1, 2, 3, 10, 11, 25, 26, 27] [] (fr' := [(0, aI a0), (1, aD (.slice .bool) a1), (2, aI a2), (3, aI a3), (10, aI x52.1), (11, aI x52.2), (25, aI a0), (26, aI i51), (27, aB (decide (i51 < a0)))]) (L' := []) (obs := []) (by kernel_rfl) (by kernel_rfl) (by kernel_rfl) allP0 ?_
      refine seqQ_norm ?_
      refine W_seq (by kernel_rfl) ?_
      refine W_cond (o := .tmp 27) (b := decide (i51 < a0)) (by kernel_rfl) (by kernel_rfl) (fun h54 => ?_) (fun h54 => ?_)
      · replace h := stepI_true h54 h
        obtain ⟨_, h, rfl⟩ := h
        refine W_skip [0, 1, 2, 3, 10, 11, 25, 26] [] (fr' := [(0, aI a0), (1, aD (.slice .bool) a1), (2, aI a2), (3, aI a3), (10, aI x52.1), (11, aI x52.2), (25, aI a0), (26, aI i51)]) (L' := []) (by kernel_rfl) (by kernel_rfl) ?_
        refine seqQ_norm ?_
        refine W_seq (by kernel_rfl) ?_
        obtain ⟨v76, h77, h⟩ := bind_of h
        refine W_cutK (Q' := (exQ .normal (ask_least_s6 a0 a1 a2 a3 i51)) v76) ?_ ?_
        · replace h := h77
          refine W_block (id := 1) (by kernel_rfl) ?_
          refine W_seq (by kernel_rfl) ?_
          refine W_run 2 [] [0, 1, 2, 3, 10, 11, 12, 25, 26] [] (fr' := [(0, aI a0), (1, aD (.slice .bool) a1), (2, aI a2), (3, aI a3), (10, aI x52.1), (11, aI x52.2), (12, aI i51), (25, aI a0), (26, aI i51)]) (L' := []) (obs := []) (by kernel_rfl) (by kernel_rfl) (by kernel_rfl) allP0 ?_
          refine seqQ_norm ?_
          refine W_seq (by kernel_rfl) ?_
          obtain ⟨_, h69, h⟩ := bind_of h
          replace h69 := ck_some h69
          refine W_run 3 [] [0, 1, 2, 3, 10, 11, 12, 13, 25, 26] [] (fr' := [(0, aI a0), (1, aD (.slice .bool) a1), (2, aI a2), (3, aI a3), (10, aI x52.1), (11, aI x52.2), (12, aI i51), (13, aI (bShl .i64 (1 : Int) i51)), (25, aI a0), (26, aI i51)]) (L' := []) (obs := [(0 ≤ i51)]) (by kernel_rfl) (by kernel_rfl) (by kernel_rfl) (allP1 h69) ?_
          refine seqQ_norm ?_
          refine W_seq (by kernel_rfl) ?_
          refine W_seq (by kernel_rfl) ?_
          refine W_run 4 [] [0, 1, 2, 3, 10, 11, 12, 13, 25, 26, 34] [] (fr' := [(0, aI a0), (1, aD (.slice .bool) a1), (2, aI a2), (3, aI a3), (10, aI x52.1), (11, aI x52.2), (12, aI i51), (13, aI (bShl .i64 (1 : Int) i51)), (25, aI a0), (26, aI i51), (34, aB ((bAnd .i64 a2 (bShl .i64 (1 : Int) i51)) != (0 : Int)))]) (L' := []) (obs := []) (by kernel_rfl) (by kernel_rfl) (by kernel_rfl) allP0 ?_
          refine seqQ_norm ?_
          refine W_cond (o := .tmp 34) (b := (bAnd .i64 a2 (bShl .i64 (1 : Int) i51)) != (0 : Int)) (by kernel_rfl) (by kernel_rfl) (fun h70 => ?_) (fun h70 => ?_)
          · replace h := ofT h70 h
            obtain rfl := Option.some.inj h
            refine W_exit (id := 1) [0, 1, 2, 3, 10, 11, 25, 26] [] (fr' := [(0, aI a0), (1, aD (.slice .bool) a1), (2, aI a2), (3, aI a3), (10, aI x52.1), (11, aI x52.2), (25, aI a0), (26, aI i51)]) (L' := []) (by kernel_rfl) (by kernel_rfl) ?_
            refine seqQ_exit ?_
            refine blockQ_hit ?_
            exact exQ_mk (by kernel_rfl) (by kernel_rfl)
          · replace h := ofF h70 h
            refine W_skip [0, 1, 2, 3, 10, 11, 12, 13, 25, 26] [] (fr' := [(0, aI a0), (1, aD (.slice .bool) a1), (2, aI a2), (3, aI a3), (10, aI x52.1), (11, aI x52.2), (12, aI i51), (13, aI (bShl .i64 (1 : Int) i51)), (25, aI a0), (26, aI i51)]) (L' := []) (by kernel_rfl) (by kernel_rfl) ?_
            refine seqQ_norm ?_
            refine W_seq (by kernel_rfl) ?_
            refine W_region (by kernel_rfl) ?_
            refine WO_run (j := 8) (k := 8) (orcs := []) (kF := [0, 1, 2, 3, 10, 11, 12, 13, 25, 26, 36, 37, 40, 43]) (kL := []) (fr' := [(0, aI a0), (1, aD (.slice .bool) a1), (2, aI a2), (3, aI a3), (10, aI x52.1), (11, aI x52.2), (12, aI i51), (13, aI (bShl .i64 (1 : Int) i51)), (25, aI a0), (26, aI i51), (36, aI a0), (37, aD (.slice .bool) a1), (40, aI (bOr .i64 a2 (bShl .i64 (1 : Int) i51))), (43, aI (bClr .i64 a3 (bShl .i64 (1 : Int) i51)))]) (L' := []) (obs := []) rfl (by kernel_rfl) allP0 ?_
            obtain ⟨r71, h72, h⟩ := bind_of h
            refine WO_call0 (us := [none, none, none, none]) (d := 44) (p := True) (j := 9) rfl ⟨by kernel_rfl, by kernel_rfl, by kernel_rfl⟩ trivial (ih_ask_least h72) (by kernel_rfl) ?_
            refine WO_run (j := 14) (k := 5) (orcs := []) (kF := [0, 1, 2, 3, 10, 11, 12, 13, 14, 25, 26]) (kL := []) (fr' := [(0, aI a0), (1, aD (.slice .bool) a1), (2, aI a2), (3, aI a3), (10, aI x52.1), (11, aI x52.2), (12, aI i51), (13, aI (bShl .i64 (1 : Int) i51)), (14, aI r71.1), (25, aI a0), (26, aI i51)]) (L' := []) (obs := []) rfl (by kernel_rfl) allP0 ?_
            refine WO_fin [0, 1, 2, 3, 10, 11, 12, 13, 14, 25, 26] [] (fr' := [(0, aI a0), (1, aD (.slice .bool) a1), (2, aI a2), (3, aI a3), (10, aI x52.1), (11, aI x52.2), (12, aI i51), (13, aI (bShl .i64 (1 : Int) i51)), (14, aI r71.1), (25, aI a0), (26, aI i51)]) (L' := []) (by kernel_rfl) (by kernel_rfl) ?_
            refine seqQ_norm ?_
            refine W_seq (by kernel_rfl) ?_
            refine W_region (by kernel_rfl) ?_
            refine WO_run (j := 8) (k := 8) (orcs := []) (kF := [0, 1, 2, 3, 10, 11, 12, 14, 25, 26, 48, 49, 52, 55]) (kL := []) (fr' := [(0, aI a0), (1, aD (.slice .bool) a1), (2, aI a2), (3, aI a3), (10, aI x52.1), (11, aI x52.2), (12, aI i51), (14, aI r71.1), (25, aI a0), (26, aI i51), (48, aI a0), (49, aD (.slice .bool) a1), (52, aI (bOr .i64 a2 (bShl .i64 (1 : Int) i51))), (55, aI (bOr .i64 a3 (bShl .i64 (1 : Int) i51)))]) (L' := []) (obs := []) rfl (by kernel_rfl) allP0 ?_
            obtain ⟨r73, h74, h⟩ := bind_of h
            refine WO_call0 (us := [none, none, none, none]) (d := 56) (p := True) (j := 9) rfl ⟨by kernel_rfl, by kernel_rfl, by kernel_rfl⟩ trivial (ih_ask_least h74) (by kernel_rfl) ?_
            refine WO_run (j := 14) (k := 5) (orcs := []) (kF := [0, 1, 2, 3, 10, 11, 12, 14, 16, 25, 26]) (kL := []) (fr' := [(0, aI a0), (1, aD (.slice .bool) a1), (2, aI a2), (3, aI a3), (10, aI x52.1), (11, aI x52.2), (12, aI i51), (14, aI r71.1), (16, aI r73.1), (25, aI a0), (26, aI i51)]) (L' := []) (obs := []) rfl (by kernel_rfl) allP0 ?_
            refine WO_fin [0, 1, 2, 3, 10, 11, 12, 14, 16, 25, 26] [] (fr' := [(0, aI a0), (1, aD (.slice .bool) a1), (2, aI a2), (3, aI a3), (10, aI x52.1), (11, aI x52.2), (12, aI i51), (14, aI r71.1), (16, aI r73.1), (25, aI a0), (26, aI i51)]) (L' := []) (by kernel_rfl) (by kernel_rfl) ?_
            refine seqQ_norm ?_
            refine W_seq (by kernel_rfl) ?_
            refine W_run 5 [] [0, 1, 2, 3, 10, 11, 12, 18, 25, 26] [] (fr' := [(0, aI a0), (1, aD (.slice .bool) a1), (2, aI a2), (3, aI a3), (10, aI x52.1), (11, aI x52.2), (12, aI i51), (18, aI (w64 ((1 : Int) + (imax r71.1 r73.1)))), (25, aI a0), (26, aI i51)]) (L' := []) (obs := []) (by kernel_rfl) (by kernel_rfl) (by kernel_rfl) allP0 ?_
            refine seqQ_norm ?_
            refine W_seq (by kernel_rfl) ?_
            refine W_run 3 [] [0, 1, 2, 3, 10, 11, 12, 18, 25, 26, 65] [] (fr' := [(0, aI a0), (1, aD (.slice .bool) a1), (2, aI a2), (3, aI a3), (10, aI x52.1), (11, aI x52.2), (12, aI i51), (18, aI (w64 ((1 : Int) + (imax r71.1 r73.1)))), (25, aI a0), (26, aI i51), (65, aB (decide ((w64 ((1 : Int) + (imax r71.1 r73.1))) < x52.1)))]) (L' := []) (obs := []) (by kernel_rfl) (by kernel_rfl) (by kernel_rfl) allP0 ?_
            refine seqQ_norm ?_
            refine W_cond (o := .tmp 65) (b := decide ((w64 ((1 : Int) + (imax r71.1 r73.1))) < x52.1)) (by kernel_rfl) (by kernel_rfl) (fun h75 => ?_) (fun h75 => ?_)
            · replace h := ofT h75 h
              obtain rfl := Option.some.inj h
              refine W_run 4 [] [0, 1, 2, 3, 10, 11, 25, 26] [] (fr' := [(0, aI a0), (1, aD (.slice .bool) a1), (2, aI a2), (3, aI a3), (10, aI (w64 ((1 : Int) + (imax r71.1 r73.1)))), (11, aI i51), (25, aI a0), (26, aI i51)]) (L' := []) (obs := []) (by kernel_rfl) (by kernel_rfl) (by kernel_rfl) allP0 ?_
              refine blockQ_norm ?_
              exact exQ_mk (by kernel_rfl) (by kernel_rfl)
            · replace h := ofF h75 h
              obtain rfl := Option.some.inj h
              refine W_skip [0, 1, 2, 3, 10, 11, 25, 26] [] (fr' := [(0, aI a0), (1, aD (.slice .bool) a1), (2, aI a2), (3, aI a3), (10, aI x52.1), (11, aI x52.2), (25, aI a0), (26, aI i51)]) (L' := []) (by kernel_rfl) (by kernel_rfl) ?_
              refine blockQ_norm ?_
              exact exQ_mk (by kernel_rfl) (by kernel_rfl)
        · intro e fr L hJ
          obtain ⟨rfl, rfl, rfl⟩ := hJ
          refine LT_keep [0, 1, 2, 3, 10, 11, 25, 26] [] (fr' := [(0, aI a0), (1, aD (.slice .bool) a1), (2, aI a2), (3, aI a3), (10, aI v76.1), (11, aI v76.2), (25, aI a0), (26, aI i51)]) (L' := []) (by kernel_rfl) ?_
          refine seqQ_norm ?_
          obtain rfl := Option.some.inj h
          refine W_run 2 [] [0, 1, 2, 3, 10, 11, 25, 26] [] (fr' := [(0, aI a0), (1, aD (.slice .bool) a1), (2, aI a2), (3, aI a3), (10, aI v76.1), (11, aI v76.2), (25, aI a0), (26, aI (w64 (i51 + (1 : Int))))]) (L' := []) (obs := []) (by kernel_rfl) (by kernel_rfl) (by kernel_rfl) allP0 ?_
          exact round_next' (by kernel_rfl) (by kernel_rfl)
      · obtain rfl := stepI_false h54 h
        refine W_exit (id := 0) [10, 11] [] (fr' := [(10, aI x52.1), (11, aI x52.2)]) (L' := []) (by kernel_rfl) (by kernel_rfl) ?_
        refine seqQ_exit ?_
        refine round_exit ?_
        exact exQ_mk (by kernel_rfl) (by kernel_rfl)
    · intro e fr L hJ
      obtain ⟨rfl, rfl, rfl⟩ := hJ
      refine LT_keep [10, 11] [] (fr' := [(10, aI v79.1), (11, aI v79.2)]) (L' := []) (by kernel_rfl) ?_
      refine blockQ_hit ?_
      refine seqQ_norm ?_
      refine W_seq (by kernel_rfl) ?_
      refine W_run 4 [] [8, 9] [] (fr' := [(8, aI v79.1), (9, aI v79.2)]) (L' := []) (obs := []) (by kernel_rfl) (by kernel_rfl) (by kernel_rfl) allP0 ?_
      refine seqQ_norm ?_
      obtain rfl := Option.some.inj h
      refine W_ret [8, 9] [] (fr' := [(8, aI v79.1), (9, aI v79.2)]) (L' := []) (by kernel_rfl) (by kernel_rfl) ?_
      exact retQ_mk (by kernel_rfl) (by kernel_rfl) (by kernel_rfl)
theorem ask_least_ok : ∀ {fuel : Nat} {a0 : Int} {a1 : (List Bool)} {a2 : Int} {a3 : Int} {r : (Int × Int)}, ask_least fuel a0 a1 a2 a3 = some r → FnC Try.prog 39 [aI a0, aD (.slice .bool) a1, aI a2, aI a3] [] (.tup [.dat tI r.1, .dat tI r.2]) [] := by
  intro fuel
  induction fuel with
  | zero => intros a0 a1 a2 a3 r h; cases h
  | succ fuel ih => intros a0 a1 a2 a3 r h; exact ask_least_step_ok (fun h => ih h) (show ask_least_step (ask_least fuel) fuel a0 a1 a2 a3 = some r from h)

def ask_maker_put_i3_step (rf_ask_maker_put_i3 : Int → Int → Int → (List Bool) → (List (Int × (Int × Int))) → Option (Int × Int × (List Bool) × (List (Int × (Int × Int))))) (fuel : Nat) (a1 : Int) (a2 : Int) (c0 : Int) (c1 : (List Bool)) (c2 : (List (Int × (Int × Int)))) : Option (Int × Int × (List Bool) × (List (Int × (Int × Int)))) :=
(ask_least fuel c0 c1 a1 a2).bind fun r1 =>
bif (decide (r1.2 < (0 : Int))) && (decide (a1 > (0 : Int))) then
((idx c1 a2).bind fun v4 =>
bif v4 then
(some ((-2 : Int), c0, c1, c2))
else
(some ((-1 : Int), c0, c1, c2)))
else
((ck (0 ≤ imax r1.2 (0 : Int))).bind fun _ =>
(rf_ask_maker_put_i3 (bOr .i64 a1 (bShl .i64 (1 : Int) (imax r1.2 (0 : Int)))) (bClr .i64 a2 (bShl .i64 (1 : Int) (imax r1.2 (0 : Int)))) c0 c1 c2).bind fun r8 =>
(rf_ask_maker_put_i3 (bOr .i64 a1 (bShl .i64 (1 : Int) (imax r1.2 (0 : Int)))) (bOr .i64 a2 (bShl .i64 (1 : Int) (imax r1.2 (0 : Int)))) r8.2.1 r8.2.2.1 r8.2.2.2).bind fun r10 =>
(ck ((List.length r10.2.2.2 : Int) + 1 ≤ 4294967296)).bind fun _ =>
some (w64 ((List.length (r10.2.2.2 ++ [(imax r1.2 (0 : Int), r8.1, r10.1)]) : Int) - (1 : Int)), r10.2.1, r10.2.2.1, r10.2.2.2 ++ [(imax r1.2 (0 : Int), r8.1, r10.1)]))
def ask_maker_put_i3 : Nat → Int → Int → Int → (List Bool) → (List (Int × (Int × Int))) → Option (Int × Int × (List Bool) × (List (Int × (Int × Int))))
  | 0 => fun _ _ _ _ _ => none
  | fuel + 1 => fun a1 a2 c0 c1 c2 => ask_maker_put_i3_step (ask_maker_put_i3 fuel) fuel a1 a2 c0 c1 c2
theorem ask_maker_put_i3_step_ok {rf_ask_maker_put_i3 : Int → Int → Int → (List Bool) → (List (Int × (Int × Int))) → Option (Int × Int × (List Bool) × (List (Int × (Int × Int))))} (ih_ask_maker_put_i3 : ∀ {a1 : Int} {a2 : Int} {c0 : Int} {c1 : (List Bool)} {c2 : (List (Int × (Int × Int)))} {r : (Int × Int × (List Bool) × (List (Int × (Int × Int))))}, rf_ask_maker_put_i3 a1 a2 c0 c1 c2 = some r → FnC Try.prog 41 [.one (.ptr 1000 0), aI a1, aI a2] [(1000, .cells [.dat tI c0, .dat (.slice .bool) c1, .slc 2001]), (2001, .seq (.pair tI (.pair tI tI)) c2)] (aI r.1) [(1000, .cells [.dat tI r.2.1, .dat (.slice .bool) r.2.2.1, .slc 2001]), (2001, .seq (.pair tI (.pair tI tI)) r.2.2.2)]) {fuel : Nat} {a1 : Int} {a2 : Int} {c0 : Int} {c1 : (List Bool)} {c2 : (List (Int × (Int × Int)))} {r : (Int × Int × (List Bool) × (List (Int × (Int × Int))))} (h : ask_maker_put_i3_step rf_ask_maker_put_i3 fuel a1 a2 c0 c1 c2 = some r) : FnC Try.prog 41 [.one (.ptr 1000 0), aI a1, aI a2] [(1000, .cells [.dat tI c0, .dat (.slice .bool) c1, .slc 2001]), (2001, .seq (.pair tI (.pair tI tI)) c2)] (aI r.1) [(1000, .cells [.dat tI r.2.1, .dat (.slice .bool) r.2.2.1, .slc 2001]), (2001, .seq (.pair tI (.pair tI tI)) r.2.2.2)] := by
  refine fnC_of_W (B := bodyOf Try.f41) (n := 78) Try.func41 (by kernel_rfl) (by kernel_rfl) (by kernel_rfl) (by kernel_rfl) (by kernel_rfl) ?_
  intro K
  refine W_seq (by kernel_rfl) ?_
  refine W_run 1 [] [0, 1, 2] [1000, 2001] (fr' := [(0, .one (.ptr 1000 0)), (1, aI a1), (2, aI a2)]) (L' := [(1000, .cells [.dat tI c0, .dat (.slice .bool) c1, .slc 2001]), (2001, .seq (.pair tI (.pair tI tI)) c2)]) (obs := []) (by kernel_rfl) (by kernel_rfl) (by kernel_rfl) allP0 ?_
  refine seqQ_norm ?_
  refine W_seq (by kernel_rfl) ?_
  obtain ⟨r1, h2, h⟩ := bind_of h
  refine W_draw2 15 [] [(10, [none, none, none, none], .tup [.dat tI r1.1, .dat tI r1.2])] [0, 1, 2, 8] [1000, 2001] (fr' := [(0, .one (.ptr 1000 0)), (1, aI a1), (2, aI a2), (8, aI r1.2)]) (L' := [(1000, .cells [.dat tI c0, .dat (.slice .bool) c1, .slc 2001]), (2001, .seq (.pair tI (.pair tI tI)) c2)]) (out := [(13, .one (.ptr 1000 0)), (14, .one (.ptr 1000 0)), (15, .one (.ptr 1000 0)), (16, aI c0), (17, .one (.ptr 1000 0)), (18, .one (.ptr 1000 0)), (19, .one (.ptr 1000 1)), (20, aD (.slice .bool) c1), (21, aI a1), (22, aI a2), (23, .tup [.dat tI r1.1, .dat tI r1.2]), (12, .tup [.dat tI r1.1, .dat tI r1.2]), (24, aI r1.1), (25, aI r1.2), (7, aI r1.1)]) (obs := [True]) (obs2 := []) (calls := [(39, [aI c0, aD (.slice .bool) c1, aI a1, aI a2], .tup [.dat tI r1.1, .dat tI r1.2])]) (by kernel_rfl) (by kernel_rfl) (by kernel_rfl) (by kernel_rfl) (allP1 trivial) (allC1 (by kernel_rfl) (ask_least_ok h2) (by kernel_rfl) allC0) (by kernel_rfl) allP0 ?_
  refine seqQ_norm ?_
  refine W_seq (by kernel_rfl) ?_
  refine W_seq (by kernel_rfl) ?_
  refine W_run 6 [] [0, 1, 2, 8, 31] [1000, 2001] (fr' := [(0, .one (.ptr 1000 0)), (1, aI a1), (2, aI a2), (8, aI r1.2), (31, aB ((decide (r1.2 < (0 : Int))) && (decide (a1 > (0 : Int)))))]) (L' := [(1000, .cells [.dat tI c0, .dat (.slice .bool) c1, .slc 2001]), (2001, .seq (.pair tI (.pair tI tI)) c2)]) (obs := []) (by kernel_rfl) (by kernel_rfl) (by kernel_rfl) allP0 ?_
  refine seqQ_norm ?_
  refine W_cond (o := .tmp 31) (b := (decide (r1.2 < (0 : Int))) && (decide (a1 > (0 : Int)))) (by kernel_rfl) (by kernel_rfl) (fun h3 => ?_) (fun h3 => ?_)
  · replace h := ofT h3 h
    refine W_seq (by kernel_rfl) ?_
    refine W_seq (by kernel_rfl) ?_
    obtain ⟨v4, h5, h⟩ := bind_of h
    refine W_run 7 [(11, .val (.dat .bool v4))] [38] [1000, 2001] (fr' := [(38, aB v4)]) (L' := [(1000, .cells [.dat tI c0, .dat (.slice .bool) c1, .slc 2001]), (2001, .seq (.pair tI (.pair tI tI)) c2)]) (obs := [Idx c1 a2 v4]) (by kernel_rfl) (by kernel_rfl) (by kernel_rfl) (allP1 (Idx.of h5)) ?_
    refine seqQ_norm ?_
    refine W_cond (o := .tmp 38) (b := v4) (by kernel_rfl) (by kernel_rfl) (fun h6 => ?_) (fun h6 => ?_)
    · replace h := ofT h6 h
      refine W_seq (by kernel_rfl) ?_
      refine W_run 1 [] [6] [1000, 2001] (fr' := [(6, aI (-2 : Int))]) (L' := [(1000, .cells [.dat tI c0, .dat (.slice .bool) c1, .slc 2001]), (2001, .seq (.pair tI (.pair tI tI)) c2)]) (obs := []) (by kernel_rfl) (by kernel_rfl) (by kernel_rfl) allP0 ?_
      refine seqQ_norm ?_
      obtain rfl := Option.some.inj h
      refine W_ret [6] [1000, 2001] (fr' := [(6, aI (-2 : Int))]) (L' := [(1000, .cells [.dat tI c0, .dat (.slice .bool) c1, .slc 2001]), (2001, .seq (.pair tI (.pair tI tI)) c2)]) (by kernel_rfl) (by kernel_rfl) ?_
      refine seqQ_ret ?_
      refine seqQ_ret ?_
      exact retQ_mk (by kernel_rfl) (by kernel_rfl) (by kernel_rfl)
    · replace h := ofF h6 h
      refine W_skip [] [1000, 2001] (fr' := []) (L' := [(1000, .cells [.dat tI c0, .dat (.slice .bool) c1, .slc 2001]), (2001, .seq (.pair tI (.pair tI tI)) c2)]) (by kernel_rfl) (by kernel_rfl) ?_
      refine seqQ_norm ?_
      refine W_seq (by kernel_rfl) ?_
      refine W_run 1 [] [6] [1000, 2001] (fr' := [(6, aI (-1 : Int))]) (L' := [(1000, .cells [.dat tI c0, .dat (.slice .bool) c1, .slc 2001]), (2001, .seq (.pair tI (.pair tI tI)) c2)]) (obs := []) (by kernel_rfl) (by kernel_rfl) (by kernel_rfl) allP0 ?_
      refine seqQ_norm ?_
      obtain rfl := Option.some.inj h
      refine W_ret [6] [1000, 2001] (fr' := [(6, aI (-1 : Int))]) (L' := [(1000, .cells [.dat tI c0, .dat (.slice .bool) c1, .slc 2001]), (2001, .seq (.pair tI (.pair tI tI)) c2)]) (by kernel_rfl) (by kernel_rfl) ?_
      refine seqQ_ret ?_
      exact retQ_mk (by kernel_rfl) (by kernel_rfl) (by kernel_rfl)
  · replace h := ofF h3 h
    refine W_skip [0, 1, 2, 8] [1000, 2001] (fr' := [(0, .one (.ptr 1000 0)), (1, aI a1), (2, aI a2), (8, aI r1.2)]) (L' := [(1000, .cells [.dat tI c0, .dat (.slice .bool) c1, .slc 2001]), (2001, .seq (.pair tI (.pair tI tI)) c2)]) (by kernel_rfl) (by kernel_rfl) ?_
    refine seqQ_norm ?_
    refine W_seq (by kernel_rfl) ?_
    refine W_run 3 [] [0, 1, 2, 8] [1000, 2001] (fr' := [(0, .one (.ptr 1000 0)), (1, aI a1), (2, aI a2), (8, aI (imax r1.2 (0 : Int)))]) (L' := [(1000, .cells [.dat tI c0, .dat (.slice .bool) c1, .slc 2001]), (2001, .seq (.pair tI (.pair tI tI)) c2)]) (obs := []) (by kernel_rfl) (by kernel_rfl) (by kernel_rfl) allP0 ?_
    refine seqQ_norm ?_
    refine W_seq (by kernel_rfl) ?_
    obtain ⟨_, h7, h⟩ := bind_of h
    replace h7 := ck_some h7
    refine W_run 3 [] [0, 1, 2, 8, 9] [1000, 2001] (fr' := [(0, .one (.ptr 1000 0)), (1, aI a1), (2, aI a2), (8, aI (imax r1.2 (0 : Int))), (9, aI (bShl .i64 (1 : Int) (imax r1.2 (0 : Int))))]) (L' := [(1000, .cells [.dat tI c0, .dat (.slice .bool) c1, .slc 2001]), (2001, .seq (.pair tI (.pair tI tI)) c2)]) (obs := [(0 ≤ imax r1.2 (0 : Int))]) (by kernel_rfl) (by kernel_rfl) (by kernel_rfl) (allP1 h7) ?_
    refine seqQ_norm ?_
    refine W_seq (by kernel_rfl) ?_
    refine W_region (by kernel_rfl) ?_
    refine WO_run (j := 7) (k := 7) (orcs := []) (kF := [0, 1, 2, 8, 9, 43, 46, 49]) (kL := [1000, 2001]) (fr' := [(0, .one (.ptr 1000 0)), (1, aI a1), (2, aI a2), (8, aI (imax r1.2 (0 : Int))), (9, aI (bShl .i64 (1 : Int) (imax r1.2 (0 : Int)))), (43, .one (.ptr 1000 0)), (46, aI (bOr .i64 a1 (bShl .i64 (1 : Int) (imax r1.2 (0 : Int))))), (49, aI (bClr .i64 a2 (bShl .i64 (1 : Int) (imax r1.2 (0 : Int)))))]) (L' := [(1000, .cells [.dat tI c0, .dat (.slice .bool) c1, .slc 2001]), (2001, .seq (.pair tI (.pair tI tI)) c2)]) (obs := []) rfl (by kernel_rfl) allP0 ?_
    obtain ⟨r8, h9, h⟩ := bind_of h
    refine WO_lend2 [(1000, 1000), (2001, 2001)] (us := [none, none, none]) (d := 50) (p := True) (j := 8) rfl ⟨by kernel_rfl, by kernel_rfl, by kernel_rfl⟩ trivial (ih_ask_maker_put_i3 h9) (by kernel_rfl) (by kernel_rfl) ?_
    refine WO_run (j := 9) (k := 1) (orcs := []) (kF := [0, 1, 2, 8, 9, 10]) (kL := [1000, 2001]) (fr' := [(0, .one (.ptr 1000 0)), (1, aI a1), (2, aI a2), (8, aI (imax r1.2 (0 : Int))), (9, aI (bShl .i64 (1 : Int) (imax r1.2 (0 : Int)))), (10, aI r8.1)]) (L' := [(1000, .cells [.dat tI r8.2.1, .dat (.slice .bool) r8.2.2.1, .slc 2001]), (2001, .seq (.pair tI (.pair tI tI)) r8.2.2.2)]) (obs := []) rfl (by kernel_rfl) allP0 ?_
    refine WO_fin [0, 1, 2, 8, 9, 10] [1000, 2001] (fr' := [(0, .one (.ptr 1000 0)), (1, aI a1), (2, aI a2), (8, aI (imax r1.2 (0 : Int))), (9, aI (bShl .i64 (1 : Int) (imax r1.2 (0 : Int)))), (10, aI r8.1)]) (L' := [(1000, .cells [.dat tI r8.2.1, .dat (.slice .bool) r8.2.2.1, .slc 2001]), (2001, .seq (.pair tI (.pair tI tI)) r8.2.2.2)]) (by kernel_rfl) (by kernel_rfl) ?_
    refine seqQ_norm ?_
    refine W_seq (by kernel_rfl) ?_
    refine W_region (by kernel_rfl) ?_
    refine WO_run (j := 7) (k := 7) (orcs := []) (kF := [0, 8, 10, 51, 54, 57]) (kL := [1000, 2001]) (fr' := [(0, .one (.ptr 1000 0)), (8, aI (imax r1.2 (0 : Int))), (10, aI r8.1), (51, .one (.ptr 1000 0)), (54, aI (bOr .i64 a1 (bShl .i64 (1 : Int) (imax r1.2 (0 : Int))))), (57, aI (bOr .i64 a2 (bShl .i64 (1 : Int) (imax r1.2 (0 : Int)))))]) (L' := [(1000, .cells [.dat tI r8.2.1, .dat (.slice .bool) r8.2.2.1, .slc 2001]), (2001, .seq (.pair tI (.pair tI tI)) r8.2.2.2)]) (obs := []) rfl (by kernel_rfl) allP0 ?_
    obtain ⟨r10, h11, h⟩ := bind_of h
    refine WO_lend2 [(1000, 1000), (2001, 2001)] (us := [none, none, none]) (d := 58) (p := True) (j := 8) rfl ⟨by kernel_rfl, by kernel_rfl, by kernel_rfl⟩ trivial (ih_ask_maker_put_i3 h11) (by kernel_rfl) (by kernel_rfl) ?_
    refine WO_run (j := 9) (k := 1) (orcs := []) (kF := [0, 8, 10, 11]) (kL := [1000, 2001]) (fr' := [(0, .one (.ptr 1000 0)), (8, aI (imax r1.2 (0 : Int))), (10, aI r8.1), (11, aI r10.1)]) (L' := [(1000, .cells [.dat tI r10.2.1, .dat (.slice .bool) r10.2.2.1, .slc 2001]), (2001, .seq (.pair tI (.pair tI tI)) r10.2.2.2)]) (obs := []) rfl (by kernel_rfl) allP0 ?_
    refine WO_fin [0, 8, 10, 11] [1000, 2001] (fr' := [(0, .one (.ptr 1000 0)), (8, aI (imax r1.2 (0 : Int))), (10, aI r8.1), (11, aI r10.1)]) (L' := [(1000, .cells [.dat tI r10.2.1, .dat (.slice .bool) r10.2.2.1, .slc 2001]), (2001, .seq (.pair tI (.pair tI tI)) r10.2.2.2)]) (by kernel_rfl) (by kernel_rfl) ?_
    refine seqQ_norm ?_
    refine W_seq (by kernel_rfl) ?_
    obtain ⟨_, h12, h⟩ := bind_of h
    replace h12 := ck_some h12
    refine W_run 14 [] [0] [1000, 2001] (fr' := [(0, .one (.ptr 1000 0))]) (L' := [(1000, .cells [.dat tI r10.2.1, .dat (.slice .bool) r10.2.2.1, .slc 2001]), (2001, .seq (.pair tI (.pair tI tI)) (r10.2.2.2 ++ [(imax r1.2 (0 : Int), r8.1, r10.1)]))]) (obs := [SmallLen (List.length r10.2.2.2 + List.length [(imax r1.2 (0 : Int), r8.1, r10.1)]), True]) (by kernel_rfl) (by kernel_rfl) (by kernel_rfl) (allP2 h12 (allP1 trivial)) ?_
    refine seqQ_norm ?_
    refine W_seq (by kernel_rfl) ?_
    refine W_run 7 [] [6] [1000, 2001] (fr' := [(6, aI (w64 ((List.length (r10.2.2.2 ++ [(imax r1.2 (0 : Int), r8.1, r10.1)]) : Int) - (1 : Int))))]) (L' := [(1000, .cells [.dat tI r10.2.1, .dat (.slice .bool) r10.2.2.1, .slc 2001]), (2001, .seq (.pair tI (.pair tI tI)) (r10.2.2.2 ++ [(imax r1.2 (0 : Int), r8.1, r10.1)]))]) (obs := []) (by kernel_rfl) (by kernel_rfl) (by kernel_rfl) allP0 ?_
    refine seqQ_norm ?_
    obtain rfl := Option.some.inj h
    refine W_ret [6] [1000, 2001] (fr' := [(6, aI (w64 ((List.length (r10.2.2.2 ++ [(imax r1.2 (0 : Int), r8.1, r10.1)]) : Int) - (1 : Int))))]) (L' := [(1000, .cells [.dat tI r10.2.1, .dat (.slice .bool) r10.2.2.1, .slc 2001]), (2001, .seq (.pair tI (.pair tI tI)) (r10.2.2.2 ++ [(imax r1.2 (0 : Int), r8.1, r10.1)]))]) (by kernel_rfl) (by kernel_rfl) ?_
    exact retQ_mk (by kernel_rfl) (by kernel_rfl) (by kernel_rfl)
theorem ask_maker_put_i3_ok : ∀ {fuel : Nat} {a1 : Int} {a2 : Int} {c0 : Int} {c1 : (List Bool)} {c2 : (List (Int × (Int × Int)))} {r : (Int × Int × (List Bool) × (List (Int × (Int × Int))))}, ask_maker_put_i3 fuel a1 a2 c0 c1 c2 = some r → FnC Try.prog 41 [.one (.ptr 1000 0), aI a1, aI a2] [(1000, .cells [.dat tI c0, .dat (.slice .bool) c1, .slc 2001]), (2001, .seq (.pair tI (.pair tI tI)) c2)] (aI r.1) [(1000, .cells [.dat tI r.2.1, .dat (.slice .bool) r.2.2.1, .slc 2001]), (2001, .seq (.pair tI (.pair tI tI)) r.2.2.2)] := by
  intro fuel
  induction fuel with
  | zero => intros a1 a2 c0 c1 c2 r h; cases h
  | succ fuel ih => intros a1 a2 c0 c1 c2 r h; exact ask_maker_put_i3_step_ok (fun h => ih h) (show ask_maker_put_i3_step (ask_maker_put_i3 fuel) fuel a1 a2 c0 c1 c2 = some r from h)

def ask_Tree_g1 (a0 : Int) (a1 : (List Bool)) (fuel : Nat) : Option (Int × (List Bool) × (List (Int × (Int × Int)))) :=
bif decide (a0 > (0 : Int)) then
((ask_maker_put_i3 fuel (0 : Int) (0 : Int) a0 a1 []).bind fun r11 =>
some (r11.2.1, r11.2.2.1, r11.2.2.2))
else
(some (a0, a1, []))
@[reducible] def ask_Tree_s2 (v : (Int × (List Bool) × (List (Int × (Int × Int))))) : Fr × LL := ([(7, .one (.ptr 17 0))], [(17, .cells [.dat tI v.1, .dat (.slice .bool) v.2.1, .slc 998]), (998, .seq (.pair tI (.pair tI tI)) v.2.2)])
def ask_Tree (fuel : Nat) (a0 : Int) (a1 : (List Bool)) : Option ((List (Int × (Int × Int))) × Int) :=
(ask_wrong a0 a1 (0 : Int)).bind fun r1 =>
bif r1 != (0 : Int) then
(some ([], r1))
else
((ask_Tree_g1 a0 a1 fuel).bind fun v13 =>
some (v13.2.2, (0 : Int)))
theorem ask_Tree_ok {fuel : Nat} {a0 : Int} {a1 : (List Bool)} {r : ((List (Int × (Int × Int))) × Int)} (h : ask_Tree fuel a0 a1 = some r) : FnC Try.prog 24 [aI a0, aD (.slice .bool) a1] [] (.tup [.dat (.slice (.pair tI (.pair tI tI))) r.1, .dat tI r.2]) [] := by
  refine fnC_of_W (B := bodyOf Try.f24) (n := 26) Try.func24 (by kernel_rfl) (by kernel_rfl) (by kernel_rfl) (by kernel_rfl) (by kernel_rfl) ?_
  intro K
  refine W_seq (by kernel_rfl) ?_
  refine W_run 2 [] [0, 1] [] (fr' := [(0, aI a0), (1, aD (.slice .bool) a1)]) (L' := []) (obs := []) (by kernel_rfl) (by kernel_rfl) (by kernel_rfl) allP0 ?_
  refine seqQ_norm ?_
  refine W_seq (by kernel_rfl) ?_
  refine W_seq (by kernel_rfl) ?_
  refine W_region (by kernel_rfl) ?_
  refine WO_run (j := 2) (k := 2) (orcs := []) (kF := [0, 1, 8, 9]) (kL := []) (fr' := [(0, aI a0), (1, aD (.slice .bool) a1), (8, aI a0), (9, aD (.slice .bool) a1)]) (L' := []) (obs := []) rfl (by kernel_rfl) allP0 ?_
  obtain ⟨r1, h2, h⟩ := bind_of h
  refine WO_call0 (us := [none, none, none]) (d := 10) (p := True) (j := 3) rfl ⟨by kernel_rfl, by kernel_rfl, by kernel_rfl⟩ trivial (ask_wrong_ok h2) (by kernel_rfl) ?_
  refine WO_run (j := 4) (k := 1) (orcs := []) (kF := [0, 1, 6]) (kL := []) (fr' := [(0, aI a0), (1, aD (.slice .bool) a1), (6, aI r1)]) (L' := []) (obs := []) rfl (by kernel_rfl) allP0 ?_
  refine WO_fin [0, 1, 6] [] (fr' := [(0, aI a0), (1, aD (.slice .bool) a1), (6, aI r1)]) (L' := []) (by kernel_rfl) (by kernel_rfl) ?_
  refine seqQ_norm ?_
  refine W_seq (by kernel_rfl) ?_
  refine W_run 2 [] [0, 1, 6, 12] [] (fr' := [(0, aI a0), (1, aD (.slice .bool) a1), (6, aI r1), (12, aB (r1 != (0 : Int)))]) (L' := []) (obs := []) (by kernel_rfl) (by kernel_rfl) (by kernel_rfl) allP0 ?_
  refine seqQ_norm ?_
  refine W_cond (o := .tmp 12) (b := r1 != (0 : Int)) (by kernel_rfl) (by kernel_rfl) (fun h3 => ?_) (fun h3 => ?_)
  · replace h := ofT h3 h
    refine W_seq (by kernel_rfl) ?_
    refine W_run 3 [] [4, 5] [] (fr' := [(4, .one (.nilS)), (5, aI r1)]) (L' := []) (obs := []) (by kernel_rfl) (by kernel_rfl) (by kernel_rfl) allP0 ?_
    refine seqQ_norm ?_
    obtain rfl := Option.some.inj h
    refine W_cnv 4 (.slice (.pair tI (.pair tI tI))) (by kernel_rfl) ?_
    refine W_ret [4, 5] [] (fr' := [(4, aD (.slice (.pair tI (.pair tI tI))) []), (5, aI r1)]) (L' := []) (by kernel_rfl) (by kernel_rfl) ?_
    refine seqQ_ret ?_
    exact retQ_mk (by kernel_rfl) (by kernel_rfl) (by kernel_rfl)
  · replace h := ofF h3 h
    refine W_skip [0, 1] [] (fr' := [(0, aI a0), (1, aD (.slice .bool) a1)]) (L' := []) (by kernel_rfl) (by kernel_rfl) ?_
    refine seqQ_norm ?_
    refine W_seq (by kernel_rfl) ?_
    refine W_run 5 [(5, .val .nilP)] [0, 7] [17] (fr' := [(0, aI a0), (7, .one (.ptr 17 0))]) (L' := [(17, .cells [.dat tI a0, .dat (.slice .bool) a1, .nilS])]) (obs := []) (by kernel_rfl) (by kernel_rfl) (by kernel_rfl) allP0 ?_
    refine seqQ_norm ?_
    refine W_seq (by kernel_rfl) ?_
    obtain ⟨v13, h14, h⟩ := bind_of h
    refine W_cutK (Q' := (exQ .normal ask_Tree_s2) v13) ?_ ?_
    · replace h := h14
      refine W_seq (by kernel_rfl) ?_
      refine W_run 2 [] [7, 19] [17] (fr' := [(7, .one (.ptr 17 0)), (19, aB (decide (a0 > (0 : Int))))]) (L' := [(17, .cells [.dat tI a0, .dat (.slice .bool) a1, .nilS])]) (obs := []) (by kernel_rfl) (by kernel_rfl) (by kernel_rfl) allP0 ?_
      refine seqQ_norm ?_
      refine W_cond (o := .tmp 19) (b := decide (a0 > (0 : Int))) (by kernel_rfl) (by kernel_rfl) (fun h10 => ?_) (fun h10 => ?_)
      · replace h := ofT h10 h
        refine W_region (by kernel_rfl) ?_
        refine WO_run (j := 1) (k := 1) (orcs := []) (kF := [7, 20]) (kL := [17]) (fr' := [(7, .one (.ptr 17 0)), (20, .one (.ptr 17 0))]) (L' := [(17, .cells [.dat tI a0, .dat (.slice .bool) a1, .nilS])]) (obs := []) rfl (by kernel_rfl) allP0 ?_
        obtain ⟨r11, h12, h⟩ := bind_of h
        refine WO_cellown 17 2 998 (.pair tI (.pair tI tI)) (by kernel_rfl) ?_
        refine WO_lend2 [(1000, 17), (2001, 998)] (us := [none, none, none]) (d := 21) (p := True) (j := 2) rfl ⟨by kernel_rfl, by kernel_rfl, by kernel_rfl⟩ trivial (ask_maker_put_i3_ok h12) (by kernel_rfl) (by kernel_rfl) ?_
        obtain rfl := Option.some.inj h
        refine WO_fin [7] [17, 998] (fr' := [(7, .one (.ptr 17 0))]) (L' := [(17, .cells [.dat tI r11.2.1, .dat (.slice .bool) r11.2.2.1, .slc 998]), (998, .seq (.pair tI (.pair tI tI)) r11.2.2.2)]) (by kernel_rfl) (by kernel_rfl) ?_
        exact exQ_mk (by kernel_rfl) (by kernel_rfl)
      · replace h := ofF h10 h
        obtain rfl := Option.some.inj h
        refine W_cellown 17 2 998 (.pair tI (.pair tI tI)) (by kernel_rfl) ?_
        refine W_skip [7] [17, 998] (fr' := [(7, .one (.ptr 17 0))]) (L' := [(17, .cells [.dat tI a0, .dat (.slice .bool) a1, .slc 998]), (998, .seq (.pair tI (.pair tI tI)) [])]) (by kernel_rfl) (by kernel_rfl) ?_
        exact exQ_mk (by kernel_rfl) (by kernel_rfl)
    · intro e fr L hJ
      obtain ⟨rfl, rfl, rfl⟩ := hJ
      refine LT_keep [7] [17, 998] (fr' := [(7, .one (.ptr 17 0))]) (L' := [(17, .cells [.dat tI v13.1, .dat (.slice .bool) v13.2.1, .slc 998]), (998, .seq (.pair tI (.pair tI tI)) v13.2.2)]) (by kernel_rfl) ?_
      refine seqQ_norm ?_
      refine W_seq (by kernel_rfl) ?_
      refine W_run 6 [] [4, 5] [998] (fr' := [(4, .one (.slc 998)), (5, aI (0 : Int))]) (L' := [(998, .seq (.pair tI (.pair tI tI)) v13.2.2)]) (obs := []) (by kernel_rfl) (by kernel_rfl) (by kernel_rfl) allP0 ?_
      refine seqQ_norm ?_
      obtain rfl := Option.some.inj h
      refine W_frz 998 (by kernel_rfl) ?_
      refine W_ret [4, 5] [] (fr' := [(4, aD (.slice (.pair tI (.pair tI tI))) v13.2.2), (5, aI (0 : Int))]) (L' := []) (by kernel_rfl) (by kernel_rfl) ?_
      exact retQ_mk (by kernel_rfl) (by kernel_rfl) (by kernel_rfl)

def ref_Within (a0 : Int) (a1 : Int) (a2 : Int) : Option Bool :=
some ((decide (a0 ≤ a1)) && (decide (a1 ≤ a2)))
theorem ref_Within_ok {a0 : Int} {a1 : Int} {a2 : Int} {r : Bool} (h : ref_Within a0 a1 a2 = some r) : FnC Try.prog 34 [aI a0, aI a1, aI a2] [] (aB r) [] := by
  refine fnC_of_W (B := bodyOf Try.f34) (n := 15) Try.func34 (by kernel_rfl) (by kernel_rfl) (by kernel_rfl) (by kernel_rfl) (by kernel_rfl) ?_
  intro K
  refine W_seq (by kernel_rfl) ?_
  refine W_run 1 [] [0, 1, 2] [] (fr' := [(0, aI a0), (1, aI a1), (2, aI a2)]) (L' := []) (obs := []) (by kernel_rfl) (by kernel_rfl) (by kernel_rfl) allP0 ?_
  refine seqQ_norm ?_
  refine W_seq (by kernel_rfl) ?_
  refine W_run 9 [] [6] [] (fr' := [(6, aB ((decide (a0 ≤ a1)) && (decide (a1 ≤ a2))))]) (L' := []) (obs := []) (by kernel_rfl) (by kernel_rfl) (by kernel_rfl) allP0 ?_
  refine seqQ_norm ?_
  obtain rfl := Option.some.inj h
  refine W_ret [6] [] (fr' := [(6, aB ((decide (a0 ≤ a1)) && (decide (a1 ≤ a2))))]) (L' := []) (by kernel_rfl) (by kernel_rfl) ?_
  exact retQ_mk (by kernel_rfl) (by kernel_rfl) (by kernel_rfl)

def ref_Inside_b1 (a0 : Int) (i11 : Int) (v14 : Int) (x12 : Unit) : Option (Flow Unit (Esc Bool Unit)) :=
bif (decide (v14 < (0 : Int))) || (decide (v14 ≥ a0)) then
(some (.done (.ret false)))
else
(some (.next ()))
@[reducible] def ref_Inside_s2 (a0 : Int) (a1 : (List Int)) (v : Int × Unit) : Fr × LL := ([(0, aI a0), (7, aD (.slice tI) a1), (8, aI (List.length a1 : Int)), (9, aI v.1)], [])
@[reducible] def ref_Inside_s3 (v : Bool) : Fr × LL := ([(4, aB v)], [])
@[reducible] def ref_Inside_s4 (v : Unit) : Fr × LL := ([], [])
def ref_Inside (a0 : Int) (a1 : (List Int)) : Option Bool :=
(forL (ref_Inside_b1 a0) (fun x12 => (.brk ())) a1 0 ()).bind fun v19 =>
match v19 with
| .ret v24 =>
(some v24)
| .brk v25 =>
(some true)
theorem ref_Inside_ok {a0 : Int} {a1 : (List Int)} {r : Bool} (h : ref_Inside a0 a1 = some r) : FnC Try.prog 35 [aI a0, aD (.slice tI) a1] [] (aB r) [] := by
  refine fnC_of_W (B := bodyOf Try.f35) (n := 21) Try.func35 (by kernel_rfl) (by kernel_rfl) (by kernel_rfl) (by kernel_rfl) (by kernel_rfl) ?_
  intro K
  refine W_seq (by kernel_rfl) ?_
  refine W_run 1 [] [0, 1] [] (fr' := [(0, aI a0), (1, aD (.slice tI) a1)]) (L' := []) (obs := []) (by kernel_rfl) (by kernel_rfl) (by kernel_rfl) allP0 ?_
  refine seqQ_norm ?_
  refine W_seq (by kernel_rfl) ?_
  refine W_seq (by kernel_rfl) ?_
  refine W_run 3 [] [0, 7, 8, 9] [] (fr' := [(0, aI a0), (7, aD (.slice tI) a1), (8, aI (List.length a1 : Int)), (9, aI (0 : Int))]) (L' := []) (obs := []) (by kernel_rfl) (by kernel_rfl) (by kernel_rfl) allP0 ?_
  refine seqQ_norm ?_
  refine W_block (id := 0) (by kernel_rfl) ?_
  obtain ⟨v19, h20, h⟩ := bind_of h
  refine W_len (t := 7) (u := tI) (xs := a1) (by kernel_rfl) (fun h23 => ?_)
  obtain ⟨h21, h22⟩ := forL_iter h23 h20
  refine W_weaken [0, 7, 8, 9] [] (fr' := ((ref_Inside_s2 a0 a1) ((0 : Int), ())).1) (L' := ((ref_Inside_s2 a0 a1) ((0 : Int), ())).2) (by kernel_rfl) ?_
  refine W_cutK (W_loop (S := (ref_Inside_s2 a0 a1)) (J := (escQ (exQ .ret ref_Inside_s3) (exQ (.exit 0) ref_Inside_s4))) (by kernel_rfl) ?_ h21 _ v19 h22) ?_
  · rintro ⟨i11, x12⟩ s h
    refine W_seq (by kernel_rfl) ?_
    refine W_run 1 [] [0, 7, 8, 9, 10] [] (fr' := [(0, aI a0), (7, aD (.slice tI) a1), (8, aI (List.length a1 : Int)), (9, aI i11), (10, aB (decide (i11 < (List.length a1 : Int))))]) (L' := []) (obs := []) (by kernel_rfl) (by kernel_rfl) (by kernel_rfl) allP0 ?_
    refine seqQ_norm ?_
    refine W_seq (by kernel_rfl) ?_
    refine W_cond (o := .tmp 10) (b := decide (i11 < (List.length a1 : Int))) (by kernel_rfl) (by kernel_rfl) (fun h16 => ?_) (fun h16 => ?_)
    · replace h := stepL_true h16 h
      obtain ⟨v14, _, h15, h, rfl⟩ := h
      refine W_skip [0, 7, 8, 9] [] (fr' := [(0, aI a0), (7, aD (.slice tI) a1), (8, aI (List.length a1 : Int)), (9, aI i11)]) (L' := []) (by kernel_rfl) (by kernel_rfl) ?_
      refine seqQ_norm ?_
      refine W_seq (by kernel_rfl) ?_
      refine W_block (id := 1) (by kernel_rfl) ?_
      refine W_seq (by kernel_rfl) ?_
      refine W_run 3 [(1, .val (.dat tI v14))] [0, 6, 7, 8, 9] [] (fr' := [(0, aI a0), (6, aI v14), (7, aD (.slice tI) a1), (8, aI (List.length a1 : Int)), (9, aI i11)]) (L' := []) (obs := [Idx a1 i11 v14]) (by kernel_rfl) (by kernel_rfl) (by kernel_rfl) (allP1 (Idx.of h15)) ?_
      refine seqQ_norm ?_
      refine W_seq (by kernel_rfl) ?_
      refine W_run 7 [] [0, 7, 8, 9, 19] [] (fr' := [(0, aI a0), (7, aD (.slice tI) a1), (8, aI (List.length a1 : Int)), (9, aI i11), (19, aB ((decide (v14 < (0 : Int))) || (decide (v14 ≥ a0))))]) (L' := []) (obs := []) (by kernel_rfl) (by kernel_rfl) (by kernel_rfl) allP0 ?_
      refine seqQ_norm ?_
      refine W_cond (o := .tmp 19) (b := (decide (v14 < (0 : Int))) || (decide (v14 ≥ a0))) (by kernel_rfl) (by kernel_rfl) (fun h17 => ?_) (fun h17 => ?_)
      · replace h := ofT h17 h
        refine W_seq (by kernel_rfl) ?_
        refine W_run 1 [] [4] [] (fr' := [(4, aB false)]) (L' := []) (obs := []) (by kernel_rfl) (by kernel_rfl) (by kernel_rfl) allP0 ?_
        refine seqQ_norm ?_
        obtain rfl := Option.some.inj h
        refine W_ret [4] [] (fr' := [(4, aB false)]) (L' := []) (by kernel_rfl) (by kernel_rfl) ?_
        refine blockQ_ret ?_
        refine seqQ_ret ?_
        refine round_ret ?_
        refine escQ_ret ?_
        exact exQ_mk (by kernel_rfl) (by kernel_rfl)
      · replace h := ofF h17 h
        refine W_skip [0, 7, 8, 9] [] (fr' := [(0, aI a0), (7, aD (.slice tI) a1), (8, aI (List.length a1 : Int)), (9, aI i11)]) (L' := []) (by kernel_rfl) (by kernel_rfl) ?_
        refine blockQ_norm ?_
        refine seqQ_norm ?_
        obtain rfl := Option.some.inj h
        refine W_run 2 [] [0, 7, 8, 9] [] (fr' := [(0, aI a0), (7, aD (.slice tI) a1), (8, aI (List.length a1 : Int)), (9, aI (w64 (i11 + (1 : Int))))]) (L' := []) (obs := []) (by kernel_rfl) (by kernel_rfl) (by kernel_rfl) allP0 ?_
        exact round_next' (by kernel_rfl) (by kernel_rfl)
    · obtain rfl := stepL_false h16 h
      refine W_exit (id := 0) [] [] (fr' := []) (L' := []) (by kernel_rfl) (by kernel_rfl) ?_
      refine seqQ_exit ?_
      refine round_exit ?_
      refine escQ_brk ?_
      exact exQ_mk (by kernel_rfl) (by kernel_rfl)
  · intro e fr L hJ
    rcases v19 with v24 | v25
    · obtain ⟨rfl, rfl, rfl⟩ := hJ
      obtain rfl := Option.some.inj h
      refine LT_keep [4] [] (fr' := [(4, aB v24)]) (L' := []) (by kernel_rfl) ?_
      refine blockQ_ret ?_
      refine seqQ_ret ?_
      exact retQ_mk (by kernel_rfl) (by kernel_rfl) (by kernel_rfl)
    · obtain ⟨rfl, rfl, rfl⟩ := hJ
      refine LT_keep [] [] (fr' := []) (L' := []) (by kernel_rfl) ?_
      refine blockQ_hit ?_
      refine seqQ_norm ?_
      refine W_seq (by kernel_rfl) ?_
      refine W_run 1 [] [4] [] (fr' := [(4, aB true)]) (L' := []) (obs := []) (by kernel_rfl) (by kernel_rfl) (by kernel_rfl) allP0 ?_
      refine seqQ_norm ?_
      obtain rfl := Option.some.inj h
      refine W_ret [4] [] (fr' := [(4, aB true)]) (L' := []) (by kernel_rfl) (by kernel_rfl) ?_
      exact retQ_mk (by kernel_rfl) (by kernel_rfl) (by kernel_rfl)

def ref_TableCheck (a0 : Int) (a1 : (List Bool)) (a2 : Int) : Option Int :=
(ref_Within (0 : Int) a0 (4 : Int)).bind fun r1 =>
bif !r1 then
(some (1 : Int))
else
((ck (0 ≤ IntKind.wrap .u64 (a0))).bind fun _ =>
bif (List.length a1 : Int) != (bShl .i64 (1 : Int) (IntKind.wrap .u64 (a0))) then
(some (3 : Int))
else
((ref_Inside (List.length a1 : Int) [a2]).bind fun r6 =>
bif !r6 then
(some (4 : Int))
else
(some (0 : Int))))
theorem ref_TableCheck_ok {a0 : Int} {a1 : (List Bool)} {a2 : Int} {r : Int} (h : ref_TableCheck a0 a1 a2 = some r) : FnC Try.prog 18 [aI a0, aD (.slice .bool) a1, aI a2] [] (aI r) [] := by
  refine fnC_of_W (B := bodyOf Try.f18) (n := 22) Try.func18 (by kernel_rfl) (by kernel_rfl) (by kernel_rfl) (by kernel_rfl) (by kernel_rfl) ?_
  intro K
  refine W_seq (by kernel_rfl) ?_
  refine W_run 1 [] [0, 1, 2] [] (fr' := [(0, aI a0), (1, aD (.slice .bool) a1), (2, aI a2)]) (L' := []) (obs := []) (by kernel_rfl) (by kernel_rfl) (by kernel_rfl) allP0 ?_
  refine seqQ_norm ?_
  refine W_seq (by kernel_rfl) ?_
  refine W_seq (by kernel_rfl) ?_
  refine W_region (by kernel_rfl) ?_
  refine WO_run (j := 1) (k := 1) (orcs := []) (kF := [0, 1, 2, 7]) (kL := []) (fr' := [(0, aI a0), (1, aD (.slice .bool) a1), (2, aI a2), (7, aI a0)]) (L' := []) (obs := []) rfl (by kernel_rfl) allP0 ?_
  obtain ⟨r1, h2, h⟩ := bind_of h
  refine WO_call0 (us := [none, none, none]) (d := 8) (p := True) (j := 2) rfl ⟨by kernel_rfl, by kernel_rfl, by kernel_rfl⟩ trivial (ref_Within_ok h2) (by kernel_rfl) ?_
  refine WO_run (j := 3) (k := 1) (orcs := []) (kF := [0, 1, 2, 9]) (kL := []) (fr' := [(0, aI a0), (1, aD (.slice .bool) a1), (2, aI a2), (9, aB (!r1))]) (L' := []) (obs := []) rfl (by kernel_rfl) allP0 ?_
  refine WO_fin [0, 1, 2, 9] [] (fr' := [(0, aI a0), (1, aD (.slice .bool) a1), (2, aI a2), (9, aB (!r1))]) (L' := []) (by kernel_rfl) (by kernel_rfl) ?_
  refine seqQ_norm ?_
  refine W_cond (o := .tmp 9) (b := !r1) (by kernel_rfl) (by kernel_rfl) (fun h3 => ?_) (fun h3 => ?_)
  · replace h := ofT h3 h
    refine W_seq (by kernel_rfl) ?_
    refine W_run 1 [] [6] [] (fr' := [(6, aI (1 : Int))]) (L' := []) (obs := []) (by kernel_rfl) (by kernel_rfl) (by kernel_rfl) allP0 ?_
    refine seqQ_norm ?_
    obtain rfl := Option.some.inj h
    refine W_ret [6] [] (fr' := [(6, aI (1 : Int))]) (L' := []) (by kernel_rfl) (by kernel_rfl) ?_
    refine seqQ_ret ?_
    exact retQ_mk (by kernel_rfl) (by kernel_rfl) (by kernel_rfl)
  · replace h := ofF h3 h
    refine W_skip [0, 1, 2] [] (fr' := [(0, aI a0), (1, aD (.slice .bool) a1), (2, aI a2)]) (L' := []) (by kernel_rfl) (by kernel_rfl) ?_
    refine seqQ_norm ?_
    refine W_seq (by kernel_rfl) ?_
    refine W_seq (by kernel_rfl) ?_
    obtain ⟨_, h4, h⟩ := bind_of h
    replace h4 := ck_some h4
    refine W_run 6 [] [1, 2, 15] [] (fr' := [(1, aD (.slice .bool) a1), (2, aI a2), (15, aB ((List.length a1 : Int) != (bShl .i64 (1 : Int) (IntKind.wrap .u64 (a0)))))]) (L' := []) (obs := [(0 ≤ IntKind.wrap .u64 (a0))]) (by kernel_rfl) (by kernel_rfl) (by kernel_rfl) (allP1 h4) ?_
    refine seqQ_norm ?_
    refine W_cond (o := .tmp 15) (b := (List.length a1 : Int) != (bShl .i64 (1 : Int) (IntKind.wrap .u64 (a0)))) (by kernel_rfl) (by kernel_rfl) (fun h5 => ?_) (fun h5 => ?_)
    · replace h := ofT h5 h
      refine W_seq (by kernel_rfl) ?_
      refine W_run 1 [] [6] [] (fr' := [(6, aI (3 : Int))]) (L' := []) (obs := []) (by kernel_rfl) (by kernel_rfl) (by kernel_rfl) allP0 ?_
      refine seqQ_norm ?_
      obtain rfl := Option.some.inj h
      refine W_ret [6] [] (fr' := [(6, aI (3 : Int))]) (L' := []) (by kernel_rfl) (by kernel_rfl) ?_
      refine seqQ_ret ?_
      exact retQ_mk (by kernel_rfl) (by kernel_rfl) (by kernel_rfl)
    · replace h := ofF h5 h
      refine W_skip [1, 2] [] (fr' := [(1, aD (.slice .bool) a1), (2, aI a2)]) (L' := []) (by kernel_rfl) (by kernel_rfl) ?_
      refine seqQ_norm ?_
      refine W_seq (by kernel_rfl) ?_
      refine W_seq (by kernel_rfl) ?_
      refine W_region (by kernel_rfl) ?_
      refine WO_run (j := 4) (k := 4) (orcs := []) (kF := [17, 19]) (kL := [19]) (fr' := [(17, aI (List.length a1 : Int)), (19, .one (.slc 19))]) (L' := [(19, .seq tI [a2])]) (obs := []) rfl (by kernel_rfl) allP0 ?_
      obtain ⟨r6, h7, h⟩ := bind_of h
      refine WO_frz 19 (by kernel_rfl) ?_
      refine WO_call0 (us := [none, none]) (d := 20) (p := True) (j := 5) rfl ⟨by kernel_rfl, by kernel_rfl, by kernel_rfl⟩ trivial (ref_Inside_ok h7) (by kernel_rfl) ?_
      refine WO_run (j := 6) (k := 1) (orcs := []) (kF := [21]) (kL := []) (fr' := [(21, aB (!r6))]) (L' := []) (obs := []) rfl (by kernel_rfl) allP0 ?_
      refine WO_fin [21] [] (fr' := [(21, aB (!r6))]) (L' := []) (by kernel_rfl) (by kernel_rfl) ?_
      refine seqQ_norm ?_
      refine W_cond (o := .tmp 21) (b := !r6) (by kernel_rfl) (by kernel_rfl) (fun h8 => ?_) (fun h8 => ?_)
      · replace h := ofT h8 h
        refine W_seq (by kernel_rfl) ?_
        refine W_run 1 [] [6] [] (fr' := [(6, aI (4 : Int))]) (L' := []) (obs := []) (by kernel_rfl) (by kernel_rfl) (by kernel_rfl) allP0 ?_
        refine seqQ_norm ?_
        obtain rfl := Option.some.inj h
        refine W_ret [6] [] (fr' := [(6, aI (4 : Int))]) (L' := []) (by kernel_rfl) (by kernel_rfl) ?_
        refine seqQ_ret ?_
        exact retQ_mk (by kernel_rfl) (by kernel_rfl) (by kernel_rfl)
      · replace h := ofF h8 h
        refine W_skip [] [] (fr' := []) (L' := []) (by kernel_rfl) (by kernel_rfl) ?_
        refine seqQ_norm ?_
        refine W_seq (by kernel_rfl) ?_
        refine W_run 1 [] [6] [] (fr' := [(6, aI (0 : Int))]) (L' := []) (obs := []) (by kernel_rfl) (by kernel_rfl) (by kernel_rfl) allP0 ?_
        refine seqQ_norm ?_
        obtain rfl := Option.some.inj h
        refine W_ret [6] [] (fr' := [(6, aI (0 : Int))]) (L' := []) (by kernel_rfl) (by kernel_rfl) ?_
        exact retQ_mk (by kernel_rfl) (by kernel_rfl) (by kernel_rfl)

def ref_AsksCheck_g4 (i56 : Int) (v59 : (Int × (Int × Int))) : Option Bool :=
(ref_Within (-2 : Int) v59.2.1 (w64 (i56 - (1 : Int)))).bind fun r75 =>
bif !r75 then
(some true)
else
((ref_Within (-2 : Int) v59.2.2 (w64 (i56 - (1 : Int)))).bind fun r78 =>
some (!r78))
@[reducible] def ref_AsksCheck_s5 (a0 : Int) (a1 : (List (Int × (Int × Int)))) (a2 : Int) (i56 : Int) (v : Bool) : Fr × LL := ([(0, aI a0), (2, aI a2), (17, aD (.slice (.pair tI (.pair tI tI))) a1), (18, aI (List.length a1 : Int)), (19, aI i56), (43, aB v)], [])
def ref_AsksCheck_b6 (a0 : Int) (i56 : Int) (v59 : (Int × (Int × Int))) (x57 : Unit) : Option (Flow Unit (Esc Int Unit)) :=
(ref_Inside a0 [v59.1]).bind fun r62 =>
bif !r62 then
(some (.done (.ret (4 : Int))))
else
((ref_AsksCheck_g4 i56 v59).bind fun v80 =>
bif v80 then
(some (.done (.ret (2 : Int))))
else
(some (.next ())))
@[reducible] def ref_AsksCheck_s7 (a0 : Int) (a1 : (List (Int × (Int × Int)))) (a2 : Int) (v : Int × Unit) : Fr × LL := ([(0, aI a0), (2, aI a2), (17, aD (.slice (.pair tI (.pair tI tI))) a1), (18, aI (List.length a1 : Int)), (19, aI v.1)], [])
@[reducible] def ref_AsksCheck_s8 (v : Int) : Fr × LL := ([(6, aI v)], [])
@[reducible] def ref_AsksCheck_s9 (a0 : Int) (a2 : Int) (v : Unit) : Fr × LL := ([(0, aI a0), (2, aI a2)], [])
def ref_AsksCheck (a0 : Int) (a1 : (List (Int × (Int × Int)))) (a2 : Int) : Option Int :=
(ref_Within (0 : Int) a0 (4 : Int)).bind fun r3 =>
bif (!r3) || (decide ((List.length a1 : Int) > (256 : Int))) then
(some (1 : Int))
else
((forL (ref_AsksCheck_b6 a0) (fun x57 => (.brk ())) a1 0 ()).bind fun v84 =>
match v84 with
| .ret v89 =>
(some v89)
| .brk v90 =>
((ck (0 ≤ IntKind.wrap .u64 (a0))).bind fun _ =>
(ref_Inside (bShl .i64 (1 : Int) (IntKind.wrap .u64 (a0))) [a2]).bind fun r92 =>
bif !r92 then
(some (4 : Int))
else
(some (0 : Int))))
theorem ref_AsksCheck_ok {a0 : Int} {a1 : (List (Int × (Int × Int)))} {a2 : Int} {r : Int} (h : ref_AsksCheck a0 a1 a2 = some r) : FnC Try.prog 15 [aI a0, aD (.slice (.pair tI (.pair tI tI))) a1, aI a2] [] (aI r) [] := by
  refine fnC_of_W (B := bodyOf Try.f15) (n := 52) Try.func15 (by kernel_rfl) (by kernel_rfl) (by kernel_rfl) (by kernel_rfl) (by kernel_rfl) ?_
  intro K
  refine W_seq (by kernel_rfl) ?_
  refine W_run 1 [] [0, 1, 2] [] (fr' := [(0, aI a0), (1, aD (.slice (.pair tI (.pair tI tI))) a1), (2, aI a2)]) (L' := []) (obs := []) (by kernel_rfl) (by kernel_rfl) (by kernel_rfl) allP0 ?_
  refine seqQ_norm ?_
  refine W_seq (by kernel_rfl) ?_
  refine W_seq (by kernel_rfl) ?_
  refine W_region (by kernel_rfl) ?_
  refine WO_run (j := 1) (k := 1) (orcs := []) (kF := [0, 1, 2, 9]) (kL := []) (fr' := [(0, aI a0), (1, aD (.slice (.pair tI (.pair tI tI))) a1), (2, aI a2), (9, aI a0)]) (L' := []) (obs := []) rfl (by kernel_rfl) allP0 ?_
  obtain ⟨r3, h4, h⟩ := bind_of h
  refine WO_call0 (us := [none, none, none]) (d := 10) (p := True) (j := 2) rfl ⟨by kernel_rfl, by kernel_rfl, by kernel_rfl⟩ trivial (ref_Within_ok h4) (by kernel_rfl) ?_
  refine WO_run (j := 8) (k := 6) (orcs := []) (kF := [0, 1, 2, 16]) (kL := []) (fr' := [(0, aI a0), (1, aD (.slice (.pair tI (.pair tI tI))) a1), (2, aI a2), (16, aB ((!r3) || (decide ((List.length a1 : Int) > (256 : Int)))))]) (L' := []) (obs := []) rfl (by kernel_rfl) allP0 ?_
  refine WO_fin [0, 1, 2, 16] [] (fr' := [(0, aI a0), (1, aD (.slice (.pair tI (.pair tI tI))) a1), (2, aI a2), (16, aB ((!r3) || (decide ((List.length a1 : Int) > (256 : Int)))))]) (L' := []) (by kernel_rfl) (by kernel_rfl) ?_
  refine seqQ_norm ?_
  refine W_cond (o := .tmp 16) (b := (!r3) || (decide ((List.length a1 : Int) > (256 : Int)))) (by kernel_rfl) (by kernel_rfl) (fun h5 => ?_) (fun h5 => ?_)
  · replace h := ofT h5 h
    refine W_seq (by kernel_rfl) ?_
    refine W_run 1 [] [6] [] (fr' := [(6, aI (1 : Int))]) (L' := []) (obs := []) (by kernel_rfl) (by kernel_rfl) (by kernel_rfl) allP0 ?_
    refine seqQ_norm ?_
    obtain rfl := Option.some.inj h
    refine W_ret [6] [] (fr' := [(6, aI (1 : Int))]) (L' := []) (by kernel_rfl) (by kernel_rfl) ?_
    refine seqQ_ret ?_
    exact retQ_mk (by kernel_rfl) (by kernel_rfl) (by kernel_rfl)
  · replace h := ofF h5 h
    refine W_skip [0, 1, 2] [] (fr' := [(0, aI a0), (1, aD (.slice (.pair tI (.pair tI tI))) a1), (2, aI a2)]) (L' := []) (by kernel_rfl) (by kernel_rfl) ?_
    refine seqQ_norm ?_
    refine W_seq (by kernel_rfl) ?_
    refine W_seq (by kernel_rfl) ?_
    refine W_run 3 [] [0, 2, 17, 18, 19] [] (fr' := [(0, aI a0), (2, aI a2), (17, aD (.slice (.pair tI (.pair tI tI))) a1), (18, aI (List.length a1 : Int)), (19, aI (0 : Int))]) (L' := []) (obs := []) (by kernel_rfl) (by kernel_rfl) (by kernel_rfl) allP0 ?_
    refine seqQ_norm ?_
    refine W_block (id := 0) (by kernel_rfl) ?_
    obtain ⟨v84, h85, h⟩ := bind_of h
    refine W_len (t := 17) (u := (.pair tI (.pair tI tI))) (xs := a1) (by kernel_rfl) (fun h88 => ?_)
    obtain ⟨h86, h87⟩ := forL_iter h88 h85
    refine W_weaken [0, 2, 17, 18, 19] [] (fr' := ((ref_AsksCheck_s7 a0 a1 a2) ((0 : Int), ())).1) (L' := ((ref_AsksCheck_s7 a0 a1 a2) ((0 : Int), ())).2) (by kernel_rfl) ?_
    refine W_cutK (W_loop (S := (ref_AsksCheck_s7 a0 a1 a2)) (J := (escQ (exQ .ret ref_AsksCheck_s8) (exQ (.exit 0) (ref_AsksCheck_s9 a0 a2)))) (by kernel_rfl) ?_ h86 _ v84 h87) ?_
    · rintro ⟨i56, x57⟩ s h
      refine W_seq (by kernel_rfl) ?_
      refine W_run 1 [] [0, 2, 17, 18, 19, 20] [] (fr' := [(0, aI a0), (2, aI a2), (17, aD (.slice (.pair tI (.pair tI tI))) a1), (18, aI (List.length a1 : Int)), (19, aI i56), (20, aB (decide (i56 < (List.length a1 : Int))))]) (L' := []) (obs := []) (by kernel_rfl) (by kernel_rfl) (by kernel_rfl) allP0 ?_
      refine seqQ_norm ?_
      refine W_seq (by kernel_rfl) ?_
      refine W_cond (o := .tmp 20) (b := decide (i56 < (List.length a1 : Int))) (by kernel_rfl) (by kernel_rfl) (fun h61 => ?_) (fun h61 => ?_)
      · replace h := stepL_true h61 h
        obtain ⟨v59, _, h60, h, rfl⟩ := h
        refine W_skip [0, 2, 17, 18, 19] [] (fr' := [(0, aI a0), (2, aI a2), (17, aD (.slice (.pair tI (.pair tI tI))) a1), (18, aI (List.length a1 : Int)), (19, aI i56)]) (L' := []) (by kernel_rfl) (by kernel_rfl) ?_
        refine seqQ_norm ?_
        refine W_seq (by kernel_rfl) ?_
        refine W_block (id := 1) (by kernel_rfl) ?_
        refine W_seq (by kernel_rfl) ?_
        refine W_run 6 [(3, .val (.dat (.pair tI (.pair tI tI)) v59)), (7, .typed)] [0, 2, 7, 8, 17, 18, 19] [8] (fr' := [(0, aI a0), (2, aI a2), (7, aI i56), (8, .one (.ptr 8 0)), (17, aD (.slice (.pair tI (.pair tI tI))) a1), (18, aI (List.length a1 : Int)), (19, aI i56)]) (L' := [(8, .one (.pair tI (.pair tI tI)) v59)]) (obs := [Idx a1 i56 v59, True]) (by kernel_rfl) (by kernel_rfl) (by kernel_rfl) (allP2 (Idx.of h60) (allP1 trivial)) ?_
        refine seqQ_norm ?_
        refine W_seq (by kernel_rfl) ?_
        refine W_seq (by kernel_rfl) ?_
        refine W_region (by kernel_rfl) ?_
        refine WO_run (j := 4) (k := 4) (orcs := []) (kF := [0, 2, 7, 8, 17, 18, 19, 24, 27]) (kL := [8, 27]) (fr' := [(0, aI a0), (2, aI a2), (7, aI i56), (8, .one (.ptr 8 0)), (17, aD (.slice (.pair tI (.pair tI tI))) a1), (18, aI (List.length a1 : Int)), (19, aI i56), (24, aI a0), (27, .one (.slc 27))]) (L' := [(8, .one (.pair tI (.pair tI tI)) v59), (27, .seq tI [v59.1])]) (obs := []) rfl (by kernel_rfl) allP0 ?_
        obtain ⟨r62, h63, h⟩ := bind_of h
        refine WO_frz 27 (by kernel_rfl) ?_
        refine WO_call0 (us := [none, none]) (d := 28) (p := True) (j := 5) rfl ⟨by kernel_rfl, by kernel_rfl, by kernel_rfl⟩ trivial (ref_Inside_ok h63) (by kernel_rfl) ?_
        refine WO_run (j := 6) (k := 1) (orcs := []) (kF := [0, 2, 7, 8, 17, 18, 19, 29]) (kL := [8]) (fr' := [(0, aI a0), (2, aI a2), (7, aI i56), (8, .one (.ptr 8 0)), (17, aD (.slice (.pair tI (.pair tI tI))) a1), (18, aI (List.length a1 : Int)), (19, aI i56), (29, aB (!r62))]) (L' := [(8, .one (.pair tI (.pair tI tI)) v59)]) (obs := []) rfl (by kernel_rfl) allP0 ?_
        refine WO_fin [0, 2, 7, 8, 17, 18, 19, 29] [8] (fr' := [(0, aI a0), (2, aI a2), (7, aI i56), (8, .one (.ptr 8 0)), (17, aD (.slice (.pair tI (.pair tI tI))) a1), (18, aI (List.length a1 : Int)), (19, aI i56), (29, aB (!r62))]) (L' := [(8, .one (.pair tI (.pair tI tI)) v59)]) (by kernel_rfl) (by kernel_rfl) ?_
        refine seqQ_norm ?_
        refine W_cond (o := .tmp 29) (b := !r62) (by kernel_rfl) (by kernel_rfl) (fun h64 => ?_) (fun h64 => ?_)
        · replace h := ofT h64 h
          refine W_seq (by kernel_rfl) ?_
          refine W_run 1 [] [6] [] (fr' := [(6, aI (4 : Int))]) (L' := []) (obs := []) (by kernel_rfl) (by kernel_rfl) (by kernel_rfl) allP0 ?_
          refine seqQ_norm ?_
          obtain rfl := Option.some.inj h
          refine W_ret [6] [] (fr' := [(6, aI (4 : Int))]) (L' := []) (by kernel_rfl) (by kernel_rfl) ?_
          refine seqQ_ret ?_
          refine blockQ_ret ?_
          refine seqQ_ret ?_
          refine round_ret ?_
          refine escQ_ret ?_
          exact exQ_mk (by kernel_rfl) (by kernel_rfl)
        · replace h := ofF h64 h
          refine W_skip [0, 2, 7, 8, 17, 18, 19] [8] (fr' := [(0, aI a0), (2, aI a2), (7, aI i56), (8, .one (.ptr 8 0)), (17, aD (.slice (.pair tI (.pair tI tI))) a1), (18, aI (List.length a1 : Int)), (19, aI i56)]) (L' := [(8, .one (.pair tI (.pair tI tI)) v59)]) (by kernel_rfl) (by kernel_rfl) ?_
          refine seqQ_norm ?_
          refine W_seq (by kernel_rfl) ?_
          obtain ⟨v80, h81, h⟩ := bind_of h
          refine W_cutK (Q' := (exQ .normal (ref_AsksCheck_s5 a0 a1 a2 i56)) v80) ?_ ?_
          · replace h := h81
            refine W_region (by kernel_rfl) ?_
            refine WO_run (j := 4) (k := 4) (orcs := []) (kF := [0, 2, 7, 8, 17, 18, 19, 31, 33]) (kL := [8]) (fr' := [(0, aI a0), (2, aI a2), (7, aI i56), (8, .one (.ptr 8 0)), (17, aD (.slice (.pair tI (.pair tI tI))) a1), (18, aI (List.length a1 : Int)), (19, aI i56), (31, aI v59.2.1), (33, aI (w64 (i56 - (1 : Int))))]) (L' := [(8, .one (.pair tI (.pair tI tI)) v59)]) (obs := []) rfl (by kernel_rfl) allP0 ?_
            obtain ⟨r75, h76, h⟩ := bind_of h
            refine WO_call0 (us := [none, none, none]) (d := 34) (p := True) (j := 5) rfl ⟨by kernel_rfl, by kernel_rfl, by kernel_rfl⟩ trivial (ref_Within_ok h76) (by kernel_rfl) ?_
            refine WO_run (j := 7) (k := 2) (orcs := []) (kF := [0, 2, 7, 8, 17, 18, 19, 36]) (kL := [8]) (fr' := [(0, aI a0), (2, aI a2), (7, aI i56), (8, .one (.ptr 8 0)), (17, aD (.slice (.pair tI (.pair tI tI))) a1), (18, aI (List.length a1 : Int)), (19, aI i56), (36, aB (!r75))]) (L' := [(8, .one (.pair tI (.pair tI tI)) v59)]) (obs := []) rfl (by kernel_rfl) allP0 ?_
            rcases Bool.eq_false_or_eq_true (!r75) with h77 | h77
            · replace h := ofT h77 h
              refine WO_run (j := 14) (k := 7) (orcs := [(14, .known true), (16, .known true), (18, .known true), (20, .known true), (22, .known true), (24, .known true), (27, .val (.dat .bool true))]) (kF := [0, 2, 17, 18, 19, 43]) (kL := [8]) (fr' := [(0, aI a0), (2, aI a2), (17, aD (.slice (.pair tI (.pair tI tI))) a1), (18, aI (List.length a1 : Int)), (19, aI i56), (43, aB true)]) (L' := [(8, .one (.pair tI (.pair tI tI)) v59)]) (obs := [((!r75) = true), ((!r75) = true), ((!r75) = true), ((!r75) = true), ((!r75) = true), ((!r75) = true), ((!r75) = true)]) rfl (by kernel_rfl) (allP2 h77 (allP2 h77 (allP2 h77 (allP2 h77 (allP2 h77 (allP2 h77 (allP1 h77))))))) ?_
              obtain rfl := Option.some.inj h
              refine WO_fin [0, 2, 17, 18, 19, 43] [] (fr' := [(0, aI a0), (2, aI a2), (17, aD (.slice (.pair tI (.pair tI tI))) a1), (18, aI (List.length a1 : Int)), (19, aI i56), (43, aB true)]) (L' := []) (by kernel_rfl) (by kernel_rfl) ?_
              exact exQ_mk (by kernel_rfl) (by kernel_rfl)
            · replace h := ofF h77 h
              refine WO_run (j := 11) (k := 4) (orcs := [(14, .known false), (16, .known false), (18, .known false), (20, .known false)]) (kF := [0, 2, 17, 18, 19, 36, 38, 40]) (kL := [8]) (fr' := [(0, aI a0), (2, aI a2), (17, aD (.slice (.pair tI (.pair tI tI))) a1), (18, aI (List.length a1 : Int)), (19, aI i56), (36, aB (!r75)), (38, aI v59.2.2), (40, aI (w64 (i56 - (1 : Int))))]) (L' := [(8, .one (.pair tI (.pair tI tI)) v59)]) (obs := [((!r75) = false), ((!r75) = false), ((!r75) = false), ((!r75) = false)]) rfl (by kernel_rfl) (allP2 h77 (allP2 h77 (allP2 h77 (allP1 h77)))) ?_
              obtain ⟨r78, h79, h⟩ := bind_of h
              refine WO_call0 (us := [none, none, none]) (d := 41) (p := ((!r75) = false)) (j := 12) rfl ⟨by kernel_rfl, by kernel_rfl, by kernel_rfl⟩ h77 (ref_Within_ok h79) (by kernel_rfl) ?_
              refine WO_run (j := 14) (k := 2) (orcs := [(24, .known false), (27, .val (.dat .bool false))]) (kF := [0, 2, 17, 18, 19, 43]) (kL := [8]) (fr' := [(0, aI a0), (2, aI a2), (17, aD (.slice (.pair tI (.pair tI tI))) a1), (18, aI (List.length a1 : Int)), (19, aI i56), (43, aB (!r78))]) (L' := [(8, .one (.pair tI (.pair tI tI)) v59)]) (obs := [((!r75) = false), ((!r75) = false)]) rfl (by kernel_rfl) (allP2 h77 (allP1 h77)) ?_
              obtain rfl := Option.some.inj h
              refine WO_fin [0, 2, 17, 18, 19, 43] [] (fr' := [(0, aI a0), (2, aI a2), (17, aD (.slice (.pair tI (.pair tI tI))) a1), (18, aI (List.length a1 : Int)), (19, aI i56), (43, aB (!r78))]) (L' := []) (by kernel_rfl) (by kernel_rfl) ?_
              exact exQ_mk (by kernel_rfl) (by kernel_rfl)
          · intro e fr L hJ
            obtain ⟨rfl, rfl, rfl⟩ := hJ
            refine LT_keep [0, 2, 17, 18, 19, 43] [] (fr' := [(0, aI a0), (2, aI a2), (17, aD (.slice (.pair tI (.pair tI tI))) a1), (18, aI (List.length a1 : Int)), (19, aI i56), (43, aB v80)]) (L' := []) (by kernel_rfl) ?_
            refine seqQ_norm ?_
            refine W_cond (o := .tmp 43) (b := v80) (by kernel_rfl) (by kernel_rfl) (fun h82 => ?_) (fun h82 => ?_)
            · replace h := ofT h82 h
              refine W_seq (by kernel_rfl) ?_
              refine W_run 1 [] [6] [] (fr' := [(6, aI (2 : Int))]) (L' := []) (obs := []) (by kernel_rfl) (by kernel_rfl) (by kernel_rfl) allP0 ?_
              refine seqQ_norm ?_
              obtain rfl := Option.some.inj h
              refine W_ret [6] [] (fr' := [(6, aI (2 : Int))]) (L' := []) (by kernel_rfl) (by kernel_rfl) ?_
              refine blockQ_ret ?_
              refine seqQ_ret ?_
              refine round_ret ?_
              refine escQ_ret ?_
              exact exQ_mk (by kernel_rfl) (by kernel_rfl)
            · replace h := ofF h82 h
              refine W_skip [0, 2, 17, 18, 19] [] (fr' := [(0, aI a0), (2, aI a2), (17, aD (.slice (.pair tI (.pair tI tI))) a1), (18, aI (List.length a1 : Int)), (19, aI i56)]) (L' := []) (by kernel_rfl) (by kernel_rfl) ?_
              refine blockQ_norm ?_
              refine seqQ_norm ?_
              obtain rfl := Option.some.inj h
              refine W_run 2 [] [0, 2, 17, 18, 19] [] (fr' := [(0, aI a0), (2, aI a2), (17, aD (.slice (.pair tI (.pair tI tI))) a1), (18, aI (List.length a1 : Int)), (19, aI (w64 (i56 + (1 : Int))))]) (L' := []) (obs := []) (by kernel_rfl) (by kernel_rfl) (by kernel_rfl) allP0 ?_
              exact round_next' (by kernel_rfl) (by kernel_rfl)
      · obtain rfl := stepL_false h61 h
        refine W_exit (id := 0) [0, 2] [] (fr' := [(0, aI a0), (2, aI a2)]) (L' := []) (by kernel_rfl) (by kernel_rfl) ?_
        refine seqQ_exit ?_
        refine round_exit ?_
        refine escQ_brk ?_
        exact exQ_mk (by kernel_rfl) (by kernel_rfl)
    · intro e fr L hJ
      rcases v84 with v89 | v90
      · obtain ⟨rfl, rfl, rfl⟩ := hJ
        obtain rfl := Option.some.inj h
        refine LT_keep [6] [] (fr' := [(6, aI v89)]) (L' := []) (by kernel_rfl) ?_
        refine blockQ_ret ?_
        refine seqQ_ret ?_
        exact retQ_mk (by kernel_rfl) (by kernel_rfl) (by kernel_rfl)
      · obtain ⟨rfl, rfl, rfl⟩ := hJ
        refine LT_keep [0, 2] [] (fr' := [(0, aI a0), (2, aI a2)]) (L' := []) (by kernel_rfl) ?_
        refine blockQ_hit ?_
        refine seqQ_norm ?_
        refine W_seq (by kernel_rfl) ?_
        refine W_seq (by kernel_rfl) ?_
        obtain ⟨_, h91, h⟩ := bind_of h
        replace h91 := ck_some h91
        refine W_region (by kernel_rfl) ?_
        refine WO_run (j := 5) (k := 5) (orcs := []) (kF := [47, 49]) (kL := [49]) (fr' := [(47, aI (bShl .i64 (1 : Int) (IntKind.wrap .u64 (a0)))), (49, .one (.slc 49))]) (L' := [(49, .seq tI [a2])]) (obs := [(0 ≤ IntKind.wrap .u64 (a0))]) rfl (by kernel_rfl) (allP1 h91) ?_
        obtain ⟨r92, h93, h⟩ := bind_of h
        refine WO_frz 49 (by kernel_rfl) ?_
        refine WO_call0 (us := [none, none]) (d := 50) (p := True) (j := 6) rfl ⟨by kernel_rfl, by kernel_rfl, by kernel_rfl⟩ trivial (ref_Inside_ok h93) (by kernel_rfl) ?_
        refine WO_run (j := 7) (k := 1) (orcs := []) (kF := [51]) (kL := []) (fr' := [(51, aB (!r92))]) (L' := []) (obs := []) rfl (by kernel_rfl) allP0 ?_
        refine WO_fin [51] [] (fr' := [(51, aB (!r92))]) (L' := []) (by kernel_rfl) (by kernel_rfl) ?_
        refine seqQ_norm ?_
        refine W_cond (o := .tmp 51) (b := !r92) (by kernel_rfl) (by kernel_rfl) (fun h94 => ?_) (fun h94 => ?_)
        · replace h := ofT h94 h
          refine W_seq (by kernel_rfl) ?_
          refine W_run 1 [] [6] [] (fr' := [(6, aI (4 : Int))]) (L' := []) (obs := []) (by kernel_rfl) (by kernel_rfl) (by kernel_rfl) allP0 ?_
          refine seqQ_norm ?_
          obtain rfl := Option.some.inj h
          refine W_ret [6] [] (fr' := [(6, aI (4 : Int))]) (L' := []) (by kernel_rfl) (by kernel_rfl) ?_
          refine seqQ_ret ?_
          exact retQ_mk (by kernel_rfl) (by kernel_rfl) (by kernel_rfl)
        · replace h := ofF h94 h
          refine W_skip [] [] (fr' := []) (L' := []) (by kernel_rfl) (by kernel_rfl) ?_
          refine seqQ_norm ?_
          refine W_seq (by kernel_rfl) ?_
          refine W_run 1 [] [6] [] (fr' := [(6, aI (0 : Int))]) (L' := []) (obs := []) (by kernel_rfl) (by kernel_rfl) (by kernel_rfl) allP0 ?_
          refine seqQ_norm ?_
          obtain rfl := Option.some.inj h
          refine W_ret [6] [] (fr' := [(6, aI (0 : Int))]) (L' := []) (by kernel_rfl) (by kernel_rfl) ?_
          exact retQ_mk (by kernel_rfl) (by kernel_rfl) (by kernel_rfl)

@[reducible] def ref_One_s3 (a0 : (List Bool)) (a1 : Int) (a2 : Int) (i41 : Int) (v : Bool) : Fr × LL := ([(0, aD (.slice .bool) a0), (1, aI a1), (2, aI a2), (7, aI i41), (31, aB v)], [])
def ref_One_b4 (a0 : (List Bool)) (a1 : Int) (a2 : Int) (i41 : Int) (v44 : Bool) (x42 : Unit) : Option (Flow Unit (Esc Bool Unit)) :=
(bif (bAnd .i64 i41 a1) == (bAnd .i64 a2 a1) then
((idx a0 a2).bind fun v54 =>
some (!(v44 == v54)))
else
(some false)).bind fun v56 =>
bif v56 then
(some (.done (.ret false)))
else
(some (.next ()))
@[reducible] def ref_One_s5 (a0 : (List Bool)) (a1 : Int) (a2 : Int) (v : Int × Unit) : Fr × LL := ([(0, aD (.slice .bool) a0), (1, aI a1), (2, aI a2), (7, aI v.1)], [])
@[reducible] def ref_One_s6 (v : Bool) : Fr × LL := ([(6, aB v)], [])
@[reducible] def ref_One_s7 (v : Unit) : Fr × LL := ([], [])
def ref_One (a0 : (List Bool)) (a1 : Int) (a2 : Int) : Option Bool :=
(forL (ref_One_b4 a0 a1 a2) (fun x42 => (.brk ())) a0 0 ()).bind fun v60 =>
match v60 with
| .ret v65 =>
(some v65)
| .brk v66 =>
(some true)
theorem ref_One_ok {a0 : (List Bool)} {a1 : Int} {a2 : Int} {r : Bool} (h : ref_One a0 a1 a2 = some r) : FnC Try.prog 43 [aD (.slice .bool) a0, aI a1, aI a2] [] (aB r) [] := by
  refine fnC_of_W (B := bodyOf Try.f43) (n := 32) Try.func43 (by kernel_rfl) (by kernel_rfl) (by kernel_rfl) (by kernel_rfl) (by kernel_rfl) ?_
  intro K
  refine W_seq (by kernel_rfl) ?_
  refine W_run 1 [] [0, 1, 2] [] (fr' := [(0, aD (.slice .bool) a0), (1, aI a1), (2, aI a2)]) (L' := []) (obs := []) (by kernel_rfl) (by kernel_rfl) (by kernel_rfl) allP0 ?_
  refine seqQ_norm ?_
  refine W_seq (by kernel_rfl) ?_
  refine W_seq (by kernel_rfl) ?_
  refine W_run 1 [] [0, 1, 2, 7] [] (fr' := [(0, aD (.slice .bool) a0), (1, aI a1), (2, aI a2), (7, aI (0 : Int))]) (L' := []) (obs := []) (by kernel_rfl) (by kernel_rfl) (by kernel_rfl) allP0 ?_
  refine seqQ_norm ?_
  refine W_block (id := 0) (by kernel_rfl) ?_
  obtain ⟨v60, h61, h⟩ := bind_of h
  refine W_len (t := 0) (u := .bool) (xs := a0) (by kernel_rfl) (fun h64 => ?_)
  obtain ⟨h62, h63⟩ := forL_iter h64 h61
  refine W_weaken [0, 1, 2, 7] [] (fr' := ((ref_One_s5 a0 a1 a2) ((0 : Int), ())).1) (L' := ((ref_One_s5 a0 a1 a2) ((0 : Int), ())).2) (by kernel_rfl) ?_
  refine W_cutK (W_loop (S := (ref_One_s5 a0 a1 a2)) (J := (escQ (exQ .ret ref_One_s6) (exQ (.exit 0) ref_One_s7))) (by kernel_rfl) ?_ h62 _ v60 h63) ?_
  · rintro ⟨i41, x42⟩ s h
    refine W_seq (by kernel_rfl) ?_
    refine W_seq (by kernel_rfl) ?_
    refine W_run 4 [] [0, 1, 2, 7, 11] [] (fr' := [(0, aD (.slice .bool) a0), (1, aI a1), (2, aI a2), (7, aI i41), (11, aB (decide (i41 < (List.length a0 : Int))))]) (L' := []) (obs := []) (by kernel_rfl) (by kernel_rfl) (by kernel_rfl) allP0 ?_
    refine seqQ_norm ?_
    refine W_cond (o := .tmp 11) (b := decide (i41 < (List.length a0 : Int))) (by kernel_rfl) (by kernel_rfl) (fun h46 => ?_) (fun h46 => ?_)
    · replace h := stepL_true h46 h
      obtain ⟨v44, _, h45, h, rfl⟩ := h
      refine W_skip [0, 1, 2, 7] [] (fr' := [(0, aD (.slice .bool) a0), (1, aI a1), (2, aI a2), (7, aI i41)]) (L' := []) (by kernel_rfl) (by kernel_rfl) ?_
      refine seqQ_norm ?_
      refine W_seq (by kernel_rfl) ?_
      refine W_block (id := 1) (by kernel_rfl) ?_
      refine W_seq (by kernel_rfl) ?_
      obtain ⟨v56, h57, h⟩ := bind_of h
      refine W_cutK (Q' := (exQ .normal (ref_One_s3 a0 a1 a2 i41)) v56) ?_ ?_
      · replace h := h57
        rcases Bool.eq_false_or_eq_true ((bAnd .i64 i41 a1) == (bAnd .i64 a2 a1)) with h53 | h53
        · replace h := ofT h53 h
          obtain ⟨v54, h55, h⟩ := bind_of h
          obtain rfl := Option.some.inj h
          refine W_draw2 18 [(16, .known true), (18, .known true), (20, .known true), (21, .val (.dat .bool v44)), (22, .known true), (24, .known true), (26, .known true), (28, .known true), (29, .val (.dat .bool v54)), (30, .known true), (32, .known true), (35, .val (.dat .bool true))] [] [0, 1, 2, 7, 31] [] (fr' := [(0, aD (.slice .bool) a0), (1, aI a1), (2, aI a2), (7, aI i41), (31, aB (!(v44 == v54)))]) (L' := []) (out := [(14, aI i41), (15, aI a1), (16, aI (bAnd .i64 i41 a1)), (17, aI a2), (18, aI a1), (19, aI (bAnd .i64 a2 a1)), (20, aB ((bAnd .i64 i41 a1) == (bAnd .i64 a2 a1))), (21, aB ((bAnd .i64 i41 a1) == (bAnd .i64 a2 a1))), (22, aD (.slice .bool) a0), (23, aI i41), (24, .one (.dptr .bool v44)), (25, aB v44), (26, aD (.slice .bool) a0), (27, aI a2), (28, .one (.dptr .bool v54)), (29, aB v54), (30, aB (!(v44 == v54))), (31, aB (!(v44 == v54)))]) (obs := [(((bAnd .i64 i41 a1) == (bAnd .i64 a2 a1)) = true), (((bAnd .i64 i41 a1) == (bAnd .i64 a2 a1)) = true), (((bAnd .i64 i41 a1) == (bAnd .i64 a2 a1)) = true), Idx a0 i41 v44, (((bAnd .i64 i41 a1) == (bAnd .i64 a2 a1)) = true), (((bAnd .i64 i41 a1) == (bAnd .i64 a2 a1)) = true), (((bAnd .i64 i41 a1) == (bAnd .i64 a2 a1)) = true), (((bAnd .i64 i41 a1) == (bAnd .i64 a2 a1)) = true), Idx a0 a2 v54, (((bAnd .i64 i41 a1) == (bAnd .i64 a2 a1)) = true), (((bAnd .i64 i41 a1) == (bAnd .i64 a2 a1)) = true), (((bAnd .i64 i41 a1) == (bAnd .i64 a2 a1)) = true)]) (obs2 := []) (calls := []) (by kernel_rfl) (by kernel_rfl) (by kernel_rfl) (by kernel_rfl) (allP2 h53 (allP2 h53 (allP2 h53 (allP2 (Idx.of h45) (allP2 h53 (allP2 h53 (allP2 h53 (allP2 h53 (allP2 (Idx.of h55) (allP2 h53 (allP2 h53 (allP1 h53)))))))))))) allC0 (by kernel_rfl) allP0 ?_
          exact exQ_mk (by kernel_rfl) (by kernel_rfl)
        · replace h := ofF h53 h
          obtain rfl := Option.some.inj h
          refine W_draw2 18 [(16, .known false), (18, .known false), (20, .known false), (22, .known false), (24, .known false), (26, .known false), (28, .known false), (30, .known false), (32, .known false), (35, .val (.dat .bool false))] [] [0, 1, 2, 7, 31] [] (fr' := [(0, aD (.slice .bool) a0), (1, aI a1), (2, aI a2), (7, aI i41), (31, aB false)]) (L' := []) (out := [(14, aI i41), (15, aI a1), (16, aI (bAnd .i64 i41 a1)), (17, aI a2), (18, aI a1), (19, aI (bAnd .i64 a2 a1)), (20, aB ((bAnd .i64 i41 a1) == (bAnd .i64 a2 a1))), (21, aB ((bAnd .i64 i41 a1) == (bAnd .i64 a2 a1))), (22, .tup []), (23, .tup []), (24, .tup []), (25, .tup []), (26, .tup []), (27, .tup []), (28, .tup []), (29, .tup []), (30, .tup []), (31, aB false)]) (obs := [(((bAnd .i64 i41 a1) == (bAnd .i64 a2 a1)) = false), (((bAnd .i64 i41 a1) == (bAnd .i64 a2 a1)) = false), (((bAnd .i64 i41 a1) == (bAnd .i64 a2 a1)) = false), (((bAnd .i64 i41 a1) == (bAnd .i64 a2 a1)) = false), (((bAnd .i64 i41 a1) == (bAnd .i64 a2 a1)) = false), (((bAnd .i64 i41 a1) == (bAnd .i64 a2 a1)) = false), (((bAnd .i64 i41 a1) == (bAnd .i64 a2 a1)) = false), (((bAnd .i64 i41 a1) == (bAnd .i64 a2 a1)) = false), (((bAnd .i64 i41 a1) == (bAnd .i64 a2 a1)) = false), (((bAnd .i64 i41 a1) == (bAnd .i64 a2 a1)) = false)]) (obs2 := []) (calls := []) (by kernel_rfl) (by kernel_rfl) (by kernel_rfl) (by kernel_rfl) (allP2 h53 (allP2 h53 (allP2 h53 (allP2 h53 (allP2 h53 (allP2 h53 (allP2 h53 (allP2 h53 (allP2 h53 (allP1 h53)))))))))) allC0 (by kernel_rfl) allP0 ?_
          exact exQ_mk (by kernel_rfl) (by kernel_rfl)
      · intro e fr L hJ
        obtain ⟨rfl, rfl, rfl⟩ := hJ
        refine LT_keep [0, 1, 2, 7, 31] [] (fr' := [(0, aD (.slice .bool) a0), (1, aI a1), (2, aI a2), (7, aI i41), (31, aB v56)]) (L' := []) (by kernel_rfl) ?_
        refine seqQ_norm ?_
        refine W_cond (o := .tmp 31) (b := v56) (by kernel_rfl) (by kernel_rfl) (fun h58 => ?_) (fun h58 => ?_)
        · replace h := ofT h58 h
          refine W_seq (by kernel_rfl) ?_
          refine W_run 1 [] [6] [] (fr' := [(6, aB false)]) (L' := []) (obs := []) (by kernel_rfl) (by kernel_rfl) (by kernel_rfl) allP0 ?_
          refine seqQ_norm ?_
          obtain rfl := Option.some.inj h
          refine W_ret [6] [] (fr' := [(6, aB false)]) (L' := []) (by kernel_rfl) (by kernel_rfl) ?_
          refine blockQ_ret ?_
          refine seqQ_ret ?_
          refine round_ret ?_
          refine escQ_ret ?_
          exact exQ_mk (by kernel_rfl) (by kernel_rfl)
        · replace h := ofF h58 h
          refine W_skip [0, 1, 2, 7] [] (fr' := [(0, aD (.slice .bool) a0), (1, aI a1), (2, aI a2), (7, aI i41)]) (L' := []) (by kernel_rfl) (by kernel_rfl) ?_
          refine blockQ_norm ?_
          refine seqQ_norm ?_
          obtain rfl := Option.some.inj h
          refine W_run 3 [] [0, 1, 2, 7] [] (fr' := [(0, aD (.slice .bool) a0), (1, aI a1), (2, aI a2), (7, aI (w64 (i41 + (1 : Int))))]) (L' := []) (obs := []) (by kernel_rfl) (by kernel_rfl) (by kernel_rfl) allP0 ?_
          exact round_next' (by kernel_rfl) (by kernel_rfl)
    · obtain rfl := stepL_false h46 h
      refine W_exit (id := 0) [] [] (fr' := []) (L' := []) (by kernel_rfl) (by kernel_rfl) ?_
      refine seqQ_exit ?_
      refine round_exit ?_
      refine escQ_brk ?_
      exact exQ_mk (by kernel_rfl) (by kernel_rfl)
  · intro e fr L hJ
    rcases v60 with v65 | v66
    · obtain ⟨rfl, rfl, rfl⟩ := hJ
      obtain rfl := Option.some.inj h
      refine LT_keep [6] [] (fr' := [(6, aB v65)]) (L' := []) (by kernel_rfl) ?_
      refine blockQ_ret ?_
      refine seqQ_ret ?_
      exact retQ_mk (by kernel_rfl) (by kernel_rfl) (by kernel_rfl)
    · obtain ⟨rfl, rfl, rfl⟩ := hJ
      refine LT_keep [] [] (fr' := []) (L' := []) (by kernel_rfl) ?_
      refine blockQ_hit ?_
      refine seqQ_norm ?_
      refine W_seq (by kernel_rfl) ?_
      refine W_run 1 [] [6] [] (fr' := [(6, aB true)]) (L' := []) (obs := []) (by kernel_rfl) (by kernel_rfl) (by kernel_rfl) allP0 ?_
      refine seqQ_norm ?_
      obtain rfl := Option.some.inj h
      refine W_ret [6] [] (fr' := [(6, aB true)]) (L' := []) (by kernel_rfl) (by kernel_rfl) ?_
      exact retQ_mk (by kernel_rfl) (by kernel_rfl) (by kernel_rfl)

def ref_Bit (a0 : Int) (a1 : Int) : Option Bool :=
bif (decide (a1 ≥ (0 : Int))) && (decide (a1 < (63 : Int))) then
((ck (0 ≤ IntKind.wrap .u64 (a1))).bind fun _ =>
some ((bAnd .i64 a0 (bShl .i64 (1 : Int) (IntKind.wrap .u64 (a1)))) != (0 : Int)))
else
(some false)
theorem ref_Bit_ok {a0 : Int} {a1 : Int} {r : Bool} (h : ref_Bit a0 a1 = some r) : FnC Try.prog 36 [aI a0, aI a1] [] (aB r) [] := by
  refine fnC_of_W (B := bodyOf Try.f36) (n := 19) Try.func36 (by kernel_rfl) (by kernel_rfl) (by kernel_rfl) (by kernel_rfl) (by kernel_rfl) ?_
  intro K
  refine W_seq (by kernel_rfl) ?_
  refine W_run 1 [] [0, 1] [] (fr' := [(0, aI a0), (1, aI a1)]) (L' := []) (obs := []) (by kernel_rfl) (by kernel_rfl) (by kernel_rfl) allP0 ?_
  refine seqQ_norm ?_
  refine W_seq (by kernel_rfl) ?_
  refine W_region (by kernel_rfl) ?_
  refine WO_run (j := 7) (k := 7) (orcs := []) (kF := [0, 1, 11]) (kL := []) (fr' := [(0, aI a0), (1, aI a1), (11, aB ((decide (a1 ≥ (0 : Int))) && (decide (a1 < (63 : Int)))))]) (L' := []) (obs := []) rfl (by kernel_rfl) allP0 ?_
  rcases Bool.eq_false_or_eq_true ((decide (a1 ≥ (0 : Int))) && (decide (a1 < (63 : Int)))) with h1 | h1
  · replace h := ofT h1 h
    obtain ⟨_, h2, h⟩ := bind_of h
    replace h2 := ck_some h2
    refine WO_run (j := 15) (k := 8) (orcs := [(14, .known true), (16, .known true), (18, .known true), (20, .known true), (22, .known true), (24, .known true), (27, .val (.dat .bool true))]) (kF := [4]) (kL := []) (fr' := [(4, aB ((bAnd .i64 a0 (bShl .i64 (1 : Int) (IntKind.wrap .u64 (a1)))) != (0 : Int)))]) (L' := []) (obs := [(((decide (a1 ≥ (0 : Int))) && (decide (a1 < (63 : Int)))) = true), (((decide (a1 ≥ (0 : Int))) && (decide (a1 < (63 : Int)))) = true), (((decide (a1 ≥ (0 : Int))) && (decide (a1 < (63 : Int)))) = true), (((decide (a1 ≥ (0 : Int))) && (decide (a1 < (63 : Int)))) = true), (0 ≤ IntKind.wrap .u64 (a1)), (((decide (a1 ≥ (0 : Int))) && (decide (a1 < (63 : Int)))) = true), (((decide (a1 ≥ (0 : Int))) && (decide (a1 < (63 : Int)))) = true), (((decide (a1 ≥ (0 : Int))) && (decide (a1 < (63 : Int)))) = true)]) rfl (by kernel_rfl) (allP2 h1 (allP2 h1 (allP2 h1 (allP2 h1 (allP2 h2 (allP2 h1 (allP2 h1 (allP1 h1)))))))) ?_
    refine WO_fin [4] [] (fr' := [(4, aB ((bAnd .i64 a0 (bShl .i64 (1 : Int) (IntKind.wrap .u64 (a1)))) != (0 : Int)))]) (L' := []) (by kernel_rfl) (by kernel_rfl) ?_
    refine seqQ_norm ?_
    obtain rfl := Option.some.inj h
    refine W_ret [4] [] (fr' := [(4, aB ((bAnd .i64 a0 (bShl .i64 (1 : Int) (IntKind.wrap .u64 (a1)))) != (0 : Int)))]) (L' := []) (by kernel_rfl) (by kernel_rfl) ?_
    exact retQ_mk (by kernel_rfl) (by kernel_rfl) (by kernel_rfl)
  · replace h := ofF h1 h
    refine WO_run (j := 15) (k := 8) (orcs := [(14, .known false), (16, .known false), (18, .known false), (20, .known false), (22, .known false), (24, .known false), (27, .val (.dat .bool false))]) (kF := [4]) (kL := []) (fr' := [(4, aB false)]) (L' := []) (obs := [(((decide (a1 ≥ (0 : Int))) && (decide (a1 < (63 : Int)))) = false), (((decide (a1 ≥ (0 : Int))) && (decide (a1 < (63 : Int)))) = false), (((decide (a1 ≥ (0 : Int))) && (decide (a1 < (63 : Int)))) = false), (((decide (a1 ≥ (0 : Int))) && (decide (a1 < (63 : Int)))) = false), (((decide (a1 ≥ (0 : Int))) && (decide (a1 < (63 : Int)))) = false), (((decide (a1 ≥ (0 : Int))) && (decide (a1 < (63 : Int)))) = false), (((decide (a1 ≥ (0 : Int))) && (decide (a1 < (63 : Int)))) = false)]) rfl (by kernel_rfl) (allP2 h1 (allP2 h1 (allP2 h1 (allP2 h1 (allP2 h1 (allP2 h1 (allP1 h1))))))) ?_
    refine WO_fin [4] [] (fr' := [(4, aB false)]) (L' := []) (by kernel_rfl) (by kernel_rfl) ?_
    refine seqQ_norm ?_
    obtain rfl := Option.some.inj h
    refine W_ret [4] [] (fr' := [(4, aB false)]) (L' := []) (by kernel_rfl) (by kernel_rfl) ?_
    exact retQ_mk (by kernel_rfl) (by kernel_rfl) (by kernel_rfl)

def ref_Asks_g22 (a0 : Int) (a1 : (List Bool)) (a2 : Int) (a3 : Int) (a4 : Int) (rf_ref_Asks : Int → (List Bool) → Int → Int → Int → Option Bool) (i146 : Int) : Option Bool :=
(rf_ref_Asks a0 a1 (w64 (a2 + (bShl .i64 (1 : Int) (IntKind.wrap .u64 (i146))))) (bClr .i64 a3 (bShl .i64 (1 : Int) (IntKind.wrap .u64 (i146)))) (w64 (a4 - (1 : Int)))).bind fun r208 =>
bif r208 then
((rf_ref_Asks a0 a1 (w64 (a2 + (bShl .i64 (1 : Int) (IntKind.wrap .u64 (i146))))) (bOr .i64 a3 (bShl .i64 (1 : Int) (IntKind.wrap .u64 (i146)))) (w64 (a4 - (1 : Int)))).bind fun r211 =>
some r211)
else
(some false)
@[reducible] def ref_Asks_s23 (a0 : Int) (a1 : (List Bool)) (a2 : Int) (a3 : Int) (a4 : Int) (i146 : Int) (v : Bool) : Fr × LL := ([(0, aI a0), (1, aD (.slice .bool) a1), (2, aI a2), (3, aI a3), (4, aI a4), (11, aI i146), (53, aB v)], [])
def ref_Asks_g24 (a0 : Int) (a1 : (List Bool)) (a2 : Int) (a3 : Int) (a4 : Int) (rf_ref_Asks : Int → (List Bool) → Int → Int → Int → Option Bool) (i146 : Int) : Option (Esc Bool Unit) :=
(ck (0 ≤ IntKind.wrap .u64 (i146))).bind fun _ =>
(ref_Bit a2 i146).bind fun r195 =>
bif r195 then
(some (.brk ()))
else
((ref_Asks_g22 a0 a1 a2 a3 a4 rf_ref_Asks i146).bind fun v213 =>
bif v213 then
(some (.ret true))
else
(some (.brk ())))
@[reducible] def ref_Asks_s25 (v : Bool) : Fr × LL := ([(10, aB v)], [])
@[reducible] def ref_Asks_s26 (a0 : Int) (a1 : (List Bool)) (a2 : Int) (a3 : Int) (a4 : Int) (i146 : Int) (v : Unit) : Fr × LL := ([(0, aI a0), (1, aD (.slice .bool) a1), (2, aI a2), (3, aI a3), (4, aI a4), (11, aI i146)], [])
def ref_Asks_b27 (a0 : Int) (a1 : (List Bool)) (a2 : Int) (a3 : Int) (a4 : Int) (rf_ref_Asks : Int → (List Bool) → Int → Int → Int → Option Bool) (i146 : Int) (x147 : Unit) : Option (Flow Unit (Esc Bool Unit)) :=
(ref_Asks_g24 a0 a1 a2 a3 a4 rf_ref_Asks i146).bind fun v216 =>
match v216 with
| .ret v218 =>
(some (.done (.ret v218)))
| .brk v219 =>
(some (.next ()))
@[reducible] def ref_Asks_s28 (a0 : Int) (a1 : (List Bool)) (a2 : Int) (a3 : Int) (a4 : Int) (v : Int × Unit) : Fr × LL := ([(0, aI a0), (1, aD (.slice .bool) a1), (2, aI a2), (3, aI a3), (4, aI a4), (11, aI v.1)], [])
@[reducible] def ref_Asks_s29 (v : Bool) : Fr × LL := ([(10, aB v)], [])
@[reducible] def ref_Asks_s30 (v : Unit) : Fr × LL := ([], [])
def ref_Asks_step (rf_ref_Asks : Int → (List Bool) → Int → Int → Int → Option Bool) (fuel : Nat) (a0 : Int) (a1 : (List Bool)) (a2 : Int) (a3 : Int) (a4 : Int) : Option Bool :=
(ref_One a1 a2 a3).bind fun r1 =>
bif r1 then
(some true)
else
(bif a4 == (0 : Int) then
(some false)
else
((forI (0 : Int) a0 (ref_Asks_b27 a0 a1 a2 a3 a4 rf_ref_Asks) (fun x147 => (.brk ())) ()).bind fun v221 =>
match v221 with
| .ret v225 =>
(some v225)
| .brk v226 =>
(some false)))
def ref_Asks : Nat → Int → (List Bool) → Int → Int → Int → Option Bool
  | 0 => fun _ _ _ _ _ => none
  | fuel + 1 => fun a0 a1 a2 a3 a4 => ref_Asks_step (ref_Asks fuel) fuel a0 a1 a2 a3 a4
theorem ref_Asks_step_ok {rf_ref_Asks : Int → (List Bool) → Int → Int → Int → Option Bool} (ih_ref_Asks : ∀ {a0 : Int} {a1 : (List Bool)} {a2 : Int} {a3 : Int} {a4 : Int} {r : Bool}, rf_ref_Asks a0 a1 a2 a3 a4 = some r → FnC Try.prog 40 [aI a0, aD (.slice .bool) a1, aI a2, aI a3, aI a4] [] (aB r) []) {fuel : Nat} {a0 : Int} {a1 : (List Bool)} {a2 : Int} {a3 : Int} {a4 : Int} {r : Bool} (h : ref_Asks_step rf_ref_Asks fuel a0 a1 a2 a3 a4 = some r) : FnC Try.prog 40 [aI a0, aD (.slice .bool) a1, aI a2, aI a3, aI a4] [] (aB r) [] := by
  refine fnC_of_W (B := bodyOf Try.f40) (n := 54) Try.func40 (by kernel_rfl) (by kernel_rfl) (by kernel_rfl) (by kernel_rfl) (by kernel_rfl) ?_
  intro K
  refine W_seq (by kernel_rfl) ?_
  refine W_run 1 [] [0, 1, 2, 3, 4] [] (fr' := [(0, aI a0), (1, aD (.slice .bool) a1), (2, aI a2), (3, aI a3), (4, aI a4)]) (L' := []) (obs := []) (by kernel_rfl) (by kernel_rfl) (by kernel_rfl) allP0 ?_
  refine seqQ_norm ?_
  refine W_seq (by kernel_rfl) ?_
  refine W_seq (by kernel_rfl) ?_
  refine W_region (by kernel_rfl) ?_
  refine WO_run (j := 3) (k := 3) (orcs := []) (kF := [0, 1, 2, 3, 4, 13, 14, 15]) (kL := []) (fr' := [(0, aI a0), (1, aD (.slice .bool) a1), (2, aI a2), (3, aI a3), (4, aI a4), (13, aD (.slice .bool) a1), (14, aI a2), (15, aI a3)]) (L' := []) (obs := []) rfl (by kernel_rfl) allP0 ?_
  obtain ⟨r1, h2, h⟩ := bind_of h
  refine WO_call0 (us := [none, none, none]) (d := 16) (p := True) (j := 4) rfl ⟨by kernel_rfl, by kernel_rfl, by kernel_rfl⟩ trivial (ref_One_ok h2) (by kernel_rfl) ?_
  refine WO_fin [0, 1, 2, 3, 4, 16] [] (fr' := [(0, aI a0), (1, aD (.slice .bool) a1), (2, aI a2), (3, aI a3), (4, aI a4), (16, aB r1)]) (L' := []) (by kernel_rfl) (by kernel_rfl) ?_
  refine seqQ_norm ?_
  refine W_cond (o := .tmp 16) (b := r1) (by kernel_rfl) (by kernel_rfl) (fun h3 => ?_) (fun h3 => ?_)
  · replace h := ofT h3 h
    refine W_seq (by kernel_rfl) ?_
    refine W_run 1 [] [10] [] (fr' := [(10, aB true)]) (L' := []) (obs := []) (by kernel_rfl) (by kernel_rfl) (by kernel_rfl) allP0 ?_
    refine seqQ_norm ?_
    obtain rfl := Option.some.inj h
    refine W_ret [10] [] (fr' := [(10, aB true)]) (L' := []) (by kernel_rfl) (by kernel_rfl) ?_
    refine seqQ_ret ?_
    exact retQ_mk (by kernel_rfl) (by kernel_rfl) (by kernel_rfl)
  · replace h := ofF h3 h
    refine W_skip [0, 1, 2, 3, 4] [] (fr' := [(0, aI a0), (1, aD (.slice .bool) a1), (2, aI a2), (3, aI a3), (4, aI a4)]) (L' := []) (by kernel_rfl) (by kernel_rfl) ?_
    refine seqQ_norm ?_
    refine W_seq (by kernel_rfl) ?_
    refine W_seq (by kernel_rfl) ?_
    refine W_run 2 [] [0, 1, 2, 3, 4, 18] [] (fr' := [(0, aI a0), (1, aD (.slice .bool) a1), (2, aI a2), (3, aI a3), (4, aI a4), (18, aB (a4 == (0 : Int)))]) (L' := []) (obs := []) (by kernel_rfl) (by kernel_rfl) (by kernel_rfl) allP0 ?_
    refine seqQ_norm ?_
    refine W_cond (o := .tmp 18) (b := a4 == (0 : Int)) (by kernel_rfl) (by kernel_rfl) (fun h4 => ?_) (fun h4 => ?_)
    · replace h := ofT h4 h
      refine W_seq (by kernel_rfl) ?_
      refine W_run 1 [] [10] [] (fr' := [(10, aB false)]) (L' := []) (obs := []) (by kernel_rfl) (by kernel_rfl) (by kernel_rfl) allP0 ?_
      refine seqQ_norm ?_
      obtain rfl := Option.some.inj h
      refine W_ret [10] [] (fr' := [(10, aB false)]) (L' := []) (by kernel_rfl) (by kernel_rfl) ?_
      refine seqQ_ret ?_
      exact retQ_mk (by kernel_rfl) (by kernel_rfl) (by kernel_rfl)
    · replace h := ofF h4 h
      refine W_skip [0, 1, 2, 3, 4] [] (fr' := [(0, aI a0), (1, aD (.slice .bool) a1), (2, aI a2), (3, aI a3), (4, aI a4)]) (L' := []) (by kernel_rfl) (by kernel_rfl) ?_
      refine seqQ_norm ?_
      refine W_seq (by kernel_rfl) ?_
      refine W_seq (by kernel_rfl) ?_
      refine W_run 1 [] [0, 1, 2, 3, 4, 11] [] (fr' := [(0, aI a0), (1, aD (.slice .bool) a1), (2, aI a2), (3, aI a3), (4, aI a4), (11, aI (0 : Int))]) (L' := []) (obs := []) (by kernel_rfl) (by kernel_rfl) (by kernel_rfl) allP0 ?_
      refine seqQ_norm ?_
      refine W_block (id := 0) (by kernel_rfl) ?_
      obtain ⟨v221, h222, h⟩ := bind_of h
      obtain ⟨h223, h224⟩ := forI_iter h222
      refine W_weaken [0, 1, 2, 3, 4, 11] [] (fr' := ((ref_Asks_s28 a0 a1 a2 a3 a4) ((0 : Int), ())).1) (L' := ((ref_Asks_s28 a0 a1 a2 a3 a4) ((0 : Int), ())).2) (by kernel_rfl) ?_
      refine W_cutK (W_loop (S := (ref_Asks_s28 a0 a1 a2 a3 a4)) (J := (escQ (exQ .ret ref_Asks_s29) (exQ (.exit 0) ref_Asks_s30))) (by kernel_rfl) ?_ h223 _ v221 h224) ?_
      · rintro ⟨i146, x147⟩ s h
        refine W_seq (by kernel_rfl) ?_
        refine W_seq (by kernel_rfl) ?_
        refine W_run 3 [] [0, 1, 2, 3, 4, 11, 21] [] (fr' := [(0, aI a0), (1, aD (.slice .bool) a1), (2, aI a2), (3, aI a3), (4, aI a4), (11, aI i146), (21, aB (decide (i146 < a0)))]) (L' := []) (obs := []) (by kernel_rfl) (by kernel_rfl) (by kernel_rfl) allP0 ?_
        refine seqQ_norm ?_
        refine W_cond (o := .tmp 21) (b := decide (i146 < a0)) (by kernel_rfl) (by kernel_rfl) (fun h149 => ?_) (fun h149 => ?_)
        · replace h := stepI_true h149 h
          obtain ⟨_, h, rfl⟩ := h
          refine W_skip [0, 1, 2, 3, 4, 11] [] (fr' := [(0, aI a0), (1, aD (.slice .bool) a1), (2, aI a2), (3, aI a3), (4, aI a4), (11, aI i146)]) (L' := []) (by kernel_rfl) (by kernel_rfl) ?_
          refine seqQ_norm ?_
          refine W_seq (by kernel_rfl) ?_
          obtain ⟨v216, h217, h⟩ := bind_of h
          refine W_cutK (Q' := (escQ (exQ .ret ref_Asks_s25) (exQ .normal (ref_Asks_s26 a0 a1 a2 a3 a4 i146))) v216) ?_ ?_
          · replace h := h217
            refine W_block (id := 1) (by kernel_rfl) ?_
            refine W_seq (by kernel_rfl) ?_
            obtain ⟨_, h194, h⟩ := bind_of h
            replace h194 := ck_some h194
            refine W_run 4 [] [0, 1, 2, 3, 4, 11, 12] [] (fr' := [(0, aI a0), (1, aD (.slice .bool) a1), (2, aI a2), (3, aI a3), (4, aI a4), (11, aI i146), (12, aI (bShl .i64 (1 : Int) (IntKind.wrap .u64 (i146))))]) (L' := []) (obs := [(0 ≤ IntKind.wrap .u64 (i146))]) (by kernel_rfl) (by kernel_rfl) (by kernel_rfl) (allP1 h194) ?_
            refine seqQ_norm ?_
            refine W_seq (by kernel_rfl) ?_
            refine W_seq (by kernel_rfl) ?_
            refine W_region (by kernel_rfl) ?_
            refine WO_run (j := 2) (k := 2) (orcs := []) (kF := [0, 1, 2, 3, 4, 11, 12, 27, 28]) (kL := []) (fr' := [(0, aI a0), (1, aD (.slice .bool) a1), (2, aI a2), (3, aI a3), (4, aI a4), (11, aI i146), (12, aI (bShl .i64 (1 : Int) (IntKind.wrap .u64 (i146)))), (27, aI a2), (28, aI i146)]) (L' := []) (obs := []) rfl (by kernel_rfl) allP0 ?_
            obtain ⟨r195, h196, h⟩ := bind_of h
            refine WO_call0 (us := [none, none]) (d := 29) (p := True) (j := 3) rfl ⟨by kernel_rfl, by kernel_rfl, by kernel_rfl⟩ trivial (ref_Bit_ok h196) (by kernel_rfl) ?_
            refine WO_fin [0, 1, 2, 3, 4, 11, 12, 29] [] (fr' := [(0, aI a0), (1, aD (.slice .bool) a1), (2, aI a2), (3, aI a3), (4, aI a4), (11, aI i146), (12, aI (bShl .i64 (1 : Int) (IntKind.wrap .u64 (i146)))), (29, aB r195)]) (L' := []) (by kernel_rfl) (by kernel_rfl) ?_
            refine seqQ_norm ?_
            refine W_cond (o := .tmp 29) (b := r195) (by kernel_rfl) (by kernel_rfl) (fun h197 => ?_) (fun h197 => ?_)
            · replace h := ofT h197 h
              obtain rfl := Option.some.inj h
              refine W_exit (id := 1) [0, 1, 2, 3, 4, 11] [] (fr' := [(0, aI a0), (1, aD (.slice .bool) a1), (2, aI a2), (3, aI a3), (4, aI a4), (11, aI i146)]) (L' := []) (by kernel_rfl) (by kernel_rfl) ?_
              refine seqQ_exit ?_
              refine blockQ_hit ?_
              refine escQ_brk ?_
              exact exQ_mk (by kernel_rfl) (by kernel_rfl)
            · replace h := ofF h197 h
              refine W_skip [0, 1, 2, 3, 4, 11, 12] [] (fr' := [(0, aI a0), (1, aD (.slice .bool) a1), (2, aI a2), (3, aI a3), (4, aI a4), (11, aI i146), (12, aI (bShl .i64 (1 : Int) (IntKind.wrap .u64 (i146))))]) (L' := []) (by kernel_rfl) (by kernel_rfl) ?_
              refine seqQ_norm ?_
              refine W_seq (by kernel_rfl) ?_
              obtain ⟨v213, h214, h⟩ := bind_of h
              refine W_cutK (Q' := (exQ .normal (ref_Asks_s23 a0 a1 a2 a3 a4 i146)) v213) ?_ ?_
              · replace h := h214
                refine W_region (by kernel_rfl) ?_
                refine WO_run (j := 10) (k := 10) (orcs := []) (kF := [0, 1, 2, 3, 4, 11, 12, 30, 31, 34, 37, 39]) (kL := []) (fr' := [(0, aI a0), (1, aD (.slice .bool) a1), (2, aI a2), (3, aI a3), (4, aI a4), (11, aI i146), (12, aI (bShl .i64 (1 : Int) (IntKind.wrap .u64 (i146)))), (30, aI a0), (31, aD (.slice .bool) a1), (34, aI (w64 (a2 + (bShl .i64 (1 : Int) (IntKind.wrap .u64 (i146)))))), (37, aI (bClr .i64 a3 (bShl .i64 (1 : Int) (IntKind.wrap .u64 (i146))))), (39, aI (w64 (a4 - (1 : Int))))]) (L' := []) (obs := []) rfl (by kernel_rfl) allP0 ?_
                obtain ⟨r208, h209, h⟩ := bind_of h
                refine WO_call0 (us := [none, none, none, none, none]) (d := 40) (p := True) (j := 11) rfl ⟨by kernel_rfl, by kernel_rfl, by kernel_rfl⟩ trivial (ih_ref_Asks h209) (by kernel_rfl) ?_
                refine WO_run (j := 12) (k := 1) (orcs := []) (kF := [0, 1, 2, 3, 4, 11, 12, 41]) (kL := []) (fr' := [(0, aI a0), (1, aD (.slice .bool) a1), (2, aI a2), (3, aI a3), (4, aI a4), (11, aI i146), (12, aI (bShl .i64 (1 : Int) (IntKind.wrap .u64 (i146)))), (41, aB r208)]) (L' := []) (obs := []) rfl (by kernel_rfl) allP0 ?_
                rcases Bool.eq_false_or_eq_true (r208) with h210 | h210
                · replace h := ofT h210 h
                  refine WO_run (j := 22) (k := 10) (orcs := [(24, .known true), (26, .known true), (28, .known true), (30, .known true), (32, .known true), (34, .known true), (36, .known true), (38, .known true), (40, .known true), (42, .known true)]) (kF := [0, 1, 2, 3, 4, 11, 41, 42, 43, 46, 49, 51]) (kL := []) (fr' := [(0, aI a0), (1, aD (.slice .bool) a1), (2, aI a2), (3, aI a3), (4, aI a4), (11, aI i146), (41, aB r208), (42, aI a0), (43, aD (.slice .bool) a1), (46, aI (w64 (a2 + (bShl .i64 (1 : Int) (IntKind.wrap .u64 (i146)))))), (49, aI (bOr .i64 a3 (bShl .i64 (1 : Int) (IntKind.wrap .u64 (i146))))), (51, aI (w64 (a4 - (1 : Int))))]) (L' := []) (obs := [(r208 = true), (r208 = true), (r208 = true), (r208 = true), (r208 = true), (r208 = true), (r208 = true), (r208 = true), (r208 = true), (r208 = true)]) rfl (by kernel_rfl) (allP2 h210 (allP2 h210 (allP2 h210 (allP2 h210 (allP2 h210 (allP2 h210 (allP2 h210 (allP2 h210 (allP2 h210 (allP1 h210)))))))))) ?_
                  obtain ⟨r211, h212, h⟩ := bind_of h
                  refine WO_call0 (us := [none, none, none, none, none]) (d := 52) (p := (r208 = true)) (j := 23) rfl ⟨by kernel_rfl, by kernel_rfl, by kernel_rfl⟩ h210 (ih_ref_Asks h212) (by kernel_rfl) ?_
                  refine WO_run (j := 24) (k := 1) (orcs := [(47, .val (.dat .bool true))]) (kF := [0, 1, 2, 3, 4, 11, 53]) (kL := []) (fr' := [(0, aI a0), (1, aD (.slice .bool) a1), (2, aI a2), (3, aI a3), (4, aI a4), (11, aI i146), (53, aB r211)]) (L' := []) (obs := [(r208 = true)]) rfl (by kernel_rfl) (allP1 h210) ?_
                  obtain rfl := Option.some.inj h
                  refine WO_fin [0, 1, 2, 3, 4, 11, 53] [] (fr' := [(0, aI a0), (1, aD (.slice .bool) a1), (2, aI a2), (3, aI a3), (4, aI a4), (11, aI i146), (53, aB r211)]) (L' := []) (by kernel_rfl) (by kernel_rfl) ?_
                  exact exQ_mk (by kernel_rfl) (by kernel_rfl)
                · replace h := ofF h210 h
                  refine WO_run (j := 24) (k := 12) (orcs := [(24, .known false), (26, .known false), (28, .known false), (30, .known false), (32, .known false), (34, .known false), (36, .known false), (38, .known false), (40, .known false), (42, .known false), (44, .known false), (47, .val (.dat .bool false))]) (kF := [0, 1, 2, 3, 4, 11, 53]) (kL := []) (fr' := [(0, aI a0), (1, aD (.slice .bool) a1), (2, aI a2), (3, aI a3), (4, aI a4), (11, aI i146), (53, aB false)]) (L' := []) (obs := [(r208 = false), (r208 = false), (r208 = false), (r208 = false), (r208 = false), (r208 = false), (r208 = false), (r208 = false), (r208 = false), (r208 = false), (r208 = false), (r208 = false)]) rfl (by kernel_rfl) (allP2 h210 (allP2 h210 (allP2 h210 (allP2 h210 (allP2 h210 (allP2 h210 (allP2 h210 (allP2 h210 (allP2 h210 (allP2 h210 (allP2 h210 (allP1 h210)))))))))))) ?_
                  obtain rfl := Option.some.inj h
                  refine WO_fin [0, 1, 2, 3, 4, 11, 53] [] (fr' := [(0, aI a0), (1, aD (.slice .bool) a1), (2, aI a2), (3, aI a3), (4, aI a4), (11, aI i146), (53, aB false)]) (L' := []) (by kernel_rfl) (by kernel_rfl) ?_
                  exact exQ_mk (by kernel_rfl) (by kernel_rfl)
              · intro e fr L hJ
                obtain ⟨rfl, rfl, rfl⟩ := hJ
                refine LT_keep [0, 1, 2, 3, 4, 11, 53] [] (fr' := [(0, aI a0), (1, aD (.slice .bool) a1), (2, aI a2), (3, aI a3), (4, aI a4), (11, aI i146), (53, aB v213)]) (L' := []) (by kernel_rfl) ?_
                refine seqQ_norm ?_
                refine W_cond (o := .tmp 53) (b := v213) (by kernel_rfl) (by kernel_rfl) (fun h215 => ?_) (fun h215 => ?_)
                · replace h := ofT h215 h
                  refine W_seq (by kernel_rfl) ?_
                  refine W_run 1 [] [10] [] (fr' := [(10, aB true)]) (L' := []) (obs := []) (by kernel_rfl) (by kernel_rfl) (by kernel_rfl) allP0 ?_
                  refine seqQ_norm ?_
                  obtain rfl := Option.some.inj h
                  refine W_ret [10] [] (fr' := [(10, aB true)]) (L' := []) (by kernel_rfl) (by kernel_rfl) ?_
                  refine blockQ_ret ?_
                  refine escQ_ret ?_
                  exact exQ_mk (by kernel_rfl) (by kernel_rfl)
                · replace h := ofF h215 h
                  obtain rfl := Option.some.inj h
                  refine W_skip [0, 1, 2, 3, 4, 11] [] (fr' := [(0, aI a0), (1, aD (.slice .bool) a1), (2, aI a2), (3, aI a3), (4, aI a4), (11, aI i146)]) (L' := []) (by kernel_rfl) (by kernel_rfl) ?_
                  refine blockQ_norm ?_
                  refine escQ_brk ?_
                  exact exQ_mk (by kernel_rfl) (by kernel_rfl)
          · intro e fr L hJ
            rcases v216 with v218 | v219
            · obtain ⟨rfl, rfl, rfl⟩ := hJ
              obtain rfl := Option.some.inj h
              refine LT_keep [10] [] (fr' := [(10, aB v218)]) (L' := []) (by kernel_rfl) ?_
              refine seqQ_ret ?_
              refine round_ret ?_
              refine escQ_ret ?_
              exact exQ_mk (by kernel_rfl) (by kernel_rfl)
            · obtain ⟨rfl, rfl, rfl⟩ := hJ
              refine LT_keep [0, 1, 2, 3, 4, 11] [] (fr' := [(0, aI a0), (1, aD (.slice .bool) a1), (2, aI a2), (3, aI a3), (4, aI a4), (11, aI i146)]) (L' := []) (by kernel_rfl) ?_
              refine seqQ_norm ?_
              obtain rfl := Option.some.inj h
              refine W_run 3 [] [0, 1, 2, 3, 4, 11] [] (fr' := [(0, aI a0), (1, aD (.slice .bool) a1), (2, aI a2), (3, aI a3), (4, aI a4), (11, aI (w64 (i146 + (1 : Int))))]) (L' := []) (obs := []) (by kernel_rfl) (by kernel_rfl) (by kernel_rfl) allP0 ?_
              exact round_next' (by kernel_rfl) (by kernel_rfl)
        · obtain rfl := stepI_false h149 h
          refine W_exit (id := 0) [] [] (fr' := []) (L' := []) (by kernel_rfl) (by kernel_rfl) ?_
          refine seqQ_exit ?_
          refine round_exit ?_
          refine escQ_brk ?_
          exact exQ_mk (by kernel_rfl) (by kernel_rfl)
      · intro e fr L hJ
        rcases v221 with v225 | v226
        · obtain ⟨rfl, rfl, rfl⟩ := hJ
          obtain rfl := Option.some.inj h
          refine LT_keep [10] [] (fr' := [(10, aB v225)]) (L' := []) (by kernel_rfl) ?_
          refine blockQ_ret ?_
          refine seqQ_ret ?_
          exact retQ_mk (by kernel_rfl) (by kernel_rfl) (by kernel_rfl)
        · obtain ⟨rfl, rfl, rfl⟩ := hJ
          refine LT_keep [] [] (fr' := []) (L' := []) (by kernel_rfl) ?_
          refine blockQ_hit ?_
          refine seqQ_norm ?_
          refine W_seq (by kernel_rfl) ?_
          refine W_run 1 [] [10] [] (fr' := [(10, aB false)]) (L' := []) (obs := []) (by kernel_rfl) (by kernel_rfl) (by kernel_rfl) allP0 ?_
          refine seqQ_norm ?_
          obtain rfl := Option.some.inj h
          refine W_ret [10] [] (fr' := [(10, aB false)]) (L' := []) (by kernel_rfl) (by kernel_rfl) ?_
          exact retQ_mk (by kernel_rfl) (by kernel_rfl) (by kernel_rfl)
theorem ref_Asks_ok : ∀ {fuel : Nat} {a0 : Int} {a1 : (List Bool)} {a2 : Int} {a3 : Int} {a4 : Int} {r : Bool}, ref_Asks fuel a0 a1 a2 a3 a4 = some r → FnC Try.prog 40 [aI a0, aD (.slice .bool) a1, aI a2, aI a3, aI a4] [] (aB r) [] := by
  intro fuel
  induction fuel with
  | zero => intros a0 a1 a2 a3 a4 r h; cases h
  | succ fuel ih => intros a0 a1 a2 a3 a4 r h; exact ref_Asks_step_ok (fun h => ih h) (show ref_Asks_step (ref_Asks fuel) fuel a0 a1 a2 a3 a4 = some r from h)

def ref_LeastAsks_b1 (a0 : Int) (a1 : (List Bool)) (fuel : Nat) (x5 : Int) : Option (Flow Int Int) :=
(ref_Asks fuel a0 a1 (0 : Int) (0 : Int) x5).bind fun r9 =>
bif !r9 then
(some (.next (w64 (x5 + (1 : Int)))))
else
(some (.done x5))
@[reducible] def ref_LeastAsks_s2 (a0 : Int) (a1 : (List Bool)) (v : Int) : Fr × LL := ([(0, aI a0), (1, aD (.slice .bool) a1), (5, aI v)], [])
@[reducible] def ref_LeastAsks_s3 (v : Int) : Fr × LL := ([(5, aI v)], [])
def ref_LeastAsks (fuel : Nat) (a0 : Int) (a1 : (List Bool)) : Option Int :=
(iter (ref_LeastAsks_b1 a0 a1 fuel) fuel (0 : Int)).bind fun v12 =>
some v12
theorem ref_LeastAsks_ok {fuel : Nat} {a0 : Int} {a1 : (List Bool)} {r : Int} (h : ref_LeastAsks fuel a0 a1 = some r) : FnC Try.prog 23 [aI a0, aD (.slice .bool) a1] [] (aI r) [] := by
  refine fnC_of_W (B := bodyOf Try.f23) (n := 14) Try.func23 (by kernel_rfl) (by kernel_rfl) (by kernel_rfl) (by kernel_rfl) (by kernel_rfl) ?_
  intro K
  refine W_seq (by kernel_rfl) ?_
  refine W_run 1 [] [0, 1] [] (fr' := [(0, aI a0), (1, aD (.slice .bool) a1)]) (L' := []) (obs := []) (by kernel_rfl) (by kernel_rfl) (by kernel_rfl) allP0 ?_
  refine seqQ_norm ?_
  refine W_seq (by kernel_rfl) ?_
  refine W_run 1 [] [0, 1, 5] [] (fr' := [(0, aI a0), (1, aD (.slice .bool) a1), (5, aI (0 : Int))]) (L' := []) (obs := []) (by kernel_rfl) (by kernel_rfl) (by kernel_rfl) allP0 ?_
  refine seqQ_norm ?_
  refine W_seq (by kernel_rfl) ?_
  refine W_block (id := 0) (by kernel_rfl) ?_
  obtain ⟨v12, h13, h⟩ := bind_of h
  refine W_weaken [0, 1, 5] [] (fr' := ((ref_LeastAsks_s2 a0 a1) (0 : Int)).1) (L' := ((ref_LeastAsks_s2 a0 a1) (0 : Int)).2) (by kernel_rfl) ?_
  refine W_cutK (W_loop (S := (ref_LeastAsks_s2 a0 a1)) (J := (exQ (.exit 0) ref_LeastAsks_s3)) (by kernel_rfl) ?_ fuel _ v12 h13) ?_
  · rintro x5 s h
    refine W_seq (by kernel_rfl) ?_
    refine W_seq (by kernel_rfl) ?_
    refine W_region (by kernel_rfl) ?_
    refine WO_run (j := 3) (k := 3) (orcs := []) (kF := [0, 1, 5, 6, 7, 8]) (kL := []) (fr' := [(0, aI a0), (1, aD (.slice .bool) a1), (5, aI x5), (6, aI a0), (7, aD (.slice .bool) a1), (8, aI x5)]) (L' := []) (obs := []) rfl (by kernel_rfl) allP0 ?_
    obtain ⟨r9, h10, h⟩ := bind_of h
    refine WO_call0 (us := [none, none, none, none, none]) (d := 9) (p := True) (j := 4) rfl ⟨by kernel_rfl, by kernel_rfl, by kernel_rfl⟩ trivial (ref_Asks_ok h10) (by kernel_rfl) ?_
    refine WO_run (j := 5) (k := 1) (orcs := []) (kF := [0, 1, 5, 10]) (kL := []) (fr' := [(0, aI a0), (1, aD (.slice .bool) a1), (5, aI x5), (10, aB (!r9))]) (L' := []) (obs := []) rfl (by kernel_rfl) allP0 ?_
    refine WO_fin [0, 1, 5, 10] [] (fr' := [(0, aI a0), (1, aD (.slice .bool) a1), (5, aI x5), (10, aB (!r9))]) (L' := []) (by kernel_rfl) (by kernel_rfl) ?_
    refine seqQ_norm ?_
    refine W_cond (o := .tmp 10) (b := !r9) (by kernel_rfl) (by kernel_rfl) (fun h11 => ?_) (fun h11 => ?_)
    · replace h := ofT h11 h
      refine W_skip [0, 1, 5] [] (fr' := [(0, aI a0), (1, aD (.slice .bool) a1), (5, aI x5)]) (L' := []) (by kernel_rfl) (by kernel_rfl) ?_
      refine seqQ_norm ?_
      refine W_block (id := 1) (by kernel_rfl) ?_
      obtain rfl := Option.some.inj h
      refine W_run 3 [] [0, 1, 5] [] (fr' := [(0, aI a0), (1, aD (.slice .bool) a1), (5, aI (w64 (x5 + (1 : Int))))]) (L' := []) (obs := []) (by kernel_rfl) (by kernel_rfl) (by kernel_rfl) allP0 ?_
      refine blockQ_norm ?_
      exact round_next' (by kernel_rfl) (by kernel_rfl)
    · replace h := ofF h11 h
      obtain rfl := Option.some.inj h
      refine W_exit (id := 0) [5] [] (fr' := [(5, aI x5)]) (L' := []) (by kernel_rfl) (by kernel_rfl) ?_
      refine seqQ_exit ?_
      refine round_exit ?_
      exact exQ_mk (by kernel_rfl) (by kernel_rfl)
  · intro e fr L hJ
    obtain ⟨rfl, rfl, rfl⟩ := hJ
    refine LT_keep [5] [] (fr' := [(5, aI v12)]) (L' := []) (by kernel_rfl) ?_
    refine blockQ_hit ?_
    refine seqQ_norm ?_
    refine W_seq (by kernel_rfl) ?_
    refine W_run 2 [] [4] [] (fr' := [(4, aI v12)]) (L' := []) (obs := []) (by kernel_rfl) (by kernel_rfl) (by kernel_rfl) allP0 ?_
    refine seqQ_norm ?_
    obtain rfl := Option.some.inj h
    refine W_ret [4] [] (fr' := [(4, aI v12)]) (L' := []) (by kernel_rfl) (by kernel_rfl) ?_
    exact retQ_mk (by kernel_rfl) (by kernel_rfl) (by kernel_rfl)

@[reducible] def ref_Walked_s1 (a0 : (List (Int × (Int × Int)))) (a2 : Int) (v : Int) : Fr × LL := ([(0, aD (.slice (.pair tI (.pair tI tI))) a0), (2, aI a2), (8, aI v)], [])
def ref_Walked_step (rf_ref_Walked : (List (Int × (Int × Int))) → Int → Int → Option (Bool × Int)) (fuel : Nat) (a0 : (List (Int × (Int × Int)))) (a1 : Int) (a2 : Int) : Option (Bool × Int) :=
bif decide (a1 < (0 : Int)) then
(some (a1 == (-2 : Int), (0 : Int)))
else
((idx a0 a1).bind fun v2 =>
((ref_Bit a2 v2.1).bind fun r10 =>
bif r10 then
(some v2.2.2)
else
(some v2.2.1)).bind fun v13 =>
(rf_ref_Walked a0 v13 a2).bind fun r15 =>
some (r15.1, w64 (r15.2 + (1 : Int))))
def ref_Walked : Nat → (List (Int × (Int × Int))) → Int → Int → Option (Bool × Int)
  | 0 => fun _ _ _ => none
  | fuel + 1 => fun a0 a1 a2 => ref_Walked_step (ref_Walked fuel) fuel a0 a1 a2
theorem ref_Walked_step_ok {rf_ref_Walked : (List (Int × (Int × Int))) → Int → Int → Option (Bool × Int)} (ih_ref_Walked : ∀ {a0 : (List (Int × (Int × Int)))} {a1 : Int} {a2 : Int} {r : (Bool × Int)}, rf_ref_Walked a0 a1 a2 = some r → FnC Try.prog 16 [aD (.slice (.pair tI (.pair tI tI))) a0, aI a1, aI a2] [] (.tup [.dat .bool r.1, .dat tI r.2]) []) {fuel : Nat} {a0 : (List (Int × (Int × Int)))} {a1 : Int} {a2 : Int} {r : (Bool × Int)} (h : ref_Walked_step rf_ref_Walked fuel a0 a1 a2 = some r) : FnC Try.prog 16 [aD (.slice (.pair tI (.pair tI tI))) a0, aI a1, aI a2] [] (.tup [.dat .bool r.1, .dat tI r.2]) [] := by
  refine fnC_of_W (B := bodyOf Try.f16) (n := 42) Try.func16 (by kernel_rfl) (by kernel_rfl) (by kernel_rfl) (by kernel_rfl) (by kernel_rfl) ?_
  intro K
  refine W_seq (by kernel_rfl) ?_
  refine W_run 2 [] [0, 1, 2] [] (fr' := [(0, aD (.slice (.pair tI (.pair tI tI))) a0), (1, aI a1), (2, aI a2)]) (L' := []) (obs := []) (by kernel_rfl) (by kernel_rfl) (by kernel_rfl) allP0 ?_
  refine seqQ_norm ?_
  refine W_seq (by kernel_rfl) ?_
  refine W_seq (by kernel_rfl) ?_
  refine W_run 2 [] [0, 1, 2, 12] [] (fr' := [(0, aD (.slice (.pair tI (.pair tI tI))) a0), (1, aI a1), (2, aI a2), (12, aB (decide (a1 < (0 : Int))))]) (L' := []) (obs := []) (by kernel_rfl) (by kernel_rfl) (by kernel_rfl) allP0 ?_
  refine seqQ_norm ?_
  refine W_cond (o := .tmp 12) (b := decide (a1 < (0 : Int))) (by kernel_rfl) (by kernel_rfl) (fun h1 => ?_) (fun h1 => ?_)
  · replace h := ofT h1 h
    refine W_seq (by kernel_rfl) ?_
    refine W_run 4 [] [6, 7] [] (fr' := [(6, aB (a1 == (-2 : Int))), (7, aI (0 : Int))]) (L' := []) (obs := []) (by kernel_rfl) (by kernel_rfl) (by kernel_rfl) allP0 ?_
    refine seqQ_norm ?_
    obtain rfl := Option.some.inj h
    refine W_ret [6, 7] [] (fr' := [(6, aB (a1 == (-2 : Int))), (7, aI (0 : Int))]) (L' := []) (by kernel_rfl) (by kernel_rfl) ?_
    refine seqQ_ret ?_
    exact retQ_mk (by kernel_rfl) (by kernel_rfl) (by kernel_rfl)
  · replace h := ofF h1 h
    refine W_skip [0, 1, 2] [] (fr' := [(0, aD (.slice (.pair tI (.pair tI tI))) a0), (1, aI a1), (2, aI a2)]) (L' := []) (by kernel_rfl) (by kernel_rfl) ?_
    refine seqQ_norm ?_
    refine W_seq (by kernel_rfl) ?_
    obtain ⟨v2, h3, h⟩ := bind_of h
    refine W_run 6 [(5, .val (.dat (.pair tI (.pair tI tI)) v2))] [0, 1, 2, 8] [] (fr' := [(0, aD (.slice (.pair tI (.pair tI tI))) a0), (1, aI a1), (2, aI a2), (8, aI v2.2.1)]) (L' := []) (obs := [Idx a0 a1 v2]) (by kernel_rfl) (by kernel_rfl) (by kernel_rfl) (allP1 (Idx.of h3)) ?_
    refine seqQ_norm ?_
    refine W_seq (by kernel_rfl) ?_
    obtain ⟨v13, h14, h⟩ := bind_of h
    refine W_cutK (Q' := (exQ .normal (ref_Walked_s1 a0 a2)) v13) ?_ ?_
    · replace h := h14
      refine W_seq (by kernel_rfl) ?_
      refine W_region (by kernel_rfl) ?_
      refine WO_run (j := 6) (k := 6) (orcs := [(7, .val (.dat (.pair tI (.pair tI tI)) v2))]) (kF := [0, 1, 2, 8, 20, 25]) (kL := []) (fr' := [(0, aD (.slice (.pair tI (.pair tI tI))) a0), (1, aI a1), (2, aI a2), (8, aI v2.2.1), (20, aI a2), (25, aI v2.1)]) (L' := []) (obs := [Idx a0 a1 v2]) rfl (by kernel_rfl) (allP1 (Idx.of h3)) ?_
      obtain ⟨r10, h11, h⟩ := bind_of h
      refine WO_call0 (us := [none, none]) (d := 26) (p := True) (j := 7) rfl ⟨by kernel_rfl, by kernel_rfl, by kernel_rfl⟩ trivial (ref_Bit_ok h11) (by kernel_rfl) ?_
      refine WO_fin [0, 1, 2, 8, 26] [] (fr' := [(0, aD (.slice (.pair tI (.pair tI tI))) a0), (1, aI a1), (2, aI a2), (8, aI v2.2.1), (26, aB r10)]) (L' := []) (by kernel_rfl) (by kernel_rfl) ?_
      refine seqQ_norm ?_
      refine W_cond (o := .tmp 26) (b := r10) (by kernel_rfl) (by kernel_rfl) (fun h12 => ?_) (fun h12 => ?_)
      · replace h := ofT h12 h
        obtain rfl := Option.some.inj h
        refine W_run 6 [(5, .val (.dat (.pair tI (.pair tI tI)) v2))] [0, 2, 8] [] (fr' := [(0, aD (.slice (.pair tI (.pair tI tI))) a0), (2, aI a2), (8, aI v2.2.2)]) (L' := []) (obs := [Idx a0 a1 v2]) (by kernel_rfl) (by kernel_rfl) (by kernel_rfl) (allP1 (Idx.of h3)) ?_
        exact exQ_mk (by kernel_rfl) (by kernel_rfl)
      · replace h := ofF h12 h
        obtain rfl := Option.some.inj h
        refine W_skip [0, 2, 8] [] (fr' := [(0, aD (.slice (.pair tI (.pair tI tI))) a0), (2, aI a2), (8, aI v2.2.1)]) (L' := []) (by kernel_rfl) (by kernel_rfl) ?_
        exact exQ_mk (by kernel_rfl) (by kernel_rfl)
    · intro e fr L hJ
      obtain ⟨rfl, rfl, rfl⟩ := hJ
      refine LT_keep [0, 2, 8] [] (fr' := [(0, aD (.slice (.pair tI (.pair tI tI))) a0), (2, aI a2), (8, aI v13)]) (L' := []) (by kernel_rfl) ?_
      refine seqQ_norm ?_
      refine W_seq (by kernel_rfl) ?_
      refine W_region (by kernel_rfl) ?_
      refine WO_run (j := 3) (k := 3) (orcs := []) (kF := [33, 34, 35]) (kL := []) (fr' := [(33, aD (.slice (.pair tI (.pair tI tI))) a0), (34, aI v13), (35, aI a2)]) (L' := []) (obs := []) rfl (by kernel_rfl) allP0 ?_
      obtain ⟨r15, h16, h⟩ := bind_of h
      refine WO_call0 (us := [none, none, none]) (d := 36) (p := True) (j := 4) rfl ⟨by kernel_rfl, by kernel_rfl, by kernel_rfl⟩ trivial (ih_ref_Walked h16) (by kernel_rfl) ?_
      refine WO_run (j := 9) (k := 5) (orcs := []) (kF := [9, 10]) (kL := []) (fr' := [(9, aB r15.1), (10, aI r15.2)]) (L' := []) (obs := []) rfl (by kernel_rfl) allP0 ?_
      refine WO_fin [9, 10] [] (fr' := [(9, aB r15.1), (10, aI r15.2)]) (L' := []) (by kernel_rfl) (by kernel_rfl) ?_
      refine seqQ_norm ?_
      refine W_seq (by kernel_rfl) ?_
      refine W_run 5 [] [6, 7] [] (fr' := [(6, aB r15.1), (7, aI (w64 (r15.2 + (1 : Int))))]) (L' := []) (obs := []) (by kernel_rfl) (by kernel_rfl) (by kernel_rfl) allP0 ?_
      refine seqQ_norm ?_
      obtain rfl := Option.some.inj h
      refine W_ret [6, 7] [] (fr' := [(6, aB r15.1), (7, aI (w64 (r15.2 + (1 : Int))))]) (L' := []) (by kernel_rfl) (by kernel_rfl) ?_
      exact retQ_mk (by kernel_rfl) (by kernel_rfl) (by kernel_rfl)
theorem ref_Walked_ok : ∀ {fuel : Nat} {a0 : (List (Int × (Int × Int)))} {a1 : Int} {a2 : Int} {r : (Bool × Int)}, ref_Walked fuel a0 a1 a2 = some r → FnC Try.prog 16 [aD (.slice (.pair tI (.pair tI tI))) a0, aI a1, aI a2] [] (.tup [.dat .bool r.1, .dat tI r.2]) [] := by
  intro fuel
  induction fuel with
  | zero => intros a0 a1 a2 r h; cases h
  | succ fuel ih => intros a0 a1 a2 r h; exact ref_Walked_step_ok (fun h => ih h) (show ref_Walked_step (ref_Walked fuel) fuel a0 a1 a2 = some r from h)

def law_AskTrees_g1 (a0 : Int) (r1 : ((List (Int × (Int × Int))) × Int)) : Option Bool :=
bif r1.2 != (0 : Int) then
(some true)
else
((ref_AsksCheck a0 r1.1 (0 : Int)).bind fun r13 =>
some ((r13 != (0 : Int)) || ((decide (a0 > (0 : Int))) && ((List.length r1.1 : Int) == (0 : Int)))))
def law_AskTrees_b2 (fuel : Nat) (r1 : ((List (Int × (Int × Int))) × Int)) (v24 : Int) (i40 : Int) (v43 : Bool) (x41 : Unit) : Option (Flow Unit (Esc Bool Unit)) :=
(ref_Walked fuel r1.1 (w64 ((List.length r1.1 : Int) - (1 : Int))) i40).bind fun r46 =>
bif (!(r46.1 == v43)) || (decide (r46.2 > v24)) then
(some (.done (.ret false)))
else
(some (.next ()))
@[reducible] def law_AskTrees_s3 (a1 : (List Bool)) (r1 : ((List (Int × (Int × Int))) × Int)) (v24 : Int) (v : Int × Unit) : Fr × LL := ([(1, aD (.slice .bool) a1), (5, aD (.slice (.pair tI (.pair tI tI))) r1.1), (8, aI v24), (9, aI v.1)], [])
@[reducible] def law_AskTrees_s4 (v : Bool) : Fr × LL := ([(4, aB v)], [])
@[reducible] def law_AskTrees_s5 (v : Unit) : Fr × LL := ([], [])
@[reducible] def law_AskTrees_s6 (a1 : (List Bool)) (r1 : ((List (Int × (Int × Int))) × Int)) (v : Int) : Fr × LL := ([(1, aD (.slice .bool) a1), (5, aD (.slice (.pair tI (.pair tI tI))) r1.1), (8, aI v)], [])
@[reducible] def law_AskTrees_s7 (a0 : Int) (a1 : (List Bool)) (r1 : ((List (Int × (Int × Int))) × Int)) (v : Bool) : Fr × LL := ([(0, aI a0), (1, aD (.slice .bool) a1), (5, aD (.slice (.pair tI (.pair tI tI))) r1.1), (47, aB v)], [])
def law_AskTrees (fuel : Nat) (a0 : Int) (a1 : (List Bool)) : Option Bool :=
(ask_Tree fuel a0 a1).bind fun r1 =>
(ref_TableCheck a0 a1 (0 : Int)).bind fun r3 =>
bif r3 != (0 : Int) then
(some ((r1.2 == r3) && ((List.length r1.1 : Int) == (0 : Int))))
else
((law_AskTrees_g1 a0 r1).bind fun v15 =>
bif v15 then
(some false)
else
(bif a0 == (0 : Int) then
(some ((List.length r1.1 : Int) == (0 : Int)))
else
((ref_LeastAsks fuel a0 a1).bind fun r19 =>
(bif r19 == (0 : Int) then
(some (1 : Int))
else
(some r19)).bind fun v24 =>
(forL (law_AskTrees_b2 fuel r1 v24) (fun x41 => (.brk ())) a1 0 ()).bind fun v50 =>
match v50 with
| .ret v55 =>
(some v55)
| .brk v56 =>
(some true))))
theorem law_AskTrees_ok {fuel : Nat} {a0 : Int} {a1 : (List Bool)} {r : Bool} (h : law_AskTrees fuel a0 a1 = some r) : FnC Try.prog 7 [aI a0, aD (.slice .bool) a1] [] (aB r) [] := by
  refine fnC_of_W (B := bodyOf Try.f7) (n := 84) Try.func7 (by kernel_rfl) (by kernel_rfl) (by kernel_rfl) (by kernel_rfl) (by kernel_rfl) ?_
  intro K
  refine W_seq (by kernel_rfl) ?_
  refine W_run 1 [] [0, 1] [] (fr' := [(0, aI a0), (1, aD (.slice .bool) a1)]) (L' := []) (obs := []) (by kernel_rfl) (by kernel_rfl) (by kernel_rfl) allP0 ?_
  refine seqQ_norm ?_
  refine W_seq (by kernel_rfl) ?_
  refine W_region (by kernel_rfl) ?_
  refine WO_run (j := 2) (k := 2) (orcs := []) (kF := [0, 1, 13, 14]) (kL := []) (fr' := [(0, aI a0), (1, aD (.slice .bool) a1), (13, aI a0), (14, aD (.slice .bool) a1)]) (L' := []) (obs := []) rfl (by kernel_rfl) allP0 ?_
  obtain ⟨r1, h2, h⟩ := bind_of h
  refine WO_call0 (us := [none, none]) (d := 15) (p := True) (j := 3) rfl ⟨by kernel_rfl, by kernel_rfl, by kernel_rfl⟩ trivial (ask_Tree_ok h2) (by kernel_rfl) ?_
  refine WO_run (j := 8) (k := 5) (orcs := []) (kF := [0, 1, 5, 6]) (kL := []) (fr' := [(0, aI a0), (1, aD (.slice .bool) a1), (5, aD (.slice (.pair tI (.pair tI tI))) r1.1), (6, aI r1.2)]) (L' := []) (obs := []) rfl (by kernel_rfl) allP0 ?_
  refine WO_fin [0, 1, 5, 6] [] (fr' := [(0, aI a0), (1, aD (.slice .bool) a1), (5, aD (.slice (.pair tI (.pair tI tI))) r1.1), (6, aI r1.2)]) (L' := []) (by kernel_rfl) (by kernel_rfl) ?_
  refine seqQ_norm ?_
  refine W_seq (by kernel_rfl) ?_
  refine W_region (by kernel_rfl) ?_
  refine WO_run (j := 2) (k := 2) (orcs := []) (kF := [0, 1, 5, 6, 18, 19]) (kL := []) (fr' := [(0, aI a0), (1, aD (.slice .bool) a1), (5, aD (.slice (.pair tI (.pair tI tI))) r1.1), (6, aI r1.2), (18, aI a0), (19, aD (.slice .bool) a1)]) (L' := []) (obs := []) rfl (by kernel_rfl) allP0 ?_
  obtain ⟨r3, h4, h⟩ := bind_of h
  refine WO_call0 (us := [none, none, none]) (d := 20) (p := True) (j := 3) rfl ⟨by kernel_rfl, by kernel_rfl, by kernel_rfl⟩ trivial (ref_TableCheck_ok h4) (by kernel_rfl) ?_
  refine WO_run (j := 4) (k := 1) (orcs := []) (kF := [0, 1, 5, 6, 7]) (kL := []) (fr' := [(0, aI a0), (1, aD (.slice .bool) a1), (5, aD (.slice (.pair tI (.pair tI tI))) r1.1), (6, aI r1.2), (7, aI r3)]) (L' := []) (obs := []) rfl (by kernel_rfl) allP0 ?_
  refine WO_fin [0, 1, 5, 6, 7] [] (fr' := [(0, aI a0), (1, aD (.slice .bool) a1), (5, aD (.slice (.pair tI (.pair tI tI))) r1.1), (6, aI r1.2), (7, aI r3)]) (L' := []) (by kernel_rfl) (by kernel_rfl) ?_
  refine seqQ_norm ?_
  refine W_seq (by kernel_rfl) ?_
  refine W_seq (by kernel_rfl) ?_
  refine W_run 2 [] [0, 1, 5, 6, 7, 22] [] (fr' := [(0, aI a0), (1, aD (.slice .bool) a1), (5, aD (.slice (.pair tI (.pair tI tI))) r1.1), (6, aI r1.2), (7, aI r3), (22, aB (r3 != (0 : Int)))]) (L' := []) (obs := []) (by kernel_rfl) (by kernel_rfl) (by kernel_rfl) allP0 ?_
  refine seqQ_norm ?_
  refine W_cond (o := .tmp 22) (b := r3 != (0 : Int)) (by kernel_rfl) (by kernel_rfl) (fun h5 => ?_) (fun h5 => ?_)
  · replace h := ofT h5 h
    refine W_seq (by kernel_rfl) ?_
    refine W_run 9 [] [4] [] (fr' := [(4, aB ((r1.2 == r3) && ((List.length r1.1 : Int) == (0 : Int))))]) (L' := []) (obs := []) (by kernel_rfl) (by kernel_rfl) (by kernel_rfl) allP0 ?_
    refine seqQ_norm ?_
    obtain rfl := Option.some.inj h
    refine W_ret [4] [] (fr' := [(4, aB ((r1.2 == r3) && ((List.length r1.1 : Int) == (0 : Int))))]) (L' := []) (by kernel_rfl) (by kernel_rfl) ?_
    refine seqQ_ret ?_
    exact retQ_mk (by kernel_rfl) (by kernel_rfl) (by kernel_rfl)
  · replace h := ofF h5 h
    refine W_skip [0, 1, 5, 6] [] (fr' := [(0, aI a0), (1, aD (.slice .bool) a1), (5, aD (.slice (.pair tI (.pair tI tI))) r1.1), (6, aI r1.2)]) (L' := []) (by kernel_rfl) (by kernel_rfl) ?_
    refine seqQ_norm ?_
    refine W_seq (by kernel_rfl) ?_
    refine W_seq (by kernel_rfl) ?_
    obtain ⟨v15, h16, h⟩ := bind_of h
    refine W_cutK (Q' := (exQ .normal (law_AskTrees_s7 a0 a1 r1)) v15) ?_ ?_
    · replace h := h16
      refine W_region (by kernel_rfl) ?_
      refine WO_run (j := 3) (k := 3) (orcs := []) (kF := [0, 1, 5, 33]) (kL := []) (fr' := [(0, aI a0), (1, aD (.slice .bool) a1), (5, aD (.slice (.pair tI (.pair tI tI))) r1.1), (33, aB (r1.2 != (0 : Int)))]) (L' := []) (obs := []) rfl (by kernel_rfl) allP0 ?_
      rcases Bool.eq_false_or_eq_true (r1.2 != (0 : Int)) with h12 | h12
      · replace h := ofT h12 h
        refine WO_run (j := 17) (k := 14) (orcs := [(6, .known true), (8, .known true), (10, .known true), (12, .known true), (15, .val (.dat .bool true)), (18, .known true), (20, .known true), (22, .known true), (24, .known true), (26, .known true), (28, .known true), (30, .known true), (33, .val (.dat .bool true))]) (kF := [0, 1, 5, 47]) (kL := []) (fr' := [(0, aI a0), (1, aD (.slice .bool) a1), (5, aD (.slice (.pair tI (.pair tI tI))) r1.1), (47, aB true)]) (L' := []) (obs := [((r1.2 != (0 : Int)) = true), ((r1.2 != (0 : Int)) = true), ((r1.2 != (0 : Int)) = true), ((r1.2 != (0 : Int)) = true), ((r1.2 != (0 : Int)) = true), (true = true), (true = true), (true = true), (true = true), (true = true)]) rfl (by kernel_rfl) (allP2 h12 (allP2 h12 (allP2 h12 (allP2 h12 (allP2 h12 (allP2 rfl (allP2 rfl (allP2 rfl (allP2 rfl (allP1 rfl)))))))))) ?_
        obtain rfl := Option.some.inj h
        refine WO_fin [0, 1, 5, 47] [] (fr' := [(0, aI a0), (1, aD (.slice .bool) a1), (5, aD (.slice (.pair tI (.pair tI tI))) r1.1), (47, aB true)]) (L' := []) (by kernel_rfl) (by kernel_rfl) ?_
        exact exQ_mk (by kernel_rfl) (by kernel_rfl)
      · replace h := ofF h12 h
        refine WO_run (j := 5) (k := 2) (orcs := [(6, .known false), (8, .known false)]) (kF := [0, 1, 5, 33, 34, 35]) (kL := []) (fr' := [(0, aI a0), (1, aD (.slice .bool) a1), (5, aD (.slice (.pair tI (.pair tI tI))) r1.1), (33, aB (r1.2 != (0 : Int))), (34, aI a0), (35, aD (.slice (.pair tI (.pair tI tI))) r1.1)]) (L' := []) (obs := [((r1.2 != (0 : Int)) = false), ((r1.2 != (0 : Int)) = false)]) rfl (by kernel_rfl) (allP2 h12 (allP1 h12)) ?_
        obtain ⟨r13, h14, h⟩ := bind_of h
        refine WO_call0 (us := [none, none, none]) (d := 36) (p := ((r1.2 != (0 : Int)) = false)) (j := 6) rfl ⟨by kernel_rfl, by kernel_rfl, by kernel_rfl⟩ h12 (ref_AsksCheck_ok h14) (by kernel_rfl) ?_
        refine WO_run (j := 17) (k := 11) (orcs := [(12, .known false), (15, .val (.dat .bool false))]) (kF := [0, 1, 5, 47]) (kL := []) (fr' := [(0, aI a0), (1, aD (.slice .bool) a1), (5, aD (.slice (.pair tI (.pair tI tI))) r1.1), (47, aB ((r13 != (0 : Int)) || ((decide (a0 > (0 : Int))) && ((List.length r1.1 : Int) == (0 : Int)))))]) (L' := []) (obs := [((r1.2 != (0 : Int)) = false), ((r1.2 != (0 : Int)) = false)]) rfl (by kernel_rfl) (allP2 h12 (allP1 h12)) ?_
        obtain rfl := Option.some.inj h
        refine WO_fin [0, 1, 5, 47] [] (fr' := [(0, aI a0), (1, aD (.slice .bool) a1), (5, aD (.slice (.pair tI (.pair tI tI))) r1.1), (47, aB ((r13 != (0 : Int)) || ((decide (a0 > (0 : Int))) && ((List.length r1.1 : Int) == (0 : Int)))))]) (L' := []) (by kernel_rfl) (by kernel_rfl) ?_
        exact exQ_mk (by kernel_rfl) (by kernel_rfl)
    · intro e fr L hJ
      obtain ⟨rfl, rfl, rfl⟩ := hJ
      refine LT_keep [0, 1, 5, 47] [] (fr' := [(0, aI a0), (1, aD (.slice .bool) a1), (5, aD (.slice (.pair tI (.pair tI tI))) r1.1), (47, aB v15)]) (L' := []) (by kernel_rfl) ?_
      refine seqQ_norm ?_
      refine W_cond (o := .tmp 47) (b := v15) (by kernel_rfl) (by kernel_rfl) (fun h17 => ?_) (fun h17 => ?_)
      · replace h := ofT h17 h
        refine W_seq (by kernel_rfl) ?_
        refine W_run 1 [] [4] [] (fr' := [(4, aB false)]) (L' := []) (obs := []) (by kernel_rfl) (by kernel_rfl) (by kernel_rfl) allP0 ?_
        refine seqQ_norm ?_
        obtain rfl := Option.some.inj h
        refine W_ret [4] [] (fr' := [(4, aB false)]) (L' := []) (by kernel_rfl) (by kernel_rfl) ?_
        refine seqQ_ret ?_
        exact retQ_mk (by kernel_rfl) (by kernel_rfl) (by kernel_rfl)
      · replace h := ofF h17 h
        refine W_skip [0, 1, 5] [] (fr' := [(0, aI a0), (1, aD (.slice .bool) a1), (5, aD (.slice (.pair tI (.pair tI tI))) r1.1)]) (L' := []) (by kernel_rfl) (by kernel_rfl) ?_
        refine seqQ_norm ?_
        refine W_seq (by kernel_rfl) ?_
        refine W_seq (by kernel_rfl) ?_
        refine W_run 2 [] [0, 1, 5, 49] [] (fr' := [(0, aI a0), (1, aD (.slice .bool) a1), (5, aD (.slice (.pair tI (.pair tI tI))) r1.1), (49, aB (a0 == (0 : Int)))]) (L' := []) (obs := []) (by kernel_rfl) (by kernel_rfl) (by kernel_rfl) allP0 ?_
        refine seqQ_norm ?_
        refine W_cond (o := .tmp 49) (b := a0 == (0 : Int)) (by kernel_rfl) (by kernel_rfl) (fun h18 => ?_) (fun h18 => ?_)
        · replace h := ofT h18 h
          refine W_seq (by kernel_rfl) ?_
          refine W_run 4 [] [4] [] (fr' := [(4, aB ((List.length r1.1 : Int) == (0 : Int)))]) (L' := []) (obs := []) (by kernel_rfl) (by kernel_rfl) (by kernel_rfl) allP0 ?_
          refine seqQ_norm ?_
          obtain rfl := Option.some.inj h
          refine W_ret [4] [] (fr' := [(4, aB ((List.length r1.1 : Int) == (0 : Int)))]) (L' := []) (by kernel_rfl) (by kernel_rfl) ?_
          refine seqQ_ret ?_
          exact retQ_mk (by kernel_rfl) (by kernel_rfl) (by kernel_rfl)
        · replace h := ofF h18 h
          refine W_skip [0, 1, 5] [] (fr' := [(0, aI a0), (1, aD (.slice .bool) a1), (5, aD (.slice (.pair tI (.pair tI tI))) r1.1)]) (L' := []) (by kernel_rfl) (by kernel_rfl) ?_
          refine seqQ_norm ?_
          refine W_seq (by kernel_rfl) ?_
          refine W_region (by kernel_rfl) ?_
          refine WO_run (j := 2) (k := 2) (orcs := []) (kF := [1, 5, 53, 54]) (kL := []) (fr' := [(1, aD (.slice .bool) a1), (5, aD (.slice (.pair tI (.pair tI tI))) r1.1), (53, aI a0), (54, aD (.slice .bool) a1)]) (L' := []) (obs := []) rfl (by kernel_rfl) allP0 ?_
          obtain ⟨r19, h20, h⟩ := bind_of h
          refine WO_call0 (us := [none, none]) (d := 55) (p := True) (j := 3) rfl ⟨by kernel_rfl, by kernel_rfl, by kernel_rfl⟩ trivial (ref_LeastAsks_ok h20) (by kernel_rfl) ?_
          refine WO_run (j := 4) (k := 1) (orcs := []) (kF := [1, 5, 8]) (kL := []) (fr' := [(1, aD (.slice .bool) a1), (5, aD (.slice (.pair tI (.pair tI tI))) r1.1), (8, aI r19)]) (L' := []) (obs := []) rfl (by kernel_rfl) allP0 ?_
          refine WO_fin [1, 5, 8] [] (fr' := [(1, aD (.slice .bool) a1), (5, aD (.slice (.pair tI (.pair tI tI))) r1.1), (8, aI r19)]) (L' := []) (by kernel_rfl) (by kernel_rfl) ?_
          refine seqQ_norm ?_
          refine W_seq (by kernel_rfl) ?_
          obtain ⟨v24, h25, h⟩ := bind_of h
          refine W_cutK (Q' := (exQ .normal (law_AskTrees_s6 a1 r1)) v24) ?_ ?_
          · replace h := h25
            refine W_seq (by kernel_rfl) ?_
            refine W_run 2 [] [1, 5, 8, 57] [] (fr' := [(1, aD (.slice .bool) a1), (5, aD (.slice (.pair tI (.pair tI tI))) r1.1), (8, aI r19), (57, aB (r19 == (0 : Int)))]) (L' := []) (obs := []) (by kernel_rfl) (by kernel_rfl) (by kernel_rfl) allP0 ?_
            refine seqQ_norm ?_
            refine W_cond (o := .tmp 57) (b := r19 == (0 : Int)) (by kernel_rfl) (by kernel_rfl) (fun h23 => ?_) (fun h23 => ?_)
            · replace h := ofT h23 h
              obtain rfl := Option.some.inj h
              refine W_run 1 [] [1, 5, 8] [] (fr' := [(1, aD (.slice .bool) a1), (5, aD (.slice (.pair tI (.pair tI tI))) r1.1), (8, aI (1 : Int))]) (L' := []) (obs := []) (by kernel_rfl) (by kernel_rfl) (by kernel_rfl) allP0 ?_
              exact exQ_mk (by kernel_rfl) (by kernel_rfl)
            · replace h := ofF h23 h
              obtain rfl := Option.some.inj h
              refine W_skip [1, 5, 8] [] (fr' := [(1, aD (.slice .bool) a1), (5, aD (.slice (.pair tI (.pair tI tI))) r1.1), (8, aI r19)]) (L' := []) (by kernel_rfl) (by kernel_rfl) ?_
              exact exQ_mk (by kernel_rfl) (by kernel_rfl)
          · intro e fr L hJ
            obtain ⟨rfl, rfl, rfl⟩ := hJ
            refine LT_keep [1, 5, 8] [] (fr' := [(1, aD (.slice .bool) a1), (5, aD (.slice (.pair tI (.pair tI tI))) r1.1), (8, aI v24)]) (L' := []) (by kernel_rfl) ?_
            refine seqQ_norm ?_
            refine W_seq (by kernel_rfl) ?_
            refine W_seq (by kernel_rfl) ?_
            refine W_run 1 [] [1, 5, 8, 9] [] (fr' := [(1, aD (.slice .bool) a1), (5, aD (.slice (.pair tI (.pair tI tI))) r1.1), (8, aI v24), (9, aI (0 : Int))]) (L' := []) (obs := []) (by kernel_rfl) (by kernel_rfl) (by kernel_rfl) allP0 ?_
            refine seqQ_norm ?_
            refine W_block (id := 0) (by kernel_rfl) ?_
            obtain ⟨v50, h51, h⟩ := bind_of h
            refine W_len (t := 1) (u := .bool) (xs := a1) (by kernel_rfl) (fun h54 => ?_)
            obtain ⟨h52, h53⟩ := forL_iter h54 h51
            refine W_weaken [1, 5, 8, 9] [] (fr' := ((law_AskTrees_s3 a1 r1 v24) ((0 : Int), ())).1) (L' := ((law_AskTrees_s3 a1 r1 v24) ((0 : Int), ())).2) (by kernel_rfl) ?_
            refine W_cutK (W_loop (S := (law_AskTrees_s3 a1 r1 v24)) (J := (escQ (exQ .ret law_AskTrees_s4) (exQ (.exit 0) law_AskTrees_s5))) (by kernel_rfl) ?_ h52 _ v50 h53) ?_
            · rintro ⟨i40, x41⟩ s h
              refine W_seq (by kernel_rfl) ?_
              refine W_seq (by kernel_rfl) ?_
              refine W_run 4 [] [1, 5, 8, 9, 61] [] (fr' := [(1, aD (.slice .bool) a1), (5, aD (.slice (.pair tI (.pair tI tI))) r1.1), (8, aI v24), (9, aI i40), (61, aB (decide (i40 < (List.length a1 : Int))))]) (L' := []) (obs := []) (by kernel_rfl) (by kernel_rfl) (by kernel_rfl) allP0 ?_
              refine seqQ_norm ?_
              refine W_cond (o := .tmp 61) (b := decide (i40 < (List.length a1 : Int))) (by kernel_rfl) (by kernel_rfl) (fun h45 => ?_) (fun h45 => ?_)
              · replace h := stepL_true h45 h
                obtain ⟨v43, _, h44, h, rfl⟩ := h
                refine W_skip [1, 5, 8, 9] [] (fr' := [(1, aD (.slice .bool) a1), (5, aD (.slice (.pair tI (.pair tI tI))) r1.1), (8, aI v24), (9, aI i40)]) (L' := []) (by kernel_rfl) (by kernel_rfl) ?_
                refine seqQ_norm ?_
                refine W_seq (by kernel_rfl) ?_
                refine W_block (id := 1) (by kernel_rfl) ?_
                refine W_seq (by kernel_rfl) ?_
                refine W_region (by kernel_rfl) ?_
                refine WO_run (j := 5) (k := 5) (orcs := []) (kF := [1, 5, 8, 9, 65, 68, 69]) (kL := []) (fr' := [(1, aD (.slice .bool) a1), (5, aD (.slice (.pair tI (.pair tI tI))) r1.1), (8, aI v24), (9, aI i40), (65, aD (.slice (.pair tI (.pair tI tI))) r1.1), (68, aI (w64 ((List.length r1.1 : Int) - (1 : Int)))), (69, aI i40)]) (L' := []) (obs := []) rfl (by kernel_rfl) allP0 ?_
                obtain ⟨r46, h47, h⟩ := bind_of h
                refine WO_call0 (us := [none, none, none]) (d := 70) (p := True) (j := 6) rfl ⟨by kernel_rfl, by kernel_rfl, by kernel_rfl⟩ trivial (ref_Walked_ok h47) (by kernel_rfl) ?_
                refine WO_run (j := 11) (k := 5) (orcs := []) (kF := [1, 5, 8, 9, 10, 11]) (kL := []) (fr' := [(1, aD (.slice .bool) a1), (5, aD (.slice (.pair tI (.pair tI tI))) r1.1), (8, aI v24), (9, aI i40), (10, aB r46.1), (11, aI r46.2)]) (L' := []) (obs := []) rfl (by kernel_rfl) allP0 ?_
                refine WO_fin [1, 5, 8, 9, 10, 11] [] (fr' := [(1, aD (.slice .bool) a1), (5, aD (.slice (.pair tI (.pair tI tI))) r1.1), (8, aI v24), (9, aI i40), (10, aB r46.1), (11, aI r46.2)]) (L' := []) (by kernel_rfl) (by kernel_rfl) ?_
                refine seqQ_norm ?_
                refine W_seq (by kernel_rfl) ?_
                refine W_run 11 [(7, .val (.dat .bool v43))] [1, 5, 8, 9, 83] [] (fr' := [(1, aD (.slice .bool) a1), (5, aD (.slice (.pair tI (.pair tI tI))) r1.1), (8, aI v24), (9, aI i40), (83, aB ((!(r46.1 == v43)) || (decide (r46.2 > v24))))]) (L' := []) (obs := [Idx a1 i40 v43]) (by kernel_rfl) (by kernel_rfl) (by kernel_rfl) (allP1 (Idx.of h44)) ?_
                refine seqQ_norm ?_
                refine W_cond (o := .tmp 83) (b := (!(r46.1 == v43)) || (decide (r46.2 > v24))) (by kernel_rfl) (by kernel_rfl) (fun h48 => ?_) (fun h48 => ?_)
                · replace h := ofT h48 h
                  refine W_seq (by kernel_rfl) ?_
                  refine W_run 1 [] [4] [] (fr' := [(4, aB false)]) (L' := []) (obs := []) (by kernel_rfl) (by kernel_rfl) (by kernel_rfl) allP0 ?_
                  refine seqQ_norm ?_
                  obtain rfl := Option.some.inj h
                  refine W_ret [4] [] (fr' := [(4, aB false)]) (L' := []) (by kernel_rfl) (by kernel_rfl) ?_
                  refine blockQ_ret ?_
                  refine seqQ_ret ?_
                  refine round_ret ?_
                  refine escQ_ret ?_
                  exact exQ_mk (by kernel_rfl) (by kernel_rfl)
                · replace h := ofF h48 h
                  refine W_skip [1, 5, 8, 9] [] (fr' := [(1, aD (.slice .bool) a1), (5, aD (.slice (.pair tI (.pair tI tI))) r1.1), (8, aI v24), (9, aI i40)]) (L' := []) (by kernel_rfl) (by kernel_rfl) ?_
                  refine blockQ_norm ?_
                  refine seqQ_norm ?_
                  obtain rfl := Option.some.inj h
                  refine W_run 3 [] [1, 5, 8, 9] [] (fr' := [(1, aD (.slice .bool) a1), (5, aD (.slice (.pair tI (.pair tI tI))) r1.1), (8, aI v24), (9, aI (w64 (i40 + (1 : Int))))]) (L' := []) (obs := []) (by kernel_rfl) (by kernel_rfl) (by kernel_rfl) allP0 ?_
                  exact round_next' (by kernel_rfl) (by kernel_rfl)
              · obtain rfl := stepL_false h45 h
                refine W_exit (id := 0) [] [] (fr' := []) (L' := []) (by kernel_rfl) (by kernel_rfl) ?_
                refine seqQ_exit ?_
                refine round_exit ?_
                refine escQ_brk ?_
                exact exQ_mk (by kernel_rfl) (by kernel_rfl)
            · intro e fr L hJ
              rcases v50 with v55 | v56
              · obtain ⟨rfl, rfl, rfl⟩ := hJ
                obtain rfl := Option.some.inj h
                refine LT_keep [4] [] (fr' := [(4, aB v55)]) (L' := []) (by kernel_rfl) ?_
                refine blockQ_ret ?_
                refine seqQ_ret ?_
                exact retQ_mk (by kernel_rfl) (by kernel_rfl) (by kernel_rfl)
              · obtain ⟨rfl, rfl, rfl⟩ := hJ
                refine LT_keep [] [] (fr' := []) (L' := []) (by kernel_rfl) ?_
                refine blockQ_hit ?_
                refine seqQ_norm ?_
                refine W_seq (by kernel_rfl) ?_
                refine W_run 1 [] [4] [] (fr' := [(4, aB true)]) (L' := []) (obs := []) (by kernel_rfl) (by kernel_rfl) (by kernel_rfl) allP0 ?_
                refine seqQ_norm ?_
                obtain rfl := Option.some.inj h
                refine W_ret [4] [] (fr' := [(4, aB true)]) (L' := []) (by kernel_rfl) (by kernel_rfl) ?_
                exact retQ_mk (by kernel_rfl) (by kernel_rfl) (by kernel_rfl)
end Go.Proofs.Ytnlibkamomlccaa.askTrees
