/- What the functions that AskLeasts calls compute, as models, and that they compute it: written by a program of mine. -/
import Derived.Test.YtnlibkamomlccaaProg
import Derived.Test.YtnlibkamomlccaaSl3
set_option linter.all false
set_option maxRecDepth 100000
namespace Go.Proofs.Ytnlibkamomlccaa.askLeasts
open Go Go.Sl
def ask_wrong (a0 : Int) (a1 : (List Bool)) (a2 : Int) : Option Int :=
bif (decide (a0 < (0 : Int))) || (decide (a0 > (4 : Int))) then
(some (1 : Int))
else
((ck (0 ≤ a0)).bind fun _ =>
bif (List.length a1 : Int) != (bShl .i64 (1 : Int) a0) then
(some (3 : Int))
else
(bif decide (a2 < (0 : Int)) then
(some (4 : Int))
else
(bif decide (a2 ≥ (bShl .i64 (1 : Int) a0)) then
(some (4 : Int))
else
(some (0 : Int)))))
theorem ask_wrong_ok {a0 : Int} {a1 : (List Bool)} {a2 : Int} {r : Int} (h : ask_wrong a0 a1 a2 = some r) : FnC Try.prog 37 [aI a0, aD (.slice .bool) a1, aI a2] [] (aI r) [] := by
  refine fnC_of_W (B := bodyOf Try.f37) (n := 29) Try.func37 (by kernel_rfl) (by kernel_rfl) (by kernel_rfl) (by kernel_rfl) (by kernel_rfl) ?_
  intro K
  refine W_seq (by kernel_rfl) ?_
  refine W_run 1 [] [0, 1, 2] [] (fr' := [(0, aI a0), (1, aD (.slice .bool) a1), (2, aI a2)]) (L' := []) (obs := []) (by kernel_rfl) (by kernel_rfl) (by kernel_rfl) allP0 ?_
  refine seqQ_norm ?_
  refine W_seq (by kernel_rfl) ?_
  refine W_block (id := 0) (by kernel_rfl) ?_
  refine W_seq (by kernel_rfl) ?_
  refine W_run 7 [] [0, 1, 2, 7] [] (fr' := [(0, aI a0), (1, aD (.slice .bool) a1), (2, aI a2), (7, aB ((decide (a0 < (0 : Int))) || (decide (a0 > (4 : Int)))))]) (L' := []) (obs := []) (by kernel_rfl) (by kernel_rfl) (by kernel_rfl) allP0 ?_
  refine seqQ_norm ?_
  refine W_cond (o := .tmp 7) (b := (decide (a0 < (0 : Int))) || (decide (a0 > (4 : Int)))) (by kernel_rfl) (by kernel_rfl) (fun h1 => ?_) (fun h1 => ?_)
  · replace h := ofT h1 h
    refine W_seq (by kernel_rfl) ?_
    refine W_run 1 [] [6] [] (fr' := [(6, aI (1 : Int))]) (L' := []) (obs := []) (by kernel_rfl) (by kernel_rfl) (by kernel_rfl) allP0 ?_
    refine seqQ_norm ?_
    obtain rfl := Option.some.inj h
    refine W_ret [6] [] (fr' := [(6, aI (1 : Int))]) (L' := []) (by kernel_rfl) (by kernel_rfl) ?_
    refine blockQ_ret ?_
    refine seqQ_ret ?_
    exact retQ_mk (by kernel_rfl) (by kernel_rfl) (by kernel_rfl)
  · replace h := ofF h1 h
    refine W_seq (by kernel_rfl) ?_
    obtain ⟨_, h2, h⟩ := bind_of h
    replace h2 := ck_some h2
    refine W_run 6 [] [0, 2, 14] [] (fr' := [(0, aI a0), (2, aI a2), (14, aB ((List.length a1 : Int) != (bShl .i64 (1 : Int) a0)))]) (L' := []) (obs := [(0 ≤ a0)]) (by kernel_rfl) (by kernel_rfl) (by kernel_rfl) (allP1 h2) ?_
    refine seqQ_norm ?_
    refine W_cond (o := .tmp 14) (b := (List.length a1 : Int) != (bShl .i64 (1 : Int) a0)) (by kernel_rfl) (by kernel_rfl) (fun h3 => ?_) (fun h3 => ?_)
    · replace h := ofT h3 h
      refine W_seq (by kernel_rfl) ?_
      refine W_run 1 [] [6] [] (fr' := [(6, aI (3 : Int))]) (L' := []) (obs := []) (by kernel_rfl) (by kernel_rfl) (by kernel_rfl) allP0 ?_
      refine seqQ_norm ?_
      obtain rfl := Option.some.inj h
      refine W_ret [6] [] (fr' := [(6, aI (3 : Int))]) (L' := []) (by kernel_rfl) (by kernel_rfl) ?_
      refine blockQ_ret ?_
      refine seqQ_ret ?_
      exact retQ_mk (by kernel_rfl) (by kernel_rfl) (by kernel_rfl)
    · replace h := ofF h3 h
      refine W_seq (by kernel_rfl) ?_
      refine W_region (by kernel_rfl) ?_
      refine WO_run (j := 3) (k := 3) (orcs := []) (kF := [0, 2, 23]) (kL := []) (fr' := [(0, aI a0), (2, aI a2), (23, aB (decide (a2 < (0 : Int))))]) (L' := []) (obs := []) rfl (by kernel_rfl) allP0 ?_
      rcases Bool.eq_false_or_eq_true (decide (a2 < (0 : Int))) with h4 | h4
      · replace h := ofT h4 h
        refine WO_run (j := 9) (k := 6) (orcs := [(6, .known true), (8, .known true), (10, .known true), (12, .known true), (15, .val (.dat .bool true))]) (kF := [20]) (kL := []) (fr' := [(20, aB true)]) (L' := []) (obs := [((decide (a2 < (0 : Int))) = true), ((decide (a2 < (0 : Int))) = true), ((decide (a2 < (0 : Int))) = true), ((decide (a2 < (0 : Int))) = true), ((decide (a2 < (0 : Int))) = true)]) rfl (by kernel_rfl) (allP2 h4 (allP2 h4 (allP2 h4 (allP2 h4 (allP1 h4))))) ?_
        refine WO_fin [20] [] (fr' := [(20, aB true)]) (L' := []) (by kernel_rfl) (by kernel_rfl) ?_
        refine seqQ_norm ?_
        refine W_cond (o := .tmp 20) (b := true) (by kernel_rfl) (by kernel_rfl) (fun h5 => ?_) (fun h5 => by have := (rfl : true = true).symm.trans h5; cases this)
        refine W_seq (by kernel_rfl) ?_
        refine W_run 1 [] [6] [] (fr' := [(6, aI (4 : Int))]) (L' := []) (obs := []) (by kernel_rfl) (by kernel_rfl) (by kernel_rfl) allP0 ?_
        refine seqQ_norm ?_
        obtain rfl := Option.some.inj h
        refine W_ret [6] [] (fr' := [(6, aI (4 : Int))]) (L' := []) (by kernel_rfl) (by kernel_rfl) ?_
        refine blockQ_ret ?_
        refine seqQ_ret ?_
        exact retQ_mk (by kernel_rfl) (by kernel_rfl) (by kernel_rfl)
      · replace h := ofF h4 h
        refine WO_run (j := 9) (k := 6) (orcs := [(6, .known false), (8, .known false), (10, .known false), (12, .known false), (15, .val (.dat .bool false))]) (kF := [20]) (kL := []) (fr' := [(20, aB (decide (a2 ≥ (bShl .i64 (1 : Int) a0))))]) (L' := []) (obs := [((decide (a2 < (0 : Int))) = false), ((decide (a2 < (0 : Int))) = false), ((decide (a2 < (0 : Int))) = false), (0 ≤ a0), ((decide (a2 < (0 : Int))) = false), ((decide (a2 < (0 : Int))) = false)]) rfl (by kernel_rfl) (allP2 h4 (allP2 h4 (allP2 h4 (allP2 h2 (allP2 h4 (allP1 h4)))))) ?_
        refine WO_fin [20] [] (fr' := [(20, aB (decide (a2 ≥ (bShl .i64 (1 : Int) a0))))]) (L' := []) (by kernel_rfl) (by kernel_rfl) ?_
        refine seqQ_norm ?_
        refine W_cond (o := .tmp 20) (b := decide (a2 ≥ (bShl .i64 (1 : Int) a0))) (by kernel_rfl) (by kernel_rfl) (fun h6 => ?_) (fun h6 => ?_)
        · replace h := ofT h6 h
          refine W_seq (by kernel_rfl) ?_
          refine W_run 1 [] [6] [] (fr' := [(6, aI (4 : Int))]) (L' := []) (obs := []) (by kernel_rfl) (by kernel_rfl) (by kernel_rfl) allP0 ?_
          refine seqQ_norm ?_
          obtain rfl := Option.some.inj h
          refine W_ret [6] [] (fr' := [(6, aI (4 : Int))]) (L' := []) (by kernel_rfl) (by kernel_rfl) ?_
          refine blockQ_ret ?_
          refine seqQ_ret ?_
          exact retQ_mk (by kernel_rfl) (by kernel_rfl) (by kernel_rfl)
        · replace h := ofF h6 h
          refine W_skip [] [] (fr' := []) (L' := []) (by kernel_rfl) (by kernel_rfl) ?_
          refine blockQ_norm ?_
          refine seqQ_norm ?_
          refine W_seq (by kernel_rfl) ?_
          refine W_run 1 [] [6] [] (fr' := [(6, aI (0 : Int))]) (L' := []) (obs := []) (by kernel_rfl) (by kernel_rfl) (by kernel_rfl) allP0 ?_
          refine seqQ_norm ?_
          obtain rfl := Option.some.inj h
          refine W_ret [6] [] (fr' := [(6, aI (0 : Int))]) (L' := []) (by kernel_rfl) (by kernel_rfl) ?_
          exact retQ_mk (by kernel_rfl) (by kernel_rfl) (by kernel_rfl)

@[reducible] def ask_same_s3 (a0 : (List Bool)) (a1 : Int) (a2 : Int) (i33 : Int) (v : Bool) : Fr × LL := ([(0, aD (.slice .bool) a0), (1, aI a1), (2, aI a2), (9, aD (.slice .bool) a0), (10, aI (List.length a0 : Int)), (11, aI i33), (29, aB v)], [])
def ask_same_b4 (a0 : (List Bool)) (a1 : Int) (a2 : Int) (i33 : Int) (v36 : Bool) (x34 : Unit) : Option (Flow Unit (Esc Bool Unit)) :=
(bif (bAnd .i64 (bXor .i64 a2 i33) a1) == (0 : Int) then
((idx a0 a2).bind fun v46 =>
some (!(v36 == v46)))
else
(some false)).bind fun v48 =>
bif v48 then
(some (.done (.ret false)))
else
(some (.next ()))
@[reducible] def ask_same_s5 (a0 : (List Bool)) (a1 : Int) (a2 : Int) (v : Int × Unit) : Fr × LL := ([(0, aD (.slice .bool) a0), (1, aI a1), (2, aI a2), (9, aD (.slice .bool) a0), (10, aI (List.length a0 : Int)), (11, aI v.1)], [])
@[reducible] def ask_same_s6 (v : Bool) : Fr × LL := ([(6, aB v)], [])
@[reducible] def ask_same_s7 (v : Unit) : Fr × LL := ([], [])
def ask_same (a0 : (List Bool)) (a1 : Int) (a2 : Int) : Option Bool :=
(forL (ask_same_b4 a0 a1 a2) (fun x34 => (.brk ())) a0 0 ()).bind fun v52 =>
match v52 with
| .ret v57 =>
(some v57)
| .brk v58 =>
(some true)
theorem ask_same_ok {a0 : (List Bool)} {a1 : Int} {a2 : Int} {r : Bool} (h : ask_same a0 a1 a2 = some r) : FnC Try.prog 47 [aD (.slice .bool) a0, aI a1, aI a2] [] (aB r) [] := by
  refine fnC_of_W (B := bodyOf Try.f47) (n := 31) Try.func47 (by kernel_rfl) (by kernel_rfl) (by kernel_rfl) (by kernel_rfl) (by kernel_rfl) ?_
  intro K
  refine W_seq (by kernel_rfl) ?_
  refine W_run 1 [] [0, 1, 2] [] (fr' := [(0, aD (.slice .bool) a0), (1, aI a1), (2, aI a2)]) (L' := []) (obs := []) (by kernel_rfl) (by kernel_rfl) (by kernel_rfl) allP0 ?_
  refine seqQ_norm ?_
  refine W_seq (by kernel_rfl) ?_
  refine W_seq (by kernel_rfl) ?_
  refine W_run 3 [] [0, 1, 2, 9, 10, 11] [] (fr' := [(0, aD (.slice .bool) a0), (1, aI a1), (2, aI a2), (9, aD (.slice .bool) a0), (10, aI (List.length a0 : Int)), (11, aI (0 : Int))]) (L' := []) (obs := []) (by kernel_rfl) (by kernel_rfl) (by kernel_rfl) allP0 ?_
  refine seqQ_norm ?_
  refine W_block (id := 0) (by kernel_rfl) ?_
  obtain ⟨v52, h53, h⟩ := bind_of h
  refine W_len (t := 9) (u := .bool) (xs := a0) (by kernel_rfl) (fun h56 => ?_)
  obtain ⟨h54, h55⟩ := forL_iter h56 h53
  refine W_weaken [0, 1, 2, 9, 10, 11] [] (fr' := ((ask_same_s5 a0 a1 a2) ((0 : Int), ())).1) (L' := ((ask_same_s5 a0 a1 a2) ((0 : Int), ())).2) (by kernel_rfl) ?_
  refine W_cutK (W_loop (S := (ask_same_s5 a0 a1 a2)) (J := (escQ (exQ .ret ask_same_s6) (exQ (.exit 0) ask_same_s7))) (by kernel_rfl) ?_ h54 _ v52 h55) ?_
  · rintro ⟨i33, x34⟩ s h
    refine W_seq (by kernel_rfl) ?_
    refine W_run 1 [] [0, 1, 2, 9, 10, 11, 12] [] (fr' := [(0, aD (.slice .bool) a0), (1, aI a1), (2, aI a2), (9, aD (.slice .bool) a0), (10, aI (List.length a0 : Int)), (11, aI i33), (12, aB (decide (i33 < (List.length a0 : Int))))]) (L' := []) (obs := []) (by kernel_rfl) (by kernel_rfl) (by kernel_rfl) allP0 ?_
    refine seqQ_norm ?_
    refine W_seq (by kernel_rfl) ?_
    refine W_cond (o := .tmp 12) (b := decide (i33 < (List.length a0 : Int))) (by kernel_rfl) (by kernel_rfl) (fun h38 => ?_) (fun h38 => ?_)
    · replace h := stepL_true h38 h
      obtain ⟨v36, _, h37, h, rfl⟩ := h
      refine W_skip [0, 1, 2, 9, 10, 11] [] (fr' := [(0, aD (.slice .bool) a0), (1, aI a1), (2, aI a2), (9, aD (.slice .bool) a0), (10, aI (List.length a0 : Int)), (11, aI i33)]) (L' := []) (by kernel_rfl) (by kernel_rfl) ?_
      refine seqQ_norm ?_
      refine W_seq (by kernel_rfl) ?_
      refine W_block (id := 1) (by kernel_rfl) ?_
      refine W_seq (by kernel_rfl) ?_
      refine W_run 5 [(3, .val (.dat .bool v36))] [0, 1, 2, 7, 8, 9, 10, 11] [] (fr' := [(0, aD (.slice .bool) a0), (1, aI a1), (2, aI a2), (7, aI i33), (8, aB v36), (9, aD (.slice .bool) a0), (10, aI (List.length a0 : Int)), (11, aI i33)]) (L' := []) (obs := [Idx a0 i33 v36]) (by kernel_rfl) (by kernel_rfl) (by kernel_rfl) (allP1 (Idx.of h37)) ?_
      refine seqQ_norm ?_
      refine W_seq (by kernel_rfl) ?_
      obtain ⟨v48, h49, h⟩ := bind_of h
      refine W_cutK (Q' := (exQ .normal (ask_same_s3 a0 a1 a2 i33)) v48) ?_ ?_
      · replace h := h49
        refine W_region (by kernel_rfl) ?_
        refine WO_run (j := 7) (k := 7) (orcs := []) (kF := [0, 1, 2, 8, 9, 10, 11, 22]) (kL := []) (fr' := [(0, aD (.slice .bool) a0), (1, aI a1), (2, aI a2), (8, aB v36), (9, aD (.slice .bool) a0), (10, aI (List.length a0 : Int)), (11, aI i33), (22, aB ((bAnd .i64 (bXor .i64 a2 i33) a1) == (0 : Int)))]) (L' := []) (obs := []) rfl (by kernel_rfl) allP0 ?_
        rcases Bool.eq_false_or_eq_true ((bAnd .i64 (bXor .i64 a2 i33) a1) == (0 : Int)) with h45 | h45
        · replace h := ofT h45 h
          obtain ⟨v46, h47, h⟩ := bind_of h
          refine WO_run (j := 14) (k := 7) (orcs := [(14, .known true), (16, .known true), (18, .known true), (20, .known true), (21, .val (.dat .bool v46)), (22, .known true), (24, .known true), (27, .val (.dat .bool true))]) (kF := [0, 1, 2, 9, 10, 11, 29]) (kL := []) (fr' := [(0, aD (.slice .bool) a0), (1, aI a1), (2, aI a2), (9, aD (.slice .bool) a0), (10, aI (List.length a0 : Int)), (11, aI i33), (29, aB (!(v36 == v46)))]) (L' := []) (obs := [(((bAnd .i64 (bXor .i64 a2 i33) a1) == (0 : Int)) = true), (((bAnd .i64 (bXor .i64 a2 i33) a1) == (0 : Int)) = true), (((bAnd .i64 (bXor .i64 a2 i33) a1) == (0 : Int)) = true), (((bAnd .i64 (bXor .i64 a2 i33) a1) == (0 : Int)) = true), Idx a0 a2 v46, (((bAnd .i64 (bXor .i64 a2 i33) a1) == (0 : Int)) = true), (((bAnd .i64 (bXor .i64 a2 i33) a1) == (0 : Int)) = true), (((bAnd .i64 (bXor .i64 a2 i33) a1) == (0 : Int)) = true)]) rfl (by kernel_rfl) (allP2 h45 (allP2 h45 (allP2 h45 (allP2 h45 (allP2 (Idx.of h47) (allP2 h45 (allP2 h45 (allP1 h45)))))))) ?_
          obtain rfl := Option.some.inj h
          refine WO_fin [0, 1, 2, 9, 10, 11, 29] [] (fr' := [(0, aD (.slice .bool) a0), (1, aI a1), (2, aI a2), (9, aD (.slice .bool) a0), (10, aI (List.length a0 : Int)), (11, aI i33), (29, aB (!(v36 == v46)))]) (L' := []) (by kernel_rfl) (by kernel_rfl) ?_
          exact exQ_mk (by kernel_rfl) (by kernel_rfl)
        · replace h := ofF h45 h
          refine WO_run (j := 14) (k := 7) (orcs := [(14, .known false), (16, .known false), (18, .known false), (20, .known false), (22, .known false), (24, .known false), (27, .val (.dat .bool false))]) (kF := [0, 1, 2, 9, 10, 11, 29]) (kL := []) (fr' := [(0, aD (.slice .bool) a0), (1, aI a1), (2, aI a2), (9, aD (.slice .bool) a0), (10, aI (List.length a0 : Int)), (11, aI i33), (29, aB false)]) (L' := []) (obs := [(((bAnd .i64 (bXor .i64 a2 i33) a1) == (0 : Int)) = false), (((bAnd .i64 (bXor .i64 a2 i33) a1) == (0 : Int)) = false), (((bAnd .i64 (bXor .i64 a2 i33) a1) == (0 : Int)) = false), (((bAnd .i64 (bXor .i64 a2 i33) a1) == (0 : Int)) = false), (((bAnd .i64 (bXor .i64 a2 i33) a1) == (0 : Int)) = false), (((bAnd .i64 (bXor .i64 a2 i33) a1) == (0 : Int)) = false), (((bAnd .i64 (bXor .i64 a2 i33) a1) == (0 : Int)) = false)]) rfl (by kernel_rfl) (allP2 h45 (allP2 h45 (allP2 h45 (allP2 h45 (allP2 h45 (allP2 h45 (allP1 h45))))))) ?_
          obtain rfl := Option.some.inj h
          refine WO_fin [0, 1, 2, 9, 10, 11, 29] [] (fr' := [(0, aD (.slice .bool) a0), (1, aI a1), (2, aI a2), (9, aD (.slice .bool) a0), (10, aI (List.length a0 : Int)), (11, aI i33), (29, aB false)]) (L' := []) (by kernel_rfl) (by kernel_rfl) ?_
          exact exQ_mk (by kernel_rfl) (by kernel_rfl)
      · intro e fr L hJ
        obtain ⟨rfl, rfl, rfl⟩ := hJ
        refine LT_keep [0, 1, 2, 9, 10, 11, 29] [] (fr' := [(0, aD (.slice .bool) a0), (1, aI a1), (2, aI a2), (9, aD (.slice .bool) a0), (10, aI (List.length a0 : Int)), (11, aI i33), (29, aB v48)]) (L' := []) (by kernel_rfl) ?_
        refine seqQ_norm ?_
        refine W_cond (o := .tmp 29) (b := v48) (by kernel_rfl) (by kernel_rfl) (fun h50 => ?_) (fun h50 => ?_)
        · replace h := ofT h50 h
          refine W_seq (by kernel_rfl) ?_
          refine W_run 1 [] [6] [] (fr' := [(6, aB false)]) (L' := []) (obs := []) (by kernel_rfl) (by kernel_rfl) (by kernel_rfl) allP0 ?_
          refine seqQ_norm ?_
          obtain rfl := Option.some.inj h
          refine W_ret [6] [] (fr' := [(6, aB false)]) (L' := []) (by kernel_rfl) (by kernel_rfl) ?_
          refine blockQ_ret ?_
          refine seqQ_ret ?_
          refine round_ret ?_
          refine escQ_ret ?_
          exact exQ_mk (by kernel_rfl) (by kernel_rfl)
        · replace h := ofF h50 h
          refine W_skip [0, 1, 2, 9, 10, 11] [] (fr' := [(0, aD (.slice .bool) a0), (1, aI a1), (2, aI a2), (9, aD (.slice .bool) a0), (10, aI (List.length a0 : Int)), (11, aI i33)]) (L' := []) (by kernel_rfl) (by kernel_rfl) ?_
          refine blockQ_norm ?_
          refine seqQ_norm ?_
          obtain rfl := Option.some.inj h
          refine W_run 2 [] [0, 1, 2, 9, 10, 11] [] (fr' := [(0, aD (.slice .bool) a0), (1, aI a1), (2, aI a2), (9, aD (.slice .bool) a0), (10, aI (List.length a0 : Int)), (11, aI (w64 (i33 + (1 : Int))))]) (L' := []) (obs := []) (by kernel_rfl) (by kernel_rfl) (by kernel_rfl) allP0 ?_
          exact round_next' (by kernel_rfl) (by kernel_rfl)
    · obtain rfl := stepL_false h38 h
      refine W_exit (id := 0) [] [] (fr' := []) (L' := []) (by kernel_rfl) (by kernel_rfl) ?_
      refine seqQ_exit ?_
      refine round_exit ?_
      refine escQ_brk ?_
      exact exQ_mk (by kernel_rfl) (by kernel_rfl)
  · intro e fr L hJ
    rcases v52 with v57 | v58
    · obtain ⟨rfl, rfl, rfl⟩ := hJ
      obtain rfl := Option.some.inj h
      refine LT_keep [6] [] (fr' := [(6, aB v57)]) (L' := []) (by kernel_rfl) ?_
      refine blockQ_ret ?_
      refine seqQ_ret ?_
      exact retQ_mk (by kernel_rfl) (by kernel_rfl) (by kernel_rfl)
    · obtain ⟨rfl, rfl, rfl⟩ := hJ
      refine LT_keep [] [] (fr' := []) (L' := []) (by kernel_rfl) ?_
      refine blockQ_hit ?_
      refine seqQ_norm ?_
      refine W_seq (by kernel_rfl) ?_
      refine W_run 1 [] [6] [] (fr' := [(6, aB true)]) (L' := []) (obs := []) (by kernel_rfl) (by kernel_rfl) (by kernel_rfl) allP0 ?_
      refine seqQ_norm ?_
      obtain rfl := Option.some.inj h
      refine W_ret [6] [] (fr' := [(6, aB true)]) (L' := []) (by kernel_rfl) (by kernel_rfl) ?_
      exact retQ_mk (by kernel_rfl) (by kernel_rfl) (by kernel_rfl)

def ask_least_g5 (a0 : Int) (a1 : (List Bool)) (a2 : Int) (a3 : Int) (rf_ask_least : Int → (List Bool) → Int → Int → Option (Int × Int)) (i51 : Int) (x52 : (Int × Int)) : Option (Int × Int) :=
(ck (0 ≤ i51)).bind fun _ =>
bif (bAnd .i64 a2 (bShl .i64 (1 : Int) i51)) != (0 : Int) then
(some (x52.1, x52.2))
else
((rf_ask_least a0 a1 (bOr .i64 a2 (bShl .i64 (1 : Int) i51)) (bClr .i64 a3 (bShl .i64 (1 : Int) i51))).bind fun r71 =>
(rf_ask_least a0 a1 (bOr .i64 a2 (bShl .i64 (1 : Int) i51)) (bOr .i64 a3 (bShl .i64 (1 : Int) i51))).bind fun r73 =>
bif decide ((w64 ((1 : Int) + (imax r71.1 r73.1))) < x52.1) then
(some (w64 ((1 : Int) + (imax r71.1 r73.1)), i51))
else
(some (x52.1, x52.2)))
@[reducible] def ask_least_s6 (a0 : Int) (a1 : (List Bool)) (a2 : Int) (a3 : Int) (i51 : Int) (v : (Int × Int)) : Fr × LL := ([(0, aI a0), (1, aD (.slice .bool) a1), (2, aI a2), (3, aI a3), (10, aI v.1), (11, aI v.2), (25, aI a0), (26, aI i51)], [])
def ask_least_b7 (a0 : Int) (a1 : (List Bool)) (a2 : Int) (a3 : Int) (rf_ask_least : Int → (List Bool) → Int → Int → Option (Int × Int)) (i51 : Int) (x52 : (Int × Int)) : Option (Flow (Int × Int) (Int × Int)) :=
(ask_least_g5 a0 a1 a2 a3 rf_ask_least i51 x52).bind fun v76 =>
some (.next (v76.1, v76.2))
@[reducible] def ask_least_s8 (a0 : Int) (a1 : (List Bool)) (a2 : Int) (a3 : Int) (v : Int × (Int × Int)) : Fr × LL := ([(0, aI a0), (1, aD (.slice .bool) a1), (2, aI a2), (3, aI a3), (10, aI v.2.1), (11, aI v.2.2), (25, aI a0), (26, aI v.1)], [])
@[reducible] def ask_least_s9 (v : (Int × Int)) : Fr × LL := ([(10, aI v.1), (11, aI v.2)], [])
def ask_least_step (rf_ask_least : Int → (List Bool) → Int → Int → Option (Int × Int)) (fuel : Nat) (a0 : Int) (a1 : (List Bool)) (a2 : Int) (a3 : Int) : Option (Int × Int) :=
(ask_same a1 a2 a3).bind fun r1 =>
bif r1 then
(some ((0 : Int), (-1 : Int)))
else
((forI (0 : Int) a0 (ask_least_b7 a0 a1 a2 a3 rf_ask_least) (fun x52 => (x52.1, x52.2)) (w64 (a0 + (1 : Int)), (-1 : Int))).bind fun v79 =>
some (v79.1, v79.2))
def ask_least : Nat → Int → (List Bool) → Int → Int → Option (Int × Int)
  | 0 => fun _ _ _ _ => none
  | fuel + 1 => fun a0 a1 a2 a3 => ask_least_step (ask_least fuel) fuel a0 a1 a2 a3
theorem ask_least_step_ok {rf_ask_least : Int → (List Bool) → Int → Int → Option (Int × Int)} (ih_ask_least : ∀ {a0 : Int} {a1 : (List Bool)} {a2 : Int} {a3 : Int} {r : (Int × Int)}, rf_ask_least a0 a1 a2 a3 = some r → FnC Try.prog 39 [aI a0, aD (.slice .bool) a1, aI a2, aI a3] [] (.tup [.dat tI r.1, .dat tI r.2]) []) {fuel : Nat} {a0 : Int} {a1 : (List Bool)} {a2 : Int} {a3 : Int} {r : (Int × Int)} (h : ask_least_step rf_ask_least fuel a0 a1 a2 a3 = some r) : FnC Try.prog 39 [aI a0, aD (.slice .bool) a1, aI a2, aI a3] [] (.tup [.dat tI r.1, .dat tI r.2]) [] := by
  refine fnC_of_W (B := bodyOf Try.f39) (n := 71) Try.func39 (by kernel_rfl) (by kernel_rfl) (by kernel_rfl) (by kernel_rfl) (by kernel_rfl) ?_
  intro K
  refine W_seq (by kernel_rfl) ?_
  refine W_run 2 [] [0, 1, 2, 3] [] (fr' := [(0, aI a0), (1, aD (.slice .bool) a1), (2, aI a2), (3, aI a3)]) (L' := []) (obs := []) (by kernel_rfl) (by kernel_rfl) (by kernel_rfl) allP0 ?_
  refine seqQ_norm ?_
  refine W_seq (by kernel_rfl) ?_
  refine W_seq (by kernel_rfl) ?_
  refine W_region (by kernel_rfl) ?_
  refine WO_run (j := 3) (k := 3) (orcs := []) (kF := [0, 1, 2, 3, 19, 20, 21]) (kL := []) (fr' := [(0, aI a0), (1, aD (.slice .bool) a1), (2, aI a2), (3, aI a3), (19, aD (.slice .bool) a1), (20, aI a2), (21, aI a3)]) (L' := []) (obs := []) rfl (by kernel_rfl) allP0 ?_
  obtain ⟨r1, h2, h⟩ := bind_of h
  refine WO_call0 (us := [none, none, none]) (d := 22) (p := True) (j := 4) rfl ⟨by kernel_rfl, by kernel_rfl, by kernel_rfl⟩ trivial (ask_same_ok h2) (by kernel_rfl) ?_
  refine WO_fin [0, 1, 2, 3, 22] [] (fr' := [(0, aI a0), (1, aD (.slice .bool) a1), (2, aI a2), (3, aI a3), (22, aB r1)]) (L' := []) (by kernel_rfl) (by kernel_rfl) ?_
  refine seqQ_norm ?_
  refine W_cond (o := .tmp 22) (b := r1) (by kernel_rfl) (by kernel_rfl) (fun h3 => ?_) (fun h3 => ?_)
  · replace h := ofT h3 h
    refine W_seq (by kernel_rfl) ?_
    refine W_run 2 [] [8, 9] [] (fr' := [(8, aI (0 : Int)), (9, aI (-1 : Int))]) (L' := []) (obs := []) (by kernel_rfl) (by kernel_rfl) (by kernel_rfl) allP0 ?_
    refine seqQ_norm ?_
    obtain rfl := Option.some.inj h
    refine W_ret [8, 9] [] (fr' := [(8, aI (0 : Int)), (9, aI (-1 : Int))]) (L' := []) (by kernel_rfl) (by kernel_rfl) ?_
    refine seqQ_ret ?_
    exact retQ_mk (by kernel_rfl) (by kernel_rfl) (by kernel_rfl)
  · replace h := ofF h3 h
    refine W_skip [0, 1, 2, 3] [] (fr' := [(0, aI a0), (1, aD (.slice .bool) a1), (2, aI a2), (3, aI a3)]) (L' := []) (by kernel_rfl) (by kernel_rfl) ?_
    refine seqQ_norm ?_
    refine W_seq (by kernel_rfl) ?_
    refine W_run 4 [] [0, 1, 2, 3, 10, 11] [] (fr' := [(0, aI a0), (1, aD (.slice .bool) a1), (2, aI a2), (3, aI a3), (10, aI (w64 (a0 + (1 : Int)))), (11, aI (-1 : Int))]) (L' := []) (obs := []) (by kernel_rfl) (by kernel_rfl) (by kernel_rfl) allP0 ?_
    refine seqQ_norm ?_
    refine W_seq (by kernel_rfl) ?_
    refine W_seq (by kernel_rfl) ?_
    refine W_run 2 [] [0, 1, 2, 3, 10, 11, 25, 26] [] (fr' := [(0, aI a0), (1, aD (.slice .bool) a1), (2, aI a2), (3, aI a3), (10, aI (w64 (a0 + (1 : Int)))), (11, aI (-1 : Int)), (25, aI a0), (26, aI (0 : Int))]) (L' := []) (obs := []) (by kernel_rfl) (by kernel_rfl) (by kernel_rfl) allP0 ?_
    refine seqQ_norm ?_
    refine W_block (id := 0) (by kernel_rfl) ?_
    obtain ⟨v79, h80, h⟩ := bind_of h
    obtain ⟨h81, h82⟩ := forI_iter h80
    refine W_weaken [0, 1, 2, 3, 10, 11, 25, 26] [] (fr' := ((ask_least_s8 a0 a1 a2 a3) ((0 : Int), (w64 (a0 + (1 : Int)), (-1 : Int)))).1) (L' := ((ask_least_s8 a0 a1 a2 a3) ((0 : Int), (w64 (a0 + (1 : Int)), (-1 : Int)))).2) (by kernel_rfl) ?_
    refine W_cutK (W_loop (S := (ask_least_s8 a0 a1 a2 a3)) (J := (exQ (.exit 0) ask_least_s9)) (by kernel_rfl) ?_ h81 _ v79 h82) ?_
    · rintro ⟨i51, x52⟩ s h
      refine W_seq (by kernel_rfl) ?_
      refine W_run 1 [] [0, 1, 2, 3, 10, 11, 25, 26, 27] [] (fr' := [(0, aI a0), (1, aD (.slice .bool) a1), (2, aI a2), (3, aI a3), (10, aI x52.1), (11, aI x52.2), (25, aI a0), (26, aI i51), (27, aB (decide (i51 < a0)))]) (L' := []) (obs := []) (by kernel_rfl) (by kernel_rfl) (by kernel_rfl) allP0 ?_
      refine seqQ_norm ?_
      refine W_seq (by kernel_rfl) ?_
      refine W_cond (o := .tmp 27) (b := decide (i51 < a0)) (by kernel_rfl) (by kernel_rfl) (fun h54 => ?_) (fun h54 => ?_)
      · replace h := stepI_true h54 h
        obtain ⟨_, h, rfl⟩ := h
        refine W_skip [0, 1, 2, 3, 10, 11, 25, 26] [] (fr' := [(0, aI a0), (1, aD (.slice .bool) a1), (2, aI a2), (3, aI a3), (10, aI x52.1), (11, aI x52.2), (25, aI a0), (26, aI i51)]) (L' := []) (by kernel_rfl) (by kernel_rfl) ?_
        refine seqQ_norm ?_
        refine W_seq (by kernel_rfl) ?_
        obtain ⟨v76, h77, h⟩ := bind_of h
        refine W_cutK (Q' := (exQ .normal (ask_least_s6 a0 a1 a2 a3 i51)) v76) ?_ ?_
        · replace h := h77
          refine W_block (id := 1) (by kernel_rfl) ?_
          refine W_seq (by kernel_rfl) ?_
          refine W_run 2 [] [0, 1, 2, 3, 10, 11, 12, 25, 26] [] (fr' := [(0, aI a0), (1, aD (.slice .bool) a1), (2, aI a2), (3, aI a3), (10, aI x52.1), (11, aI x52.2), (12, aI i51), (25, aI a0), (26, aI i51)]) (L' := []) (obs := []) (by kernel_rfl) (by kernel_rfl) (by kernel_rfl) allP0 ?_
          refine seqQ_norm ?_
          refine W_seq (by kernel_rfl) ?_
          obtain ⟨_, h69, h⟩ := bind_of h
          replace h69 := ck_some h69
          refine W_run 3 [] [0, 1, 2, 3, 10, 11, 12, 13, 25, 26] [] (fr' := [(0, aI a0), (1, aD (.slice .bool) a1), (2, aI a2), (3, aI a3), (10, aI x52.1), (11, aI x52.2), (12, aI i51), (13, aI (bShl .i64 (1 : Int) i51)), (25, aI a0), (26, aI i51)]) (L' := []) (obs := [(0 ≤ i51)]) (by kernel_rfl) (by kernel_rfl) (by kernel_rfl) (allP1 h69) ?_
          refine seqQ_norm ?_
          refine W_seq (by kernel_rfl) ?_
          refine W_seq (by kernel_rfl) ?_
          refine W_run 4 [] [0, 1, 2, 3, 10, 11, 12, 13, 25, 26, 34] [] (fr' := [(0, aI a0), (1, aD (.slice .bool) a1), (2, aI a2), (3, aI a3), (10, aI x52.1), (11, aI x52.2), (12, aI i51), (13, aI (bShl .i64 (1 : Int) i51)), (25, aI a0), (26, aI i51), (34, aB ((bAnd .i64 a2 (bShl .i64 (1 : Int) i51)) != (0 : Int)))]) (L' := []) (obs := []) (by kernel_rfl) (by kernel_rfl) (by kernel_rfl) allP0 ?_
          refine seqQ_norm ?_
          refine W_cond (o := .tmp 34) (b := (bAnd .i64 a2 (bShl .i64 (1 : Int) i51)) != (0 : Int)) (by kernel_rfl) (by kernel_rfl) (fun h70 => ?_) (fun h70 => ?_)
          · replace h := ofT h70 h
            obtain rfl := Option.some.inj h
            refine W_exit (id := 1) [0, 1, 2, 3, 10, 11, 25, 26] [] (fr' := [(0, aI a0), (1, aD (.slice .bool) a1), (2, aI a2), (3, aI a3), (10, aI x52.1), (11, aI x52.2), (25, aI a0), (26, aI i51)]) (L' := []) (by kernel_rfl) (by kernel_rfl) ?_
            refine seqQ_exit ?_
            refine blockQ_hit ?_
            exact exQ_mk (by kernel_rfl) (by kernel_rfl)
          · replace h := ofF h70 h
            refine W_skip [0, 1, 2, 3, 10, 11, 12, 13, 25, 26] [] (fr' := [(0, aI a0), (1, aD (.slice .bool) a1), (2, aI a2), (3, aI a3), (10, aI x52.1), (11, aI x52.2), (12, aI i51), (13, aI (bShl .i64 (1 : Int) i51)), (25, aI a0), (26, aI i51)]) (L' := []) (by kernel_rfl) (by kernel_rfl) ?_
            refine seqQ_norm ?_
            refine W_seq (by kernel_rfl) ?_
            refine W_region (by kernel_rfl) ?_
            refine WO_run (j := 8) (k := 8) (orcs := []) (kF := [0, 1, 2, 3, 10, 11, 12, 13, 25, 26, 36, 37, 40, 43]) (kL := []) (fr' := [(0, aI a0), (1, aD (.slice .bool) a1), (2, aI a2), (3, aI a3), (10, aI x52.1), (11, aI x52.2), (12, aI i51), (13, aI (bShl .i64 (1 : Int) i51)), (25, aI a0), (26, aI i51), (36, aI a0), (37, aD (.slice .bool) a1), (40, aI (bOr .i64 a2 (bShl .i64 (1 : Int) i51))), (43, aI (bClr .i64 a3 (bShl .i64 (1 : Int) i51)))]) (L' := []) (obs := []) rfl (by kernel_rfl) allP0 ?_
            obtain ⟨r71, h72, h⟩ := bind_of h
            refine WO_call0 (us := [none, none, none, none]) (d := 44) (p := True) (j := 9) rfl ⟨by kernel_rfl, by kernel_rfl, by kernel_rfl⟩ trivial (ih_ask_least h72) (by kernel_rfl) ?_
            refine WO_run (j := 14) (k := 5) (orcs := []) (kF := [0, 1, 2, 3, 10, 11, 12, 13, 14, 25, 26]) (kL := []) (fr' := [(0, aI a0), (1, aD (.slice .bool) a1), (2, aI a2), (3, aI a3), (10, aI x52.1), (11, aI x52.2), (12, aI i51), (13, aI (bShl .i64 (1 : Int) i51)), (14, aI r71.1), (25, aI a0), (26, aI i51)]) (L' := []) (obs := []) rfl (by kernel_rfl) allP0 ?_
            refine WO_fin [0, 1, 2, 3, 10, 11, 12, 13, 14, 25, 26] [] (fr' := [(0, aI a0), (1, aD (.slice .bool) a1), (2, aI a2), (3, aI a3), (10, aI x52.1), (11, aI x52.2), (12, aI i51), (13, aI (bShl .i64 (1 : Int) i51)), (14, aI r71.1), (25, aI a0), (26, aI i51)]) (L' := []) (by kernel_rfl) (by kernel_rfl) ?_
            refine seqQ_norm ?_
            refine W_seq (by kernel_rfl) ?_
            refine W_region (by kernel_rfl) ?_
            refine WO_run (j := 8) (k := 8) (orcs := []) (kF := [0, 1, 2, 3, 10, 11, 12, 14, 25, 26, 48, 49, 52, 55]) (kL := []) (fr' := [(0, aI a0), (1, aD (.slice .bool) a1), (2, aI a2), (3, aI a3), (10, aI x52.1), (11, aI x52.2), (12, aI i51), (14, aI r71.1), (25, aI a0), (26, aI i51), (48, aI a0), (49, aD (.slice .bool) a1), (52, aI (bOr .i64 a2 (bShl .i64 (1 : Int) i51))), (55, aI (bOr .i64 a3 (bShl .i64 (1 : Int) i51)))]) (L' := []) (obs := []) rfl (by kernel_rfl) allP0 ?_
            obtain ⟨r73, h74, h⟩ := bind_of h
            refine WO_call0 (us := [none, none, none, none]) (d := 56) (p := True) (j := 9) rfl ⟨by kernel_rfl, by kernel_rfl, by kernel_rfl⟩ trivial (ih_ask_least h74) (by kernel_rfl) ?_
            refine WO_run (j := 14) (k := 5) (orcs := []) (kF := [0, 1, 2, 3, 10, 11, 12, 14, 16, 25, 26]) (kL := []) (fr' := [(0, aI a0), (1, aD (.slice .bool) a1), (2, aI a2), (3, aI a3), (10, aI x52.1), (11, aI x52.2), (12, aI i51), (14, aI r71.1), (16, aI r73.1), (25, aI a0), (26, aI i51)]) (L' := []) (obs := []) rfl (by kernel_rfl) allP0 ?_
            refine WO_fin [0, 1, 2, 3, 10, 11, 12, 14, 16, 25, 26] [] (fr' := [(0, aI a0), (1, aD (.slice .bool) a1), (2, aI a2), (3, aI a3), (10, aI x52.1), (11, aI x52.2), (12, aI i51), (14, aI r71.1), (16, aI r73.1), (25, aI a0), (26, aI i51)]) (L' := []) (by kernel_rfl) (by kernel_rfl) ?_
            refine seqQ_norm ?_
            refine W_seq (by kernel_rfl) ?_
            refine W_run 5 [] [0, 1, 2, 3, 10, 11, 12, 18, 25, 26] [] (fr' := [(0, aI a0), (1, aD (.slice .bool) a1), (2, aI a2), (3, aI a3), (10, aI x52.1), (11, aI x52.2), (12, aI i51), (18, aI (w64 ((1 : Int) + (imax r71.1 r73.1)))), (25, aI a0), (26, aI i51)]) (L' := []) (obs := []) (by kernel_rfl) (by kernel_rfl) (by kernel_rfl) allP0 ?_
            refine seqQ_norm ?_
            refine W_seq (by kernel_rfl) ?_
            refine W_run 3 [] [0, 1, 2, 3, 10, 11, 12, 18, 25, 26, 65] [] (fr' := [(0, aI a0), (1, aD (.slice .bool) a1), (2, aI a2), (3, aI a3), (10, aI x52.1), (11, aI x52.2), (12, aI i51), (18, aI (w64 ((1 : Int) + (imax r71.1 r73.1)))), (25, aI a0), (26, aI i51), (65, aB (decide ((w64 ((1 : Int) + (imax r71.1 r73.1))) < x52.1)))]) (L' := []) (obs := []) (by kernel_rfl) (by kernel_rfl) (by kernel_rfl) allP0 ?_
            refine seqQ_norm ?_
            refine W_cond (o := .tmp 65) (b := decide ((w64 ((1 : Int) + (imax r71.1 r73.1))) < x52.1)) (by kernel_rfl) (by kernel_rfl) (fun h75 => ?_) (fun h75 => ?_)
            · replace h := ofT h75 h
              obtain rfl := Option.some.inj h
              refine W_run 4 [] [0, 1, 2, 3, 10, 11, 25, 26] [] (fr' := [(0, aI a0), (1, aD (.slice .bool) a1), (2, aI a2), (3, aI a3), (10, aI (w64 ((1 : Int) + (imax r71.1 r73.1)))), (11, aI i51), (25, aI a0), (26, aI i51)]) (L' := []) (obs := []) (by kernel_rfl) (by kernel_rfl) (by kernel_rfl) allP0 ?_
              refine blockQ_norm ?_
              exact exQ_mk (by kernel_rfl) (by kernel_rfl)
            · replace h := ofF h75 h
              obtain rfl := Option.some.inj h
              refine W_skip [0, 1, 2, 3, 10, 11, 25, 26] [] (fr' := [(0, aI a0), (1, aD (.slice .bool) a1), (2, aI a2), (3, aI a3), (10, aI x52.1), (11, aI x52.2), (25, aI a0), (26, aI i51)]) (L' := []) (by kernel_rfl) (by kernel_rfl) ?_
              refine blockQ_norm ?_
              exact exQ_mk (by kernel_rfl) (by kernel_rfl)
        · intro e fr L hJ
          obtain ⟨rfl, rfl, rfl⟩ := hJ
          refine LT_keep [0, 1, 2, 3, 10, 11, 25, 26] [] (fr' := [(0, aI a0), (1, aD (.slice .bool) a1), (2, aI a2), (3, aI a3), (10, aI v76.1), (11, aI v76.2), (25, aI a0), (26, aI i51)]) (L' := []) (by kernel_rfl) ?_
          refine seqQ_norm ?_
          obtain rfl := Option.some.inj h
          refine W_run 2 [] [0, 1, 2, 3, 10, 11, 25, 26] [] (fr' := [(0, aI a0), (1, aD (.slice .bool) a1), (2, aI a2), (3, aI a3), (10, aI v76.1), (11, aI v76.2), (25, aI a0), (26, aI (w64 (i51 + (1 : Int))))]) (L' := []) (obs := []) (by kernel_rfl) (by kernel_rfl) (by kernel_rfl) allP0 ?_
          exact round_next' (by kernel_rfl) (by kernel_rfl)
      · obtain rfl := stepI_false h54 h
        refine W_exit (id := 0) [10, 11] [] (fr' := [(10, aI x52.1), (11, aI x52.2)]) (L' := []) (by kernel_rfl) (by kernel_rfl) ?_
        refine seqQ_exit ?_
        refine round_exit ?_
        exact exQ_mk (by kernel_rfl) (by kernel_rfl)
    · intro e fr L hJ
      obtain ⟨rfl, rfl, rfl⟩ := hJ
      refine LT_keep [10, 11] [] (fr' := [(10, aI v79.1), (11, aI v79.2)]) (L' := []) (by kernel_rfl) ?_
      refine blockQ_hit ?_
      refine seqQ_norm ?_
      refine W_seq (by kernel_rfl) ?_
      refine W_run 4 [] [8, 9] [] (fr' := [(8, aI v79.1), (9, aI v79.2)]) (L' := []) (obs := []) (by kernel_rfl) (by kernel_rfl) (by kernel_rfl) allP0 ?_
      refine seqQ_norm ?_
      obtain rfl := Option.some.inj h
      refine W_ret [8, 9] [] (fr' := [(8, aI v79.1), (9, aI v79.2)]) (L' := []) (by kernel_rfl) (by kernel_rfl) ?_
      exact retQ_mk (by kernel_rfl) (by kernel_rfl) (by kernel_rfl)
theorem ask_least_ok : ∀ {fuel : Nat} {a0 : Int} {a1 : (List Bool)} {a2 : Int} {a3 : Int} {r : (Int × Int)}, ask_least fuel a0 a1 a2 a3 = some r → FnC Try.prog 39 [aI a0, aD (.slice .bool) a1, aI a2, aI a3] [] (.tup [.dat tI r.1, .dat tI r.2]) [] := by
  intro fuel
  induction fuel with
  | zero => intros a0 a1 a2 a3 r h; cases h
  | succ fuel ih => intros a0 a1 a2 a3 r h; exact ask_least_step_ok (fun h => ih h) (show ask_least_step (ask_least fuel) fuel a0 a1 a2 a3 = some r from h)

def ask_Least (fuel : Nat) (a0 : Int) (a1 : (List Bool)) : Option (Int × Int) :=
(ask_wrong a0 a1 (0 : Int)).bind fun r1 =>
bif r1 != (0 : Int) then
(some ((0 : Int), r1))
else
((ask_least fuel a0 a1 (0 : Int) (0 : Int)).bind fun r4 =>
some (r4.1, (0 : Int)))
theorem ask_Least_ok {fuel : Nat} {a0 : Int} {a1 : (List Bool)} {r : (Int × Int)} (h : ask_Least fuel a0 a1 = some r) : FnC Try.prog 22 [aI a0, aD (.slice .bool) a1] [] (.tup [.dat tI r.1, .dat tI r.2]) [] := by
  refine fnC_of_W (B := bodyOf Try.f22) (n := 22) Try.func22 (by kernel_rfl) (by kernel_rfl) (by kernel_rfl) (by kernel_rfl) (by kernel_rfl) ?_
  intro K
  refine W_seq (by kernel_rfl) ?_
  refine W_run 2 [] [0, 1] [] (fr' := [(0, aI a0), (1, aD (.slice .bool) a1)]) (L' := []) (obs := []) (by kernel_rfl) (by kernel_rfl) (by kernel_rfl) allP0 ?_
  refine seqQ_norm ?_
  refine W_seq (by kernel_rfl) ?_
  refine W_seq (by kernel_rfl) ?_
  refine W_region (by kernel_rfl) ?_
  refine WO_run (j := 2) (k := 2) (orcs := []) (kF := [0, 1, 9, 10]) (kL := []) (fr' := [(0, aI a0), (1, aD (.slice .bool) a1), (9, aI a0), (10, aD (.slice .bool) a1)]) (L' := []) (obs := []) rfl (by kernel_rfl) allP0 ?_
  obtain ⟨r1, h2, h⟩ := bind_of h
  refine WO_call0 (us := [none, none, none]) (d := 11) (p := True) (j := 3) rfl ⟨by kernel_rfl, by kernel_rfl, by kernel_rfl⟩ trivial (ask_wrong_ok h2) (by kernel_rfl) ?_
  refine WO_run (j := 4) (k := 1) (orcs := []) (kF := [0, 1, 6]) (kL := []) (fr' := [(0, aI a0), (1, aD (.slice .bool) a1), (6, aI r1)]) (L' := []) (obs := []) rfl (by kernel_rfl) allP0 ?_
  refine WO_fin [0, 1, 6] [] (fr' := [(0, aI a0), (1, aD (.slice .bool) a1), (6, aI r1)]) (L' := []) (by kernel_rfl) (by kernel_rfl) ?_
  refine seqQ_norm ?_
  refine W_seq (by kernel_rfl) ?_
  refine W_run 2 [] [0, 1, 6, 13] [] (fr' := [(0, aI a0), (1, aD (.slice .bool) a1), (6, aI r1), (13, aB (r1 != (0 : Int)))]) (L' := []) (obs := []) (by kernel_rfl) (by kernel_rfl) (by kernel_rfl) allP0 ?_
  refine seqQ_norm ?_
  refine W_cond (o := .tmp 13) (b := r1 != (0 : Int)) (by kernel_rfl) (by kernel_rfl) (fun h3 => ?_) (fun h3 => ?_)
  · replace h := ofT h3 h
    refine W_seq (by kernel_rfl) ?_
    refine W_run 3 [] [4, 5] [] (fr' := [(4, aI (0 : Int)), (5, aI r1)]) (L' := []) (obs := []) (by kernel_rfl) (by kernel_rfl) (by kernel_rfl) allP0 ?_
    refine seqQ_norm ?_
    obtain rfl := Option.some.inj h
    refine W_ret [4, 5] [] (fr' := [(4, aI (0 : Int)), (5, aI r1)]) (L' := []) (by kernel_rfl) (by kernel_rfl) ?_
    refine seqQ_ret ?_
    exact retQ_mk (by kernel_rfl) (by kernel_rfl) (by kernel_rfl)
  · replace h := ofF h3 h
    refine W_skip [0, 1] [] (fr' := [(0, aI a0), (1, aD (.slice .bool) a1)]) (L' := []) (by kernel_rfl) (by kernel_rfl) ?_
    refine seqQ_norm ?_
    refine W_seq (by kernel_rfl) ?_
    refine W_region (by kernel_rfl) ?_
    refine WO_run (j := 2) (k := 2) (orcs := []) (kF := [16, 17]) (kL := []) (fr' := [(16, aI a0), (17, aD (.slice .bool) a1)]) (L' := []) (obs := []) rfl (by kernel_rfl) allP0 ?_
    obtain ⟨r4, h5, h⟩ := bind_of h
    refine WO_call0 (us := [none, none, none, none]) (d := 18) (p := True) (j := 3) rfl ⟨by kernel_rfl, by kernel_rfl, by kernel_rfl⟩ trivial (ask_least_ok h5) (by kernel_rfl) ?_
    refine WO_run (j := 8) (k := 5) (orcs := []) (kF := [7]) (kL := []) (fr' := [(7, aI r4.1)]) (L' := []) (obs := []) rfl (by kernel_rfl) allP0 ?_
    refine WO_fin [7] [] (fr' := [(7, aI r4.1)]) (L' := []) (by kernel_rfl) (by kernel_rfl) ?_
    refine seqQ_norm ?_
    refine W_seq (by kernel_rfl) ?_
    refine W_run 3 [] [4, 5] [] (fr' := [(4, aI r4.1), (5, aI (0 : Int))]) (L' := []) (obs := []) (by kernel_rfl) (by kernel_rfl) (by kernel_rfl) allP0 ?_
    refine seqQ_norm ?_
    obtain rfl := Option.some.inj h
    refine W_ret [4, 5] [] (fr' := [(4, aI r4.1), (5, aI (0 : Int))]) (L' := []) (by kernel_rfl) (by kernel_rfl) ?_
    exact retQ_mk (by kernel_rfl) (by kernel_rfl) (by kernel_rfl)

def ref_Within (a0 : Int) (a1 : Int) (a2 : Int) : Option Bool :=
some ((decide (a0 ≤ a1)) && (decide (a1 ≤ a2)))
theorem ref_Within_ok {a0 : Int} {a1 : Int} {a2 : Int} {r : Bool} (h : ref_Within a0 a1 a2 = some r) : FnC Try.prog 34 [aI a0, aI a1, aI a2] [] (aB r) [] := by
  refine fnC_of_W (B := bodyOf Try.f34) (n := 15) Try.func34 (by kernel_rfl) (by kernel_rfl) (by kernel_rfl) (by kernel_rfl) (by kernel_rfl) ?_
  intro K
  refine W_seq (by kernel_rfl) ?_
  refine W_run 1 [] [0, 1, 2] [] (fr' := [(0, aI a0), (1, aI a1), (2, aI a2)]) (L' := []) (obs := []) (by kernel_rfl) (by kernel_rfl) (by kernel_rfl) allP0 ?_
  refine seqQ_norm ?_
  refine W_seq (by kernel_rfl) ?_
  refine W_run 9 [] [6] [] (fr' := [(6, aB ((decide (a0 ≤ a1)) && (decide (a1 ≤ a2))))]) (L' := []) (obs := []) (by kernel_rfl) (by kernel_rfl) (by kernel_rfl) allP0 ?_
  refine seqQ_norm ?_
  obtain rfl := Option.some.inj h
  refine W_ret [6] [] (fr' := [(6, aB ((decide (a0 ≤ a1)) && (decide (a1 ≤ a2))))]) (L' := []) (by kernel_rfl) (by kernel_rfl) ?_
  exact retQ_mk (by kernel_rfl) (by kernel_rfl) (by kernel_rfl)

def ref_Inside_b1 (a0 : Int) (i11 : Int) (v14 : Int) (x12 : Unit) : Option (Flow Unit (Esc Bool Unit)) :=
bif (decide (v14 < (0 : Int))) || (decide (v14 ≥ a0)) then
(some (.done (.ret false)))
else
(some (.next ()))
@[reducible] def ref_Inside_s2 (a0 : Int) (a1 : (List Int)) (v : Int × Unit) : Fr × LL := ([(0, aI a0), (7, aD (.slice tI) a1), (8, aI (List.length a1 : Int)), (9, aI v.1)], [])
@[reducible] def ref_Inside_s3 (v : Bool) : Fr × LL := ([(4, aB v)], [])
@[reducible] def ref_Inside_s4 (v : Unit) : Fr × LL := ([], [])
def ref_Inside (a0 : Int) (a1 : (List Int)) : Option Bool :=
(forL (ref_Inside_b1 a0) (fun x12 => (.brk ())) a1 0 ()).bind fun v19 =>
match v19 with
| .ret v24 =>
(some v24)
| .brk v25 =>
(some true)
theorem ref_Inside_ok {a0 : Int} {a1 : (List Int)} {r : Bool} (h : ref_Inside a0 a1 = some r) : FnC Try.prog 35 [aI a0, aD (.slice tI) a1] [] (aB r) [] := by
  refine fnC_of_W (B := bodyOf Try.f35) (n := 21) Try.func35 (by kernel_rfl) (by kernel_rfl) (by kernel_rfl) (by kernel_rfl) (by kernel_rfl) ?_
  intro K
  refine W_seq (by kernel_rfl) ?_
  refine W_run 1 [] [0, 1] [] (fr' := [(0, aI a0), (1, aD (.slice tI) a1)]) (L' := []) (obs := []) (by kernel_rfl) (by kernel_rfl) (by kernel_rfl) allP0 ?_
  refine seqQ_norm ?_
  refine W_seq (by kernel_rfl) ?_
  refine W_seq (by kernel_rfl) ?_
  refine W_run 3 [] [0, 7, 8, 9] [] (fr' := [(0, aI a0), (7, aD (.slice tI) a1), (8, aI (List.length a1 : Int)), (9, aI (0 : Int))]) (L' := []) (obs := []) (by kernel_rfl) (by kernel_rfl) (by kernel_rfl) allP0 ?_
  refine seqQ_norm ?_
  refine W_block (id := 0) (by kernel_rfl) ?_
  obtain ⟨v19, h20, h⟩ := bind_of h
  refine W_len (t := 7) (u := tI) (xs := a1) (by kernel_rfl) (fun h23 => ?_)
  obtain ⟨h21, h22⟩ := forL_iter h23 h20
  refine W_weaken [0, 7, 8, 9] [] (fr' := ((ref_Inside_s2 a0 a1) ((0 : Int), ())).1) (L' := ((ref_Inside_s2 a0 a1) ((0 : Int), ())).2) (by kernel_rfl) ?_
  refine W_cutK (W_loop (S := (ref_Inside_s2 a0 a1)) (J := (escQ (exQ .ret ref_Inside_s3) (exQ (.exit 0) ref_Inside_s4))) (by kernel_rfl) ?_ h21 _ v19 h22) ?_
  · rintro ⟨i11, x12⟩ s h
    refine W_seq (by kernel_rfl) ?_
    refine W_run 1 [] [0, 7, 8, 9, 10] [] (fr' := [(0, aI a0), (7, aD (.slice tI) a1), (8, aI (List.length a1 : Int)), (9, aI i11), (10, aB (decide (i11 < (List.length a1 : Int))))]) (L' := []) (obs := []) (by kernel_rfl) (by kernel_rfl) (by kernel_rfl) allP0 ?_
    refine seqQ_norm ?_
    refine W_seq (by kernel_rfl) ?_
    refine W_cond (o := .tmp 10) (b := decide (i11 < (List.length a1 : Int))) (by kernel_rfl) (by kernel_rfl) (fun h16 => ?_) (fun h16 => ?_)
    · replace h := stepL_true h16 h
      obtain ⟨v14, _, h15, h, rfl⟩ := h
      refine W_skip [0, 7, 8, 9] [] (fr' := [(0, aI a0), (7, aD (.slice tI) a1), (8, aI (List.length a1 : Int)), (9, aI i11)]) (L' := []) (by kernel_rfl) (by kernel_rfl) ?_
      refine seqQ_norm ?_
      refine W_seq (by kernel_rfl) ?_
      refine W_block (id := 1) (by kernel_rfl) ?_
      refine W_seq (by kernel_rfl) ?_
      refine W_run 3 [(1, .val (.dat tI v14))] [0, 6, 7, 8, 9] [] (fr' := [(0, aI a0), (6, aI v14), (7, aD (.slice tI) a1), (8, aI (List.length a1 : Int)), (9, aI i11)]) (L' := []) (obs := [Idx a1 i11 v14]) (by kernel_rfl) (by kernel_rfl) (by kernel_rfl) (allP1 (Idx.of h15)) ?_
      refine seqQ_norm ?_
      refine W_seq (by kernel_rfl) ?_
      refine W_run 7 [] [0, 7, 8, 9, 19] [] (fr' := [(0, aI a0), (7, aD (.slice tI) a1), (8, aI (List.length a1 : Int)), (9, aI i11), (19, aB ((decide (v14 < (0 : Int))) || (decide (v14 ≥ a0))))]) (L' := []) (obs := []) (by kernel_rfl) (by kernel_rfl) (by kernel_rfl) allP0 ?_
      refine seqQ_norm ?_
      refine W_cond (o := .tmp 19) (b := (decide (v14 < (0 : Int))) || (decide (v14 ≥ a0))) (by kernel_rfl) (by kernel_rfl) (fun h17 => ?_) (fun h17 => ?_)
      · replace h := ofT h17 h
        refine W_seq (by kernel_rfl) ?_
        refine W_run 1 [] [4] [] (fr' := [(4, aB false)]) (L' := []) (obs := []) (by kernel_rfl) (by kernel_rfl) (by kernel_rfl) allP0 ?_
        refine seqQ_norm ?_
        obtain rfl := Option.some.inj h
        refine W_ret [4] [] (fr' := [(4, aB false)]) (L' := []) (by kernel_rfl) (by kernel_rfl) ?_
        refine blockQ_ret ?_
        refine seqQ_ret ?_
        refine round_ret ?_
        refine escQ_ret ?_
        exact exQ_mk (by kernel_rfl) (by kernel_rfl)
      · replace h := ofF h17 h
        refine W_skip [0, 7, 8, 9] [] (fr' := [(0, aI a0), (7, aD (.slice tI) a1), (8, aI (List.length a1 : Int)), (9, aI i11)]) (L' := []) (by kernel_rfl) (by kernel_rfl) ?_
        refine blockQ_norm ?_
        refine seqQ_norm ?_
        obtain rfl := Option.some.inj h
        refine W_run 2 [] [0, 7, 8, 9] [] (fr' := [(0, aI a0), (7, aD (.slice tI) a1), (8, aI (List.length a1 : Int)), (9, aI (w64 (i11 + (1 : Int))))]) (L' := []) (obs := []) (by kernel_rfl) (by kernel_rfl) (by kernel_rfl) allP0 ?_
        exact round_next' (by kernel_rfl) (by kernel_rfl)
    · obtain rfl := stepL_false h16 h
      refine W_exit (id := 0) [] [] (fr' := []) (L' := []) (by kernel_rfl) (by kernel_rfl) ?_
      refine seqQ_exit ?_
      refine round_exit ?_
      refine escQ_brk ?_
      exact exQ_mk (by kernel_rfl) (by kernel_rfl)
  · intro e fr L hJ
    rcases v19 with v24 | v25
    · obtain ⟨rfl, rfl, rfl⟩ := hJ
      obtain rfl := Option.some.inj h
      refine LT_keep [4] [] (fr' := [(4, aB v24)]) (L' := []) (by kernel_rfl) ?_
      refine blockQ_ret ?_
      refine seqQ_ret ?_
      exact retQ_mk (by kernel_rfl) (by kernel_rfl) (by kernel_rfl)
    · obtain ⟨rfl, rfl, rfl⟩ := hJ
      refine LT_keep [] [] (fr' := []) (L' := []) (by kernel_rfl) ?_
      refine blockQ_hit ?_
      refine seqQ_norm ?_
      refine W_seq (by kernel_rfl) ?_
      refine W_run 1 [] [4] [] (fr' := [(4, aB true)]) (L' := []) (obs := []) (by kernel_rfl) (by kernel_rfl) (by kernel_rfl) allP0 ?_
      refine seqQ_norm ?_
      obtain rfl := Option.some.inj h
      refine W_ret [4] [] (fr' := [(4, aB true)]) (L' := []) (by kernel_rfl) (by kernel_rfl) ?_
      exact retQ_mk (by kernel_rfl) (by kernel_rfl) (by kernel_rfl)

def ref_TableCheck (a0 : Int) (a1 : (List Bool)) (a2 : Int) : Option Int :=
(ref_Within (0 : Int) a0 (4 : Int)).bind fun r1 =>
bif !r1 then
(some (1 : Int))
else
((ck (0 ≤ IntKind.wrap .u64 (a0))).bind fun _ =>
bif (List.length a1 : Int) != (bShl .i64 (1 : Int) (IntKind.wrap .u64 (a0))) then
(some (3 : Int))
else
((ref_Inside (List.length a1 : Int) [a2]).bind fun r6 =>
bif !r6 then
(some (4 : Int))
else
(some (0 : Int))))
theorem ref_TableCheck_ok {a0 : Int} {a1 : (List Bool)} {a2 : Int} {r : Int} (h : ref_TableCheck a0 a1 a2 = some r) : FnC Try.prog 18 [aI a0, aD (.slice .bool) a1, aI a2] [] (aI r) [] := by
  refine fnC_of_W (B := bodyOf Try.f18) (n := 22) Try.func18 (by kernel_rfl) (by kernel_rfl) (by kernel_rfl) (by kernel_rfl) (by kernel_rfl) ?_
  intro K
  refine W_seq (by kernel_rfl) ?_
  refine W_run 1 [] [0, 1, 2] [] (fr' := [(0, aI a0), (1, aD (.slice .bool) a1), (2, aI a2)]) (L' := []) (obs := []) (by kernel_rfl) (by kernel_rfl) (by kernel_rfl) allP0 ?_
  refine seqQ_norm ?_
  refine W_seq (by kernel_rfl) ?_
  refine W_seq (by kernel_rfl) ?_
  refine W_region (by kernel_rfl) ?_
  refine WO_run (j := 1) (k := 1) (orcs := []) (kF := [0, 1, 2, 7]) (kL := []) (fr' := [(0, aI a0), (1, aD (.slice .bool) a1), (2, aI a2), (7, aI a0)]) (L' := []) (obs := []) rfl (by kernel_rfl) allP0 ?_
  obtain ⟨r1, h2, h⟩ := bind_of h
  refine WO_call0 (us := [none, none, none]) (d := 8) (p := True) (j := 2) rfl ⟨by kernel_rfl, by kernel_rfl, by kernel_rfl⟩ trivial (ref_Within_ok h2) (by kernel_rfl) ?_
  refine WO_run (j := 3) (k := 1) (orcs := []) (kF := [0, 1, 2, 9]) (kL := []) (fr' := [(0, aI a0), (1, aD (.slice .bool) a1), (2, aI a2), (9, aB (!r1))]) (L' := []) (obs := []) rfl (by kernel_rfl) allP0 ?_
  refine WO_fin [0, 1, 2, 9] [] (fr' := [(0, aI a0), (1, aD (.slice .bool) a1), (2, aI a2), (9, aB (!r1))]) (L' := []) (by kernel_rfl) (by kernel_rfl) ?_
  refine seqQ_norm ?_
  refine W_cond (o := .tmp 9) (b := !r1) (by kernel_rfl) (by kernel_rfl) (fun h3 => ?_) (fun h3 => ?_)
  · replace h := ofT h3 h
    refine W_seq (by kernel_rfl) ?_
    refine W_run 1 [] [6] [] (fr' := [(6, aI (1 : Int))]) (L' := []) (obs := []) (by kernel_rfl) (by kernel_rfl) (by kernel_rfl) allP0 ?_
    refine seqQ_norm ?_
    obtain rfl := Option.some.inj h
    refine W_ret [6] [] (fr' := [(6, aI (1 : Int))]) (L' := []) (by kernel_rfl) (by kernel_rfl) ?_
    refine seqQ_ret ?_
    exact retQ_mk (by kernel_rfl) (by kernel_rfl) (by kernel_rfl)
  · replace h := ofF h3 h
    refine W_skip [0, 1, 2] [] (fr' := [(0, aI a0), (1, aD (.slice .bool) a1), (2, aI a2)]) (L' := []) (by kernel_rfl) (by kernel_rfl) ?_
    refine seqQ_norm ?_
    refine W_seq (by kernel_rfl) ?_
    refine W_seq (by kernel_rfl) ?_
    obtain ⟨_, h4, h⟩ := bind_of h
    replace h4 := ck_some h4
    refine W_run 6 [] [1, 2, 15] [] (fr' := [(1, aD (.slice .bool) a1), (2, aI a2), (15, aB ((List.length a1 : Int) != (bShl .i64 (1 : Int) (IntKind.wrap .u64 (a0)))))]) (L' := []) (obs := [(0 ≤ IntKind.wrap .u64 (a0))]) (by kernel_rfl) (by kernel_rfl) (by kernel_rfl) (allP1 h4) ?_
    refine seqQ_norm ?_
    refine W_cond (o := .tmp 15) (b := (List.length a1 : Int) != (bShl .i64 (1 : Int) (IntKind.wrap .u64 (a0)))) (by kernel_rfl) (by kernel_rfl) (fun h5 => ?_) (fun h5 => ?_)
    · replace h := ofT h5 h
      refine W_seq (by kernel_rfl) ?_
      refine W_run 1 [] [6] [] (fr' := [(6, aI (3 : Int))]) (L' := []) (obs := []) (by kernel_rfl) (by kernel_rfl) (by kernel_rfl) allP0 ?_
      refine seqQ_norm ?_
      obtain rfl := Option.some.inj h
      refine W_ret [6] [] (fr' := [(6, aI (3 : Int))]) (L' := []) (by kernel_rfl) (by kernel_rfl) ?_
      refine seqQ_ret ?_
      exact retQ_mk (by kernel_rfl) (by kernel_rfl) (by kernel_rfl)
    · replace h := ofF h5 h
      refine W_skip [1, 2] [] (fr' := [(1, aD (.slice .bool) a1), (2, aI a2)]) (L' := []) (by kernel_rfl) (by kernel_rfl) ?_
      refine seqQ_norm ?_
      refine W_seq (by kernel_rfl) ?_
      refine W_seq (by kernel_rfl) ?_
      refine W_region (by kernel_rfl) ?_
      refine WO_run (j := 4) (k := 4) (orcs := []) (kF := [17, 19]) (kL := [19]) (fr' := [(17, aI (List.length a1 : Int)), (19, .one (.slc 19))]) (L' := [(19, .seq tI [a2])]) (obs := []) rfl (by kernel_rfl) allP0 ?_
      obtain ⟨r6, h7, h⟩ := bind_of h
      refine WO_frz 19 (by kernel_rfl) ?_
      refine WO_call0 (us := [none, none]) (d := 20) (p := True) (j := 5) rfl ⟨by kernel_rfl, by kernel_rfl, by kernel_rfl⟩ trivial (ref_Inside_ok h7) (by kernel_rfl) ?_
      refine WO_run (j := 6) (k := 1) (orcs := []) (kF := [21]) (kL := []) (fr' := [(21, aB (!r6))]) (L' := []) (obs := []) rfl (by kernel_rfl) allP0 ?_
      refine WO_fin [21] [] (fr' := [(21, aB (!r6))]) (L' := []) (by kernel_rfl) (by kernel_rfl) ?_
      refine seqQ_norm ?_
      refine W_cond (o := .tmp 21) (b := !r6) (by kernel_rfl) (by kernel_rfl) (fun h8 => ?_) (fun h8 => ?_)
      · replace h := ofT h8 h
        refine W_seq (by kernel_rfl) ?_
        refine W_run 1 [] [6] [] (fr' := [(6, aI (4 : Int))]) (L' := []) (obs := []) (by kernel_rfl) (by kernel_rfl) (by kernel_rfl) allP0 ?_
        refine seqQ_norm ?_
        obtain rfl := Option.some.inj h
        refine W_ret [6] [] (fr' := [(6, aI (4 : Int))]) (L' := []) (by kernel_rfl) (by kernel_rfl) ?_
        refine seqQ_ret ?_
        exact retQ_mk (by kernel_rfl) (by kernel_rfl) (by kernel_rfl)
      · replace h := ofF h8 h
        refine W_skip [] [] (fr' := []) (L' := []) (by kernel_rfl) (by kernel_rfl) ?_
        refine seqQ_norm ?_
        refine W_seq (by kernel_rfl) ?_
        refine W_run 1 [] [6] [] (fr' := [(6, aI (0 : Int))]) (L' := []) (obs := []) (by kernel_rfl) (by kernel_rfl) (by kernel_rfl) allP0 ?_
        refine seqQ_norm ?_
        obtain rfl := Option.some.inj h
        refine W_ret [6] [] (fr' := [(6, aI (0 : Int))]) (L' := []) (by kernel_rfl) (by kernel_rfl) ?_
        exact retQ_mk (by kernel_rfl) (by kernel_rfl) (by kernel_rfl)

@[reducible] def ref_One_s3 (a0 : (List Bool)) (a1 : Int) (a2 : Int) (i41 : Int) (v : Bool) : Fr × LL := ([(0, aD (.slice .bool) a0), (1, aI a1), (2, aI a2), (7, aI i41), (31, aB v)], [])
def ref_One_b4 (a0 : (List Bool)) (a1 : Int) (a2 : Int) (i41 : Int) (v44 : Bool) (x42 : Unit) : Option (Flow Unit (Esc Bool Unit)) :=
(bif (bAnd .i64 i41 a1) == (bAnd .i64 a2 a1) then
((idx a0 a2).bind fun v54 =>
some (!(v44 == v54)))
else
(some false)).bind fun v56 =>
bif v56 then
(some (.done (.ret false)))
else
(some (.next ()))
@[reducible] def ref_One_s5 (a0 : (List Bool)) (a1 : Int) (a2 : Int) (v : Int × Unit) : Fr × LL := ([(0, aD (.slice .bool) a0), (1, aI a1), (2, aI a2), (7, aI v.1)], [])
@[reducible] def ref_One_s6 (v : Bool) : Fr × LL := ([(6, aB v)], [])
@[reducible] def ref_One_s7 (v : Unit) : Fr × LL := ([], [])
def ref_One (a0 : (List Bool)) (a1 : Int) (a2 : Int) : Option Bool :=
(forL (ref_One_b4 a0 a1 a2) (fun x42 => (.brk ())) a0 0 ()).bind fun v60 =>
match v60 with
| .ret v65 =>
(some v65)
| .brk v66 =>
(some true)
theorem ref_One_ok {a0 : (List Bool)} {a1 : Int} {a2 : Int} {r : Bool} (h : ref_One a0 a1 a2 = some r) : FnC Try.prog 43 [aD (.slice .bool) a0, aI a1, aI a2] [] (aB r) [] := by
  refine fnC_of_W (B := bodyOf Try.f43) (n := 32) Try.func43 (by kernel_rfl) (by kernel_rfl) (by kernel_rfl) (by kernel_rfl) (by kernel_rfl) ?_
  intro K
  refine W_seq (by kernel_rfl) ?_
  refine W_run 1 [] [0, 1, 2] [] (fr' := [(0, aD (.slice .bool) a0), (1, aI a1), (2, aI a2)]) (L' := []) (obs := []) (by kernel_rfl) (by kernel_rfl) (by kernel_rfl) allP0 ?_
  refine seqQ_norm ?_
  refine W_seq (by kernel_rfl) ?_
  refine W_seq (by kernel_rfl) ?_
  refine W_run 1 [] [0, 1, 2, 7] [] (fr' := [(0, aD (.slice .bool) a0), (1, aI a1), (2, aI a2), (7, aI (0 : Int))]) (L' := []) (obs := []) (by kernel_rfl) (by kernel_rfl) (by kernel_rfl) allP0 ?_
  refine seqQ_norm ?_
  refine W_block (id := 0) (by kernel_rfl) ?_
  obtain ⟨v60, h61, h⟩ := bind_of h
  refine W_len (t := 0) (u := .bool) (xs := a0) (by kernel_rfl) (fun h64 => ?_)
  obtain ⟨h62, h63⟩ := forL_iter h64 h61
  refine W_weaken [0, 1, 2, 7] [] (fr' := ((ref_One_s5 a0 a1 a2) ((0 : Int), ())).1) (L' := ((ref_One_s5 a0 a1 a2) ((0 : Int), ())).2) (by kernel_rfl) ?_
  refine W_cutK (W_loop (S := (ref_One_s5 a0 a1 a2)) (J := (escQ (exQ .ret ref_One_s6) (exQ (.exit 0) ref_One_s7))) (by kernel_rfl) ?_ h62 _ v60 h63) ?_
  · rintro ⟨i41, x42⟩ s h
    refine W_seq (by kernel_rfl) ?_
    refine W_seq (by kernel_rfl) ?_
    refine W_run 4 [] [0, 1, 2, 7, 11] [] (fr' := [(0, aD (.slice .bool) a0), (1, aI a1), (2, aI a2), (7, aI i41), (11, aB (decide (i41 < (List.length a0 : Int))))]) (L' := []) (obs := []) (by kernel_rfl) (by kernel_rfl) (by kernel_rfl) allP0 ?_
    refine seqQ_norm ?_
    refine W_cond (o := .tmp 11) (b := decide (i41 < (List.length a0 : Int))) (by kernel_rfl) (by kernel_rfl) (fun h46 => ?_) (fun h46 => ?_)
    · replace h := stepL_true h46 h
      obtain ⟨v44, _, h45, h, rfl⟩ := h
      refine W_skip [0, 1, 2, 7] [] (fr' := [(0, aD (.slice .bool) a0), (1, aI a1), (2, aI a2), (7, aI i41)]) (L' := []) (by kernel_rfl) (by kernel_rfl) ?_
      refine seqQ_norm ?_
      refine W_seq (by kernel_rfl) ?_
      refine W_block (id := 1) (by kernel_rfl) ?_
      refine W_seq (by kernel_rfl) ?_
      obtain ⟨v56, h57, h⟩ := bind_of h
      refine W_cutK (Q' := (exQ .normal (ref_One_s3 a0 a1 a2 i41)) v56) ?_ ?_
      · replace h := h57
        rcases Bool.eq_false_or_eq_true ((bAnd .i64 i41 a1) == (bAnd .i64 a2 a1)) with h53 | h53
        · replace h := ofT h53 h
          obtain ⟨v54, h55, h⟩ := bind_of h
          obtain rfl := Option.some.inj h
          refine W_draw2 18 [(16, .known true), (18, .known true), (20, .known true), (21, .val (.dat .bool v44)), (22, .known true), (24, .known true), (26, .known true), (28, .known true), (29, .val (.dat .bool v54)), (30, .known true), (32, .known true), (35, .val (.dat .bool true))] [] [0, 1, 2, 7, 31] [] (fr' := [(0, aD (.slice .bool) a0), (1, aI a1), (2, aI a2), (7, aI i41), (31, aB (!(v44 == v54)))]) (L' := []) (out := [(14, aI i41), (15, aI a1), (16, aI (bAnd .i64 i41 a1)), (17, aI a2), (18, aI a1), (19, aI (bAnd .i64 a2 a1)), (20, aB ((bAnd .i64 i41 a1) == (bAnd .i64 a2 a1))), (21, aB ((bAnd .i64 i41 a1) == (bAnd .i64 a2 a1))), (22, aD (.slice .bool) a0), (23, aI i41), (24, .one (.dptr .bool v44)), (25, aB v44), (26, aD (.slice .bool) a0), (27, aI a2), (28, .one (.dptr .bool v54)), (29, aB v54), (30, aB (!(v44 == v54))), (31, aB (!(v44 == v54)))]) (obs := [(((bAnd .i64 i41 a1) == (bAnd .i64 a2 a1)) = true), (((bAnd .i64 i41 a1) == (bAnd .i64 a2 a1)) = true), (((bAnd .i64 i41 a1) == (bAnd .i64 a2 a1)) = true), Idx a0 i41 v44, (((bAnd .i64 i41 a1) == (bAnd .i64 a2 a1)) = true), (((bAnd .i64 i41 a1) == (bAnd .i64 a2 a1)) = true), (((bAnd .i64 i41 a1) == (bAnd .i64 a2 a1)) = true), (((bAnd .i64 i41 a1) == (bAnd .i64 a2 a1)) = true), Idx a0 a2 v54, (((bAnd .i64 i41 a1) == (bAnd .i64 a2 a1)) = true), (((bAnd .i64 i41 a1) == (bAnd .i64 a2 a1)) = true), (((bAnd .i64 i41 a1) == (bAnd .i64 a2 a1)) = true)]) (obs2 := []) (calls := []) (by kernel_rfl) (by kernel_rfl) (by kernel_rfl) (by kernel_rfl) (allP2 h53 (allP2 h53 (allP2 h53 (allP2 (Idx.of h45) (allP2 h53 (allP2 h53 (allP2 h53 (allP2 h53 (allP2 (Idx.of h55) (allP2 h53 (allP2 h53 (allP1 h53)))))))))))) allC0 (by kernel_rfl) allP0 ?_
          exact exQ_mk (by kernel_rfl) (by kernel_rfl)
        · replace h := ofF h53 h
          obtain rfl := Option.some.inj h
          refine W_draw2 18 [(16, .known false), (18, .known false), (20, .known false), (22, .known false), (24, .known false), (26, .known false), (28, .known false), (30, .known false), (32, .known false), (35, .val (.dat .bool false))] [] [0, 1, 2, 7, 31] [] (fr' := [(0, aD (.slice .bool) a0), (1, aI a1), (2, aI a2), (7, aI i41), (31, aB false)]) (L' := []) (out := [(14, aI i41), (15, aI a1), (16, aI (bAnd .i64 i41 a1)), (17, aI a2), (18, aI a1), (19, aI (bAnd .i64 a2 a1)), (20, aB ((bAnd .i64 i41 a1) == (bAnd .i64 a2 a1))), (21, aB ((bAnd .i64 i41 a1) == (bAnd .i64 a2 a1))), (22, .tup []), (23, .tup []), (24, .tup []), (25, .tup []), (26, .tup []), (27, .tup []), (28, .tup []), (29, .tup []), (30, .tup []), (31, aB false)]) (obs := [(((bAnd .i64 i41 a1) == (bAnd .i64 a2 a1)) = false), (((bAnd .i64 i41 a1) == (bAnd .i64 a2 a1)) = false), (((bAnd .i64 i41 a1) == (bAnd .i64 a2 a1)) = false), (((bAnd .i64 i41 a1) == (bAnd .i64 a2 a1)) = false), (((bAnd .i64 i41 a1) == (bAnd .i64 a2 a1)) = false), (((bAnd .i64 i41 a1) == (bAnd .i64 a2 a1)) = false), (((bAnd .i64 i41 a1) == (bAnd .i64 a2 a1)) = false), (((bAnd .i64 i41 a1) == (bAnd .i64 a2 a1)) = false), (((bAnd .i64 i41 a1) == (bAnd .i64 a2 a1)) = false), (((bAnd .i64 i41 a1) == (bAnd .i64 a2 a1)) = false)]) (obs2 := []) (calls := []) (by kernel_rfl) (by kernel_rfl) (by kernel_rfl) (by kernel_rfl) (allP2 h53 (allP2 h53 (allP2 h53 (allP2 h53 (allP2 h53 (allP2 h53 (allP2 h53 (allP2 h53 (allP2 h53 (allP1 h53)))))))))) allC0 (by kernel_rfl) allP0 ?_
          exact exQ_mk (by kernel_rfl) (by kernel_rfl)
      · intro e fr L hJ
        obtain ⟨rfl, rfl, rfl⟩ := hJ
        refine LT_keep [0, 1, 2, 7, 31] [] (fr' := [(0, aD (.slice .bool) a0), (1, aI a1), (2, aI a2), (7, aI i41), (31, aB v56)]) (L' := []) (by kernel_rfl) ?_
        refine seqQ_norm ?_
        refine W_cond (o := .tmp 31) (b := v56) (by kernel_rfl) (by kernel_rfl) (fun h58 => ?_) (fun h58 => ?_)
        · replace h := ofT h58 h
          refine W_seq (by kernel_rfl) ?_
          refine W_run 1 [] [6] [] (fr' := [(6, aB false)]) (L' := []) (obs := []) (by kernel_rfl) (by kernel_rfl) (by kernel_rfl) allP0 ?_
          refine seqQ_norm ?_
          obtain rfl := Option.some.inj h
          refine W_ret [6] [] (fr' := [(6, aB false)]) (L' := []) (by kernel_rfl) (by kernel_rfl) ?_
          refine blockQ_ret ?_
          refine seqQ_ret ?_
          refine round_ret ?_
          refine escQ_ret ?_
          exact exQ_mk (by kernel_rfl) (by kernel_rfl)
        · replace h := ofF h58 h
          refine W_skip [0, 1, 2, 7] [] (fr' := [(0, aD (.slice .bool) a0), (1, aI a1), (2, aI a2), (7, aI i41)]) (L' := []) (by kernel_rfl) (by kernel_rfl) ?_
          refine blockQ_norm ?_
          refine seqQ_norm ?_
          obtain rfl := Option.some.inj h
          refine W_run 3 [] [0, 1, 2, 7] [] (fr' := [(0, aD (.slice .bool) a0), (1, aI a1), (2, aI a2), (7, aI (w64 (i41 + (1 : Int))))]) (L' := []) (obs := []) (by kernel_rfl) (by kernel_rfl) (by kernel_rfl) allP0 ?_
          exact round_next' (by kernel_rfl) (by kernel_rfl)
    · obtain rfl := stepL_false h46 h
      refine W_exit (id := 0) [] [] (fr' := []) (L' := []) (by kernel_rfl) (by kernel_rfl) ?_
      refine seqQ_exit ?_
      refine round_exit ?_
      refine escQ_brk ?_
      exact exQ_mk (by kernel_rfl) (by kernel_rfl)
  · intro e fr L hJ
    rcases v60 with v65 | v66
    · obtain ⟨rfl, rfl, rfl⟩ := hJ
      obtain rfl := Option.some.inj h
      refine LT_keep [6] [] (fr' := [(6, aB v65)]) (L' := []) (by kernel_rfl) ?_
      refine blockQ_ret ?_
      refine seqQ_ret ?_
      exact retQ_mk (by kernel_rfl) (by kernel_rfl) (by kernel_rfl)
    · obtain ⟨rfl, rfl, rfl⟩ := hJ
      refine LT_keep [] [] (fr' := []) (L' := []) (by kernel_rfl) ?_
      refine blockQ_hit ?_
      refine seqQ_norm ?_
      refine W_seq (by kernel_rfl) ?_
      refine W_run 1 [] [6] [] (fr' := [(6, aB true)]) (L' := []) (obs := []) (by kernel_rfl) (by kernel_rfl) (by kernel_rfl) allP0 ?_
      refine seqQ_norm ?_
      obtain rfl := Option.some.inj h
      refine W_ret [6] [] (fr' := [(6, aB true)]) (L' := []) (by kernel_rfl) (by kernel_rfl) ?_
      exact retQ_mk (by kernel_rfl) (by kernel_rfl) (by kernel_rfl)

def ref_Bit (a0 : Int) (a1 : Int) : Option Bool :=
bif (decide (a1 ≥ (0 : Int))) && (decide (a1 < (63 : Int))) then
((ck (0 ≤ IntKind.wrap .u64 (a1))).bind fun _ =>
some ((bAnd .i64 a0 (bShl .i64 (1 : Int) (IntKind.wrap .u64 (a1)))) != (0 : Int)))
else
(some false)
theorem ref_Bit_ok {a0 : Int} {a1 : Int} {r : Bool} (h : ref_Bit a0 a1 = some r) : FnC Try.prog 36 [aI a0, aI a1] [] (aB r) [] := by
  refine fnC_of_W (B := bodyOf Try.f36) (n := 19) Try.func36 (by kernel_rfl) (by kernel_rfl) (by kernel_rfl) (by kernel_rfl) (by kernel_rfl) ?_
  intro K
  refine W_seq (by kernel_rfl) ?_
  refine W_run 1 [] [0, 1] [] (fr' := [(0, aI a0), (1, aI a1)]) (L' := []) (obs := []) (by kernel_rfl) (by kernel_rfl) (by kernel_rfl) allP0 ?_
  refine seqQ_norm ?_
  refine W_seq (by kernel_rfl) ?_
  refine W_region (by kernel_rfl) ?_
  refine WO_run (j := 7) (k := 7) (orcs := []) (kF := [0, 1, 11]) (kL := []) (fr' := [(0, aI a0), (1, aI a1), (11, aB ((decide (a1 ≥ (0 : Int))) && (decide (a1 < (63 : Int)))))]) (L' := []) (obs := []) rfl (by kernel_rfl) allP0 ?_
  rcases Bool.eq_false_or_eq_true ((decide (a1 ≥ (0 : Int))) && (decide (a1 < (63 : Int)))) with h1 | h1
  · replace h := ofT h1 h
    obtain ⟨_, h2, h⟩ := bind_of h
    replace h2 := ck_some h2
    refine WO_run (j := 15) (k := 8) (orcs := [(14, .known true), (16, .known true), (18, .known true), (20, .known true), (22, .known true), (24, .known true), (27, .val (.dat .bool true))]) (kF := [4]) (kL := []) (fr' := [(4, aB ((bAnd .i64 a0 (bShl .i64 (1 : Int) (IntKind.wrap .u64 (a1)))) != (0 : Int)))]) (L' := []) (obs := [(((decide (a1 ≥ (0 : Int))) && (decide (a1 < (63 : Int)))) = true), (((decide (a1 ≥ (0 : Int))) && (decide (a1 < (63 : Int)))) = true), (((decide (a1 ≥ (0 : Int))) && (decide (a1 < (63 : Int)))) = true), (((decide (a1 ≥ (0 : Int))) && (decide (a1 < (63 : Int)))) = true), (0 ≤ IntKind.wrap .u64 (a1)), (((decide (a1 ≥ (0 : Int))) && (decide (a1 < (63 : Int)))) = true), (((decide (a1 ≥ (0 : Int))) && (decide (a1 < (63 : Int)))) = true), (((decide (a1 ≥ (0 : Int))) && (decide (a1 < (63 : Int)))) = true)]) rfl (by kernel_rfl) (allP2 h1 (allP2 h1 (allP2 h1 (allP2 h1 (allP2 h2 (allP2 h1 (allP2 h1 (allP1 h1)))))))) ?_
    refine WO_fin [4] [] (fr' := [(4, aB ((bAnd .i64 a0 (bShl .i64 (1 : Int) (IntKind.wrap .u64 (a1)))) != (0 : Int)))]) (L' := []) (by kernel_rfl) (by kernel_rfl) ?_
    refine seqQ_norm ?_
    obtain rfl := Option.some.inj h
    refine W_ret [4] [] (fr' := [(4, aB ((bAnd .i64 a0 (bShl .i64 (1 : Int) (IntKind.wrap .u64 (a1)))) != (0 : Int)))]) (L' := []) (by kernel_rfl) (by kernel_rfl) ?_
    exact retQ_mk (by kernel_rfl) (by kernel_rfl) (by kernel_rfl)
  · replace h := ofF h1 h
    refine WO_run (j := 15) (k := 8) (orcs := [(14, .known false), (16, .known false), (18, .known false), (20, .known false), (22, .known false), (24, .known false), (27, .val (.dat .bool false))]) (kF := [4]) (kL := []) (fr' := [(4, aB false)]) (L' := []) (obs := [(((decide (a1 ≥ (0 : Int))) && (decide (a1 < (63 : Int)))) = false), (((decide (a1 ≥ (0 : Int))) && (decide (a1 < (63 : Int)))) = false), (((decide (a1 ≥ (0 : Int))) && (decide (a1 < (63 : Int)))) = false), (((decide (a1 ≥ (0 : Int))) && (decide (a1 < (63 : Int)))) = false), (((decide (a1 ≥ (0 : Int))) && (decide (a1 < (63 : Int)))) = false), (((decide (a1 ≥ (0 : Int))) && (decide (a1 < (63 : Int)))) = false), (((decide (a1 ≥ (0 : Int))) && (decide (a1 < (63 : Int)))) = false)]) rfl (by kernel_rfl) (allP2 h1 (allP2 h1 (allP2 h1 (allP2 h1 (allP2 h1 (allP2 h1 (allP1 h1))))))) ?_
    refine WO_fin [4] [] (fr' := [(4, aB false)]) (L' := []) (by kernel_rfl) (by kernel_rfl) ?_
    refine seqQ_norm ?_
    obtain rfl := Option.some.inj h
    refine W_ret [4] [] (fr' := [(4, aB false)]) (L' := []) (by kernel_rfl) (by kernel_rfl) ?_
    exact retQ_mk (by kernel_rfl) (by kernel_rfl) (by kernel_rfl)

def ref_Asks_g22 (a0 : Int) (a1 : (List Bool)) (a2 : Int) (a3 : Int) (a4 : Int) (rf_ref_Asks : Int → (List Bool) → Int → Int → Int → Option Bool) (i146 : Int) : Option Bool :=
(rf_ref_Asks a0 a1 (w64 (a2 + (bShl .i64 (1 : Int) (IntKind.wrap .u64 (i146))))) (bClr .i64 a3 (bShl .i64 (1 : Int) (IntKind.wrap .u64 (i146)))) (w64 (a4 - (1 : Int)))).bind fun r208 =>
bif r208 then
((rf_ref_Asks a0 a1 (w64 (a2 + (bShl .i64 (1 : Int) (IntKind.wrap .u64 (i146))))) (bOr .i64 a3 (bShl .i64 (1 : Int) (IntKind.wrap .u64 (i146)))) (w64 (a4 - (1 : Int)))).bind fun r211 =>
some r211)
else
(some false)
@[reducible] def ref_Asks_s23 (a0 : Int) (a1 : (List Bool)) (a2 : Int) (a3 : Int) (a4 : Int) (i146 : Int) (v : Bool) : Fr × LL := ([(0, aI a0), (1, aD (.slice .bool) a1), (2, aI a2), (3, aI a3), (4, aI a4), (11, aI i146), (53, aB v)], [])
def ref_Asks_g24 (a0 : Int) (a1 : (List Bool)) (a2 : Int) (a3 : Int) (a4 : Int) (rf_ref_Asks : Int → (List Bool) → Int → Int → Int → Option Bool) (i146 : Int) : Option (Esc Bool Unit) :=
(ck (0 ≤ IntKind.wrap .u64 (i146))).bind fun _ =>
(ref_Bit a2 i146).bind fun r195 =>
bif r195 then
(some (.brk ()))
else
((ref_Asks_g22 a0 a1 a2 a3 a4 rf_ref_Asks i146).bind fun v213 =>
bif v213 then
(some (.ret true))
else
(some (.brk ())))
@[reducible] def ref_Asks_s25 (v : Bool) : Fr × LL := ([(10, aB v)], [])
@[reducible] def ref_Asks_s26 (a0 : Int) (a1 : (List Bool)) (a2 : Int) (a3 : Int) (a4 : Int) (i146 : Int) (v : Unit) : Fr × LL := ([(0, aI a0), (1, aD (.slice .bool) a1), (2, aI a2), (3, aI a3), (4, aI a4), (11, aI i146)], [])
def ref_Asks_b27 (a0 : Int) (a1 : (List Bool)) (a2 : Int) (a3 : Int) (a4 : Int) (rf_ref_Asks : Int → (List Bool) → Int → Int → Int → Option Bool) (i146 : Int) (x147 : Unit) : Option (Flow Unit (Esc Bool Unit)) :=
(ref_Asks_g24 a0 a1 a2 a3 a4 rf_ref_Asks i146).bind fun v216 =>
match v216 with
| .ret v218 =>
(some (.done (.ret v218)))
| .brk v219 =>
(some (.next ()))
@[reducible] def ref_Asks_s28 (a0 : Int) (a1 : (List Bool)) (a2 : Int) (a3 : Int) (a4 : Int) (v : Int × Unit) : Fr × LL := ([(0, aI a0), (1, aD (.slice .bool) a1), (2, aI a2), (3, aI a3), (4, aI a4), (11, aI v.1)], [])
@[reducible] def ref_Asks_s29 (v : Bool) : Fr × LL := ([(10, aB v)], [])
@[reducible] def ref_Asks_s30 (v : Unit) : Fr × LL := ([], [])
def ref_Asks_step (rf_ref_Asks : Int → (List Bool) → Int → Int → Int → Option Bool) (fuel : Nat) (a0 : Int) (a1 : (List Bool)) (a2 : Int) (a3 : Int) (a4 : Int) : Option Bool :=
(ref_One a1 a2 a3).bind fun r1 =>
bif r1 then
(some true)
else
(bif a4 == (0 : Int) then
(some false)
else
((forI (0 : Int) a0 (ref_Asks_b27 a0 a1 a2 a3 a4 rf_ref_Asks) (fun x147 => (.brk ())) ()).bind fun v221 =>
match v221 with
| .ret v225 =>
(some v225)
| .brk v226 =>
(some false)))
def ref_Asks : Nat → Int → (List Bool) → Int → Int → Int → Option Bool
  | 0 => fun _ _ _ _ _ => none
  | fuel + 1 => fun a0 a1 a2 a3 a4 => ref_Asks_step (ref_Asks fuel) fuel a0 a1 a2 a3 a4
theorem ref_Asks_step_ok {rf_ref_Asks : Int → (List Bool) → Int → Int → Int → Option Bool} (ih_ref_Asks : ∀ {a0 : Int} {a1 : (List Bool)} {a2 : Int} {a3 : Int} {a4 : Int} {r : Bool}, rf_ref_Asks a0 a1 a2 a3 a4 = some r → FnC Try.prog 40 [aI a0, aD (.slice .bool) a1, aI a2, aI a3, aI a4] [] (aB r) []) {fuel : Nat} {a0 : Int} {a1 : (List Bool)} {a2 : Int} {a3 : Int} {a4 : Int} {r : Bool} (h : ref_Asks_step rf_ref_Asks fuel a0 a1 a2 a3 a4 = some r) : FnC Try.prog 40 [aI a0, aD (.slice .bool) a1, aI a2, aI a3, aI a4] [] (aB r) [] := by
  refine fnC_of_W (B := bodyOf Try.f40) (n := 54) Try.func40 (by kernel_rfl) (by kernel_rfl) (by kernel_rfl) (by kernel_rfl) (by kernel_rfl) ?_
  intro K
  refine W_seq (by kernel_rfl) ?_
  refine W_run 1 [] [0, 1, 2, 3, 4] [] (fr' := [(0, aI a0), (1, aD (.slice .bool) a1), (2, aI a2), (3, aI a3), (4, aI a4)]) (L' := []) (obs := []) (by kernel_rfl) (by kernel_rfl) (by kernel_rfl) allP0 ?_
  refine seqQ_norm ?_
  refine W_seq (by kernel_rfl) ?_
  refine W_seq (by kernel_rfl) ?_
  refine W_region (by kernel_rfl) ?_
  refine WO_run (j := 3) (k := 3) (orcs := []) (kF := [0, 1, 2, 3, 4, 13, 14, 15]) (kL := []) (fr' := [(0, aI a0), (1, aD (.slice .bool) a1), (2, aI a2), (3, aI a3), (4, aI a4), (13, aD (.slice .bool) a1), (14, aI a2), (15, aI a3)]) (L' := []) (obs := []) rfl (by kernel_rfl) allP0 ?_
  obtain ⟨r1, h2, h⟩ := bind_of h
  refine WO_call0 (us := [none, none, none]) (d := 16) (p := True) (j := 4) rfl ⟨by kernel_rfl, by kernel_rfl, by kernel_rfl⟩ trivial (ref_One_ok h2) (by kernel_rfl) ?_
  refine WO_fin [0, 1, 2, 3, 4, 16] [] (fr' := [(0, aI a0), (1, aD (.slice .bool) a1), (2, aI a2), (3, aI a3), (4, aI a4), (16, aB r1)]) (L' := []) (by kernel_rfl) (by kernel_rfl) ?_
  refine seqQ_norm ?_
  refine W_cond (o := .tmp 16) (b := r1) (by kernel_rfl) (by kernel_rfl) (fun h3 => ?_) (fun h3 => ?_)
  · replace h := ofT h3 h
    refine W_seq (by kernel_rfl) ?_
    refine W_run 1 [] [10] [] (fr' := [(10, aB true)]) (L' := []) (obs := []) (by kernel_rfl) (by kernel_rfl) (by kernel_rfl) allP0 ?_
    refine seqQ_norm ?_
    obtain rfl := Option.some.inj h
    refine W_ret [10] [] (fr' := [(10, aB true)]) (L' := []) (by kernel_rfl) (by kernel_rfl) ?_
    refine seqQ_ret ?_
    exact retQ_mk (by kernel_rfl) (by kernel_rfl) (by kernel_rfl)
  · replace h := ofF h3 h
    refine W_skip [0, 1, 2, 3, 4] [] (fr' := [(0, aI a0), (1, aD (.slice .bool) a1), (2, aI a2), (3, aI a3), (4, aI a4)]) (L' := []) (by kernel_rfl) (by kernel_rfl) ?_
    refine seqQ_norm ?_
    refine W_seq (by kernel_rfl) ?_
    refine W_seq (by kernel_rfl) ?_
    refine W_run 2 [] [0, 1, 2, 3, 4, 18] [] (fr' := [(0, aI a0), (1, aD (.slice .bool) a1), (2, aI a2), (3, aI a3), (4, aI a4), (18, aB (a4 == (0 : Int)))]) (L' := []) (obs := []) (by kernel_rfl) (by kernel_rfl) (by kernel_rfl) allP0 ?_
    refine seqQ_norm ?_
    refine W_cond (o := .tmp 18) (b := a4 == (0 : Int)) (by kernel_rfl) (by kernel_rfl) (fun h4 => ?_) (fun h4 => ?_)
    · replace h := ofT h4 h
      refine W_seq (by kernel_rfl) ?_
      refine W_run 1 [] [10] [] (fr' := [(10, aB false)]) (L' := []) (obs := []) (by kernel_rfl) (by kernel_rfl) (by kernel_rfl) allP0 ?_
      refine seqQ_norm ?_
      obtain rfl := Option.some.inj h
      refine W_ret [10] [] (fr' := [(10, aB false)]) (L' := []) (by kernel_rfl) (by kernel_rfl) ?_
      refine seqQ_ret ?_
      exact retQ_mk (by kernel_rfl) (by kernel_rfl) (by kernel_rfl)
    · replace h := ofF h4 h
      refine W_skip [0, 1, 2, 3, 4] [] (fr' := [(0, aI a0), (1, aD (.slice .bool) a1), (2, aI a2), (3, aI a3), (4, aI a4)]) (L' := []) (by kernel_rfl) (by kernel_rfl) ?_
      refine seqQ_norm ?_
      refine W_seq (by kernel_rfl) ?_
      refine W_seq (by kernel_rfl) ?_
      refine W_run 1 [] [0, 1, 2, 3, 4, 11] [] (fr' := [(0, aI a0), (1, aD (.slice .bool) a1), (2, aI a2), (3, aI a3), (4, aI a4), (11, aI (0 : Int))]) (L' := []) (obs := []) (by kernel_rfl) (by kernel_rfl) (by kernel_rfl) allP0 ?_
      refine seqQ_norm ?_
      refine W_block (id := 0) (by kernel_rfl) ?_
      obtain ⟨v221, h222, h⟩ := bind_of h
      obtain ⟨h223, h224⟩ := forI_iter h222
      refine W_weaken [0, 1, 2, 3, 4, 11] [] (fr' := ((ref_Asks_s28 a0 a1 a2 a3 a4) ((0 : Int), ())).1) (L' := ((ref_Asks_s28 a0 a1 a2 a3 a4) ((0 : Int), ())).2) (by kernel_rfl) ?_
      refine W_cutK (W_loop (S := (ref_Asks_s28 a0 a1 a2 a3 a4)) (J := (escQ (exQ .ret ref_Asks_s29) (exQ (.exit 0) ref_Asks_s30))) (by kernel_rfl) ?_ h223 _ v221 h224) ?_
      · rintro ⟨i146, x147⟩ s h
        refine W_seq (by kernel_rfl) ?_
        refine W_seq (by kernel_rfl) ?_
        refine W_run 3 [] [0, 1, 2, 3, 4, 11, 21] [] (fr' := [(0, aI a0), (1, aD (.slice .bool) a1), (2, aI a2), (3, aI a3), (4, aI a4), (11, aI i146), (21, aB (decide (i146 < a0)))]) (L' := []) (obs := []) (by kernel_rfl) (by kernel_rfl) (by kernel_rfl) allP0 ?_
        refine seqQ_norm ?_
        refine W_cond (o := .tmp 21) (b := decide (i146 < a0)) (by kernel_rfl) (by kernel_rfl) (fun h149 => ?_) (fun h149 => ?_)
        · replace h := stepI_true h149 h
          obtain ⟨_, h, rfl⟩ := h
          refine W_skip [0, 1, 2, 3, 4, 11] [] (fr' := [(0, aI a0), (1, aD (.slice .bool) a1), (2, aI a2), (3, aI a3), (4, aI a4), (11, aI i146)]) (L' := []) (by kernel_rfl) (by kernel_rfl) ?_
          refine seqQ_norm ?_
          refine W_seq (by kernel_rfl) ?_
          obtain ⟨v216, h217, h⟩ := bind_of h
          refine W_cutK (Q' := (escQ (exQ .ret ref_Asks_s25) (exQ .normal (ref_Asks_s26 a0 a1 a2 a3 a4 i146))) v216) ?_ ?_
          · replace h := h217
            refine W_block (id := 1) (by kernel_rfl) ?_
            refine W_seq (by kernel_rfl) ?_
            obtain ⟨_, h194, h⟩ := bind_of h
            replace h194 := ck_some h194
            refine W_run 4 [] [0, 1, 2, 3, 4, 11, 12] [] (fr' := [(0, aI a0), (1, aD (.slice .bool) a1), (2, aI a2), (3, aI a3), (4, aI a4), (11, aI i146), (12, aI (bShl .i64 (1 : Int) (IntKind.wrap .u64 (i146))))]) (L' := []) (obs := [(0 ≤ IntKind.wrap .u64 (i146))]) (by kernel_rfl) (by kernel_rfl) (by kernel_rfl) (allP1 h194) ?_
            refine seqQ_norm ?_
            refine W_seq (by kernel_rfl) ?_
            refine W_seq (by kernel_rfl) ?_
            refine W_region (by kernel_rfl) ?_
            refine WO_run (j := 2) (k := 2) (orcs := []) (kF := [0, 1, 2, 3, 4, 11, 12, 27, 28]) (kL := []) (fr' := [(0, aI a0), (1, aD (.slice .bool) a1), (2, aI a2), (3, aI a3), (4, aI a4), (11, aI i146), (12, aI (bShl .i64 (1 : Int) (IntKind.wrap .u64 (i146)))), (27, aI a2), (28, aI i146)]) (L' := []) (obs := []) rfl (by kernel_rfl) allP0 ?_
            obtain ⟨r195, h196, h⟩ := bind_of h
            refine WO_call0 (us := [none, none]) (d := 29) (p := True) (j := 3) rfl ⟨by kernel_rfl, by kernel_rfl, by kernel_rfl⟩ trivial (ref_Bit_ok h196) (by kernel_rfl) ?_
            refine WO_fin [0, 1, 2, 3, 4, 11, 12, 29] [] (fr' := [(0, aI a0), (1, aD (.slice .bool) a1), (2, aI a2), (3, aI a3), (4, aI a4), (11, aI i146), (12, aI (bShl .i64 (1 : Int) (IntKind.wrap .u64 (i146)))), (29, aB r195)]) (L' := []) (by kernel_rfl) (by kernel_rfl) ?_
            refine seqQ_norm ?_
            refine W_cond (o := .tmp 29) (b := r195) (by kernel_rfl) (by kernel_rfl) (fun h197 => ?_) (fun h197 => ?_)
            · replace h := ofT h197 h
              obtain rfl := Option.some.inj h
              refine W_exit (id := 1) [0, 1, 2, 3, 4, 11] [] (fr' := [(0, aI a0), (1, aD (.slice .bool) a1), (2, aI a2), (3, aI a3), (4, aI a4), (11, aI i146)]) (L' := []) (by kernel_rfl) (by kernel_rfl) ?_
              refine seqQ_exit ?_
              refine blockQ_hit ?_
              refine escQ_brk ?_
              exact exQ_mk (by kernel_rfl) (by kernel_rfl)
            · replace h := ofF h197 h
              refine W_skip [0, 1, 2, 3, 4, 11, 12] [] (fr' := [(0, aI a0), (1, aD (.slice .bool) a1), (2, aI a2), (3, aI a3), (4, aI a4), (11, aI i146), (12, aI (bShl .i64 (1 : Int) (IntKind.wrap .u64 (i146))))]) (L' := []) (by kernel_rfl) (by kernel_rfl) ?_
              refine seqQ_norm ?_
              refine W_seq (by kernel_rfl) ?_
              obtain ⟨v213, h214, h⟩ := bind_of h
              refine W_cutK (Q' := (exQ .normal (ref_Asks_s23 a0 a1 a2 a3 a4 i146)) v213) ?_ ?_
              · replace h := h214
                refine W_region (by kernel_rfl) ?_
                refine WO_run (j := 10) (k := 10) (orcs := []) (kF := [0, 1, 2, 3, 4, 11, 12, 30, 31, 34, 37, 39]) (kL := []) (fr' := [(0, aI a0), (1, aD (.slice .bool) a1), (2, aI a2), (3, aI a3), (4, aI a4), (11, aI i146), (12, aI (bShl .i64 (1 : Int) (IntKind.wrap .u64 (i146)))), (30, aI a0), (31, aD (.slice .bool) a1), (34, aI (w64 (a2 + (bShl .i64 (1 : Int) (IntKind.wrap .u64 (i146)))))), (37, aI (bClr .i64 a3 (bShl .i64 (1 : Int) (IntKind.wrap .u64 (i146))))), (39, aI (w64 (a4 - (1 : Int))))]) (L' := []) (obs := []) rfl (by kernel_rfl) allP0 ?_
                obtain ⟨r208, h209, h⟩ := bind_of h
                refine WO_call0 (us := [none, none, none, none, none]) (d := 40) (p := True) (j := 11) rfl ⟨by kernel_rfl, by kernel_rfl, by kernel_rfl⟩ trivial (ih_ref_Asks h209) (by kernel_rfl) ?_
                refine WO_run (j := 12) (k := 1) (orcs := []) (kF := [0, 1, 2, 3, 4, 11, 12, 41]) (kL := []) (fr' := [(0, aI a0), (1, aD (.slice .bool) a1), (2, aI a2), (3, aI a3), (4, aI a4), (11, aI i146), (12, aI (bShl .i64 (1 : Int) (IntKind.wrap .u64 (i146)))), (41, aB r208)]) (L' := []) (obs := []) rfl (by kernel_rfl) allP0 ?_
                rcases Bool.eq_false_or_eq_true (r208) with h210 | h210
                · replace h := ofT h210 h
                  refine WO_run (j := 22) (k := 10) (orcs := [(24, .known true), (26, .known true), (28, .known true), (30, .known true), (32, .known true), (34, .known true), (36, .known true), (38, .known true), (40, .known true), (42, .known true)]) (kF := [0, 1, 2, 3, 4, 11, 41, 42, 43, 46, 49, 51]) (kL := []) (fr' := [(0, aI a0), (1, aD (.slice .bool) a1), (2, aI a2), (3, aI a3), (4, aI a4), (11, aI i146), (41, aB r208), (42, aI a0), (43, aD (.slice .bool) a1), (46, aI (w64 (a2 + (bShl .i64 (1 : Int) (IntKind.wrap .u64 (i146)))))), (49, aI (bOr .i64 a3 (bShl .i64 (1 : Int) (IntKind.wrap .u64 (i146))))), (51, aI (w64 (a4 - (1 : Int))))]) (L' := []) (obs := [(r208 = true), (r208 = true), (r208 = true), (r208 = true), (r208 = true), (r208 = true), (r208 = true), (r208 = true), (r208 = true), (r208 = true)]) rfl (by kernel_rfl) (allP2 h210 (allP2 h210 (allP2 h210 (allP2 h210 (allP2 h210 (allP2 h210 (allP2 h210 (allP2 h210 (allP2 h210 (allP1 h210)))))))))) ?_
                  obtain ⟨r211, h212, h⟩ := bind_of h
                  refine WO_call0 (us := [none, none, none, none, none]) (d := 52) (p := (r208 = true)) (j := 23) rfl ⟨by kernel_rfl, by kernel_rfl, by kernel_rfl⟩ h210 (ih_ref_Asks h212) (by kernel_rfl) ?_
                  refine WO_run (j := 24) (k := 1) (orcs := [(47, .val (.dat .bool true))]) (kF := [0, 1, 2, 3, 4, 11, 53]) (kL := []) (fr' := [(0, aI a0), (1, aD (.slice .bool) a1), (2, aI a2), (3, aI a3), (4, aI a4), (11, aI i146), (53, aB r211)]) (L' := []) (obs := [(r208 = true)]) rfl (by kernel_rfl) (allP1 h210) ?_
                  obtain rfl := Option.some.inj h
                  refine WO_fin [0, 1, 2, 3, 4, 11, 53] [] (fr' := [(0, aI a0), (1, aD (.slice .bool) a1), (2, aI a2), (3, aI a3), (4, aI a4), (11, aI i146), (53, aB r211)]) (L' := []) (by kernel_rfl) (by kernel_rfl) ?_
                  exact exQ_mk (by kernel_rfl) (by kernel_rfl)
                · replace h := ofF h210 h
                  refine WO_run (j := 24) (k := 12) (orcs := [(24, .known false), (26, .known false), (28, .known false), (30, .known false), (32, .known false), (34, .known false), (36, .known false), (38, .known false), (40, .known false), (42, .known false), (44, .known false), (47, .val (.dat .bool false))]) (kF := [0, 1, 2, 3, 4, 11, 53]) (kL := []) (fr' := [(0, aI a0), (1, aD (.slice .bool) a1), (2, aI a2), (3, aI a3), (4, aI a4), (11, aI i146), (53, aB false)]) (L' := []) (obs := [(r208 = false), (r208 = false), (r208 = false), (r208 = false), (r208 = false), (r208 = false), (r208 = false), (r208 = false), (r208 = false), (r208 = false), (r208 = false), (r208 = false)]) rfl (by kernel_rfl) (allP2 h210 (allP2 h210 (allP2 h210 (allP2 h210 (allP2 h210 (allP2 h210 (allP2 h210 (allP2 h210 (allP2 h210 (allP2 h210 (allP2 h210 (allP1 h210)))))))))))) ?_
                  obtain rfl := Option.some.inj h
                  refine WO_fin [0, 1, 2, 3, 4, 11, 53] [] (fr' := [(0, aI a0), (1, aD (.slice .bool) a1), (2, aI a2), (3, aI a3), (4, aI a4), (11, aI i146), (53, aB false)]) (L' := []) (by kernel_rfl) (by kernel_rfl) ?_
                  exact exQ_mk (by kernel_rfl) (by kernel_rfl)
              · intro e fr L hJ
                obtain ⟨rfl, rfl, rfl⟩ := hJ
                refine LT_keep [0, 1, 2, 3, 4, 11, 53] [] (fr' := [(0, aI a0), (1, aD (.slice .bool) a1), (2, aI a2), (3, aI a3), (4, aI a4), (11, aI i146), (53, aB v213)]) (L' := []) (by kernel_rfl) ?_
                refine seqQ_norm ?_
                refine W_cond (o := .tmp 53) (b := v213) (by kernel_rfl) (by kernel_rfl) (fun h215 => ?_) (fun h215 => ?_)
                · replace h := ofT h215 h
                  refine W_seq (by kernel_rfl) ?_
                  refine W_run 1 [] [10] [] (fr' := [(10, aB true)]) (L' := []) (obs := []) (by kernel_rfl) (by kernel_rfl) (by kernel_rfl) allP0 ?_
                  refine seqQ_norm ?_
                  obtain rfl := Option.some.inj h
                  refine W_ret [10] [] (fr' := [(10, aB true)]) (L' := []) (by kernel_rfl) (by kernel_rfl) ?_
                  refine blockQ_ret ?_
                  refine escQ_ret ?_
                  exact exQ_mk (by kernel_rfl) (by kernel_rfl)
                · replace h := ofF h215 h
                  obtain rfl := Option.some.inj h
                  refine W_skip [0, 1, 2, 3, 4, 11] [] (fr' := [(0, aI a0), (1, aD (.slice .bool) a1), (2, aI a2), (3, aI a3), (4, aI a4), (11, aI i146)]) (L' := []) (by kernel_rfl) (by kernel_rfl) ?_
                  refine blockQ_norm ?_
                  refine escQ_brk ?_
                  exact exQ_mk (by kernel_rfl) (by kernel_rfl)
          · intro e fr L hJ
            rcases v216 with v218 | v219
            · obtain ⟨rfl, rfl, rfl⟩ := hJ
              obtain rfl := Option.some.inj h
              refine LT_keep [10] [] (fr' := [(10, aB v218)]) (L' := []) (by kernel_rfl) ?_
              refine seqQ_ret ?_
              refine round_ret ?_
              refine escQ_ret ?_
              exact exQ_mk (by kernel_rfl) (by kernel_rfl)
            · obtain ⟨rfl, rfl, rfl⟩ := hJ
              refine LT_keep [0, 1, 2, 3, 4, 11] [] (fr' := [(0, aI a0), (1, aD (.slice .bool) a1), (2, aI a2), (3, aI a3), (4, aI a4), (11, aI i146)]) (L' := []) (by kernel_rfl) ?_
              refine seqQ_norm ?_
              obtain rfl := Option.some.inj h
              refine W_run 3 [] [0, 1, 2, 3, 4, 11] [] (fr' := [(0, aI a0), (1, aD (.slice .bool) a1), (2, aI a2), (3, aI a3), (4, aI a4), (11, aI (w64 (i146 + (1 : Int))))]) (L' := []) (obs := []) (by kernel_rfl) (by kernel_rfl) (by kernel_rfl) allP0 ?_
              exact round_next' (by kernel_rfl) (by kernel_rfl)
        · obtain rfl := stepI_false h149 h
          refine W_exit (id := 0) [] [] (fr' := []) (L' := []) (by kernel_rfl) (by kernel_rfl) ?_
          refine seqQ_exit ?_
          refine round_exit ?_
          refine escQ_brk ?_
          exact exQ_mk (by kernel_rfl) (by kernel_rfl)
      · intro e fr L hJ
        rcases v221 with v225 | v226
        · obtain ⟨rfl, rfl, rfl⟩ := hJ
          obtain rfl := Option.some.inj h
          refine LT_keep [10] [] (fr' := [(10, aB v225)]) (L' := []) (by kernel_rfl) ?_
          refine blockQ_ret ?_
          refine seqQ_ret ?_
          exact retQ_mk (by kernel_rfl) (by kernel_rfl) (by kernel_rfl)
        · obtain ⟨rfl, rfl, rfl⟩ := hJ
          refine LT_keep [] [] (fr' := []) (L' := []) (by kernel_rfl) ?_
          refine blockQ_hit ?_
          refine seqQ_norm ?_
          refine W_seq (by kernel_rfl) ?_
          refine W_run 1 [] [10] [] (fr' := [(10, aB false)]) (L' := []) (obs := []) (by kernel_rfl) (by kernel_rfl) (by kernel_rfl) allP0 ?_
          refine seqQ_norm ?_
          obtain rfl := Option.some.inj h
          refine W_ret [10] [] (fr' := [(10, aB false)]) (L' := []) (by kernel_rfl) (by kernel_rfl) ?_
          exact retQ_mk (by kernel_rfl) (by kernel_rfl) (by kernel_rfl)
theorem ref_Asks_ok : ∀ {fuel : Nat} {a0 : Int} {a1 : (List Bool)} {a2 : Int} {a3 : Int} {a4 : Int} {r : Bool}, ref_Asks fuel a0 a1 a2 a3 a4 = some r → FnC Try.prog 40 [aI a0, aD (.slice .bool) a1, aI a2, aI a3, aI a4] [] (aB r) [] := by
  intro fuel
  induction fuel with
  | zero => intros a0 a1 a2 a3 a4 r h; cases h
  | succ fuel ih => intros a0 a1 a2 a3 a4 r h; exact ref_Asks_step_ok (fun h => ih h) (show ref_Asks_step (ref_Asks fuel) fuel a0 a1 a2 a3 a4 = some r from h)

def ref_LeastAsks_b1 (a0 : Int) (a1 : (List Bool)) (fuel : Nat) (x5 : Int) : Option (Flow Int Int) :=
(ref_Asks fuel a0 a1 (0 : Int) (0 : Int) x5).bind fun r9 =>
bif !r9 then
(some (.next (w64 (x5 + (1 : Int)))))
else
(some (.done x5))
@[reducible] def ref_LeastAsks_s2 (a0 : Int) (a1 : (List Bool)) (v : Int) : Fr × LL := ([(0, aI a0), (1, aD (.slice .bool) a1), (5, aI v)], [])
@[reducible] def ref_LeastAsks_s3 (v : Int) : Fr × LL := ([(5, aI v)], [])
def ref_LeastAsks (fuel : Nat) (a0 : Int) (a1 : (List Bool)) : Option Int :=
(iter (ref_LeastAsks_b1 a0 a1 fuel) fuel (0 : Int)).bind fun v12 =>
some v12
theorem ref_LeastAsks_ok {fuel : Nat} {a0 : Int} {a1 : (List Bool)} {r : Int} (h : ref_LeastAsks fuel a0 a1 = some r) : FnC Try.prog 23 [aI a0, aD (.slice .bool) a1] [] (aI r) [] := by
  refine fnC_of_W (B := bodyOf Try.f23) (n := 14) Try.func23 (by kernel_rfl) (by kernel_rfl) (by kernel_rfl) (by kernel_rfl) (by kernel_rfl) ?_
  intro K
  refine W_seq (by kernel_rfl) ?_
  refine W_run 1 [] [0, 1] [] (fr' := [(0, aI a0), (1, aD (.slice .bool) a1)]) (L' := []) (obs := []) (by kernel_rfl) (by kernel_rfl) (by kernel_rfl) allP0 ?_
  refine seqQ_norm ?_
  refine W_seq (by kernel_rfl) ?_
  refine W_run 1 [] [0, 1, 5] [] (fr' := [(0, aI a0), (1, aD (.slice .bool) a1), (5, aI (0 : Int))]) (L' := []) (obs := []) (by kernel_rfl) (by kernel_rfl) (by kernel_rfl) allP0 ?_
  refine seqQ_norm ?_
  refine W_seq (by kernel_rfl) ?_
  refine W_block (id := 0) (by kernel_rfl) ?_
  obtain ⟨v12, h13, h⟩ := bind_of h
  refine W_weaken [0, 1, 5] [] (fr' := ((ref_LeastAsks_s2 a0 a1) (0 : Int)).1) (L' := ((ref_LeastAsks_s2 a0 a1) (0 : Int)).2) (by kernel_rfl) ?_
  refine W_cutK (W_loop (S := (ref_LeastAsks_s2 a0 a1)) (J := (exQ (.exit 0) ref_LeastAsks_s3)) (by kernel_rfl) ?_ fuel _ v12 h13) ?_
  · rintro x5 s h
    refine W_seq (by kernel_rfl) ?_
    refine W_seq (by kernel_rfl) ?_
    refine W_region (by kernel_rfl) ?_
    refine WO_run (j := 3) (k := 3) (orcs := []) (kF := [0, 1, 5, 6, 7, 8]) (kL := []) (fr' := [(0, aI a0), (1, aD (.slice .bool) a1), (5, aI x5), (6, aI a0), (7, aD (.slice .bool) a1), (8, aI x5)]) (L' := []) (obs := []) rfl (by kernel_rfl) allP0 ?_
    obtain ⟨r9, h10, h⟩ := bind_of h
    refine WO_call0 (us := [none, none, none, none, none]) (d := 9) (p := True) (j := 4) rfl ⟨by kernel_rfl, by kernel_rfl, by kernel_rfl⟩ trivial (ref_Asks_ok h10) (by kernel_rfl) ?_
    refine WO_run (j := 5) (k := 1) (orcs := []) (kF := [0, 1, 5, 10]) (kL := []) (fr' := [(0, aI a0), (1, aD (.slice .bool) a1), (5, aI x5), (10, aB (!r9))]) (L' := []) (obs := []) rfl (by kernel_rfl) allP0 ?_
    refine WO_fin [0, 1, 5, 10] [] (fr' := [(0, aI a0), (1, aD (.slice .bool) a1), (5, aI x5), (10, aB (!r9))]) (L' := []) (by kernel_rfl) (by kernel_rfl) ?_
    refine seqQ_norm ?_
    refine W_cond (o := .tmp 10) (b := !r9) (by kernel_rfl) (by kernel_rfl) (fun h11 => ?_) (fun h11 => ?_)
    · replace h := ofT h11 h
      refine W_skip [0, 1, 5] [] (fr' := [(0, aI a0), (1, aD (.slice .bool) a1), (5, aI x5)]) (L' := []) (by kernel_rfl) (by kernel_rfl) ?_
      refine seqQ_norm ?_
      refine W_block (id := 1) (by kernel_rfl) ?_
      obtain rfl := Option.some.inj h
      refine W_run 3 [] [0, 1, 5] [] (fr' := [(0, aI a0), (1, aD (.slice .bool) a1), (5, aI (w64 (x5 + (1 : Int))))]) (L' := []) (obs := []) (by kernel_rfl) (by kernel_rfl) (by kernel_rfl) allP0 ?_
      refine blockQ_norm ?_
      exact round_next' (by kernel_rfl) (by kernel_rfl)
    · replace h := ofF h11 h
      obtain rfl := Option.some.inj h
      refine W_exit (id := 0) [5] [] (fr' := [(5, aI x5)]) (L' := []) (by kernel_rfl) (by kernel_rfl) ?_
      refine seqQ_exit ?_
      refine round_exit ?_
      exact exQ_mk (by kernel_rfl) (by kernel_rfl)
  · intro e fr L hJ
    obtain ⟨rfl, rfl, rfl⟩ := hJ
    refine LT_keep [5] [] (fr' := [(5, aI v12)]) (L' := []) (by kernel_rfl) ?_
    refine blockQ_hit ?_
    refine seqQ_norm ?_
    refine W_seq (by kernel_rfl) ?_
    refine W_run 2 [] [4] [] (fr' := [(4, aI v12)]) (L' := []) (obs := []) (by kernel_rfl) (by kernel_rfl) (by kernel_rfl) allP0 ?_
    refine seqQ_norm ?_
    obtain rfl := Option.some.inj h
    refine W_ret [4] [] (fr' := [(4, aI v12)]) (L' := []) (by kernel_rfl) (by kernel_rfl) ?_
    exact retQ_mk (by kernel_rfl) (by kernel_rfl) (by kernel_rfl)

@[reducible] def law_AskLeasts_s1 (v : Bool) : Fr × LL := ([(4, aB v)], [])
def law_AskLeasts (fuel : Nat) (a0 : Int) (a1 : (List Bool)) : Option Bool :=
(ask_Least fuel a0 a1).bind fun r1 =>
(ref_TableCheck a0 a1 (0 : Int)).bind fun r3 =>
bif r3 != (0 : Int) then
(some ((r1.2 == r3) && (r1.1 == (0 : Int))))
else
((bif r1.2 == (0 : Int) then
((ref_LeastAsks fuel a0 a1).bind fun r13 =>
some (r1.1 == r13))
else
(some false)).bind fun v15 =>
some v15)
theorem law_AskLeasts_ok {fuel : Nat} {a0 : Int} {a1 : (List Bool)} {r : Bool} (h : law_AskLeasts fuel a0 a1 = some r) : FnC Try.prog 6 [aI a0, aD (.slice .bool) a1] [] (aB r) [] := by
  refine fnC_of_W (B := bodyOf Try.f6) (n := 35) Try.func6 (by kernel_rfl) (by kernel_rfl) (by kernel_rfl) (by kernel_rfl) (by kernel_rfl) ?_
  intro K
  refine W_seq (by kernel_rfl) ?_
  refine W_run 1 [] [0, 1] [] (fr' := [(0, aI a0), (1, aD (.slice .bool) a1)]) (L' := []) (obs := []) (by kernel_rfl) (by kernel_rfl) (by kernel_rfl) allP0 ?_
  refine seqQ_norm ?_
  refine W_seq (by kernel_rfl) ?_
  refine W_region (by kernel_rfl) ?_
  refine WO_run (j := 2) (k := 2) (orcs := []) (kF := [0, 1, 9, 10]) (kL := []) (fr' := [(0, aI a0), (1, aD (.slice .bool) a1), (9, aI a0), (10, aD (.slice .bool) a1)]) (L' := []) (obs := []) rfl (by kernel_rfl) allP0 ?_
  obtain ⟨r1, h2, h⟩ := bind_of h
  refine WO_call0 (us := [none, none]) (d := 11) (p := True) (j := 3) rfl ⟨by kernel_rfl, by kernel_rfl, by kernel_rfl⟩ trivial (ask_Least_ok h2) (by kernel_rfl) ?_
  refine WO_run (j := 8) (k := 5) (orcs := []) (kF := [0, 1, 5, 6]) (kL := []) (fr' := [(0, aI a0), (1, aD (.slice .bool) a1), (5, aI r1.1), (6, aI r1.2)]) (L' := []) (obs := []) rfl (by kernel_rfl) allP0 ?_
  refine WO_fin [0, 1, 5, 6] [] (fr' := [(0, aI a0), (1, aD (.slice .bool) a1), (5, aI r1.1), (6, aI r1.2)]) (L' := []) (by kernel_rfl) (by kernel_rfl) ?_
  refine seqQ_norm ?_
  refine W_seq (by kernel_rfl) ?_
  refine W_region (by kernel_rfl) ?_
  refine WO_run (j := 2) (k := 2) (orcs := []) (kF := [0, 1, 5, 6, 14, 15]) (kL := []) (fr' := [(0, aI a0), (1, aD (.slice .bool) a1), (5, aI r1.1), (6, aI r1.2), (14, aI a0), (15, aD (.slice .bool) a1)]) (L' := []) (obs := []) rfl (by kernel_rfl) allP0 ?_
  obtain ⟨r3, h4, h⟩ := bind_of h
  refine WO_call0 (us := [none, none, none]) (d := 16) (p := True) (j := 3) rfl ⟨by kernel_rfl, by kernel_rfl, by kernel_rfl⟩ trivial (ref_TableCheck_ok h4) (by kernel_rfl) ?_
  refine WO_run (j := 4) (k := 1) (orcs := []) (kF := [0, 1, 5, 6, 7]) (kL := []) (fr' := [(0, aI a0), (1, aD (.slice .bool) a1), (5, aI r1.1), (6, aI r1.2), (7, aI r3)]) (L' := []) (obs := []) rfl (by kernel_rfl) allP0 ?_
  refine WO_fin [0, 1, 5, 6, 7] [] (fr' := [(0, aI a0), (1, aD (.slice .bool) a1), (5, aI r1.1), (6, aI r1.2), (7, aI r3)]) (L' := []) (by kernel_rfl) (by kernel_rfl) ?_
  refine seqQ_norm ?_
  refine W_seq (by kernel_rfl) ?_
  refine W_seq (by kernel_rfl) ?_
  refine W_run 2 [] [0, 1, 5, 6, 7, 18] [] (fr' := [(0, aI a0), (1, aD (.slice .bool) a1), (5, aI r1.1), (6, aI r1.2), (7, aI r3), (18, aB (r3 != (0 : Int)))]) (L' := []) (obs := []) (by kernel_rfl) (by kernel_rfl) (by kernel_rfl) allP0 ?_
  refine seqQ_norm ?_
  refine W_cond (o := .tmp 18) (b := r3 != (0 : Int)) (by kernel_rfl) (by kernel_rfl) (fun h5 => ?_) (fun h5 => ?_)
  · replace h := ofT h5 h
    refine W_seq (by kernel_rfl) ?_
    refine W_run 8 [] [4] [] (fr' := [(4, aB ((r1.2 == r3) && (r1.1 == (0 : Int))))]) (L' := []) (obs := []) (by kernel_rfl) (by kernel_rfl) (by kernel_rfl) allP0 ?_
    refine seqQ_norm ?_
    obtain rfl := Option.some.inj h
    refine W_ret [4] [] (fr' := [(4, aB ((r1.2 == r3) && (r1.1 == (0 : Int))))]) (L' := []) (by kernel_rfl) (by kernel_rfl) ?_
    refine seqQ_ret ?_
    exact retQ_mk (by kernel_rfl) (by kernel_rfl) (by kernel_rfl)
  · replace h := ofF h5 h
    refine W_skip [0, 1, 5, 6] [] (fr' := [(0, aI a0), (1, aD (.slice .bool) a1), (5, aI r1.1), (6, aI r1.2)]) (L' := []) (by kernel_rfl) (by kernel_rfl) ?_
    refine seqQ_norm ?_
    refine W_seq (by kernel_rfl) ?_
    obtain ⟨v15, h16, h⟩ := bind_of h
    refine W_cutK (Q' := (exQ .normal law_AskLeasts_s1) v15) ?_ ?_
    · replace h := h16
      refine W_region (by kernel_rfl) ?_
      refine WO_run (j := 3) (k := 3) (orcs := []) (kF := [0, 1, 5, 28]) (kL := []) (fr' := [(0, aI a0), (1, aD (.slice .bool) a1), (5, aI r1.1), (28, aB (r1.2 == (0 : Int)))]) (L' := []) (obs := []) rfl (by kernel_rfl) allP0 ?_
      rcases Bool.eq_false_or_eq_true (r1.2 == (0 : Int)) with h12 | h12
      · replace h := ofT h12 h
        refine WO_run (j := 6) (k := 3) (orcs := [(6, .known true), (8, .known true), (10, .known true)]) (kF := [28, 29, 30, 31]) (kL := []) (fr' := [(28, aB (r1.2 == (0 : Int))), (29, aI r1.1), (30, aI a0), (31, aD (.slice .bool) a1)]) (L' := []) (obs := [((r1.2 == (0 : Int)) = true), ((r1.2 == (0 : Int)) = true), ((r1.2 == (0 : Int)) = true)]) rfl (by kernel_rfl) (allP2 h12 (allP2 h12 (allP1 h12))) ?_
        obtain ⟨r13, h14, h⟩ := bind_of h
        refine WO_call0 (us := [none, none]) (d := 32) (p := ((r1.2 == (0 : Int)) = true)) (j := 7) rfl ⟨by kernel_rfl, by kernel_rfl, by kernel_rfl⟩ h12 (ref_LeastAsks_ok h14) (by kernel_rfl) ?_
        refine WO_run (j := 10) (k := 3) (orcs := [(14, .known true), (17, .val (.dat .bool true))]) (kF := [4]) (kL := []) (fr' := [(4, aB (r1.1 == r13))]) (L' := []) (obs := [((r1.2 == (0 : Int)) = true), ((r1.2 == (0 : Int)) = true)]) rfl (by kernel_rfl) (allP2 h12 (allP1 h12)) ?_
        obtain rfl := Option.some.inj h
        refine WO_fin [4] [] (fr' := [(4, aB (r1.1 == r13))]) (L' := []) (by kernel_rfl) (by kernel_rfl) ?_
        exact exQ_mk (by kernel_rfl) (by kernel_rfl)
      · replace h := ofF h12 h
        refine WO_run (j := 10) (k := 7) (orcs := [(6, .known false), (8, .known false), (10, .known false), (12, .known false), (14, .known false), (17, .val (.dat .bool false))]) (kF := [4]) (kL := []) (fr' := [(4, aB false)]) (L' := []) (obs := [((r1.2 == (0 : Int)) = false), ((r1.2 == (0 : Int)) = false), ((r1.2 == (0 : Int)) = false), ((r1.2 == (0 : Int)) = false), ((r1.2 == (0 : Int)) = false), ((r1.2 == (0 : Int)) = false)]) rfl (by kernel_rfl) (allP2 h12 (allP2 h12 (allP2 h12 (allP2 h12 (allP2 h12 (allP1 h12)))))) ?_
        obtain rfl := Option.some.inj h
        refine WO_fin [4] [] (fr' := [(4, aB false)]) (L' := []) (by kernel_rfl) (by kernel_rfl) ?_
        exact exQ_mk (by kernel_rfl) (by kernel_rfl)
    · intro e fr L hJ
      obtain ⟨rfl, rfl, rfl⟩ := hJ
      refine LT_keep [4] [] (fr' := [(4, aB v15)]) (L' := []) (by kernel_rfl) ?_
      refine seqQ_norm ?_
      obtain rfl := Option.some.inj h
      refine W_ret [4] [] (fr' := [(4, aB v15)]) (L' := []) (by kernel_rfl) (by kernel_rfl) ?_
      exact retQ_mk (by kernel_rfl) (by kernel_rfl) (by kernel_rfl)
end Go.Proofs.Ytnlibkamomlccaa.askLeasts
