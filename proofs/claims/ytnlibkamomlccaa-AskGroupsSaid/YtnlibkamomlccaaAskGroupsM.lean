/- What the functions that AskGroups calls compute, as models, and that they compute it: written by a program of mine. -/
import Derived.Test.YtnlibkamomlccaaProg
import Derived.Test.YtnlibkamomlccaaSl3
set_option linter.all false
set_option maxRecDepth 100000
namespace Go.Proofs.Ytnlibkamomlccaa.askGroups
open Go Go.Sl
def ask_wrong (a0 : Int) (a1 : (List Bool)) (a2 : Int) : Option Int :=
bif (decide (a0 < (0 : Int))) || (decide (a0 > (4 : Int))) then
(some (1 : Int))
else
((ck (0 ≤ a0)).bind fun _ =>
bif (List.length a1 : Int) != (bShl .i64 (1 : Int) a0) then
(some (3 : Int))
else
(bif decide (a2 < (0 : Int)) then
(some (4 : Int))
else
(bif decide (a2 ≥ (bShl .i64 (1 : Int) a0)) then
(some (4 : Int))
else
(some (0 : Int)))))
theorem ask_wrong_ok {a0 : Int} {a1 : (List Bool)} {a2 : Int} {r : Int} (h : ask_wrong a0 a1 a2 = some r) : FnC Try.prog 37 [aI a0, aD (.slice .bool) a1, aI a2] [] (aI r) [] := by
  refine fnC_of_W (B := bodyOf Try.f37) (n := 29) Try.func37 (by kernel_rfl) (by kernel_rfl) (by kernel_rfl) (by kernel_rfl) (by kernel_rfl) ?_
  intro K
  refine W_seq (by kernel_rfl) ?_
  refine W_run 1 [] [0, 1, 2] [] (fr' := [(0, aI a0), (1, aD (.slice .bool) a1), (2, aI a2)]) (L' := []) (obs := []) (by kernel_rfl) (by kernel_rfl) (by kernel_rfl) allP0 ?_
  refine seqQ_norm ?_
  refine W_seq (by kernel_rfl) ?_
  refine W_block (id := 0) (by kernel_rfl) ?_
  refine W_seq (by kernel_rfl) ?_
  refine W_run 7 [] [0, 1, 2, 7] [] (fr' := [(0, aI a0), (1, aD (.slice .bool) a1), (2, aI a2), (7, aB ((decide (a0 < (0 : Int))) || (decide (a0 > (4 : Int)))))]) (L' := []) (obs := []) (by kernel_rfl) (by kernel_rfl) (by kernel_rfl) allP0 ?_
  refine seqQ_norm ?_
  refine W_cond (o := .tmp 7) (b := (decide (a0 < (0 : Int))) || (decide (a0 > (4 : Int)))) (by kernel_rfl) (by kernel_rfl) (fun h1 => ?_) (fun h1 => ?_)
  · replace h := ofT h1 h
    refine W_seq (by kernel_rfl) ?_
    refine W_run 1 [] [6] [] (fr' := [(6, aI (1 : Int))]) (L' := []) (obs := []) (by kernel_rfl) (by kernel_rfl) (by kernel_rfl) allP0 ?_
    refine seqQ_norm ?_
    obtain rfl := Option.some.inj h
    refine W_ret [6] [] (fr' := [(6, aI (1 : Int))]) (L' := []) (by kernel_rfl) (by kernel_rfl) ?_
    refine blockQ_ret ?_
    refine seqQ_ret ?_
    exact retQ_mk (by kernel_rfl) (by kernel_rfl) (by kernel_rfl)
  · replace h := ofF h1 h
    refine W_seq (by kernel_rfl) ?_
    obtain ⟨_, h2, h⟩ := bind_of h
    replace h2 := ck_some h2
    refine W_run 6 [] [0, 2, 14] [] (fr' := [(0, aI a0), (2, aI a2), (14, aB ((List.length a1 : Int) != (bShl .i64 (1 : Int) a0)))]) (L' := []) (obs := [(0 ≤ a0)]) (by kernel_rfl) (by kernel_rfl) (by kernel_rfl) (allP1 h2) ?_
    refine seqQ_norm ?_
    refine W_cond (o := .tmp 14) (b := (List.length a1 : Int) != (bShl .i64 (1 : Int) a0)) (by kernel_rfl) (by kernel_rfl) (fun h3 => ?_) (fun h3 => ?_)
    · replace h := ofT h3 h
      refine W_seq (by kernel_rfl) ?_
      refine W_run 1 [] [6] [] (fr' := [(6, aI (3 : Int))]) (L' := []) (obs := []) (by kernel_rfl) (by kernel_rfl) (by kernel_rfl) allP0 ?_
      refine seqQ_norm ?_
      obtain rfl := Option.some.inj h
      refine W_ret [6] [] (fr' := [(6, aI (3 : Int))]) (L' := []) (by kernel_rfl) (by kernel_rfl) ?_
      refine blockQ_ret ?_
      refine seqQ_ret ?_
      exact retQ_mk (by kernel_rfl) (by kernel_rfl) (by kernel_rfl)
    · replace h := ofF h3 h
      refine W_seq (by kernel_rfl) ?_
      refine W_region (by kernel_rfl) ?_
      refine WO_run (j := 3) (k := 3) (orcs := []) (kF := [0, 2, 23]) (kL := []) (fr' := [(0, aI a0), (2, aI a2), (23, aB (decide (a2 < (0 : Int))))]) (L' := []) (obs := []) rfl (by kernel_rfl) allP0 ?_
      rcases Bool.eq_false_or_eq_true (decide (a2 < (0 : Int))) with h4 | h4
      · replace h := ofT h4 h
        refine WO_run (j := 9) (k := 6) (orcs := [(6, .known true), (8, .known true), (10, .known true), (12, .known true), (15, .val (.dat .bool true))]) (kF := [20]) (kL := []) (fr' := [(20, aB true)]) (L' := []) (obs := [((decide (a2 < (0 : Int))) = true), ((decide (a2 < (0 : Int))) = true), ((decide (a2 < (0 : Int))) = true), ((decide (a2 < (0 : Int))) = true), ((decide (a2 < (0 : Int))) = true)]) rfl (by kernel_rfl) (allP2 h4 (allP2 h4 (allP2 h4 (allP2 h4 (allP1 h4))))) ?_
        refine WO_fin [20] [] (fr' := [(20, aB true)]) (L' := []) (by kernel_rfl) (by kernel_rfl) ?_
        refine seqQ_norm ?_
        refine W_cond (o := .tmp 20) (b := true) (by kernel_rfl) (by kernel_rfl) (fun h5 => ?_) (fun h5 => by have := (rfl : true = true).symm.trans h5; cases this)
        refine W_seq (by kernel_rfl) ?_
        refine W_run 1 [] [6] [] (fr' := [(6, aI (4 : Int))]) (L' := []) (obs := []) (by kernel_rfl) (by kernel_rfl) (by kernel_rfl) allP0 ?_
        refine seqQ_norm ?_
        obtain rfl := Option.some.inj h
        refine W_ret [6] [] (fr' := [(6, aI (4 : Int))]) (L' := []) (by kernel_rfl) (by kernel_rfl) ?_
        refine blockQ_ret ?_
        refine seqQ_ret ?_
        exact retQ_mk (by kernel_rfl) (by kernel_rfl) (by kernel_rfl)
      · replace h := ofF h4 h
        refine WO_run (j := 9) (k := 6) (orcs := [(6, .known false), (8, .known false), (10, .known false), (12, .known false), (15, .val (.dat .bool false))]) (kF := [20]) (kL := []) (fr' := [(20, aB (decide (a2 ≥ (bShl .i64 (1 : Int) a0))))]) (L' := []) (obs := [((decide (a2 < (0 : Int))) = false), ((decide (a2 < (0 : Int))) = false), ((decide (a2 < (0 : Int))) = false), (0 ≤ a0), ((decide (a2 < (0 : Int))) = false), ((decide (a2 < (0 : Int))) = false)]) rfl (by kernel_rfl) (allP2 h4 (allP2 h4 (allP2 h4 (allP2 h2 (allP2 h4 (allP1 h4)))))) ?_
        refine WO_fin [20] [] (fr' := [(20, aB (decide (a2 ≥ (bShl .i64 (1 : Int) a0))))]) (L' := []) (by kernel_rfl) (by kernel_rfl) ?_
        refine seqQ_norm ?_
        refine W_cond (o := .tmp 20) (b := decide (a2 ≥ (bShl .i64 (1 : Int) a0))) (by kernel_rfl) (by kernel_rfl) (fun h6 => ?_) (fun h6 => ?_)
        · replace h := ofT h6 h
          refine W_seq (by kernel_rfl) ?_
          refine W_run 1 [] [6] [] (fr' := [(6, aI (4 : Int))]) (L' := []) (obs := []) (by kernel_rfl) (by kernel_rfl) (by kernel_rfl) allP0 ?_
          refine seqQ_norm ?_
          obtain rfl := Option.some.inj h
          refine W_ret [6] [] (fr' := [(6, aI (4 : Int))]) (L' := []) (by kernel_rfl) (by kernel_rfl) ?_
          refine blockQ_ret ?_
          refine seqQ_ret ?_
          exact retQ_mk (by kernel_rfl) (by kernel_rfl) (by kernel_rfl)
        · replace h := ofF h6 h
          refine W_skip [] [] (fr' := []) (L' := []) (by kernel_rfl) (by kernel_rfl) ?_
          refine blockQ_norm ?_
          refine seqQ_norm ?_
          refine W_seq (by kernel_rfl) ?_
          refine W_run 1 [] [6] [] (fr' := [(6, aI (0 : Int))]) (L' := []) (obs := []) (by kernel_rfl) (by kernel_rfl) (by kernel_rfl) allP0 ?_
          refine seqQ_norm ?_
          obtain rfl := Option.some.inj h
          refine W_ret [6] [] (fr' := [(6, aI (0 : Int))]) (L' := []) (by kernel_rfl) (by kernel_rfl) ?_
          exact retQ_mk (by kernel_rfl) (by kernel_rfl) (by kernel_rfl)

def ask_groups_g5 (a0 : (List Bool)) (a1 : Int) (a2 : Int) (rf_ask_groups : (List Bool) → Int → Int → Option Int) (x26 : (Int × Int)) : Option Int :=
(idx a0 (bXor .i64 a1 x26.2)).bind fun v66 =>
(idx a0 a1).bind fun v68 =>
bif !(v66 == v68) then
((rf_ask_groups a0 a1 (bClr .i64 a2 x26.2)).bind fun r71 =>
some (imax x26.1 (w64 ((1 : Int) + r71))))
else
(some x26.1)
@[reducible] def ask_groups_s6 (a0 : (List Bool)) (a1 : Int) (a2 : Int) (x26 : (Int × Int)) (v : Int) : Fr × LL := ([(0, aD (.slice .bool) a0), (1, aI a1), (2, aI a2), (7, aI v), (8, aI x26.2)], [])
def ask_groups_b7 (a0 : (List Bool)) (a1 : Int) (a2 : Int) (rf_ask_groups : (List Bool) → Int → Int → Option Int) (x26 : (Int × Int)) : Option (Flow (Int × Int) Int) :=
bif decide (x26.2 > (0 : Int)) then
((ask_groups_g5 a0 a1 a2 rf_ask_groups x26).bind fun v73 =>
some (.next (v73, bAnd .i64 (w64 (x26.2 - (1 : Int))) a2)))
else
(some (.done x26.1))
@[reducible] def ask_groups_s8 (a0 : (List Bool)) (a1 : Int) (a2 : Int) (v : (Int × Int)) : Fr × LL := ([(0, aD (.slice .bool) a0), (1, aI a1), (2, aI a2), (7, aI v.1), (8, aI v.2)], [])
@[reducible] def ask_groups_s9 (v : Int) : Fr × LL := ([(7, aI v)], [])
def ask_groups_step (rf_ask_groups : (List Bool) → Int → Int → Option Int) (fuel : Nat) (a0 : (List Bool)) (a1 : Int) (a2 : Int) : Option Int :=
(iter (ask_groups_b7 a0 a1 a2 rf_ask_groups) fuel ((0 : Int), a2)).bind fun v75 =>
some v75
def ask_groups : Nat → (List Bool) → Int → Int → Option Int
  | 0 => fun _ _ _ => none
  | fuel + 1 => fun a0 a1 a2 => ask_groups_step (ask_groups fuel) fuel a0 a1 a2
theorem ask_groups_step_ok {rf_ask_groups : (List Bool) → Int → Int → Option Int} (ih_ask_groups : ∀ {a0 : (List Bool)} {a1 : Int} {a2 : Int} {r : Int}, rf_ask_groups a0 a1 a2 = some r → FnC Try.prog 38 [aD (.slice .bool) a0, aI a1, aI a2] [] (aI r) []) {fuel : Nat} {a0 : (List Bool)} {a1 : Int} {a2 : Int} {r : Int} (h : ask_groups_step rf_ask_groups fuel a0 a1 a2 = some r) : FnC Try.prog 38 [aD (.slice .bool) a0, aI a1, aI a2] [] (aI r) [] := by
  refine fnC_of_W (B := bodyOf Try.f38) (n := 37) Try.func38 (by kernel_rfl) (by kernel_rfl) (by kernel_rfl) (by kernel_rfl) (by kernel_rfl) ?_
  intro K
  refine W_seq (by kernel_rfl) ?_
  refine W_run 1 [] [0, 1, 2] [] (fr' := [(0, aD (.slice .bool) a0), (1, aI a1), (2, aI a2)]) (L' := []) (obs := []) (by kernel_rfl) (by kernel_rfl) (by kernel_rfl) allP0 ?_
  refine seqQ_norm ?_
  refine W_seq (by kernel_rfl) ?_
  refine W_run 1 [] [0, 1, 2, 7] [] (fr' := [(0, aD (.slice .bool) a0), (1, aI a1), (2, aI a2), (7, aI (0 : Int))]) (L' := []) (obs := []) (by kernel_rfl) (by kernel_rfl) (by kernel_rfl) allP0 ?_
  refine seqQ_norm ?_
  refine W_seq (by kernel_rfl) ?_
  refine W_seq (by kernel_rfl) ?_
  refine W_run 2 [] [0, 1, 2, 7, 8] [] (fr' := [(0, aD (.slice .bool) a0), (1, aI a1), (2, aI a2), (7, aI (0 : Int)), (8, aI a2)]) (L' := []) (obs := []) (by kernel_rfl) (by kernel_rfl) (by kernel_rfl) allP0 ?_
  refine seqQ_norm ?_
  refine W_block (id := 0) (by kernel_rfl) ?_
  obtain ⟨v75, h76, h⟩ := bind_of h
  refine W_weaken [0, 1, 2, 7, 8] [] (fr' := ((ask_groups_s8 a0 a1 a2) ((0 : Int), a2)).1) (L' := ((ask_groups_s8 a0 a1 a2) ((0 : Int), a2)).2) (by kernel_rfl) ?_
  refine W_cutK (W_loop (S := (ask_groups_s8 a0 a1 a2)) (J := (exQ (.exit 0) ask_groups_s9)) (by kernel_rfl) ?_ fuel _ v75 h76) ?_
  · rintro x26 s h
    refine W_seq (by kernel_rfl) ?_
    refine W_seq (by kernel_rfl) ?_
    refine W_run 2 [] [0, 1, 2, 7, 8, 11] [] (fr' := [(0, aD (.slice .bool) a0), (1, aI a1), (2, aI a2), (7, aI x26.1), (8, aI x26.2), (11, aB (decide (x26.2 > (0 : Int))))]) (L' := []) (obs := []) (by kernel_rfl) (by kernel_rfl) (by kernel_rfl) allP0 ?_
    refine seqQ_norm ?_
    refine W_cond (o := .tmp 11) (b := decide (x26.2 > (0 : Int))) (by kernel_rfl) (by kernel_rfl) (fun h51 => ?_) (fun h51 => ?_)
    · replace h := ofT h51 h
      refine W_skip [0, 1, 2, 7, 8] [] (fr' := [(0, aD (.slice .bool) a0), (1, aI a1), (2, aI a2), (7, aI x26.1), (8, aI x26.2)]) (L' := []) (by kernel_rfl) (by kernel_rfl) ?_
      refine seqQ_norm ?_
      refine W_seq (by kernel_rfl) ?_
      obtain ⟨v73, h74, h⟩ := bind_of h
      refine W_cutK (Q' := (exQ .normal (ask_groups_s6 a0 a1 a2 x26)) v73) ?_ ?_
      · replace h := h74
        refine W_block (id := 1) (by kernel_rfl) ?_
        refine W_seq (by kernel_rfl) ?_
        obtain ⟨v66, h67, h⟩ := bind_of h
        obtain ⟨v68, h69, h⟩ := bind_of h
        refine W_draw2 11 [(9, .val (.dat .bool v66)), (17, .val (.dat .bool v68))] [] [0, 1, 2, 7, 8, 26] [] (fr' := [(0, aD (.slice .bool) a0), (1, aI a1), (2, aI a2), (7, aI x26.1), (8, aI x26.2), (26, aB (!(v66 == v68)))]) (L' := []) (out := [(16, aD (.slice .bool) a0), (17, aI a1), (18, aI x26.2), (19, aI (bXor .i64 a1 x26.2)), (20, .one (.dptr .bool v66)), (21, aB v66), (22, aD (.slice .bool) a0), (23, aI a1), (24, .one (.dptr .bool v68)), (25, aB v68), (26, aB (!(v66 == v68)))]) (obs := [Idx a0 (bXor .i64 a1 x26.2) v66, Idx a0 a1 v68]) (obs2 := []) (calls := []) (by kernel_rfl) (by kernel_rfl) (by kernel_rfl) (by kernel_rfl) (allP2 (Idx.of h67) (allP1 (Idx.of h69))) allC0 (by kernel_rfl) allP0 ?_
        refine seqQ_norm ?_
        refine W_cond (o := .tmp 26) (b := !(v66 == v68)) (by kernel_rfl) (by kernel_rfl) (fun h70 => ?_) (fun h70 => ?_)
        · replace h := ofT h70 h
          refine W_region (by kernel_rfl) ?_
          refine WO_run (j := 6) (k := 6) (orcs := []) (kF := [0, 1, 2, 7, 8, 27, 28, 29, 32]) (kL := []) (fr' := [(0, aD (.slice .bool) a0), (1, aI a1), (2, aI a2), (7, aI x26.1), (8, aI x26.2), (27, aI x26.1), (28, aD (.slice .bool) a0), (29, aI a1), (32, aI (bClr .i64 a2 x26.2))]) (L' := []) (obs := []) rfl (by kernel_rfl) allP0 ?_
          obtain ⟨r71, h72, h⟩ := bind_of h
          refine WO_call0 (us := [none, none, none]) (d := 33) (p := True) (j := 7) rfl ⟨by kernel_rfl, by kernel_rfl, by kernel_rfl⟩ trivial (ih_ask_groups h72) (by kernel_rfl) ?_
          refine WO_run (j := 10) (k := 3) (orcs := []) (kF := [0, 1, 2, 7, 8]) (kL := []) (fr' := [(0, aD (.slice .bool) a0), (1, aI a1), (2, aI a2), (7, aI (imax x26.1 (w64 ((1 : Int) + r71)))), (8, aI x26.2)]) (L' := []) (obs := []) rfl (by kernel_rfl) allP0 ?_
          obtain rfl := Option.some.inj h
          refine WO_fin [0, 1, 2, 7, 8] [] (fr' := [(0, aD (.slice .bool) a0), (1, aI a1), (2, aI a2), (7, aI (imax x26.1 (w64 ((1 : Int) + r71)))), (8, aI x26.2)]) (L' := []) (by kernel_rfl) (by kernel_rfl) ?_
          refine blockQ_norm ?_
          exact exQ_mk (by kernel_rfl) (by kernel_rfl)
        · replace h := ofF h70 h
          obtain rfl := Option.some.inj h
          refine W_skip [0, 1, 2, 7, 8] [] (fr' := [(0, aD (.slice .bool) a0), (1, aI a1), (2, aI a2), (7, aI x26.1), (8, aI x26.2)]) (L' := []) (by kernel_rfl) (by kernel_rfl) ?_
          refine blockQ_norm ?_
          exact exQ_mk (by kernel_rfl) (by kernel_rfl)
      · intro e fr L hJ
        obtain ⟨rfl, rfl, rfl⟩ := hJ
        refine LT_keep [0, 1, 2, 7, 8] [] (fr' := [(0, aD (.slice .bool) a0), (1, aI a1), (2, aI a2), (7, aI v73), (8, aI x26.2)]) (L' := []) (by kernel_rfl) ?_
        refine seqQ_norm ?_
        obtain rfl := Option.some.inj h
        refine W_run 5 [] [0, 1, 2, 7, 8] [] (fr' := [(0, aD (.slice .bool) a0), (1, aI a1), (2, aI a2), (7, aI v73), (8, aI (bAnd .i64 (w64 (x26.2 - (1 : Int))) a2))]) (L' := []) (obs := []) (by kernel_rfl) (by kernel_rfl) (by kernel_rfl) allP0 ?_
        exact round_next' (by kernel_rfl) (by kernel_rfl)
    · replace h := ofF h51 h
      obtain rfl := Option.some.inj h
      refine W_exit (id := 0) [7] [] (fr' := [(7, aI x26.1)]) (L' := []) (by kernel_rfl) (by kernel_rfl) ?_
      refine seqQ_exit ?_
      refine round_exit ?_
      exact exQ_mk (by kernel_rfl) (by kernel_rfl)
  · intro e fr L hJ
    obtain ⟨rfl, rfl, rfl⟩ := hJ
    refine LT_keep [7] [] (fr' := [(7, aI v75)]) (L' := []) (by kernel_rfl) ?_
    refine blockQ_hit ?_
    refine seqQ_norm ?_
    refine W_seq (by kernel_rfl) ?_
    refine W_run 2 [] [6] [] (fr' := [(6, aI v75)]) (L' := []) (obs := []) (by kernel_rfl) (by kernel_rfl) (by kernel_rfl) allP0 ?_
    refine seqQ_norm ?_
    obtain rfl := Option.some.inj h
    refine W_ret [6] [] (fr' := [(6, aI v75)]) (L' := []) (by kernel_rfl) (by kernel_rfl) ?_
    exact retQ_mk (by kernel_rfl) (by kernel_rfl) (by kernel_rfl)
theorem ask_groups_ok : ∀ {fuel : Nat} {a0 : (List Bool)} {a1 : Int} {a2 : Int} {r : Int}, ask_groups fuel a0 a1 a2 = some r → FnC Try.prog 38 [aD (.slice .bool) a0, aI a1, aI a2] [] (aI r) [] := by
  intro fuel
  induction fuel with
  | zero => intros a0 a1 a2 r h; cases h
  | succ fuel ih => intros a0 a1 a2 r h; exact ask_groups_step_ok (fun h => ih h) (show ask_groups_step (ask_groups fuel) fuel a0 a1 a2 = some r from h)

def ask_Groups_b1 (a1 : (List Bool)) (fuel : Nat) (i12 : Int) (v15 : Bool) (x13 : Int) : Option (Flow Int Int) :=
(ask_groups fuel a1 i12 (w64 ((List.length a1 : Int) - (1 : Int)))).bind fun r18 =>
some (.next (imax x13 r18))
@[reducible] def ask_Groups_s2 (a1 : (List Bool)) (v : Int × Int) : Fr × LL := ([(1, aD (.slice .bool) a1), (7, aI v.2), (16, aI (List.length a1 : Int)), (17, aI v.1)], [])
@[reducible] def ask_Groups_s3 (v : Int) : Fr × LL := ([(7, aI v)], [])
def ask_Groups (fuel : Nat) (a0 : Int) (a1 : (List Bool)) : Option (Int × Int) :=
(ask_wrong a0 a1 (0 : Int)).bind fun r1 =>
bif r1 != (0 : Int) then
(some ((0 : Int), r1))
else
((forL (ask_Groups_b1 a1 fuel) (fun x13 => x13) a1 0 (0 : Int)).bind fun v21 =>
some (v21, (0 : Int)))
theorem ask_Groups_ok {fuel : Nat} {a0 : Int} {a1 : (List Bool)} {r : (Int × Int)} (h : ask_Groups fuel a0 a1 = some r) : FnC Try.prog 20 [aI a0, aD (.slice .bool) a1] [] (.tup [.dat tI r.1, .dat tI r.2]) [] := by
  refine fnC_of_W (B := bodyOf Try.f20) (n := 30) Try.func20 (by kernel_rfl) (by kernel_rfl) (by kernel_rfl) (by kernel_rfl) (by kernel_rfl) ?_
  intro K
  refine W_seq (by kernel_rfl) ?_
  refine W_run 2 [] [0, 1] [] (fr' := [(0, aI a0), (1, aD (.slice .bool) a1)]) (L' := []) (obs := []) (by kernel_rfl) (by kernel_rfl) (by kernel_rfl) allP0 ?_
  refine seqQ_norm ?_
  refine W_seq (by kernel_rfl) ?_
  refine W_seq (by kernel_rfl) ?_
  refine W_region (by kernel_rfl) ?_
  refine WO_run (j := 2) (k := 2) (orcs := []) (kF := [1, 9, 10]) (kL := []) (fr' := [(1, aD (.slice .bool) a1), (9, aI a0), (10, aD (.slice .bool) a1)]) (L' := []) (obs := []) rfl (by kernel_rfl) allP0 ?_
  obtain ⟨r1, h2, h⟩ := bind_of h
  refine WO_call0 (us := [none, none, none]) (d := 11) (p := True) (j := 3) rfl ⟨by kernel_rfl, by kernel_rfl, by kernel_rfl⟩ trivial (ask_wrong_ok h2) (by kernel_rfl) ?_
  refine WO_run (j := 4) (k := 1) (orcs := []) (kF := [1, 6]) (kL := []) (fr' := [(1, aD (.slice .bool) a1), (6, aI r1)]) (L' := []) (obs := []) rfl (by kernel_rfl) allP0 ?_
  refine WO_fin [1, 6] [] (fr' := [(1, aD (.slice .bool) a1), (6, aI r1)]) (L' := []) (by kernel_rfl) (by kernel_rfl) ?_
  refine seqQ_norm ?_
  refine W_seq (by kernel_rfl) ?_
  refine W_run 2 [] [1, 6, 13] [] (fr' := [(1, aD (.slice .bool) a1), (6, aI r1), (13, aB (r1 != (0 : Int)))]) (L' := []) (obs := []) (by kernel_rfl) (by kernel_rfl) (by kernel_rfl) allP0 ?_
  refine seqQ_norm ?_
  refine W_cond (o := .tmp 13) (b := r1 != (0 : Int)) (by kernel_rfl) (by kernel_rfl) (fun h3 => ?_) (fun h3 => ?_)
  · replace h := ofT h3 h
    refine W_seq (by kernel_rfl) ?_
    refine W_run 3 [] [4, 5] [] (fr' := [(4, aI (0 : Int)), (5, aI r1)]) (L' := []) (obs := []) (by kernel_rfl) (by kernel_rfl) (by kernel_rfl) allP0 ?_
    refine seqQ_norm ?_
    obtain rfl := Option.some.inj h
    refine W_ret [4, 5] [] (fr' := [(4, aI (0 : Int)), (5, aI r1)]) (L' := []) (by kernel_rfl) (by kernel_rfl) ?_
    refine seqQ_ret ?_
    exact retQ_mk (by kernel_rfl) (by kernel_rfl) (by kernel_rfl)
  · replace h := ofF h3 h
    refine W_skip [1] [] (fr' := [(1, aD (.slice .bool) a1)]) (L' := []) (by kernel_rfl) (by kernel_rfl) ?_
    refine seqQ_norm ?_
    refine W_seq (by kernel_rfl) ?_
    refine W_run 1 [] [1, 7] [] (fr' := [(1, aD (.slice .bool) a1), (7, aI (0 : Int))]) (L' := []) (obs := []) (by kernel_rfl) (by kernel_rfl) (by kernel_rfl) allP0 ?_
    refine seqQ_norm ?_
    refine W_seq (by kernel_rfl) ?_
    refine W_seq (by kernel_rfl) ?_
    refine W_run 3 [] [1, 7, 16, 17] [] (fr' := [(1, aD (.slice .bool) a1), (7, aI (0 : Int)), (16, aI (List.length a1 : Int)), (17, aI (0 : Int))]) (L' := []) (obs := []) (by kernel_rfl) (by kernel_rfl) (by kernel_rfl) allP0 ?_
    refine seqQ_norm ?_
    refine W_block (id := 0) (by kernel_rfl) ?_
    obtain ⟨v21, h22, h⟩ := bind_of h
    refine W_len (t := 1) (u := .bool) (xs := a1) (by kernel_rfl) (fun h25 => ?_)
    obtain ⟨h23, h24⟩ := forL_iter h25 h22
    refine W_weaken [1, 7, 16, 17] [] (fr' := ((ask_Groups_s2 a1) ((0 : Int), (0 : Int))).1) (L' := ((ask_Groups_s2 a1) ((0 : Int), (0 : Int))).2) (by kernel_rfl) ?_
    refine W_cutK (W_loop (S := (ask_Groups_s2 a1)) (J := (exQ (.exit 0) ask_Groups_s3)) (by kernel_rfl) ?_ h23 _ v21 h24) ?_
    · rintro ⟨i12, x13⟩ s h
      refine W_seq (by kernel_rfl) ?_
      refine W_run 1 [] [1, 7, 16, 17, 18] [] (fr' := [(1, aD (.slice .bool) a1), (7, aI x13), (16, aI (List.length a1 : Int)), (17, aI i12), (18, aB (decide (i12 < (List.length a1 : Int))))]) (L' := []) (obs := []) (by kernel_rfl) (by kernel_rfl) (by kernel_rfl) allP0 ?_
      refine seqQ_norm ?_
      refine W_seq (by kernel_rfl) ?_
      refine W_cond (o := .tmp 18) (b := decide (i12 < (List.length a1 : Int))) (by kernel_rfl) (by kernel_rfl) (fun h17 => ?_) (fun h17 => ?_)
      · replace h := stepL_true h17 h
        obtain ⟨v15, _, h16, h, rfl⟩ := h
        refine W_skip [1, 7, 16, 17] [] (fr' := [(1, aD (.slice .bool) a1), (7, aI x13), (16, aI (List.length a1 : Int)), (17, aI i12)]) (L' := []) (by kernel_rfl) (by kernel_rfl) ?_
        refine seqQ_norm ?_
        refine W_seq (by kernel_rfl) ?_
        refine W_block (id := 1) (by kernel_rfl) ?_
        refine W_seq (by kernel_rfl) ?_
        refine W_run 2 [] [1, 7, 8, 16, 17] [] (fr' := [(1, aD (.slice .bool) a1), (7, aI x13), (8, aI i12), (16, aI (List.length a1 : Int)), (17, aI i12)]) (L' := []) (obs := []) (by kernel_rfl) (by kernel_rfl) (by kernel_rfl) allP0 ?_
        refine seqQ_norm ?_
        refine W_region (by kernel_rfl) ?_
        refine WO_run (j := 6) (k := 6) (orcs := []) (kF := [1, 7, 16, 17, 20, 21, 22, 25]) (kL := []) (fr' := [(1, aD (.slice .bool) a1), (7, aI x13), (16, aI (List.length a1 : Int)), (17, aI i12), (20, aI x13), (21, aD (.slice .bool) a1), (22, aI i12), (25, aI (w64 ((List.length a1 : Int) - (1 : Int))))]) (L' := []) (obs := []) rfl (by kernel_rfl) allP0 ?_
        obtain ⟨r18, h19, h⟩ := bind_of h
        refine WO_call0 (us := [none, none, none]) (d := 26) (p := True) (j := 7) rfl ⟨by kernel_rfl, by kernel_rfl, by kernel_rfl⟩ trivial (ask_groups_ok h19) (by kernel_rfl) ?_
        refine WO_run (j := 9) (k := 2) (orcs := []) (kF := [1, 7, 16, 17]) (kL := []) (fr' := [(1, aD (.slice .bool) a1), (7, aI (imax x13 r18)), (16, aI (List.length a1 : Int)), (17, aI i12)]) (L' := []) (obs := []) rfl (by kernel_rfl) allP0 ?_
        refine WO_fin [1, 7, 16, 17] [] (fr' := [(1, aD (.slice .bool) a1), (7, aI (imax x13 r18)), (16, aI (List.length a1 : Int)), (17, aI i12)]) (L' := []) (by kernel_rfl) (by kernel_rfl) ?_
        refine blockQ_norm ?_
        refine seqQ_norm ?_
        obtain rfl := Option.some.inj h
        refine W_run 2 [] [1, 7, 16, 17] [] (fr' := [(1, aD (.slice .bool) a1), (7, aI (imax x13 r18)), (16, aI (List.length a1 : Int)), (17, aI (w64 (i12 + (1 : Int))))]) (L' := []) (obs := []) (by kernel_rfl) (by kernel_rfl) (by kernel_rfl) allP0 ?_
        exact round_next' (by kernel_rfl) (by kernel_rfl)
      · obtain rfl := stepL_false h17 h
        refine W_exit (id := 0) [7] [] (fr' := [(7, aI x13)]) (L' := []) (by kernel_rfl) (by kernel_rfl) ?_
        refine seqQ_exit ?_
        refine round_exit ?_
        exact exQ_mk (by kernel_rfl) (by kernel_rfl)
    · intro e fr L hJ
      obtain ⟨rfl, rfl, rfl⟩ := hJ
      refine LT_keep [7] [] (fr' := [(7, aI v21)]) (L' := []) (by kernel_rfl) ?_
      refine blockQ_hit ?_
      refine seqQ_norm ?_
      refine W_seq (by kernel_rfl) ?_
      refine W_run 3 [] [4, 5] [] (fr' := [(4, aI v21), (5, aI (0 : Int))]) (L' := []) (obs := []) (by kernel_rfl) (by kernel_rfl) (by kernel_rfl) allP0 ?_
      refine seqQ_norm ?_
      obtain rfl := Option.some.inj h
      refine W_ret [4, 5] [] (fr' := [(4, aI v21), (5, aI (0 : Int))]) (L' := []) (by kernel_rfl) (by kernel_rfl) ?_
      exact retQ_mk (by kernel_rfl) (by kernel_rfl) (by kernel_rfl)

def ref_Within (a0 : Int) (a1 : Int) (a2 : Int) : Option Bool :=
some ((decide (a0 ≤ a1)) && (decide (a1 ≤ a2)))
theorem ref_Within_ok {a0 : Int} {a1 : Int} {a2 : Int} {r : Bool} (h : ref_Within a0 a1 a2 = some r) : FnC Try.prog 34 [aI a0, aI a1, aI a2] [] (aB r) [] := by
  refine fnC_of_W (B := bodyOf Try.f34) (n := 15) Try.func34 (by kernel_rfl) (by kernel_rfl) (by kernel_rfl) (by kernel_rfl) (by kernel_rfl) ?_
  intro K
  refine W_seq (by kernel_rfl) ?_
  refine W_run 1 [] [0, 1, 2] [] (fr' := [(0, aI a0), (1, aI a1), (2, aI a2)]) (L' := []) (obs := []) (by kernel_rfl) (by kernel_rfl) (by kernel_rfl) allP0 ?_
  refine seqQ_norm ?_
  refine W_seq (by kernel_rfl) ?_
  refine W_run 9 [] [6] [] (fr' := [(6, aB ((decide (a0 ≤ a1)) && (decide (a1 ≤ a2))))]) (L' := []) (obs := []) (by kernel_rfl) (by kernel_rfl) (by kernel_rfl) allP0 ?_
  refine seqQ_norm ?_
  obtain rfl := Option.some.inj h
  refine W_ret [6] [] (fr' := [(6, aB ((decide (a0 ≤ a1)) && (decide (a1 ≤ a2))))]) (L' := []) (by kernel_rfl) (by kernel_rfl) ?_
  exact retQ_mk (by kernel_rfl) (by kernel_rfl) (by kernel_rfl)

def ref_Inside_b1 (a0 : Int) (i11 : Int) (v14 : Int) (x12 : Unit) : Option (Flow Unit (Esc Bool Unit)) :=
bif (decide (v14 < (0 : Int))) || (decide (v14 ≥ a0)) then
(some (.done (.ret false)))
else
(some (.next ()))
@[reducible] def ref_Inside_s2 (a0 : Int) (a1 : (List Int)) (v : Int × Unit) : Fr × LL := ([(0, aI a0), (7, aD (.slice tI) a1), (8, aI (List.length a1 : Int)), (9, aI v.1)], [])
@[reducible] def ref_Inside_s3 (v : Bool) : Fr × LL := ([(4, aB v)], [])
@[reducible] def ref_Inside_s4 (v : Unit) : Fr × LL := ([], [])
def ref_Inside (a0 : Int) (a1 : (List Int)) : Option Bool :=
(forL (ref_Inside_b1 a0) (fun x12 => (.brk ())) a1 0 ()).bind fun v19 =>
match v19 with
| .ret v24 =>
(some v24)
| .brk v25 =>
(some true)
theorem ref_Inside_ok {a0 : Int} {a1 : (List Int)} {r : Bool} (h : ref_Inside a0 a1 = some r) : FnC Try.prog 35 [aI a0, aD (.slice tI) a1] [] (aB r) [] := by
  refine fnC_of_W (B := bodyOf Try.f35) (n := 21) Try.func35 (by kernel_rfl) (by kernel_rfl) (by kernel_rfl) (by kernel_rfl) (by kernel_rfl) ?_
  intro K
  refine W_seq (by kernel_rfl) ?_
  refine W_run 1 [] [0, 1] [] (fr' := [(0, aI a0), (1, aD (.slice tI) a1)]) (L' := []) (obs := []) (by kernel_rfl) (by kernel_rfl) (by kernel_rfl) allP0 ?_
  refine seqQ_norm ?_
  refine W_seq (by kernel_rfl) ?_
  refine W_seq (by kernel_rfl) ?_
  refine W_run 3 [] [0, 7, 8, 9] [] (fr' := [(0, aI a0), (7, aD (.slice tI) a1), (8, aI (List.length a1 : Int)), (9, aI (0 : Int))]) (L' := []) (obs := []) (by kernel_rfl) (by kernel_rfl) (by kernel_rfl) allP0 ?_
  refine seqQ_norm ?_
  refine W_block (id := 0) (by kernel_rfl) ?_
  obtain ⟨v19, h20, h⟩ := bind_of h
  refine W_len (t := 7) (u := tI) (xs := a1) (by kernel_rfl) (fun h23 => ?_)
  obtain ⟨h21, h22⟩ := forL_iter h23 h20
  refine W_weaken [0, 7, 8, 9] [] (fr' := ((ref_Inside_s2 a0 a1) ((0 : Int), ())).1) (L' := ((ref_Inside_s2 a0 a1) ((0 : Int), ())).2) (by kernel_rfl) ?_
  refine W_cutK (W_loop (S := (ref_Inside_s2 a0 a1)) (J := (escQ (exQ .ret ref_Inside_s3) (exQ (.exit 0) ref_Inside_s4))) (by kernel_rfl) ?_ h21 _ v19 h22) ?_
  · rintro ⟨i11, x12⟩ s h
    refine W_seq (by kernel_rfl) ?_
    refine W_run 1 [] [0, 7, 8, 9, 10] [] (fr' := [(0, aI a0), (7, aD (.slice tI) a1), (8, aI (List.length a1 : Int)), (9, aI i11), (10, aB (decide (i11 < (List.length a1 : Int))))]) (L' := []) (obs := []) (by kernel_rfl) (by kernel_rfl) (by kernel_rfl) allP0 ?_
    refine seqQ_norm ?_
    refine W_seq (by kernel_rfl) ?_
    refine W_cond (o := .tmp 10) (b := decide (i11 < (List.length a1 : Int))) (by kernel_rfl) (by kernel_rfl) (fun h16 => ?_) (fun h16 => ?_)
    · replace h := stepL_true h16 h
      obtain ⟨v14, _, h15, h, rfl⟩ := h
      refine W_skip [0, 7, 8, 9] [] (fr' := [(0, aI a0), (7, aD (.slice tI) a1), (8, aI (List.length a1 : Int)), (9, aI i11)]) (L' := []) (by kernel_rfl) (by kernel_rfl) ?_
      refine seqQ_norm ?_
      refine W_seq (by kernel_rfl) ?_
      refine W_block (id := 1) (by kernel_rfl) ?_
      refine W_seq (by kernel_rfl) ?_
      refine W_run 3 [(1, .val (.dat tI v14))] [0, 6, 7, 8, 9] [] (fr' := [(0, aI a0), (6, aI v14), (7, aD (.slice tI) a1), (8, aI (List.length a1 : Int)), (9, aI i11)]) (L' := []) (obs := [Idx a1 i11 v14]) (by kernel_rfl) (by kernel_rfl) (by kernel_rfl) (allP1 (Idx.of h15)) ?_
      refine seqQ_norm ?_
      refine W_seq (by kernel_rfl) ?_
      refine W_run 7 [] [0, 7, 8, 9, 19] [] (fr' := [(0, aI a0), (7, aD (.slice tI) a1), (8, aI (List.length a1 : Int)), (9, aI i11), (19, aB ((decide (v14 < (0 : Int))) || (decide (v14 ≥ a0))))]) (L' := []) (obs := []) (by kernel_rfl) (by kernel_rfl) (by kernel_rfl) allP0 ?_
      refine seqQ_norm ?_
      refine W_cond (o := .tmp 19) (b := (decide (v14 < (0 : Int))) || (decide (v14 ≥ a0))) (by kernel_rfl) (by kernel_rfl) (fun h17 => ?_) (fun h17 => ?_)
      · replace h := ofT h17 h
        refine W_seq (by kernel_rfl) ?_
        refine W_run 1 [] [4] [] (fr' := [(4, aB false)]) (L' := []) (obs := []) (by kernel_rfl) (by kernel_rfl) (by kernel_rfl) allP0 ?_
        refine seqQ_norm ?_
        obtain rfl := Option.some.inj h
        refine W_ret [4] [] (fr' := [(4, aB false)]) (L' := []) (by kernel_rfl) (by kernel_rfl) ?_
        refine blockQ_ret ?_
        refine seqQ_ret ?_
        refine round_ret ?_
        refine escQ_ret ?_
        exact exQ_mk (by kernel_rfl) (by kernel_rfl)
      · replace h := ofF h17 h
        refine W_skip [0, 7, 8, 9] [] (fr' := [(0, aI a0), (7, aD (.slice tI) a1), (8, aI (List.length a1 : Int)), (9, aI i11)]) (L' := []) (by kernel_rfl) (by kernel_rfl) ?_
        refine blockQ_norm ?_
        refine seqQ_norm ?_
        obtain rfl := Option.some.inj h
        refine W_run 2 [] [0, 7, 8, 9] [] (fr' := [(0, aI a0), (7, aD (.slice tI) a1), (8, aI (List.length a1 : Int)), (9, aI (w64 (i11 + (1 : Int))))]) (L' := []) (obs := []) (by kernel_rfl) (by kernel_rfl) (by kernel_rfl) allP0 ?_
        exact round_next' (by kernel_rfl) (by kernel_rfl)
    · obtain rfl := stepL_false h16 h
      refine W_exit (id := 0) [] [] (fr' := []) (L' := []) (by kernel_rfl) (by kernel_rfl) ?_
      refine seqQ_exit ?_
      refine round_exit ?_
      refine escQ_brk ?_
      exact exQ_mk (by kernel_rfl) (by kernel_rfl)
  · intro e fr L hJ
    rcases v19 with v24 | v25
    · obtain ⟨rfl, rfl, rfl⟩ := hJ
      obtain rfl := Option.some.inj h
      refine LT_keep [4] [] (fr' := [(4, aB v24)]) (L' := []) (by kernel_rfl) ?_
      refine blockQ_ret ?_
      refine seqQ_ret ?_
      exact retQ_mk (by kernel_rfl) (by kernel_rfl) (by kernel_rfl)
    · obtain ⟨rfl, rfl, rfl⟩ := hJ
      refine LT_keep [] [] (fr' := []) (L' := []) (by kernel_rfl) ?_
      refine blockQ_hit ?_
      refine seqQ_norm ?_
      refine W_seq (by kernel_rfl) ?_
      refine W_run 1 [] [4] [] (fr' := [(4, aB true)]) (L' := []) (obs := []) (by kernel_rfl) (by kernel_rfl) (by kernel_rfl) allP0 ?_
      refine seqQ_norm ?_
      obtain rfl := Option.some.inj h
      refine W_ret [4] [] (fr' := [(4, aB true)]) (L' := []) (by kernel_rfl) (by kernel_rfl) ?_
      exact retQ_mk (by kernel_rfl) (by kernel_rfl) (by kernel_rfl)

def ref_TableCheck (a0 : Int) (a1 : (List Bool)) (a2 : Int) : Option Int :=
(ref_Within (0 : Int) a0 (4 : Int)).bind fun r1 =>
bif !r1 then
(some (1 : Int))
else
((ck (0 ≤ IntKind.wrap .u64 (a0))).bind fun _ =>
bif (List.length a1 : Int) != (bShl .i64 (1 : Int) (IntKind.wrap .u64 (a0))) then
(some (3 : Int))
else
((ref_Inside (List.length a1 : Int) [a2]).bind fun r6 =>
bif !r6 then
(some (4 : Int))
else
(some (0 : Int))))
theorem ref_TableCheck_ok {a0 : Int} {a1 : (List Bool)} {a2 : Int} {r : Int} (h : ref_TableCheck a0 a1 a2 = some r) : FnC Try.prog 18 [aI a0, aD (.slice .bool) a1, aI a2] [] (aI r) [] := by
  refine fnC_of_W (B := bodyOf Try.f18) (n := 22) Try.func18 (by kernel_rfl) (by kernel_rfl) (by kernel_rfl) (by kernel_rfl) (by kernel_rfl) ?_
  intro K
  refine W_seq (by kernel_rfl) ?_
  refine W_run 1 [] [0, 1, 2] [] (fr' := [(0, aI a0), (1, aD (.slice .bool) a1), (2, aI a2)]) (L' := []) (obs := []) (by kernel_rfl) (by kernel_rfl) (by kernel_rfl) allP0 ?_
  refine seqQ_norm ?_
  refine W_seq (by kernel_rfl) ?_
  refine W_seq (by kernel_rfl) ?_
  refine W_region (by kernel_rfl) ?_
  refine WO_run (j := 1) (k := 1) (orcs := []) (kF := [0, 1, 2, 7]) (kL := []) (fr' := [(0, aI a0), (1, aD (.slice .bool) a1), (2, aI a2), (7, aI a0)]) (L' := []) (obs := []) rfl (by kernel_rfl) allP0 ?_
  obtain ⟨r1, h2, h⟩ := bind_of h
  refine WO_call0 (us := [none, none, none]) (d := 8) (p := True) (j := 2) rfl ⟨by kernel_rfl, by kernel_rfl, by kernel_rfl⟩ trivial (ref_Within_ok h2) (by kernel_rfl) ?_
  refine WO_run (j := 3) (k := 1) (orcs := []) (kF := [0, 1, 2, 9]) (kL := []) (fr' := [(0, aI a0), (1, aD (.slice .bool) a1), (2, aI a2), (9, aB (!r1))]) (L' := []) (obs := []) rfl (by kernel_rfl) allP0 ?_
  refine WO_fin [0, 1, 2, 9] [] (fr' := [(0, aI a0), (1, aD (.slice .bool) a1), (2, aI a2), (9, aB (!r1))]) (L' := []) (by kernel_rfl) (by kernel_rfl) ?_
  refine seqQ_norm ?_
  refine W_cond (o := .tmp 9) (b := !r1) (by kernel_rfl) (by kernel_rfl) (fun h3 => ?_) (fun h3 => ?_)
  · replace h := ofT h3 h
    refine W_seq (by kernel_rfl) ?_
    refine W_run 1 [] [6] [] (fr' := [(6, aI (1 : Int))]) (L' := []) (obs := []) (by kernel_rfl) (by kernel_rfl) (by kernel_rfl) allP0 ?_
    refine seqQ_norm ?_
    obtain rfl := Option.some.inj h
    refine W_ret [6] [] (fr' := [(6, aI (1 : Int))]) (L' := []) (by kernel_rfl) (by kernel_rfl) ?_
    refine seqQ_ret ?_
    exact retQ_mk (by kernel_rfl) (by kernel_rfl) (by kernel_rfl)
  · replace h := ofF h3 h
    refine W_skip [0, 1, 2] [] (fr' := [(0, aI a0), (1, aD (.slice .bool) a1), (2, aI a2)]) (L' := []) (by kernel_rfl) (by kernel_rfl) ?_
    refine seqQ_norm ?_
    refine W_seq (by kernel_rfl) ?_
    refine W_seq (by kernel_rfl) ?_
    obtain ⟨_, h4, h⟩ := bind_of h
    replace h4 := ck_some h4
    refine W_run 6 [] [1, 2, 15] [] (fr' := [(1, aD (.slice .bool) a1), (2, aI a2), (15, aB ((List.length a1 : Int) != (bShl .i64 (1 : Int) (IntKind.wrap .u64 (a0)))))]) (L' := []) (obs := [(0 ≤ IntKind.wrap .u64 (a0))]) (by kernel_rfl) (by kernel_rfl) (by kernel_rfl) (allP1 h4) ?_
    refine seqQ_norm ?_
    refine W_cond (o := .tmp 15) (b := (List.length a1 : Int) != (bShl .i64 (1 : Int) (IntKind.wrap .u64 (a0)))) (by kernel_rfl) (by kernel_rfl) (fun h5 => ?_) (fun h5 => ?_)
    · replace h := ofT h5 h
      refine W_seq (by kernel_rfl) ?_
      refine W_run 1 [] [6] [] (fr' := [(6, aI (3 : Int))]) (L' := []) (obs := []) (by kernel_rfl) (by kernel_rfl) (by kernel_rfl) allP0 ?_
      refine seqQ_norm ?_
      obtain rfl := Option.some.inj h
      refine W_ret [6] [] (fr' := [(6, aI (3 : Int))]) (L' := []) (by kernel_rfl) (by kernel_rfl) ?_
      refine seqQ_ret ?_
      exact retQ_mk (by kernel_rfl) (by kernel_rfl) (by kernel_rfl)
    · replace h := ofF h5 h
      refine W_skip [1, 2] [] (fr' := [(1, aD (.slice .bool) a1), (2, aI a2)]) (L' := []) (by kernel_rfl) (by kernel_rfl) ?_
      refine seqQ_norm ?_
      refine W_seq (by kernel_rfl) ?_
      refine W_seq (by kernel_rfl) ?_
      refine W_region (by kernel_rfl) ?_
      refine WO_run (j := 4) (k := 4) (orcs := []) (kF := [17, 19]) (kL := [19]) (fr' := [(17, aI (List.length a1 : Int)), (19, .one (.slc 19))]) (L' := [(19, .seq tI [a2])]) (obs := []) rfl (by kernel_rfl) allP0 ?_
      obtain ⟨r6, h7, h⟩ := bind_of h
      refine WO_frz 19 (by kernel_rfl) ?_
      refine WO_call0 (us := [none, none]) (d := 20) (p := True) (j := 5) rfl ⟨by kernel_rfl, by kernel_rfl, by kernel_rfl⟩ trivial (ref_Inside_ok h7) (by kernel_rfl) ?_
      refine WO_run (j := 6) (k := 1) (orcs := []) (kF := [21]) (kL := []) (fr' := [(21, aB (!r6))]) (L' := []) (obs := []) rfl (by kernel_rfl) allP0 ?_
      refine WO_fin [21] [] (fr' := [(21, aB (!r6))]) (L' := []) (by kernel_rfl) (by kernel_rfl) ?_
      refine seqQ_norm ?_
      refine W_cond (o := .tmp 21) (b := !r6) (by kernel_rfl) (by kernel_rfl) (fun h8 => ?_) (fun h8 => ?_)
      · replace h := ofT h8 h
        refine W_seq (by kernel_rfl) ?_
        refine W_run 1 [] [6] [] (fr' := [(6, aI (4 : Int))]) (L' := []) (obs := []) (by kernel_rfl) (by kernel_rfl) (by kernel_rfl) allP0 ?_
        refine seqQ_norm ?_
        obtain rfl := Option.some.inj h
        refine W_ret [6] [] (fr' := [(6, aI (4 : Int))]) (L' := []) (by kernel_rfl) (by kernel_rfl) ?_
        refine seqQ_ret ?_
        exact retQ_mk (by kernel_rfl) (by kernel_rfl) (by kernel_rfl)
      · replace h := ofF h8 h
        refine W_skip [] [] (fr' := []) (L' := []) (by kernel_rfl) (by kernel_rfl) ?_
        refine seqQ_norm ?_
        refine W_seq (by kernel_rfl) ?_
        refine W_run 1 [] [6] [] (fr' := [(6, aI (0 : Int))]) (L' := []) (obs := []) (by kernel_rfl) (by kernel_rfl) (by kernel_rfl) allP0 ?_
        refine seqQ_norm ?_
        obtain rfl := Option.some.inj h
        refine W_ret [6] [] (fr' := [(6, aI (0 : Int))]) (L' := []) (by kernel_rfl) (by kernel_rfl) ?_
        exact retQ_mk (by kernel_rfl) (by kernel_rfl) (by kernel_rfl)

@[reducible] def ref_Groups_s13 (a0 : (List Bool)) (a1 : Int) (a2 : Int) (x68 : (Int × Int)) (v : Bool) : Fr × LL := ([(0, aD (.slice .bool) a0), (1, aI a1), (2, aI a2), (7, aI x68.1), (8, aI x68.2), (32, aB v)], [])
def ref_Groups_g14 (a0 : (List Bool)) (a1 : Int) (a2 : Int) (rf_ref_Groups : (List Bool) → Int → Int → Option Int) (x68 : (Int × Int)) : Option Int :=
(bif (bOr .i64 x68.2 a2) != a2 then
(some true)
else
((idx a0 a1).bind fun v189 =>
(idx a0 (bXor .i64 a1 x68.2)).bind fun v191 =>
some (v189 == v191))).bind fun v193 =>
bif v193 then
(some x68.1)
else
((rf_ref_Groups a0 a1 (w64 (a2 - x68.2))).bind fun r196 =>
bif decide ((w64 ((1 : Int) + r196)) > x68.1) then
(some (w64 ((1 : Int) + r196)))
else
(some x68.1))
@[reducible] def ref_Groups_s15 (a0 : (List Bool)) (a1 : Int) (a2 : Int) (x68 : (Int × Int)) (v : Int) : Fr × LL := ([(0, aD (.slice .bool) a0), (1, aI a1), (2, aI a2), (7, aI v), (8, aI x68.2)], [])
def ref_Groups_b16 (a0 : (List Bool)) (a1 : Int) (a2 : Int) (rf_ref_Groups : (List Bool) → Int → Int → Option Int) (x68 : (Int × Int)) : Option (Flow (Int × Int) Int) :=
bif decide (x68.2 ≤ a2) then
((ref_Groups_g14 a0 a1 a2 rf_ref_Groups x68).bind fun v199 =>
some (.next (v199, w64 (x68.2 + (1 : Int)))))
else
(some (.done x68.1))
@[reducible] def ref_Groups_s17 (a0 : (List Bool)) (a1 : Int) (a2 : Int) (v : (Int × Int)) : Fr × LL := ([(0, aD (.slice .bool) a0), (1, aI a1), (2, aI a2), (7, aI v.1), (8, aI v.2)], [])
@[reducible] def ref_Groups_s18 (v : Int) : Fr × LL := ([(7, aI v)], [])
def ref_Groups_step (rf_ref_Groups : (List Bool) → Int → Int → Option Int) (fuel : Nat) (a0 : (List Bool)) (a1 : Int) (a2 : Int) : Option Int :=
(iter (ref_Groups_b16 a0 a1 a2 rf_ref_Groups) fuel ((0 : Int), (1 : Int))).bind fun v201 =>
some v201
def ref_Groups : Nat → (List Bool) → Int → Int → Option Int
  | 0 => fun _ _ _ => none
  | fuel + 1 => fun a0 a1 a2 => ref_Groups_step (ref_Groups fuel) fuel a0 a1 a2
theorem ref_Groups_step_ok {rf_ref_Groups : (List Bool) → Int → Int → Option Int} (ih_ref_Groups : ∀ {a0 : (List Bool)} {a1 : Int} {a2 : Int} {r : Int}, rf_ref_Groups a0 a1 a2 = some r → FnC Try.prog 21 [aD (.slice .bool) a0, aI a1, aI a2] [] (aI r) []) {fuel : Nat} {a0 : (List Bool)} {a1 : Int} {a2 : Int} {r : Int} (h : ref_Groups_step rf_ref_Groups fuel a0 a1 a2 = some r) : FnC Try.prog 21 [aD (.slice .bool) a0, aI a1, aI a2] [] (aI r) [] := by
  refine fnC_of_W (B := bodyOf Try.f21) (n := 45) Try.func21 (by kernel_rfl) (by kernel_rfl) (by kernel_rfl) (by kernel_rfl) (by kernel_rfl) ?_
  intro K
  refine W_seq (by kernel_rfl) ?_
  refine W_run 1 [] [0, 1, 2] [] (fr' := [(0, aD (.slice .bool) a0), (1, aI a1), (2, aI a2)]) (L' := []) (obs := []) (by kernel_rfl) (by kernel_rfl) (by kernel_rfl) allP0 ?_
  refine seqQ_norm ?_
  refine W_seq (by kernel_rfl) ?_
  refine W_run 1 [] [0, 1, 2, 7] [] (fr' := [(0, aD (.slice .bool) a0), (1, aI a1), (2, aI a2), (7, aI (0 : Int))]) (L' := []) (obs := []) (by kernel_rfl) (by kernel_rfl) (by kernel_rfl) allP0 ?_
  refine seqQ_norm ?_
  refine W_seq (by kernel_rfl) ?_
  refine W_seq (by kernel_rfl) ?_
  refine W_run 1 [] [0, 1, 2, 7, 8] [] (fr' := [(0, aD (.slice .bool) a0), (1, aI a1), (2, aI a2), (7, aI (0 : Int)), (8, aI (1 : Int))]) (L' := []) (obs := []) (by kernel_rfl) (by kernel_rfl) (by kernel_rfl) allP0 ?_
  refine seqQ_norm ?_
  refine W_block (id := 0) (by kernel_rfl) ?_
  obtain ⟨v201, h202, h⟩ := bind_of h
  refine W_weaken [0, 1, 2, 7, 8] [] (fr' := ((ref_Groups_s17 a0 a1 a2) ((0 : Int), (1 : Int))).1) (L' := ((ref_Groups_s17 a0 a1 a2) ((0 : Int), (1 : Int))).2) (by kernel_rfl) ?_
  refine W_cutK (W_loop (S := (ref_Groups_s17 a0 a1 a2)) (J := (exQ (.exit 0) ref_Groups_s18)) (by kernel_rfl) ?_ fuel _ v201 h202) ?_
  · rintro x68 s h
    refine W_seq (by kernel_rfl) ?_
    refine W_seq (by kernel_rfl) ?_
    refine W_run 3 [] [0, 1, 2, 7, 8, 12] [] (fr' := [(0, aD (.slice .bool) a0), (1, aI a1), (2, aI a2), (7, aI x68.1), (8, aI x68.2), (12, aB (decide (x68.2 ≤ a2)))]) (L' := []) (obs := []) (by kernel_rfl) (by kernel_rfl) (by kernel_rfl) allP0 ?_
    refine seqQ_norm ?_
    refine W_cond (o := .tmp 12) (b := decide (x68.2 ≤ a2)) (by kernel_rfl) (by kernel_rfl) (fun h135 => ?_) (fun h135 => ?_)
    · replace h := ofT h135 h
      refine W_skip [0, 1, 2, 7, 8] [] (fr' := [(0, aD (.slice .bool) a0), (1, aI a1), (2, aI a2), (7, aI x68.1), (8, aI x68.2)]) (L' := []) (by kernel_rfl) (by kernel_rfl) ?_
      refine seqQ_norm ?_
      refine W_seq (by kernel_rfl) ?_
      obtain ⟨v199, h200, h⟩ := bind_of h
      refine W_cutK (Q' := (exQ .normal (ref_Groups_s15 a0 a1 a2 x68)) v199) ?_ ?_
      · replace h := h200
        refine W_block (id := 1) (by kernel_rfl) ?_
        refine W_seq (by kernel_rfl) ?_
        refine W_seq (by kernel_rfl) ?_
        obtain ⟨v193, h194, h⟩ := bind_of h
        refine W_cutK (Q' := (exQ .normal (ref_Groups_s13 a0 a1 a2 x68)) v193) ?_ ?_
        · replace h := h194
          rcases Bool.eq_false_or_eq_true ((bOr .i64 x68.2 a2) != a2) with h188 | h188
          · replace h := ofT h188 h
            obtain rfl := Option.some.inj h
            refine W_draw2 18 [(12, .known true), (14, .known true), (16, .known true), (18, .known true), (20, .known true), (22, .known true), (24, .known true), (26, .known true), (28, .known true), (30, .known true), (32, .known true), (35, .val (.dat .bool true))] [] [0, 1, 2, 7, 8, 32] [] (fr' := [(0, aD (.slice .bool) a0), (1, aI a1), (2, aI a2), (7, aI x68.1), (8, aI x68.2), (32, aB true)]) (L' := []) (out := [(15, aI x68.2), (16, aI a2), (17, aI (bOr .i64 x68.2 a2)), (18, aI a2), (19, aB ((bOr .i64 x68.2 a2) != a2)), (20, aB ((bOr .i64 x68.2 a2) != a2)), (21, .tup []), (22, .tup []), (23, .tup []), (24, .tup []), (25, .tup []), (26, .tup []), (27, .tup []), (28, .tup []), (29, .tup []), (30, .tup []), (31, .tup []), (32, aB true)]) (obs := [(((bOr .i64 x68.2 a2) != a2) = true), (((bOr .i64 x68.2 a2) != a2) = true), (((bOr .i64 x68.2 a2) != a2) = true), (((bOr .i64 x68.2 a2) != a2) = true), (((bOr .i64 x68.2 a2) != a2) = true), (((bOr .i64 x68.2 a2) != a2) = true), (((bOr .i64 x68.2 a2) != a2) = true), (((bOr .i64 x68.2 a2) != a2) = true), (((bOr .i64 x68.2 a2) != a2) = true), (((bOr .i64 x68.2 a2) != a2) = true), (((bOr .i64 x68.2 a2) != a2) = true), (((bOr .i64 x68.2 a2) != a2) = true)]) (obs2 := []) (calls := []) (by kernel_rfl) (by kernel_rfl) (by kernel_rfl) (by kernel_rfl) (allP2 h188 (allP2 h188 (allP2 h188 (allP2 h188 (allP2 h188 (allP2 h188 (allP2 h188 (allP2 h188 (allP2 h188 (allP2 h188 (allP2 h188 (allP1 h188)))))))))))) allC0 (by kernel_rfl) allP0 ?_
            exact exQ_mk (by kernel_rfl) (by kernel_rfl)
          · replace h := ofF h188 h
            obtain ⟨v189, h190, h⟩ := bind_of h
            obtain ⟨v191, h192, h⟩ := bind_of h
            obtain rfl := Option.some.inj h
            refine W_draw2 18 [(12, .known false), (14, .known false), (16, .known false), (17, .val (.dat .bool v189)), (18, .known false), (20, .known false), (22, .known false), (24, .known false), (26, .known false), (28, .known false), (29, .val (.dat .bool v191)), (30, .known false), (32, .known false), (35, .val (.dat .bool false))] [] [0, 1, 2, 7, 8, 32] [] (fr' := [(0, aD (.slice .bool) a0), (1, aI a1), (2, aI a2), (7, aI x68.1), (8, aI x68.2), (32, aB (v189 == v191))]) (L' := []) (out := [(15, aI x68.2), (16, aI a2), (17, aI (bOr .i64 x68.2 a2)), (18, aI a2), (19, aB ((bOr .i64 x68.2 a2) != a2)), (20, aB ((bOr .i64 x68.2 a2) != a2)), (21, aD (.slice .bool) a0), (22, aI a1), (23, .one (.dptr .bool v189)), (24, aB v189), (25, aD (.slice .bool) a0), (26, aI a1), (27, aI x68.2), (28, aI (bXor .i64 a1 x68.2)), (29, .one (.dptr .bool v191)), (30, aB v191), (31, aB (v189 == v191)), (32, aB (v189 == v191))]) (obs := [(((bOr .i64 x68.2 a2) != a2) = false), (((bOr .i64 x68.2 a2) != a2) = false), (((bOr .i64 x68.2 a2) != a2) = false), Idx a0 a1 v189, (((bOr .i64 x68.2 a2) != a2) = false), (((bOr .i64 x68.2 a2) != a2) = false), (((bOr .i64 x68.2 a2) != a2) = false), (((bOr .i64 x68.2 a2) != a2) = false), (((bOr .i64 x68.2 a2) != a2) = false), (((bOr .i64 x68.2 a2) != a2) = false), Idx a0 (bXor .i64 a1 x68.2) v191, (((bOr .i64 x68.2 a2) != a2) = false), (((bOr .i64 x68.2 a2) != a2) = false), (((bOr .i64 x68.2 a2) != a2) = false)]) (obs2 := []) (calls := []) (by kernel_rfl) (by kernel_rfl) (by kernel_rfl) (by kernel_rfl) (allP2 h188 (allP2 h188 (allP2 h188 (allP2 (Idx.of h190) (allP2 h188 (allP2 h188 (allP2 h188 (allP2 h188 (allP2 h188 (allP2 h188 (allP2 (Idx.of h192) (allP2 h188 (allP2 h188 (allP1 h188)))))))))))))) allC0 (by kernel_rfl) allP0 ?_
            exact exQ_mk (by kernel_rfl) (by kernel_rfl)
        · intro e fr L hJ
          obtain ⟨rfl, rfl, rfl⟩ := hJ
          refine LT_keep [0, 1, 2, 7, 8, 32] [] (fr' := [(0, aD (.slice .bool) a0), (1, aI a1), (2, aI a2), (7, aI x68.1), (8, aI x68.2), (32, aB v193)]) (L' := []) (by kernel_rfl) ?_
          refine seqQ_norm ?_
          refine W_cond (o := .tmp 32) (b := v193) (by kernel_rfl) (by kernel_rfl) (fun h195 => ?_) (fun h195 => ?_)
          · replace h := ofT h195 h
            obtain rfl := Option.some.inj h
            refine W_exit (id := 1) [0, 1, 2, 7, 8] [] (fr' := [(0, aD (.slice .bool) a0), (1, aI a1), (2, aI a2), (7, aI x68.1), (8, aI x68.2)]) (L' := []) (by kernel_rfl) (by kernel_rfl) ?_
            refine seqQ_exit ?_
            refine blockQ_hit ?_
            exact exQ_mk (by kernel_rfl) (by kernel_rfl)
          · replace h := ofF h195 h
            refine W_skip [0, 1, 2, 7, 8] [] (fr' := [(0, aD (.slice .bool) a0), (1, aI a1), (2, aI a2), (7, aI x68.1), (8, aI x68.2)]) (L' := []) (by kernel_rfl) (by kernel_rfl) ?_
            refine seqQ_norm ?_
            refine W_seq (by kernel_rfl) ?_
            refine W_region (by kernel_rfl) ?_
            refine WO_run (j := 5) (k := 5) (orcs := []) (kF := [0, 1, 2, 7, 8, 33, 34, 37]) (kL := []) (fr' := [(0, aD (.slice .bool) a0), (1, aI a1), (2, aI a2), (7, aI x68.1), (8, aI x68.2), (33, aD (.slice .bool) a0), (34, aI a1), (37, aI (w64 (a2 - x68.2)))]) (L' := []) (obs := []) rfl (by kernel_rfl) allP0 ?_
            obtain ⟨r196, h197, h⟩ := bind_of h
            refine WO_call0 (us := [none, none, none]) (d := 38) (p := True) (j := 6) rfl ⟨by kernel_rfl, by kernel_rfl, by kernel_rfl⟩ trivial (ih_ref_Groups h197) (by kernel_rfl) ?_
            refine WO_run (j := 8) (k := 2) (orcs := []) (kF := [0, 1, 2, 7, 8, 9]) (kL := []) (fr' := [(0, aD (.slice .bool) a0), (1, aI a1), (2, aI a2), (7, aI x68.1), (8, aI x68.2), (9, aI (w64 ((1 : Int) + r196)))]) (L' := []) (obs := []) rfl (by kernel_rfl) allP0 ?_
            refine WO_fin [0, 1, 2, 7, 8, 9] [] (fr' := [(0, aD (.slice .bool) a0), (1, aI a1), (2, aI a2), (7, aI x68.1), (8, aI x68.2), (9, aI (w64 ((1 : Int) + r196)))]) (L' := []) (by kernel_rfl) (by kernel_rfl) ?_
            refine seqQ_norm ?_
            refine W_seq (by kernel_rfl) ?_
            refine W_run 3 [] [0, 1, 2, 7, 8, 9, 42] [] (fr' := [(0, aD (.slice .bool) a0), (1, aI a1), (2, aI a2), (7, aI x68.1), (8, aI x68.2), (9, aI (w64 ((1 : Int) + r196))), (42, aB (decide ((w64 ((1 : Int) + r196)) > x68.1)))]) (L' := []) (obs := []) (by kernel_rfl) (by kernel_rfl) (by kernel_rfl) allP0 ?_
            refine seqQ_norm ?_
            refine W_cond (o := .tmp 42) (b := decide ((w64 ((1 : Int) + r196)) > x68.1)) (by kernel_rfl) (by kernel_rfl) (fun h198 => ?_) (fun h198 => ?_)
            · replace h := ofT h198 h
              obtain rfl := Option.some.inj h
              refine W_run 2 [] [0, 1, 2, 7, 8] [] (fr' := [(0, aD (.slice .bool) a0), (1, aI a1), (2, aI a2), (7, aI (w64 ((1 : Int) + r196))), (8, aI x68.2)]) (L' := []) (obs := []) (by kernel_rfl) (by kernel_rfl) (by kernel_rfl) allP0 ?_
              refine blockQ_norm ?_
              exact exQ_mk (by kernel_rfl) (by kernel_rfl)
            · replace h := ofF h198 h
              obtain rfl := Option.some.inj h
              refine W_skip [0, 1, 2, 7, 8] [] (fr' := [(0, aD (.slice .bool) a0), (1, aI a1), (2, aI a2), (7, aI x68.1), (8, aI x68.2)]) (L' := []) (by kernel_rfl) (by kernel_rfl) ?_
              refine blockQ_norm ?_
              exact exQ_mk (by kernel_rfl) (by kernel_rfl)
      · intro e fr L hJ
        obtain ⟨rfl, rfl, rfl⟩ := hJ
        refine LT_keep [0, 1, 2, 7, 8] [] (fr' := [(0, aD (.slice .bool) a0), (1, aI a1), (2, aI a2), (7, aI v199), (8, aI x68.2)]) (L' := []) (by kernel_rfl) ?_
        refine seqQ_norm ?_
        obtain rfl := Option.some.inj h
        refine W_run 3 [] [0, 1, 2, 7, 8] [] (fr' := [(0, aD (.slice .bool) a0), (1, aI a1), (2, aI a2), (7, aI v199), (8, aI (w64 (x68.2 + (1 : Int))))]) (L' := []) (obs := []) (by kernel_rfl) (by kernel_rfl) (by kernel_rfl) allP0 ?_
        exact round_next' (by kernel_rfl) (by kernel_rfl)
    · replace h := ofF h135 h
      obtain rfl := Option.some.inj h
      refine W_exit (id := 0) [7] [] (fr' := [(7, aI x68.1)]) (L' := []) (by kernel_rfl) (by kernel_rfl) ?_
      refine seqQ_exit ?_
      refine round_exit ?_
      exact exQ_mk (by kernel_rfl) (by kernel_rfl)
  · intro e fr L hJ
    obtain ⟨rfl, rfl, rfl⟩ := hJ
    refine LT_keep [7] [] (fr' := [(7, aI v201)]) (L' := []) (by kernel_rfl) ?_
    refine blockQ_hit ?_
    refine seqQ_norm ?_
    refine W_seq (by kernel_rfl) ?_
    refine W_run 2 [] [6] [] (fr' := [(6, aI v201)]) (L' := []) (obs := []) (by kernel_rfl) (by kernel_rfl) (by kernel_rfl) allP0 ?_
    refine seqQ_norm ?_
    obtain rfl := Option.some.inj h
    refine W_ret [6] [] (fr' := [(6, aI v201)]) (L' := []) (by kernel_rfl) (by kernel_rfl) ?_
    exact retQ_mk (by kernel_rfl) (by kernel_rfl) (by kernel_rfl)
theorem ref_Groups_ok : ∀ {fuel : Nat} {a0 : (List Bool)} {a1 : Int} {a2 : Int} {r : Int}, ref_Groups fuel a0 a1 a2 = some r → FnC Try.prog 21 [aD (.slice .bool) a0, aI a1, aI a2] [] (aI r) [] := by
  intro fuel
  induction fuel with
  | zero => intros a0 a1 a2 r h; cases h
  | succ fuel ih => intros a0 a1 a2 r h; exact ref_Groups_step_ok (fun h => ih h) (show ref_Groups_step (ref_Groups fuel) fuel a0 a1 a2 = some r from h)

@[reducible] def law_AskGroups_s3 (a1 : (List Bool)) (r1 : (Int × Int)) (i32 : Int) (v : Int) : Fr × LL := ([(1, aD (.slice .bool) a1), (5, aI r1.1), (6, aI r1.2), (8, aI v), (9, aI i32)], [])
def law_AskGroups_b4 (a1 : (List Bool)) (fuel : Nat) (i32 : Int) (v35 : Bool) (x33 : Int) : Option (Flow Int Int) :=
((ref_Groups fuel a1 i32 (w64 ((List.length a1 : Int) - (1 : Int)))).bind fun r44 =>
bif decide (r44 > x33) then
(some r44)
else
(some x33)).bind fun v47 =>
some (.next v47)
@[reducible] def law_AskGroups_s5 (a1 : (List Bool)) (r1 : (Int × Int)) (v : Int × Int) : Fr × LL := ([(1, aD (.slice .bool) a1), (5, aI r1.1), (6, aI r1.2), (8, aI v.2), (9, aI v.1)], [])
@[reducible] def law_AskGroups_s6 (r1 : (Int × Int)) (v : Int) : Fr × LL := ([(5, aI r1.1), (6, aI r1.2), (8, aI v)], [])
def law_AskGroups (fuel : Nat) (a0 : Int) (a1 : (List Bool)) : Option Bool :=
(ask_Groups fuel a0 a1).bind fun r1 =>
(ref_TableCheck a0 a1 (0 : Int)).bind fun r3 =>
bif r3 != (0 : Int) then
(some ((r1.2 == r3) && (r1.1 == (0 : Int))))
else
((forL (law_AskGroups_b4 a1 fuel) (fun x33 => x33) a1 0 (0 : Int)).bind fun v50 =>
some ((r1.2 == (0 : Int)) && (r1.1 == v50)))
theorem law_AskGroups_ok {fuel : Nat} {a0 : Int} {a1 : (List Bool)} {r : Bool} (h : law_AskGroups fuel a0 a1 = some r) : FnC Try.prog 5 [aI a0, aD (.slice .bool) a1] [] (aB r) [] := by
  refine fnC_of_W (B := bodyOf Try.f5) (n := 52) Try.func5 (by kernel_rfl) (by kernel_rfl) (by kernel_rfl) (by kernel_rfl) (by kernel_rfl) ?_
  intro K
  refine W_seq (by kernel_rfl) ?_
  refine W_run 1 [] [0, 1] [] (fr' := [(0, aI a0), (1, aD (.slice .bool) a1)]) (L' := []) (obs := []) (by kernel_rfl) (by kernel_rfl) (by kernel_rfl) allP0 ?_
  refine seqQ_norm ?_
  refine W_seq (by kernel_rfl) ?_
  refine W_region (by kernel_rfl) ?_
  refine WO_run (j := 2) (k := 2) (orcs := []) (kF := [0, 1, 12, 13]) (kL := []) (fr' := [(0, aI a0), (1, aD (.slice .bool) a1), (12, aI a0), (13, aD (.slice .bool) a1)]) (L' := []) (obs := []) rfl (by kernel_rfl) allP0 ?_
  obtain ⟨r1, h2, h⟩ := bind_of h
  refine WO_call0 (us := [none, none]) (d := 14) (p := True) (j := 3) rfl ⟨by kernel_rfl, by kernel_rfl, by kernel_rfl⟩ trivial (ask_Groups_ok h2) (by kernel_rfl) ?_
  refine WO_run (j := 8) (k := 5) (orcs := []) (kF := [0, 1, 5, 6]) (kL := []) (fr' := [(0, aI a0), (1, aD (.slice .bool) a1), (5, aI r1.1), (6, aI r1.2)]) (L' := []) (obs := []) rfl (by kernel_rfl) allP0 ?_
  refine WO_fin [0, 1, 5, 6] [] (fr' := [(0, aI a0), (1, aD (.slice .bool) a1), (5, aI r1.1), (6, aI r1.2)]) (L' := []) (by kernel_rfl) (by kernel_rfl) ?_
  refine seqQ_norm ?_
  refine W_seq (by kernel_rfl) ?_
  refine W_region (by kernel_rfl) ?_
  refine WO_run (j := 2) (k := 2) (orcs := []) (kF := [1, 5, 6, 17, 18]) (kL := []) (fr' := [(1, aD (.slice .bool) a1), (5, aI r1.1), (6, aI r1.2), (17, aI a0), (18, aD (.slice .bool) a1)]) (L' := []) (obs := []) rfl (by kernel_rfl) allP0 ?_
  obtain ⟨r3, h4, h⟩ := bind_of h
  refine WO_call0 (us := [none, none, none]) (d := 19) (p := True) (j := 3) rfl ⟨by kernel_rfl, by kernel_rfl, by kernel_rfl⟩ trivial (ref_TableCheck_ok h4) (by kernel_rfl) ?_
  refine WO_run (j := 4) (k := 1) (orcs := []) (kF := [1, 5, 6, 7]) (kL := []) (fr' := [(1, aD (.slice .bool) a1), (5, aI r1.1), (6, aI r1.2), (7, aI r3)]) (L' := []) (obs := []) rfl (by kernel_rfl) allP0 ?_
  refine WO_fin [1, 5, 6, 7] [] (fr' := [(1, aD (.slice .bool) a1), (5, aI r1.1), (6, aI r1.2), (7, aI r3)]) (L' := []) (by kernel_rfl) (by kernel_rfl) ?_
  refine seqQ_norm ?_
  refine W_seq (by kernel_rfl) ?_
  refine W_seq (by kernel_rfl) ?_
  refine W_run 2 [] [1, 5, 6, 7, 21] [] (fr' := [(1, aD (.slice .bool) a1), (5, aI r1.1), (6, aI r1.2), (7, aI r3), (21, aB (r3 != (0 : Int)))]) (L' := []) (obs := []) (by kernel_rfl) (by kernel_rfl) (by kernel_rfl) allP0 ?_
  refine seqQ_norm ?_
  refine W_cond (o := .tmp 21) (b := r3 != (0 : Int)) (by kernel_rfl) (by kernel_rfl) (fun h5 => ?_) (fun h5 => ?_)
  · replace h := ofT h5 h
    refine W_seq (by kernel_rfl) ?_
    refine W_run 8 [] [4] [] (fr' := [(4, aB ((r1.2 == r3) && (r1.1 == (0 : Int))))]) (L' := []) (obs := []) (by kernel_rfl) (by kernel_rfl) (by kernel_rfl) allP0 ?_
    refine seqQ_norm ?_
    obtain rfl := Option.some.inj h
    refine W_ret [4] [] (fr' := [(4, aB ((r1.2 == r3) && (r1.1 == (0 : Int))))]) (L' := []) (by kernel_rfl) (by kernel_rfl) ?_
    refine seqQ_ret ?_
    exact retQ_mk (by kernel_rfl) (by kernel_rfl) (by kernel_rfl)
  · replace h := ofF h5 h
    refine W_skip [1, 5, 6] [] (fr' := [(1, aD (.slice .bool) a1), (5, aI r1.1), (6, aI r1.2)]) (L' := []) (by kernel_rfl) (by kernel_rfl) ?_
    refine seqQ_norm ?_
    refine W_seq (by kernel_rfl) ?_
    refine W_run 1 [] [1, 5, 6, 8] [] (fr' := [(1, aD (.slice .bool) a1), (5, aI r1.1), (6, aI r1.2), (8, aI (0 : Int))]) (L' := []) (obs := []) (by kernel_rfl) (by kernel_rfl) (by kernel_rfl) allP0 ?_
    refine seqQ_norm ?_
    refine W_seq (by kernel_rfl) ?_
    refine W_seq (by kernel_rfl) ?_
    refine W_run 1 [] [1, 5, 6, 8, 9] [] (fr' := [(1, aD (.slice .bool) a1), (5, aI r1.1), (6, aI r1.2), (8, aI (0 : Int)), (9, aI (0 : Int))]) (L' := []) (obs := []) (by kernel_rfl) (by kernel_rfl) (by kernel_rfl) allP0 ?_
    refine seqQ_norm ?_
    refine W_block (id := 0) (by kernel_rfl) ?_
    obtain ⟨v50, h51, h⟩ := bind_of h
    refine W_len (t := 1) (u := .bool) (xs := a1) (by kernel_rfl) (fun h54 => ?_)
    obtain ⟨h52, h53⟩ := forL_iter h54 h51
    refine W_weaken [1, 5, 6, 8, 9] [] (fr' := ((law_AskGroups_s5 a1 r1) ((0 : Int), (0 : Int))).1) (L' := ((law_AskGroups_s5 a1 r1) ((0 : Int), (0 : Int))).2) (by kernel_rfl) ?_
    refine W_cutK (W_loop (S := (law_AskGroups_s5 a1 r1)) (J := (exQ (.exit 0) (law_AskGroups_s6 r1))) (by kernel_rfl) ?_ h52 _ v50 h53) ?_
    · rintro ⟨i32, x33⟩ s h
      refine W_seq (by kernel_rfl) ?_
      refine W_seq (by kernel_rfl) ?_
      refine W_run 4 [] [1, 5, 6, 8, 9, 32] [] (fr' := [(1, aD (.slice .bool) a1), (5, aI r1.1), (6, aI r1.2), (8, aI x33), (9, aI i32), (32, aB (decide (i32 < (List.length a1 : Int))))]) (L' := []) (obs := []) (by kernel_rfl) (by kernel_rfl) (by kernel_rfl) allP0 ?_
      refine seqQ_norm ?_
      refine W_cond (o := .tmp 32) (b := decide (i32 < (List.length a1 : Int))) (by kernel_rfl) (by kernel_rfl) (fun h37 => ?_) (fun h37 => ?_)
      · replace h := stepL_true h37 h
        obtain ⟨v35, _, h36, h, rfl⟩ := h
        refine W_skip [1, 5, 6, 8, 9] [] (fr' := [(1, aD (.slice .bool) a1), (5, aI r1.1), (6, aI r1.2), (8, aI x33), (9, aI i32)]) (L' := []) (by kernel_rfl) (by kernel_rfl) ?_
        refine seqQ_norm ?_
        refine W_seq (by kernel_rfl) ?_
        obtain ⟨v47, h48, h⟩ := bind_of h
        refine W_cutK (Q' := (exQ .normal (law_AskGroups_s3 a1 r1 i32)) v47) ?_ ?_
        · replace h := h48
          refine W_block (id := 1) (by kernel_rfl) ?_
          refine W_seq (by kernel_rfl) ?_
          refine W_region (by kernel_rfl) ?_
          refine WO_run (j := 5) (k := 5) (orcs := []) (kF := [1, 5, 6, 8, 9, 35, 36, 39]) (kL := []) (fr' := [(1, aD (.slice .bool) a1), (5, aI r1.1), (6, aI r1.2), (8, aI x33), (9, aI i32), (35, aD (.slice .bool) a1), (36, aI i32), (39, aI (w64 ((List.length a1 : Int) - (1 : Int))))]) (L' := []) (obs := []) rfl (by kernel_rfl) allP0 ?_
          obtain ⟨r44, h45, h⟩ := bind_of h
          refine WO_call0 (us := [none, none, none]) (d := 40) (p := True) (j := 6) rfl ⟨by kernel_rfl, by kernel_rfl, by kernel_rfl⟩ trivial (ref_Groups_ok h45) (by kernel_rfl) ?_
          refine WO_run (j := 7) (k := 1) (orcs := []) (kF := [1, 5, 6, 8, 9, 10]) (kL := []) (fr' := [(1, aD (.slice .bool) a1), (5, aI r1.1), (6, aI r1.2), (8, aI x33), (9, aI i32), (10, aI r44)]) (L' := []) (obs := []) rfl (by kernel_rfl) allP0 ?_
          refine WO_fin [1, 5, 6, 8, 9, 10] [] (fr' := [(1, aD (.slice .bool) a1), (5, aI r1.1), (6, aI r1.2), (8, aI x33), (9, aI i32), (10, aI r44)]) (L' := []) (by kernel_rfl) (by kernel_rfl) ?_
          refine seqQ_norm ?_
          refine W_seq (by kernel_rfl) ?_
          refine W_run 3 [] [1, 5, 6, 8, 9, 10, 43] [] (fr' := [(1, aD (.slice .bool) a1), (5, aI r1.1), (6, aI r1.2), (8, aI x33), (9, aI i32), (10, aI r44), (43, aB (decide (r44 > x33)))]) (L' := []) (obs := []) (by kernel_rfl) (by kernel_rfl) (by kernel_rfl) allP0 ?_
          refine seqQ_norm ?_
          refine W_cond (o := .tmp 43) (b := decide (r44 > x33)) (by kernel_rfl) (by kernel_rfl) (fun h46 => ?_) (fun h46 => ?_)
          · replace h := ofT h46 h
            obtain rfl := Option.some.inj h
            refine W_run 2 [] [1, 5, 6, 8, 9] [] (fr' := [(1, aD (.slice .bool) a1), (5, aI r1.1), (6, aI r1.2), (8, aI r44), (9, aI i32)]) (L' := []) (obs := []) (by kernel_rfl) (by kernel_rfl) (by kernel_rfl) allP0 ?_
            refine blockQ_norm ?_
            exact exQ_mk (by kernel_rfl) (by kernel_rfl)
          · replace h := ofF h46 h
            obtain rfl := Option.some.inj h
            refine W_skip [1, 5, 6, 8, 9] [] (fr' := [(1, aD (.slice .bool) a1), (5, aI r1.1), (6, aI r1.2), (8, aI x33), (9, aI i32)]) (L' := []) (by kernel_rfl) (by kernel_rfl) ?_
            refine blockQ_norm ?_
            exact exQ_mk (by kernel_rfl) (by kernel_rfl)
        · intro e fr L hJ
          obtain ⟨rfl, rfl, rfl⟩ := hJ
          refine LT_keep [1, 5, 6, 8, 9] [] (fr' := [(1, aD (.slice .bool) a1), (5, aI r1.1), (6, aI r1.2), (8, aI v47), (9, aI i32)]) (L' := []) (by kernel_rfl) ?_
          refine seqQ_norm ?_
          obtain rfl := Option.some.inj h
          refine W_run 3 [] [1, 5, 6, 8, 9] [] (fr' := [(1, aD (.slice .bool) a1), (5, aI r1.1), (6, aI r1.2), (8, aI v47), (9, aI (w64 (i32 + (1 : Int))))]) (L' := []) (obs := []) (by kernel_rfl) (by kernel_rfl) (by kernel_rfl) allP0 ?_
          exact round_next' (by kernel_rfl) (by kernel_rfl)
      · obtain rfl := stepL_false h37 h
        refine W_exit (id := 0) [5, 6, 8] [] (fr' := [(5, aI r1.1), (6, aI r1.2), (8, aI x33)]) (L' := []) (by kernel_rfl) (by kernel_rfl) ?_
        refine seqQ_exit ?_
        refine round_exit ?_
        exact exQ_mk (by kernel_rfl) (by kernel_rfl)
    · intro e fr L hJ
      obtain ⟨rfl, rfl, rfl⟩ := hJ
      refine LT_keep [5, 6, 8] [] (fr' := [(5, aI r1.1), (6, aI r1.2), (8, aI v50)]) (L' := []) (by kernel_rfl) ?_
      refine blockQ_hit ?_
      refine seqQ_norm ?_
      refine W_seq (by kernel_rfl) ?_
      refine W_run 8 [] [4] [] (fr' := [(4, aB ((r1.2 == (0 : Int)) && (r1.1 == v50)))]) (L' := []) (obs := []) (by kernel_rfl) (by kernel_rfl) (by kernel_rfl) allP0 ?_
      refine seqQ_norm ?_
      obtain rfl := Option.some.inj h
      refine W_ret [4] [] (fr' := [(4, aB ((r1.2 == (0 : Int)) && (r1.1 == v50)))]) (L' := []) (by kernel_rfl) (by kernel_rfl) ?_
      exact retQ_mk (by kernel_rfl) (by kernel_rfl) (by kernel_rfl)
end Go.Proofs.Ytnlibkamomlccaa.askGroups
