/- What the functions that CellOntos calls compute, as models, and that they compute it: written by a program of mine. -/
import Derived.Test.YtnblafiefaalgaaProg
import Derived.Test.YtnblafiefaalgaaSl6
set_option linter.all false
set_option maxRecDepth 100000
namespace Go.Proofs.Ytnblafiefaalgaa.cellOntos
open Go Go.Sl
def cell_wrong (a0 : Int) : Option Bool :=
some ((decide (a0 < (0 : Int))) || (decide (a0 > (255 : Int))))
theorem cell_wrong_ok {a0 : Int} {r : Bool} (h : cell_wrong a0 = some r) : FnC Try.prog 59 [aI a0] [] (aB r) [] := by
  refine fnC_of_W (B := bodyOf Try.f59) (n := 9) Try.func59 (by kernel_rfl) (by kernel_rfl) (by kernel_rfl) (by kernel_rfl) (by kernel_rfl) ?_
  intro K
  refine W_seq (by kernel_rfl) ?_
  refine W_run 1 [] [0] [] (fr' := [(0, aI a0)]) (L' := []) (obs := []) (by kernel_rfl) (by kernel_rfl) (by kernel_rfl) allP0 ?_
  refine seqQ_norm ?_
  refine W_seq (by kernel_rfl) ?_
  refine W_run 7 [] [2] [] (fr' := [(2, aB ((decide (a0 < (0 : Int))) || (decide (a0 > (255 : Int)))))]) (L' := []) (obs := []) (by kernel_rfl) (by kernel_rfl) (by kernel_rfl) allP0 ?_
  refine seqQ_norm ?_
  obtain rfl := Option.some.inj h
  refine W_ret [2] [] (fr' := [(2, aB ((decide (a0 < (0 : Int))) || (decide (a0 > (255 : Int)))))]) (L' := []) (by kernel_rfl) (by kernel_rfl) ?_
  exact retQ_mk (by kernel_rfl) (by kernel_rfl) (by kernel_rfl)

def cell_set_g23 (a0 : Int) (a1 : Int) (a2 : Int) (i139 : Int) (i187 : Int) (x188 : Int) : Option Int :=
(ck (0 ≤ i139)).bind fun _ =>
bif (bAnd .i64 (bShr .i64 a1 i139) (1 : Int)) == (1 : Int) then
((ck (0 ≤ w64 ((w64 ((2 : Int) * i139)) + i187))).bind fun _ =>
bif (bAnd .i64 (bShr .i64 a0 (w64 ((w64 ((2 : Int) * i139)) + i187))) (1 : Int)) == a2 then
((ck (0 ≤ bAnd .i64 (w64 ((w64 ((2 : Int) * i139)) + i187)) (3 : Int))).bind fun _ =>
some (bOr .i64 x188 (bShl .i64 (1 : Int) (bAnd .i64 (w64 ((w64 ((2 : Int) * i139)) + i187)) (3 : Int)))))
else
(some x188))
else
(some x188)
@[reducible] def cell_set_s24 (a0 : Int) (a1 : Int) (a2 : Int) (i139 : Int) (i187 : Int) (v : Int) : Fr × LL := ([(0, aI a0), (1, aI a1), (2, aI a2), (7, aI v), (8, aI i139), (11, aI i139), (14, aI i187)], [])
def cell_set_b25 (a0 : Int) (a1 : Int) (a2 : Int) (i139 : Int) (i187 : Int) (x188 : Int) : Option (Flow Int Int) :=
(cell_set_g23 a0 a1 a2 i139 i187 x188).bind fun v209 =>
some (.next v209)
@[reducible] def cell_set_s26 (a0 : Int) (a1 : Int) (a2 : Int) (i139 : Int) (v : Int × Int) : Fr × LL := ([(0, aI a0), (1, aI a1), (2, aI a2), (7, aI v.2), (8, aI i139), (11, aI i139), (14, aI v.1)], [])
@[reducible] def cell_set_s27 (a0 : Int) (a1 : Int) (a2 : Int) (i139 : Int) (v : Int) : Fr × LL := ([(0, aI a0), (1, aI a1), (2, aI a2), (7, aI v), (11, aI i139)], [])
def cell_set_b28 (a0 : Int) (a1 : Int) (a2 : Int) (i139 : Int) (x140 : Int) : Option (Flow Int Int) :=
(forI (0 : Int) (2 : Int) (cell_set_b25 a0 a1 a2 i139) (fun x188 => x188) x140).bind fun v212 =>
some (.next v212)
@[reducible] def cell_set_s29 (a0 : Int) (a1 : Int) (a2 : Int) (v : Int × Int) : Fr × LL := ([(0, aI a0), (1, aI a1), (2, aI a2), (7, aI v.2), (11, aI v.1)], [])
@[reducible] def cell_set_s30 (v : Int) : Fr × LL := ([(7, aI v)], [])
def cell_set (a0 : Int) (a1 : Int) (a2 : Int) : Option Int :=
(forI (0 : Int) (4 : Int) (cell_set_b28 a0 a1 a2) (fun x140 => x140) (0 : Int)).bind fun v217 =>
some v217
theorem cell_set_ok {a0 : Int} {a1 : Int} {a2 : Int} {r : Int} (h : cell_set a0 a1 a2 = some r) : FnC Try.prog 86 [aI a0, aI a1, aI a2] [] (aI r) [] := by
  refine fnC_of_W (B := bodyOf Try.f86) (n := 42) Try.func86 (by kernel_rfl) (by kernel_rfl) (by kernel_rfl) (by kernel_rfl) (by kernel_rfl) ?_
  intro K
  refine W_seq (by kernel_rfl) ?_
  refine W_run 1 [] [0, 1, 2] [] (fr' := [(0, aI a0), (1, aI a1), (2, aI a2)]) (L' := []) (obs := []) (by kernel_rfl) (by kernel_rfl) (by kernel_rfl) allP0 ?_
  refine seqQ_norm ?_
  refine W_seq (by kernel_rfl) ?_
  refine W_run 1 [] [0, 1, 2, 7] [] (fr' := [(0, aI a0), (1, aI a1), (2, aI a2), (7, aI (0 : Int))]) (L' := []) (obs := []) (by kernel_rfl) (by kernel_rfl) (by kernel_rfl) allP0 ?_
  refine seqQ_norm ?_
  refine W_seq (by kernel_rfl) ?_
  refine W_seq (by kernel_rfl) ?_
  refine W_run 1 [] [0, 1, 2, 7, 11] [] (fr' := [(0, aI a0), (1, aI a1), (2, aI a2), (7, aI (0 : Int)), (11, aI (0 : Int))]) (L' := []) (obs := []) (by kernel_rfl) (by kernel_rfl) (by kernel_rfl) allP0 ?_
  refine seqQ_norm ?_
  refine W_block (id := 0) (by kernel_rfl) ?_
  obtain ⟨v217, h218, h⟩ := bind_of h
  obtain ⟨h219, h220⟩ := forI_iter h218
  refine W_weaken [0, 1, 2, 7, 11] [] (fr' := ((cell_set_s29 a0 a1 a2) ((0 : Int), (0 : Int))).1) (L' := ((cell_set_s29 a0 a1 a2) ((0 : Int), (0 : Int))).2) (by kernel_rfl) ?_
  refine W_cutK (W_loop (S := (cell_set_s29 a0 a1 a2)) (J := (exQ (.exit 0) cell_set_s30)) (by kernel_rfl) ?_ h219 _ v217 h220) ?_
  · rintro ⟨i139, x140⟩ s h
    refine W_seq (by kernel_rfl) ?_
    refine W_run 1 [] [0, 1, 2, 7, 11, 12] [] (fr' := [(0, aI a0), (1, aI a1), (2, aI a2), (7, aI x140), (11, aI i139), (12, aB (decide (i139 < (4 : Int))))]) (L' := []) (obs := []) (by kernel_rfl) (by kernel_rfl) (by kernel_rfl) allP0 ?_
    refine seqQ_norm ?_
    refine W_seq (by kernel_rfl) ?_
    refine W_cond (o := .tmp 12) (b := decide (i139 < (4 : Int))) (by kernel_rfl) (by kernel_rfl) (fun h142 => ?_) (fun h142 => ?_)
    · replace h := stepI_true h142 h
      obtain ⟨_, h, rfl⟩ := h
      refine W_skip [0, 1, 2, 7, 11] [] (fr' := [(0, aI a0), (1, aI a1), (2, aI a2), (7, aI x140), (11, aI i139)]) (L' := []) (by kernel_rfl) (by kernel_rfl) ?_
      refine seqQ_norm ?_
      refine W_seq (by kernel_rfl) ?_
      refine W_block (id := 1) (by kernel_rfl) ?_
      refine W_seq (by kernel_rfl) ?_
      refine W_run 2 [] [0, 1, 2, 7, 8, 11] [] (fr' := [(0, aI a0), (1, aI a1), (2, aI a2), (7, aI x140), (8, aI i139), (11, aI i139)]) (L' := []) (obs := []) (by kernel_rfl) (by kernel_rfl) (by kernel_rfl) allP0 ?_
      refine seqQ_norm ?_
      refine W_seq (by kernel_rfl) ?_
      refine W_run 1 [] [0, 1, 2, 7, 8, 11, 14] [] (fr' := [(0, aI a0), (1, aI a1), (2, aI a2), (7, aI x140), (8, aI i139), (11, aI i139), (14, aI (0 : Int))]) (L' := []) (obs := []) (by kernel_rfl) (by kernel_rfl) (by kernel_rfl) allP0 ?_
      refine seqQ_norm ?_
      refine W_block (id := 2) (by kernel_rfl) ?_
      obtain ⟨v212, h213, h⟩ := bind_of h
      obtain ⟨h214, h215⟩ := forI_iter h213
      refine W_weaken [0, 1, 2, 7, 8, 11, 14] [] (fr' := ((cell_set_s26 a0 a1 a2 i139) ((0 : Int), x140)).1) (L' := ((cell_set_s26 a0 a1 a2 i139) ((0 : Int), x140)).2) (by kernel_rfl) ?_
      refine W_cutK (W_loop (S := (cell_set_s26 a0 a1 a2 i139)) (J := (exQ (.exit 2) (cell_set_s27 a0 a1 a2 i139))) (by kernel_rfl) ?_ h214 _ v212 h215) ?_
      · rintro ⟨i187, x188⟩ s h
        refine W_seq (by kernel_rfl) ?_
        refine W_run 1 [] [0, 1, 2, 7, 8, 11, 14, 15] [] (fr' := [(0, aI a0), (1, aI a1), (2, aI a2), (7, aI x188), (8, aI i139), (11, aI i139), (14, aI i187), (15, aB (decide (i187 < (2 : Int))))]) (L' := []) (obs := []) (by kernel_rfl) (by kernel_rfl) (by kernel_rfl) allP0 ?_
        refine seqQ_norm ?_
        refine W_seq (by kernel_rfl) ?_
        refine W_cond (o := .tmp 15) (b := decide (i187 < (2 : Int))) (by kernel_rfl) (by kernel_rfl) (fun h190 => ?_) (fun h190 => ?_)
        · replace h := stepI_true h190 h
          obtain ⟨_, h, rfl⟩ := h
          refine W_skip [0, 1, 2, 7, 8, 11, 14] [] (fr' := [(0, aI a0), (1, aI a1), (2, aI a2), (7, aI x188), (8, aI i139), (11, aI i139), (14, aI i187)]) (L' := []) (by kernel_rfl) (by kernel_rfl) ?_
          refine seqQ_norm ?_
          refine W_seq (by kernel_rfl) ?_
          obtain ⟨v209, h210, h⟩ := bind_of h
          refine W_cutK (Q' := (exQ .normal (cell_set_s24 a0 a1 a2 i139 i187)) v209) ?_ ?_
          · replace h := h210
            refine W_block (id := 3) (by kernel_rfl) ?_
            refine W_seq (by kernel_rfl) ?_
            refine W_run 2 [] [0, 1, 2, 7, 8, 9, 11, 14] [] (fr' := [(0, aI a0), (1, aI a1), (2, aI a2), (7, aI x188), (8, aI i139), (9, aI i187), (11, aI i139), (14, aI i187)]) (L' := []) (obs := []) (by kernel_rfl) (by kernel_rfl) (by kernel_rfl) allP0 ?_
            refine seqQ_norm ?_
            refine W_seq (by kernel_rfl) ?_
            refine W_run 5 [] [0, 1, 2, 7, 8, 10, 11, 14] [] (fr' := [(0, aI a0), (1, aI a1), (2, aI a2), (7, aI x188), (8, aI i139), (10, aI (w64 ((w64 ((2 : Int) * i139)) + i187))), (11, aI i139), (14, aI i187)]) (L' := []) (obs := []) (by kernel_rfl) (by kernel_rfl) (by kernel_rfl) allP0 ?_
            refine seqQ_norm ?_
            refine W_seq (by kernel_rfl) ?_
            obtain ⟨_, h203, h⟩ := bind_of h
            replace h203 := ck_some h203
            refine W_region (by kernel_rfl) ?_
            refine WO_run (j := 6) (k := 6) (orcs := []) (kF := [0, 1, 2, 7, 8, 10, 11, 14, 26]) (kL := []) (fr' := [(0, aI a0), (1, aI a1), (2, aI a2), (7, aI x188), (8, aI i139), (10, aI (w64 ((w64 ((2 : Int) * i139)) + i187))), (11, aI i139), (14, aI i187), (26, aB ((bAnd .i64 (bShr .i64 a1 i139) (1 : Int)) == (1 : Int)))]) (L' := []) (obs := [(0 ≤ i139)]) rfl (by kernel_rfl) (allP1 h203) ?_
            rcases Bool.eq_false_or_eq_true ((bAnd .i64 (bShr .i64 a1 i139) (1 : Int)) == (1 : Int)) with h204 | h204
            · replace h := ofT h204 h
              obtain ⟨_, h205, h⟩ := bind_of h
              replace h205 := ck_some h205
              refine WO_run (j := 13) (k := 7) (orcs := [(12, .known true), (14, .known true), (16, .known true), (18, .known true), (20, .known true), (22, .known true), (25, .val (.dat .bool true))]) (kF := [0, 1, 2, 7, 8, 10, 11, 14, 33]) (kL := []) (fr' := [(0, aI a0), (1, aI a1), (2, aI a2), (7, aI x188), (8, aI i139), (10, aI (w64 ((w64 ((2 : Int) * i139)) + i187))), (11, aI i139), (14, aI i187), (33, aB ((bAnd .i64 (bShr .i64 a0 (w64 ((w64 ((2 : Int) * i139)) + i187))) (1 : Int)) == a2))]) (L' := []) (obs := [(((bAnd .i64 (bShr .i64 a1 i139) (1 : Int)) == (1 : Int)) = true), (((bAnd .i64 (bShr .i64 a1 i139) (1 : Int)) == (1 : Int)) = true), (((bAnd .i64 (bShr .i64 a1 i139) (1 : Int)) == (1 : Int)) = true), (0 ≤ w64 ((w64 ((2 : Int) * i139)) + i187)), (((bAnd .i64 (bShr .i64 a1 i139) (1 : Int)) == (1 : Int)) = true), (((bAnd .i64 (bShr .i64 a1 i139) (1 : Int)) == (1 : Int)) = true), (((bAnd .i64 (bShr .i64 a1 i139) (1 : Int)) == (1 : Int)) = true), (((bAnd .i64 (bShr .i64 a1 i139) (1 : Int)) == (1 : Int)) = true)]) rfl (by kernel_rfl) (allP2 h204 (allP2 h204 (allP2 h204 (allP2 h205 (allP2 h204 (allP2 h204 (allP2 h204 (allP1 h204)))))))) ?_
              refine WO_fin [0, 1, 2, 7, 8, 10, 11, 14, 33] [] (fr' := [(0, aI a0), (1, aI a1), (2, aI a2), (7, aI x188), (8, aI i139), (10, aI (w64 ((w64 ((2 : Int) * i139)) + i187))), (11, aI i139), (14, aI i187), (33, aB ((bAnd .i64 (bShr .i64 a0 (w64 ((w64 ((2 : Int) * i139)) + i187))) (1 : Int)) == a2))]) (L' := []) (by kernel_rfl) (by kernel_rfl) ?_
              refine seqQ_norm ?_
              refine W_cond (o := .tmp 33) (b := (bAnd .i64 (bShr .i64 a0 (w64 ((w64 ((2 : Int) * i139)) + i187))) (1 : Int)) == a2) (by kernel_rfl) (by kernel_rfl) (fun h206 => ?_) (fun h206 => ?_)
              · replace h := ofT h206 h
                obtain ⟨_, h207, h⟩ := bind_of h
                replace h207 := ck_some h207
                obtain rfl := Option.some.inj h
                refine W_run 6 [] [0, 1, 2, 7, 8, 11, 14] [] (fr' := [(0, aI a0), (1, aI a1), (2, aI a2), (7, aI (bOr .i64 x188 (bShl .i64 (1 : Int) (bAnd .i64 (w64 ((w64 ((2 : Int) * i139)) + i187)) (3 : Int))))), (8, aI i139), (11, aI i139), (14, aI i187)]) (L' := []) (obs := [(0 ≤ bAnd .i64 (w64 ((w64 ((2 : Int) * i139)) + i187)) (3 : Int))]) (by kernel_rfl) (by kernel_rfl) (by kernel_rfl) (allP1 h207) ?_
                refine blockQ_norm ?_
                exact exQ_mk (by kernel_rfl) (by kernel_rfl)
              · replace h := ofF h206 h
                obtain rfl := Option.some.inj h
                refine W_skip [0, 1, 2, 7, 8, 11, 14] [] (fr' := [(0, aI a0), (1, aI a1), (2, aI a2), (7, aI x188), (8, aI i139), (11, aI i139), (14, aI i187)]) (L' := []) (by kernel_rfl) (by kernel_rfl) ?_
                refine blockQ_norm ?_
                exact exQ_mk (by kernel_rfl) (by kernel_rfl)
            · replace h := ofF h204 h
              refine WO_run (j := 13) (k := 7) (orcs := [(12, .known false), (14, .known false), (16, .known false), (18, .known false), (20, .known false), (22, .known false), (25, .val (.dat .bool false))]) (kF := [0, 1, 2, 7, 8, 10, 11, 14, 33]) (kL := []) (fr' := [(0, aI a0), (1, aI a1), (2, aI a2), (7, aI x188), (8, aI i139), (10, aI (w64 ((w64 ((2 : Int) * i139)) + i187))), (11, aI i139), (14, aI i187), (33, aB false)]) (L' := []) (obs := [(((bAnd .i64 (bShr .i64 a1 i139) (1 : Int)) == (1 : Int)) = false), (((bAnd .i64 (bShr .i64 a1 i139) (1 : Int)) == (1 : Int)) = false), (((bAnd .i64 (bShr .i64 a1 i139) (1 : Int)) == (1 : Int)) = false), (((bAnd .i64 (bShr .i64 a1 i139) (1 : Int)) == (1 : Int)) = false), (((bAnd .i64 (bShr .i64 a1 i139) (1 : Int)) == (1 : Int)) = false), (((bAnd .i64 (bShr .i64 a1 i139) (1 : Int)) == (1 : Int)) = false), (((bAnd .i64 (bShr .i64 a1 i139) (1 : Int)) == (1 : Int)) = false)]) rfl (by kernel_rfl) (allP2 h204 (allP2 h204 (allP2 h204 (allP2 h204 (allP2 h204 (allP2 h204 (allP1 h204))))))) ?_
              refine WO_fin [0, 1, 2, 7, 8, 10, 11, 14, 33] [] (fr' := [(0, aI a0), (1, aI a1), (2, aI a2), (7, aI x188), (8, aI i139), (10, aI (w64 ((w64 ((2 : Int) * i139)) + i187))), (11, aI i139), (14, aI i187), (33, aB false)]) (L' := []) (by kernel_rfl) (by kernel_rfl) ?_
              refine seqQ_norm ?_
              refine W_cond (o := .tmp 33) (b := false) (by kernel_rfl) (by kernel_rfl) (fun h208 => by have := (rfl : false = false).symm.trans h208; cases this) (fun h208 => ?_)
              obtain rfl := Option.some.inj h
              refine W_skip [0, 1, 2, 7, 8, 11, 14] [] (fr' := [(0, aI a0), (1, aI a1), (2, aI a2), (7, aI x188), (8, aI i139), (11, aI i139), (14, aI i187)]) (L' := []) (by kernel_rfl) (by kernel_rfl) ?_
              refine blockQ_norm ?_
              exact exQ_mk (by kernel_rfl) (by kernel_rfl)
          · intro e fr L hJ
            obtain ⟨rfl, rfl, rfl⟩ := hJ
            refine LT_keep [0, 1, 2, 7, 8, 11, 14] [] (fr' := [(0, aI a0), (1, aI a1), (2, aI a2), (7, aI v209), (8, aI i139), (11, aI i139), (14, aI i187)]) (L' := []) (by kernel_rfl) ?_
            refine seqQ_norm ?_
            obtain rfl := Option.some.inj h
            refine W_run 2 [] [0, 1, 2, 7, 8, 11, 14] [] (fr' := [(0, aI a0), (1, aI a1), (2, aI a2), (7, aI v209), (8, aI i139), (11, aI i139), (14, aI (w64 (i187 + (1 : Int))))]) (L' := []) (obs := []) (by kernel_rfl) (by kernel_rfl) (by kernel_rfl) allP0 ?_
            exact round_next' (by kernel_rfl) (by kernel_rfl)
        · obtain rfl := stepI_false h190 h
          refine W_exit (id := 2) [0, 1, 2, 7, 11] [] (fr' := [(0, aI a0), (1, aI a1), (2, aI a2), (7, aI x188), (11, aI i139)]) (L' := []) (by kernel_rfl) (by kernel_rfl) ?_
          refine seqQ_exit ?_
          refine round_exit ?_
          exact exQ_mk (by kernel_rfl) (by kernel_rfl)
      · intro e fr L hJ
        obtain ⟨rfl, rfl, rfl⟩ := hJ
        refine LT_keep [0, 1, 2, 7, 11] [] (fr' := [(0, aI a0), (1, aI a1), (2, aI a2), (7, aI v212), (11, aI i139)]) (L' := []) (by kernel_rfl) ?_
        refine blockQ_hit ?_
        refine blockQ_norm ?_
        refine seqQ_norm ?_
        obtain rfl := Option.some.inj h
        refine W_run 2 [] [0, 1, 2, 7, 11] [] (fr' := [(0, aI a0), (1, aI a1), (2, aI a2), (7, aI v212), (11, aI (w64 (i139 + (1 : Int))))]) (L' := []) (obs := []) (by kernel_rfl) (by kernel_rfl) (by kernel_rfl) allP0 ?_
        exact round_next' (by kernel_rfl) (by kernel_rfl)
    · obtain rfl := stepI_false h142 h
      refine W_exit (id := 0) [7] [] (fr' := [(7, aI x140)]) (L' := []) (by kernel_rfl) (by kernel_rfl) ?_
      refine seqQ_exit ?_
      refine round_exit ?_
      exact exQ_mk (by kernel_rfl) (by kernel_rfl)
  · intro e fr L hJ
    obtain ⟨rfl, rfl, rfl⟩ := hJ
    refine LT_keep [7] [] (fr' := [(7, aI v217)]) (L' := []) (by kernel_rfl) ?_
    refine blockQ_hit ?_
    refine seqQ_norm ?_
    refine W_seq (by kernel_rfl) ?_
    refine W_run 2 [] [6] [] (fr' := [(6, aI v217)]) (L' := []) (obs := []) (by kernel_rfl) (by kernel_rfl) (by kernel_rfl) allP0 ?_
    refine seqQ_norm ?_
    obtain rfl := Option.some.inj h
    refine W_ret [6] [] (fr' := [(6, aI v217)]) (L' := []) (by kernel_rfl) (by kernel_rfl) ?_
    exact retQ_mk (by kernel_rfl) (by kernel_rfl) (by kernel_rfl)

def slices_Clone_Lboolbool (a0 : (List Bool)) : Option (List Bool) :=
(ck ((0 : Int) + (List.length a0 : Int) ≤ 4294967296)).bind fun _ =>
some ([] ++ a0)
theorem slices_Clone_Lboolbool_ok {a0 : (List Bool)} {r : (List Bool)} (h : slices_Clone_Lboolbool a0 = some r) : FnC Try.prog 87 [aD (.slice .bool) a0] [] (.one (.slc 5)) [(5, .seq .bool r)] := by
  refine fnC_of_W (B := bodyOf Try.f87) (n := 8) Try.func87 (by kernel_rfl) (by kernel_rfl) (by kernel_rfl) (by kernel_rfl) (by kernel_rfl) ?_
  intro K
  refine W_seq (by kernel_rfl) ?_
  refine W_run 1 [] [0] [] (fr' := [(0, aD (.slice .bool) a0)]) (L' := []) (obs := []) (by kernel_rfl) (by kernel_rfl) (by kernel_rfl) allP0 ?_
  refine seqQ_norm ?_
  refine W_seq (by kernel_rfl) ?_
  refine W_seq (by kernel_rfl) ?_
  refine W_region (by kernel_rfl) ?_
  refine WO_run (j := 1) (k := 1) (orcs := []) (kF := [0, 3]) (kL := []) (fr' := [(0, aD (.slice .bool) a0), (3, aD (.slice .bool) a0)]) (L' := []) (obs := []) rfl (by kernel_rfl) allP0 ?_
  refine WO_nilcmp (u := .bool) (xs := a0) (d := 4) (j := 2) rfl (by kernel_rfl) (by kernel_rfl) (fun h12 h10 => ?_)
  cases h12
  · refine WO_fin [0, 4] [] (fr' := [(0, aD (.slice .bool) a0), (4, aB false)]) (L' := []) (by kernel_rfl) (by kernel_rfl) ?_
    refine seqQ_norm ?_
    refine W_cond (o := .tmp 4) (b := false) (by kernel_rfl) (by kernel_rfl) (fun h7 => by have := (rfl : false = false).symm.trans h7; cases this) (fun h7 => ?_)
    refine W_skip [0] [] (fr' := [(0, aD (.slice .bool) a0)]) (L' := []) (by kernel_rfl) (by kernel_rfl) ?_
    refine seqQ_norm ?_
    refine W_seq (by kernel_rfl) ?_
    obtain ⟨_, h8, h⟩ := bind_of h
    replace h8 := ck_some h8
    refine W_run 4 [] [2] [5] (fr' := [(2, .one (.slc 5))]) (L' := [(5, .seq .bool ([] ++ a0))]) (obs := [SmallLen (List.length ([] : (List Bool)) + List.length a0)]) (by kernel_rfl) (by kernel_rfl) (by kernel_rfl) (allP1 h8) ?_
    refine seqQ_norm ?_
    obtain rfl := Option.some.inj h
    refine W_ret [2] [5] (fr' := [(2, .one (.slc 5))]) (L' := [(5, .seq .bool ([] ++ a0))]) (by kernel_rfl) (by kernel_rfl) ?_
    exact retQ_mk (by kernel_rfl) (by kernel_rfl) (by kernel_rfl)
  · replace h10 := h10 rfl
    have h11 : (some [] : Option (List Bool)) = ((ck ((0 : Int) + (List.length a0 : Int) ≤ 4294967296)).bind fun _ => some ([] ++ a0)) := by rw [h10]; simp [ck]
    replace h := h11.trans h
    refine WO_fin [0, 4] [] (fr' := [(0, aD (.slice .bool) a0), (4, aB true)]) (L' := []) (by kernel_rfl) (by kernel_rfl) ?_
    refine seqQ_norm ?_
    refine W_cond (o := .tmp 4) (b := true) (by kernel_rfl) (by kernel_rfl) (fun h9 => ?_) (fun h9 => by have := (rfl : true = true).symm.trans h9; cases this)
    refine W_seq (by kernel_rfl) ?_
    refine W_run 1 [] [2] [] (fr' := [(2, .one (.nilS))]) (L' := []) (obs := []) (by kernel_rfl) (by kernel_rfl) (by kernel_rfl) allP0 ?_
    refine seqQ_norm ?_
    obtain rfl := Option.some.inj h
    refine W_mine 2 5 .bool (by kernel_rfl) ?_
    refine W_ret [2] [5] (fr' := [(2, .one (.slc 5))]) (L' := [(5, .seq .bool [])]) (by kernel_rfl) (by kernel_rfl) ?_
    refine seqQ_ret ?_
    exact retQ_mk (by kernel_rfl) (by kernel_rfl) (by kernel_rfl)

def cell_orphan_g24 (a0 : Int) (v300 : (Int × (List Bool))) (i392 : Int) (x393 : ((List Bool) × (List (Int × (List Bool))))) : Option (Esc ((List Bool) × Bool) ((List Bool) × (List (Int × (List Bool))))) :=
(cell_set a0 v300.1 i392).bind fun r424 =>
(slices_Clone_Lboolbool v300.2).bind fun r426 =>
(ck ((List.length r426 : Int) + 1 ≤ 4294967296)).bind fun _ =>
bif r424 == (0 : Int) then
(some (.ret (r426 ++ [i392 == (1 : Int)], true)))
else
((ck (0 ≤ r424 ∧ r424 < 16)).bind fun _ =>
(idx x393.1 r424).bind fun v431 =>
bif !v431 then
((ck ((List.length x393.2 : Int) + (List.length ([(r424, r426 ++ [i392 == (1 : Int)])] : (List (Int × (List Bool)))) : Int) ≤ 4294967296)).bind fun _ =>
some (.brk (List.set x393.1 (Int.toNat r424) true, x393.2 ++ [(r424, r426 ++ [i392 == (1 : Int)])])))
else
(some (.brk (x393.1, x393.2))))
@[reducible] def cell_orphan_s25 (v : ((List Bool) × Bool)) : Fr × LL := ([(2, aD (.slice .bool) v.1), (3, aB v.2)], [])
@[reducible] def cell_orphan_s26 (a0 : Int) (v300 : (Int × (List Bool))) (i392 : Int) (v : ((List Bool) × (List (Int × (List Bool))))) : Fr × LL := ([(0, aI a0), (4, .one (.ptr 4 0)), (5, .one (.slc 11)), (6, .one (.ptr 6 0)), (20, aI i392)], [(4, .one (.arr 16 .bool) v.1), (11, .que (.pair tI (.slice .bool)) v.2), (6, .one (.pair tI (.slice .bool)) v300)])
def cell_orphan_b27 (a0 : Int) (v300 : (Int × (List Bool))) (i392 : Int) (x393 : ((List Bool) × (List (Int × (List Bool))))) : Option (Flow ((List Bool) × (List (Int × (List Bool)))) (Esc ((List Bool) × Bool) ((List Bool) × (List (Int × (List Bool)))))) :=
(cell_orphan_g24 a0 v300 i392 x393).bind fun v435 =>
match v435 with
| .ret v437 =>
(some (.done (.ret (v437.1, v437.2))))
| .brk v438 =>
(some (.next (v438.1, v438.2)))
@[reducible] def cell_orphan_s28 (a0 : Int) (v300 : (Int × (List Bool))) (v : Int × ((List Bool) × (List (Int × (List Bool))))) : Fr × LL := ([(0, aI a0), (4, .one (.ptr 4 0)), (5, .one (.slc 11)), (6, .one (.ptr 6 0)), (20, aI v.1)], [(4, .one (.arr 16 .bool) v.2.1), (11, .que (.pair tI (.slice .bool)) v.2.2), (6, .one (.pair tI (.slice .bool)) v300)])
@[reducible] def cell_orphan_s29 (v : ((List Bool) × Bool)) : Fr × LL := ([(2, aD (.slice .bool) v.1), (3, aB v.2)], [])
@[reducible] def cell_orphan_s30 (a0 : Int) (v : ((List Bool) × (List (Int × (List Bool))))) : Fr × LL := ([(0, aI a0), (4, .one (.ptr 4 0)), (5, .one (.slc 11))], [(4, .one (.arr 16 .bool) v.1), (11, .que (.pair tI (.slice .bool)) v.2)])
def cell_orphan_b31 (a0 : Int) (x150 : ((List Bool) × (List (Int × (List Bool))))) : Option (Flow ((List Bool) × (List (Int × (List Bool)))) (Esc ((List Bool) × Bool) Unit)) :=
bif decide ((List.length x150.2 : Int) > (0 : Int)) then
((idx x150.2 (0 : Int)).bind fun v300 =>
(forI (0 : Int) (2 : Int) (cell_orphan_b27 a0 v300) (fun x393 => (.brk (x393.1, x393.2))) (x150.1, x150.2)).bind fun v440 =>
match v440 with
| .ret v444 =>
(some (.done (.ret (v444.1, v444.2))))
| .brk v445 =>
((ck (0 < List.length v445.2)).bind fun _ =>
some (.next (v445.1, List.drop 1 v445.2))))
else
(some (.done (.brk ())))
@[reducible] def cell_orphan_s32 (a0 : Int) (v : ((List Bool) × (List (Int × (List Bool))))) : Fr × LL := ([(0, aI a0), (4, .one (.ptr 4 0)), (5, .one (.slc 11))], [(4, .one (.arr 16 .bool) v.1), (11, .que (.pair tI (.slice .bool)) v.2)])
@[reducible] def cell_orphan_s33 (v : ((List Bool) × Bool)) : Fr × LL := ([(2, aD (.slice .bool) v.1), (3, aB v.2)], [])
@[reducible] def cell_orphan_s34 (v : Unit) : Fr × LL := ([], [])
def cell_orphan (fuel : Nat) (a0 : Int) : Option ((List Bool) × Bool) :=
(iter (cell_orphan_b31 a0) fuel ([false, false, false, false, false, false, false, false, false, false, false, false, false, false, false, true], [((15 : Int), [])])).bind fun v447 =>
match v447 with
| .ret v451 =>
(some (v451.1, v451.2))
| .brk v452 =>
(some ([], false))
theorem cell_orphan_ok {fuel : Nat} {a0 : Int} {r : ((List Bool) × Bool)} (h : cell_orphan fuel a0 = some r) : FnC Try.prog 60 [aI a0] [] (.tup [.dat (.slice .bool) r.1, .dat .bool r.2]) [] := by
  refine fnC_of_W (B := bodyOf Try.f60) (n := 54) Try.func60 (by kernel_rfl) (by kernel_rfl) (by kernel_rfl) (by kernel_rfl) (by kernel_rfl) ?_
  intro K
  refine W_seq (by kernel_rfl) ?_
  refine W_run 2 [] [0] [] (fr' := [(0, aI a0)]) (L' := []) (obs := []) (by kernel_rfl) (by kernel_rfl) (by kernel_rfl) allP0 ?_
  refine seqQ_norm ?_
  refine W_seq (by kernel_rfl) ?_
  refine W_run 3 [(3, .typed)] [0, 4] [4] (fr' := [(0, aI a0), (4, .one (.ptr 4 0))]) (L' := [(4, .one (.arr 16 .bool) [false, false, false, false, false, false, false, false, false, false, false, false, false, false, false, true])]) (obs := [True]) (by kernel_rfl) (by kernel_rfl) (by kernel_rfl) (allP1 trivial) ?_
  refine seqQ_norm ?_
  refine W_seq (by kernel_rfl) ?_
  refine W_seq (by kernel_rfl) ?_
  refine W_region (by kernel_rfl) ?_
  refine WO_run (j := 2) (k := 2) (orcs := []) (kF := [0, 4, 11]) (kL := [4, 11]) (fr' := [(0, aI a0), (4, .one (.ptr 4 0)), (11, .one (.slc 11))]) (L' := [(4, .one (.arr 16 .bool) [false, false, false, false, false, false, false, false, false, false, false, false, false, false, false, true]), (11, .seq (.pair tI (.slice .bool)) [((15 : Int), [])])]) (obs := []) rfl (by kernel_rfl) allP0 ?_
  refine WO_toq 11 (by kernel_rfl) ?_
  refine WO_run (j := 3) (k := 1) (orcs := []) (kF := [0, 4, 5]) (kL := [4, 11]) (fr' := [(0, aI a0), (4, .one (.ptr 4 0)), (5, .one (.slc 11))]) (L' := [(4, .one (.arr 16 .bool) [false, false, false, false, false, false, false, false, false, false, false, false, false, false, false, true]), (11, .que (.pair tI (.slice .bool)) [((15 : Int), [])])]) (obs := []) rfl (by kernel_rfl) allP0 ?_
  refine WO_fin [0, 4, 5] [4, 11] (fr' := [(0, aI a0), (4, .one (.ptr 4 0)), (5, .one (.slc 11))]) (L' := [(4, .one (.arr 16 .bool) [false, false, false, false, false, false, false, false, false, false, false, false, false, false, false, true]), (11, .que (.pair tI (.slice .bool)) [((15 : Int), [])])]) (by kernel_rfl) (by kernel_rfl) ?_
  refine seqQ_norm ?_
  refine W_block (id := 0) (by kernel_rfl) ?_
  obtain ⟨v447, h448, h⟩ := bind_of h
  refine W_weaken [0, 4, 5] [4, 11] (fr' := ((cell_orphan_s32 a0) ([false, false, false, false, false, false, false, false, false, false, false, false, false, false, false, true], [((15 : Int), [])])).1) (L' := ((cell_orphan_s32 a0) ([false, false, false, false, false, false, false, false, false, false, false, false, false, false, false, true], [((15 : Int), [])])).2) (by kernel_rfl) ?_
  refine W_cutK (W_loop (S := (cell_orphan_s32 a0)) (J := (escQ (exQ .ret cell_orphan_s33) (exQ (.exit 0) cell_orphan_s34))) (by kernel_rfl) ?_ fuel _ v447 h448) ?_
  · rintro x150 s h
    refine W_seq (by kernel_rfl) ?_
    refine W_seq (by kernel_rfl) ?_
    refine W_region (by kernel_rfl) ?_
    refine WO_run (j := 1) (k := 1) (orcs := []) (kF := [0, 4, 5, 12]) (kL := [4, 11]) (fr' := [(0, aI a0), (4, .one (.ptr 4 0)), (5, .one (.slc 11)), (12, .one (.slc 11))]) (L' := [(4, .one (.arr 16 .bool) x150.1), (11, .que (.pair tI (.slice .bool)) x150.2)]) (obs := []) rfl (by kernel_rfl) allP0 ?_
    refine WO_u [0, 4, 5, 12, 13] [4, 11] (fr' := [(0, aI a0), (4, .one (.ptr 4 0)), (5, .one (.slc 11)), (12, .one (.slc 11)), (13, aI (List.length x150.2 : Int))]) (L' := [(4, .one (.arr 16 .bool) x150.1), (11, .que (.pair tI (.slice .bool)) x150.2)]) (p := True) (j := 2) rfl (by kernel_rfl) trivial ?_
    refine WO_run (j := 3) (k := 1) (orcs := []) (kF := [0, 4, 5, 14]) (kL := [4, 11]) (fr' := [(0, aI a0), (4, .one (.ptr 4 0)), (5, .one (.slc 11)), (14, aB (decide ((List.length x150.2 : Int) > (0 : Int))))]) (L' := [(4, .one (.arr 16 .bool) x150.1), (11, .que (.pair tI (.slice .bool)) x150.2)]) (obs := []) rfl (by kernel_rfl) allP0 ?_
    refine WO_fin [0, 4, 5, 14] [4, 11] (fr' := [(0, aI a0), (4, .one (.ptr 4 0)), (5, .one (.slc 11)), (14, aB (decide ((List.length x150.2 : Int) > (0 : Int))))]) (L' := [(4, .one (.arr 16 .bool) x150.1), (11, .que (.pair tI (.slice .bool)) x150.2)]) (by kernel_rfl) (by kernel_rfl) ?_
    refine seqQ_norm ?_
    refine W_cond (o := .tmp 14) (b := decide ((List.length x150.2 : Int) > (0 : Int))) (by kernel_rfl) (by kernel_rfl) (fun h299 => ?_) (fun h299 => ?_)
    · replace h := ofT h299 h
      refine W_skip [0, 4, 5] [4, 11] (fr' := [(0, aI a0), (4, .one (.ptr 4 0)), (5, .one (.slc 11))]) (L' := [(4, .one (.arr 16 .bool) x150.1), (11, .que (.pair tI (.slice .bool)) x150.2)]) (by kernel_rfl) (by kernel_rfl) ?_
      refine seqQ_norm ?_
      refine W_seq (by kernel_rfl) ?_
      refine W_block (id := 1) (by kernel_rfl) ?_
      refine W_seq (by kernel_rfl) ?_
      refine W_region (by kernel_rfl) ?_
      refine WO_run (j := 1) (k := 1) (orcs := []) (kF := [0, 4, 5, 17]) (kL := [4, 11]) (fr' := [(0, aI a0), (4, .one (.ptr 4 0)), (5, .one (.slc 11)), (17, .one (.slc 11))]) (L' := [(4, .one (.arr 16 .bool) x150.1), (11, .que (.pair tI (.slice .bool)) x150.2)]) (obs := []) rfl (by kernel_rfl) allP0 ?_
      obtain ⟨v300, h301, h⟩ := bind_of h
      refine WO_qload 18 19 (.pair tI (.slice .bool)) x150.2 (0 : Int) v300 (j := 3) rfl (by kernel_rfl) (Idx.of h301) ?_
      refine WO_run (j := 5) (k := 2) (orcs := [(7, .typed)]) (kF := [0, 4, 5, 6]) (kL := [4, 6, 11]) (fr' := [(0, aI a0), (4, .one (.ptr 4 0)), (5, .one (.slc 11)), (6, .one (.ptr 6 0))]) (L' := [(4, .one (.arr 16 .bool) x150.1), (6, .one (.pair tI (.slice .bool)) v300), (11, .que (.pair tI (.slice .bool)) x150.2)]) (obs := [True]) rfl (by kernel_rfl) (allP1 trivial) ?_
      refine WO_fin [0, 4, 5, 6] [4, 11, 6] (fr' := [(0, aI a0), (4, .one (.ptr 4 0)), (5, .one (.slc 11)), (6, .one (.ptr 6 0))]) (L' := [(4, .one (.arr 16 .bool) x150.1), (11, .que (.pair tI (.slice .bool)) x150.2), (6, .one (.pair tI (.slice .bool)) v300)]) (by kernel_rfl) (by kernel_rfl) ?_
      refine seqQ_norm ?_
      refine W_seq (by kernel_rfl) ?_
      refine W_run 1 [] [0, 4, 5, 6, 20] [4, 11, 6] (fr' := [(0, aI a0), (4, .one (.ptr 4 0)), (5, .one (.slc 11)), (6, .one (.ptr 6 0)), (20, aI (0 : Int))]) (L' := [(4, .one (.arr 16 .bool) x150.1), (11, .que (.pair tI (.slice .bool)) x150.2), (6, .one (.pair tI (.slice .bool)) v300)]) (obs := []) (by kernel_rfl) (by kernel_rfl) (by kernel_rfl) allP0 ?_
      refine seqQ_norm ?_
      refine W_block (id := 2) (by kernel_rfl) ?_
      obtain ⟨v440, h441, h⟩ := bind_of h
      obtain ⟨h442, h443⟩ := forI_iter h441
      refine W_weaken [0, 4, 5, 6, 20] [4, 11, 6] (fr' := ((cell_orphan_s28 a0 v300) ((0 : Int), (x150.1, x150.2))).1) (L' := ((cell_orphan_s28 a0 v300) ((0 : Int), (x150.1, x150.2))).2) (by kernel_rfl) ?_
      refine W_cutK (W_loop (S := (cell_orphan_s28 a0 v300)) (J := (escQ (exQ .ret cell_orphan_s29) (exQ (.exit 2) (cell_orphan_s30 a0)))) (by kernel_rfl) ?_ h442 _ v440 h443) ?_
      · rintro ⟨i392, x393⟩ s h
        refine W_seq (by kernel_rfl) ?_
        refine W_run 1 [] [0, 4, 5, 6, 20, 21] [4, 11, 6] (fr' := [(0, aI a0), (4, .one (.ptr 4 0)), (5, .one (.slc 11)), (6, .one (.ptr 6 0)), (20, aI i392), (21, aB (decide (i392 < (2 : Int))))]) (L' := [(4, .one (.arr 16 .bool) x393.1), (11, .que (.pair tI (.slice .bool)) x393.2), (6, .one (.pair tI (.slice .bool)) v300)]) (obs := []) (by kernel_rfl) (by kernel_rfl) (by kernel_rfl) allP0 ?_
        refine seqQ_norm ?_
        refine W_seq (by kernel_rfl) ?_
        refine W_cond (o := .tmp 21) (b := decide (i392 < (2 : Int))) (by kernel_rfl) (by kernel_rfl) (fun h395 => ?_) (fun h395 => ?_)
        · replace h := stepI_true h395 h
          obtain ⟨_, h, rfl⟩ := h
          refine W_skip [0, 4, 5, 6, 20] [4, 11, 6] (fr' := [(0, aI a0), (4, .one (.ptr 4 0)), (5, .one (.slc 11)), (6, .one (.ptr 6 0)), (20, aI i392)]) (L' := [(4, .one (.arr 16 .bool) x393.1), (11, .que (.pair tI (.slice .bool)) x393.2), (6, .one (.pair tI (.slice .bool)) v300)]) (by kernel_rfl) (by kernel_rfl) ?_
          refine seqQ_norm ?_
          refine W_seq (by kernel_rfl) ?_
          obtain ⟨v435, h436, h⟩ := bind_of h
          refine W_cutK (Q' := (escQ (exQ .ret cell_orphan_s25) (exQ .normal (cell_orphan_s26 a0 v300 i392))) v435) ?_ ?_
          · replace h := h436
            refine W_block (id := 3) (by kernel_rfl) ?_
            refine W_seq (by kernel_rfl) ?_
            refine W_run 2 [] [0, 4, 5, 6, 7, 20] [4, 11, 6] (fr' := [(0, aI a0), (4, .one (.ptr 4 0)), (5, .one (.slc 11)), (6, .one (.ptr 6 0)), (7, aI i392), (20, aI i392)]) (L' := [(4, .one (.arr 16 .bool) x393.1), (11, .que (.pair tI (.slice .bool)) x393.2), (6, .one (.pair tI (.slice .bool)) v300)]) (obs := []) (by kernel_rfl) (by kernel_rfl) (by kernel_rfl) allP0 ?_
            refine seqQ_norm ?_
            refine W_seq (by kernel_rfl) ?_
            obtain ⟨r424, h425, h⟩ := bind_of h
            obtain ⟨r426, h427, h⟩ := bind_of h
            obtain ⟨_, h428, h⟩ := bind_of h
            replace h428 := ck_some h428
            refine W_drawC5 14 [(7, [30], [(30, .seq .bool r426)]), (11, [30], [])] [(13, 8, .one (.pair tI (.slice .bool)) ((0 : Int), []))] [(7, .one (.slc 30)), (11, aD (.slice .bool) (r426 ++ [i392 == (1 : Int)])), (13, .one (.ptr 8 0))] [] [(4, [none, none, none], aI r424)] [0, 4, 5, 6, 8, 20, 35] [4, 6, 8, 11] (out := [(23, aI a0), (24, .one (.ptr 6 0)), (25, aI v300.1), (26, aI i392), (27, aI r424), (28, .one (.ptr 6 1)), (29, aD (.slice .bool) v300.2), (30, .one (.slc 30)), (31, aI i392), (32, aB (i392 == (1 : Int))), (33, aD (.slice .bool) [i392 == (1 : Int)]), (34, aD (.slice .bool) (r426 ++ [i392 == (1 : Int)])), (35, aD (.pair tI (.slice .bool)) (r424, r426 ++ [i392 == (1 : Int)])), (8, .one (.ptr 8 0))]) (obs := [True, True]) (calls := [(86, [aI a0, aI v300.1, aI i392], aI r424)]) (fr' := [(0, aI a0), (4, .one (.ptr 4 0)), (5, .one (.slc 11)), (6, .one (.ptr 6 0)), (8, .one (.ptr 8 0)), (20, aI i392), (35, aD (.pair tI (.slice .bool)) (r424, r426 ++ [i392 == (1 : Int)]))]) (L' := [(4, .one (.arr 16 .bool) x393.1), (6, .one (.pair tI (.slice .bool)) v300), (8, .one (.pair tI (.slice .bool)) ((0 : Int), [])), (11, .que (.pair tI (.slice .bool)) x393.2)]) (by kernel_rfl) (by kernel_rfl) (by kernel_rfl) (by kernel_rfl) (by kernel_rfl) (allP2 trivial (allP1 trivial)) (allD2 [] _ _ (by kernel_rfl) (cell_set_ok h425) (by kernel_rfl) (by kernel_rfl) (by kernel_rfl) (by kernel_rfl) allD0) (chCall (us := [none]) (d := 30) (t := 30) (p := True) ⟨by kernel_rfl, by kernel_rfl, by kernel_rfl⟩ trivial (slices_Clone_Lboolbool_ok h427) (by kernel_rfl) (by kernel_rfl) (chFz (ty := false) (d := 34) (u := .bool) (xs := r426 ++ [i392 == (1 : Int)]) (p := SmallLen (List.length r426 + List.length [i392 == (1 : Int)])) (by kernel_rfl) h428 (by kernel_rfl) (by kernel_rfl) chNil)) (mkDo (ty := true) (av := .one (.ptr 8 0)) (p := True) (by kernel_rfl) trivial (by kernel_rfl) mkNil) (by kernel_rfl) ?_
            refine WO_run (j := 15) (k := 1) (orcs := []) (kF := [0, 4, 5, 6, 8, 20]) (kL := [4, 6, 8, 11]) (fr' := [(0, aI a0), (4, .one (.ptr 4 0)), (5, .one (.slc 11)), (6, .one (.ptr 6 0)), (8, .one (.ptr 8 0)), (20, aI i392)]) (L' := [(4, .one (.arr 16 .bool) x393.1), (6, .one (.pair tI (.slice .bool)) v300), (8, .one (.pair tI (.slice .bool)) (r424, r426 ++ [i392 == (1 : Int)])), (11, .que (.pair tI (.slice .bool)) x393.2)]) (obs := [True]) rfl (by kernel_rfl) (allP1 trivial) ?_
            refine WO_fin [0, 4, 5, 6, 8, 20] [4, 11, 6, 8] (fr' := [(0, aI a0), (4, .one (.ptr 4 0)), (5, .one (.slc 11)), (6, .one (.ptr 6 0)), (8, .one (.ptr 8 0)), (20, aI i392)]) (L' := [(4, .one (.arr 16 .bool) x393.1), (11, .que (.pair tI (.slice .bool)) x393.2), (6, .one (.pair tI (.slice .bool)) v300), (8, .one (.pair tI (.slice .bool)) (r424, r426 ++ [i392 == (1 : Int)]))]) (by kernel_rfl) (by kernel_rfl) ?_
            refine ⟨rfl, ?_⟩
            refine seqQ_norm ?_
            refine W_seq (by kernel_rfl) ?_
            refine W_seq (by kernel_rfl) ?_
            refine W_run 3 [] [0, 4, 5, 6, 8, 20, 38] [4, 11, 6, 8] (fr' := [(0, aI a0), (4, .one (.ptr 4 0)), (5, .one (.slc 11)), (6, .one (.ptr 6 0)), (8, .one (.ptr 8 0)), (20, aI i392), (38, aB (r424 == (0 : Int)))]) (L' := [(4, .one (.arr 16 .bool) x393.1), (11, .que (.pair tI (.slice .bool)) x393.2), (6, .one (.pair tI (.slice .bool)) v300), (8, .one (.pair tI (.slice .bool)) (r424, r426 ++ [i392 == (1 : Int)]))]) (obs := []) (by kernel_rfl) (by kernel_rfl) (by kernel_rfl) allP0 ?_
            refine seqQ_norm ?_
            refine W_cond (o := .tmp 38) (b := r424 == (0 : Int)) (by kernel_rfl) (by kernel_rfl) (fun h429 => ?_) (fun h429 => ?_)
            · replace h := ofT h429 h
              refine W_seq (by kernel_rfl) ?_
              refine W_run 4 [] [2, 3] [] (fr' := [(2, aD (.slice .bool) (r426 ++ [i392 == (1 : Int)])), (3, aB true)]) (L' := []) (obs := []) (by kernel_rfl) (by kernel_rfl) (by kernel_rfl) allP0 ?_
              refine seqQ_norm ?_
              obtain rfl := Option.some.inj h
              refine W_ret [2, 3] [] (fr' := [(2, aD (.slice .bool) (r426 ++ [i392 == (1 : Int)])), (3, aB true)]) (L' := []) (by kernel_rfl) (by kernel_rfl) ?_
              refine seqQ_ret ?_
              refine blockQ_ret ?_
              refine escQ_ret ?_
              exact exQ_mk (by kernel_rfl) (by kernel_rfl)
            · replace h := ofF h429 h
              refine W_skip [0, 4, 5, 6, 8, 20] [4, 11, 6, 8] (fr' := [(0, aI a0), (4, .one (.ptr 4 0)), (5, .one (.slc 11)), (6, .one (.ptr 6 0)), (8, .one (.ptr 8 0)), (20, aI i392)]) (L' := [(4, .one (.arr 16 .bool) x393.1), (11, .que (.pair tI (.slice .bool)) x393.2), (6, .one (.pair tI (.slice .bool)) v300), (8, .one (.pair tI (.slice .bool)) (r424, r426 ++ [i392 == (1 : Int)]))]) (by kernel_rfl) (by kernel_rfl) ?_
              refine seqQ_norm ?_
              refine W_seq (by kernel_rfl) ?_
              obtain ⟨_, h430, h⟩ := bind_of h
              replace h430 := ck_some h430
              obtain ⟨v431, h432, h⟩ := bind_of h
              refine W_run 5 [(7, .val (.dat .bool v431))] [0, 4, 5, 6, 8, 20, 45] [4, 11, 6, 8] (fr' := [(0, aI a0), (4, .one (.ptr 4 0)), (5, .one (.slc 11)), (6, .one (.ptr 6 0)), (8, .one (.ptr 8 0)), (20, aI i392), (45, aB (!v431))]) (L' := [(4, .one (.arr 16 .bool) x393.1), (11, .que (.pair tI (.slice .bool)) x393.2), (6, .one (.pair tI (.slice .bool)) v300), (8, .one (.pair tI (.slice .bool)) (r424, r426 ++ [i392 == (1 : Int)]))]) (obs := [InR r424 16, Idx x393.1 r424 v431]) (by kernel_rfl) (by kernel_rfl) (by kernel_rfl) (allP2 h430 (allP1 (Idx.of h432))) ?_
              refine seqQ_norm ?_
              refine W_cond (o := .tmp 45) (b := !v431) (by kernel_rfl) (by kernel_rfl) (fun h433 => ?_) (fun h433 => ?_)
              · replace h := ofT h433 h
                refine W_seq (by kernel_rfl) ?_
                refine W_run 4 [] [0, 4, 5, 6, 8, 20] [4, 11, 6, 8] (fr' := [(0, aI a0), (4, .one (.ptr 4 0)), (5, .one (.slc 11)), (6, .one (.ptr 6 0)), (8, .one (.ptr 8 0)), (20, aI i392)]) (L' := [(4, .one (.arr 16 .bool) (List.set x393.1 (Int.toNat r424) true)), (11, .que (.pair tI (.slice .bool)) x393.2), (6, .one (.pair tI (.slice .bool)) v300), (8, .one (.pair tI (.slice .bool)) (r424, r426 ++ [i392 == (1 : Int)]))]) (obs := [InR r424 16, InR r424 (List.length x393.1)]) (by kernel_rfl) (by kernel_rfl) (by kernel_rfl) (allP2 h430 (allP1 (InR.of h432))) ?_
                refine seqQ_norm ?_
                obtain ⟨_, h434, h⟩ := bind_of h
                replace h434 := ck_some h434
                refine W_region (by kernel_rfl) ?_
                refine WO_run (j := 3) (k := 3) (orcs := []) (kF := [0, 4, 5, 6, 20, 49, 51]) (kL := [4, 6, 8, 11, 51]) (fr' := [(0, aI a0), (4, .one (.ptr 4 0)), (5, .one (.slc 11)), (6, .one (.ptr 6 0)), (20, aI i392), (49, .one (.slc 11)), (51, .one (.slc 51))]) (L' := [(4, .one (.arr 16 .bool) (List.set x393.1 (Int.toNat r424) true)), (6, .one (.pair tI (.slice .bool)) v300), (8, .one (.pair tI (.slice .bool)) (r424, r426 ++ [i392 == (1 : Int)])), (11, .que (.pair tI (.slice .bool)) x393.2), (51, .seq (.pair tI (.slice .bool)) [(r424, r426 ++ [i392 == (1 : Int)])])]) (obs := []) rfl (by kernel_rfl) allP0 ?_
                refine WO_u [0, 4, 6, 20, 51, 52] [4, 6, 8, 11, 51] (fr' := [(0, aI a0), (4, .one (.ptr 4 0)), (6, .one (.ptr 6 0)), (20, aI i392), (51, .one (.slc 51)), (52, .one (.slc 11))]) (L' := [(4, .one (.arr 16 .bool) (List.set x393.1 (Int.toNat r424) true)), (6, .one (.pair tI (.slice .bool)) v300), (8, .one (.pair tI (.slice .bool)) (r424, r426 ++ [i392 == (1 : Int)])), (11, .que (.pair tI (.slice .bool)) (x393.2 ++ [(r424, r426 ++ [i392 == (1 : Int)])])), (51, .seq (.pair tI (.slice .bool)) [(r424, r426 ++ [i392 == (1 : Int)])])]) (p := SmallLen (List.length x393.2 + List.length ([(r424, r426 ++ [i392 == (1 : Int)])] : (List (Int × (List Bool)))))) (j := 4) rfl (by kernel_rfl) h434 ?_
                refine WO_run (j := 5) (k := 1) (orcs := []) (kF := [0, 4, 5, 6, 20]) (kL := [4, 6, 8, 11, 51]) (fr' := [(0, aI a0), (4, .one (.ptr 4 0)), (5, .one (.slc 11)), (6, .one (.ptr 6 0)), (20, aI i392)]) (L' := [(4, .one (.arr 16 .bool) (List.set x393.1 (Int.toNat r424) true)), (6, .one (.pair tI (.slice .bool)) v300), (8, .one (.pair tI (.slice .bool)) (r424, r426 ++ [i392 == (1 : Int)])), (11, .que (.pair tI (.slice .bool)) (x393.2 ++ [(r424, r426 ++ [i392 == (1 : Int)])])), (51, .seq (.pair tI (.slice .bool)) [(r424, r426 ++ [i392 == (1 : Int)])])]) (obs := []) rfl (by kernel_rfl) allP0 ?_
                obtain rfl := Option.some.inj h
                refine WO_fin [0, 4, 5, 6, 20] [4, 11, 6] (fr' := [(0, aI a0), (4, .one (.ptr 4 0)), (5, .one (.slc 11)), (6, .one (.ptr 6 0)), (20, aI i392)]) (L' := [(4, .one (.arr 16 .bool) (List.set x393.1 (Int.toNat r424) true)), (11, .que (.pair tI (.slice .bool)) (x393.2 ++ [(r424, r426 ++ [i392 == (1 : Int)])])), (6, .one (.pair tI (.slice .bool)) v300)]) (by kernel_rfl) (by kernel_rfl) ?_
                refine blockQ_norm ?_
                refine escQ_brk ?_
                exact exQ_mk (by kernel_rfl) (by kernel_rfl)
              · replace h := ofF h433 h
                obtain rfl := Option.some.inj h
                refine W_skip [0, 4, 5, 6, 20] [4, 11, 6] (fr' := [(0, aI a0), (4, .one (.ptr 4 0)), (5, .one (.slc 11)), (6, .one (.ptr 6 0)), (20, aI i392)]) (L' := [(4, .one (.arr 16 .bool) x393.1), (11, .que (.pair tI (.slice .bool)) x393.2), (6, .one (.pair tI (.slice .bool)) v300)]) (by kernel_rfl) (by kernel_rfl) ?_
                refine blockQ_norm ?_
                refine escQ_brk ?_
                exact exQ_mk (by kernel_rfl) (by kernel_rfl)
          · intro e fr L hJ
            rcases v435 with v437 | v438
            · obtain ⟨rfl, rfl, rfl⟩ := hJ
              obtain rfl := Option.some.inj h
              refine LT_keep [2, 3] [] (fr' := [(2, aD (.slice .bool) v437.1), (3, aB v437.2)]) (L' := []) (by kernel_rfl) ?_
              refine seqQ_ret ?_
              refine round_ret ?_
              refine escQ_ret ?_
              exact exQ_mk (by kernel_rfl) (by kernel_rfl)
            · obtain ⟨rfl, rfl, rfl⟩ := hJ
              refine LT_keep [0, 4, 5, 6, 20] [4, 11, 6] (fr' := [(0, aI a0), (4, .one (.ptr 4 0)), (5, .one (.slc 11)), (6, .one (.ptr 6 0)), (20, aI i392)]) (L' := [(4, .one (.arr 16 .bool) v438.1), (11, .que (.pair tI (.slice .bool)) v438.2), (6, .one (.pair tI (.slice .bool)) v300)]) (by kernel_rfl) ?_
              refine seqQ_norm ?_
              obtain rfl := Option.some.inj h
              refine W_run 2 [] [0, 4, 5, 6, 20] [4, 11, 6] (fr' := [(0, aI a0), (4, .one (.ptr 4 0)), (5, .one (.slc 11)), (6, .one (.ptr 6 0)), (20, aI (w64 (i392 + (1 : Int))))]) (L' := [(4, .one (.arr 16 .bool) v438.1), (11, .que (.pair tI (.slice .bool)) v438.2), (6, .one (.pair tI (.slice .bool)) v300)]) (obs := []) (by kernel_rfl) (by kernel_rfl) (by kernel_rfl) allP0 ?_
              exact round_next' (by kernel_rfl) (by kernel_rfl)
        · obtain rfl := stepI_false h395 h
          refine W_exit (id := 2) [0, 4, 5] [4, 11] (fr' := [(0, aI a0), (4, .one (.ptr 4 0)), (5, .one (.slc 11))]) (L' := [(4, .one (.arr 16 .bool) x393.1), (11, .que (.pair tI (.slice .bool)) x393.2)]) (by kernel_rfl) (by kernel_rfl) ?_
          refine seqQ_exit ?_
          refine round_exit ?_
          refine escQ_brk ?_
          exact exQ_mk (by kernel_rfl) (by kernel_rfl)
      · intro e fr L hJ
        rcases v440 with v444 | v445
        · obtain ⟨rfl, rfl, rfl⟩ := hJ
          obtain rfl := Option.some.inj h
          refine LT_keep [2, 3] [] (fr' := [(2, aD (.slice .bool) v444.1), (3, aB v444.2)]) (L' := []) (by kernel_rfl) ?_
          refine blockQ_ret ?_
          refine blockQ_ret ?_
          refine seqQ_ret ?_
          refine round_ret ?_
          refine escQ_ret ?_
          exact exQ_mk (by kernel_rfl) (by kernel_rfl)
        · obtain ⟨rfl, rfl, rfl⟩ := hJ
          refine LT_keep [0, 4, 5] [4, 11] (fr' := [(0, aI a0), (4, .one (.ptr 4 0)), (5, .one (.slc 11))]) (L' := [(4, .one (.arr 16 .bool) v445.1), (11, .que (.pair tI (.slice .bool)) v445.2)]) (by kernel_rfl) ?_
          refine blockQ_hit ?_
          refine blockQ_norm ?_
          refine seqQ_norm ?_
          obtain ⟨_, h446, h⟩ := bind_of h
          replace h446 := ck_some h446
          refine W_region (by kernel_rfl) ?_
          refine WO_run (j := 1) (k := 1) (orcs := []) (kF := [0, 4, 5, 15]) (kL := [4, 11]) (fr' := [(0, aI a0), (4, .one (.ptr 4 0)), (5, .one (.slc 11)), (15, .one (.slc 11))]) (L' := [(4, .one (.arr 16 .bool) v445.1), (11, .que (.pair tI (.slice .bool)) v445.2)]) (obs := []) rfl (by kernel_rfl) allP0 ?_
          refine WO_u [0, 4, 16] [4, 11] (fr' := [(0, aI a0), (4, .one (.ptr 4 0)), (16, .one (.slc 11))]) (L' := [(4, .one (.arr 16 .bool) v445.1), (11, .que (.pair tI (.slice .bool)) (List.drop 1 v445.2))]) (p := 0 < List.length v445.2) (j := 2) rfl (by kernel_rfl) h446 ?_
          refine WO_run (j := 3) (k := 1) (orcs := []) (kF := [0, 4, 5]) (kL := [4, 11]) (fr' := [(0, aI a0), (4, .one (.ptr 4 0)), (5, .one (.slc 11))]) (L' := [(4, .one (.arr 16 .bool) v445.1), (11, .que (.pair tI (.slice .bool)) (List.drop 1 v445.2))]) (obs := []) rfl (by kernel_rfl) allP0 ?_
          obtain rfl := Option.some.inj h
          refine WO_fin [0, 4, 5] [4, 11] (fr' := [(0, aI a0), (4, .one (.ptr 4 0)), (5, .one (.slc 11))]) (L' := [(4, .one (.arr 16 .bool) v445.1), (11, .que (.pair tI (.slice .bool)) (List.drop 1 v445.2))]) (by kernel_rfl) (by kernel_rfl) ?_
          exact round_next' (by kernel_rfl) (by kernel_rfl)
    · replace h := ofF h299 h
      obtain rfl := Option.some.inj h
      refine W_exit (id := 0) [] [] (fr' := []) (L' := []) (by kernel_rfl) (by kernel_rfl) ?_
      refine seqQ_exit ?_
      refine round_exit ?_
      refine escQ_brk ?_
      exact exQ_mk (by kernel_rfl) (by kernel_rfl)
  · intro e fr L hJ
    rcases v447 with v451 | v452
    · obtain ⟨rfl, rfl, rfl⟩ := hJ
      obtain rfl := Option.some.inj h
      refine LT_keep [2, 3] [] (fr' := [(2, aD (.slice .bool) v451.1), (3, aB v451.2)]) (L' := []) (by kernel_rfl) ?_
      refine blockQ_ret ?_
      refine seqQ_ret ?_
      exact retQ_mk (by kernel_rfl) (by kernel_rfl) (by kernel_rfl)
    · obtain ⟨rfl, rfl, rfl⟩ := hJ
      refine LT_keep [] [] (fr' := []) (L' := []) (by kernel_rfl) ?_
      refine blockQ_hit ?_
      refine seqQ_norm ?_
      refine W_seq (by kernel_rfl) ?_
      refine W_run 2 [] [2, 3] [] (fr' := [(2, .one (.nilS)), (3, aB false)]) (L' := []) (obs := []) (by kernel_rfl) (by kernel_rfl) (by kernel_rfl) allP0 ?_
      refine seqQ_norm ?_
      obtain rfl := Option.some.inj h
      refine W_cnv 2 (.slice .bool) (by kernel_rfl) ?_
      refine W_ret [2, 3] [] (fr' := [(2, aD (.slice .bool) []), (3, aB false)]) (L' := []) (by kernel_rfl) (by kernel_rfl) ?_
      exact retQ_mk (by kernel_rfl) (by kernel_rfl) (by kernel_rfl)

def cell_Onto (fuel : Nat) (a0 : Int) : Option (Bool × Int) :=
(cell_wrong a0).bind fun r1 =>
bif r1 then
(some (false, (4 : Int)))
else
((cell_orphan fuel a0).bind fun r4 =>
some (!r4.2, (0 : Int)))
theorem cell_Onto_ok {fuel : Nat} {a0 : Int} {r : (Bool × Int)} (h : cell_Onto fuel a0 = some r) : FnC Try.prog 23 [aI a0] [] (.tup [.dat .bool r.1, .dat tI r.2]) [] := by
  refine fnC_of_W (B := bodyOf Try.f23) (n := 15) Try.func23 (by kernel_rfl) (by kernel_rfl) (by kernel_rfl) (by kernel_rfl) (by kernel_rfl) ?_
  intro K
  refine W_seq (by kernel_rfl) ?_
  refine W_run 2 [] [0] [] (fr' := [(0, aI a0)]) (L' := []) (obs := []) (by kernel_rfl) (by kernel_rfl) (by kernel_rfl) allP0 ?_
  refine seqQ_norm ?_
  refine W_seq (by kernel_rfl) ?_
  refine W_seq (by kernel_rfl) ?_
  refine W_region (by kernel_rfl) ?_
  refine WO_run (j := 1) (k := 1) (orcs := []) (kF := [0, 6]) (kL := []) (fr' := [(0, aI a0), (6, aI a0)]) (L' := []) (obs := []) rfl (by kernel_rfl) allP0 ?_
  obtain ⟨r1, h2, h⟩ := bind_of h
  refine WO_call0 (us := [none]) (d := 7) (p := True) (j := 2) rfl ⟨by kernel_rfl, by kernel_rfl, by kernel_rfl⟩ trivial (cell_wrong_ok h2) (by kernel_rfl) ?_
  refine WO_fin [0, 7] [] (fr' := [(0, aI a0), (7, aB r1)]) (L' := []) (by kernel_rfl) (by kernel_rfl) ?_
  refine seqQ_norm ?_
  refine W_cond (o := .tmp 7) (b := r1) (by kernel_rfl) (by kernel_rfl) (fun h3 => ?_) (fun h3 => ?_)
  · replace h := ofT h3 h
    refine W_seq (by kernel_rfl) ?_
    refine W_run 2 [] [2, 3] [] (fr' := [(2, aB false), (3, aI (4 : Int))]) (L' := []) (obs := []) (by kernel_rfl) (by kernel_rfl) (by kernel_rfl) allP0 ?_
    refine seqQ_norm ?_
    obtain rfl := Option.some.inj h
    refine W_ret [2, 3] [] (fr' := [(2, aB false), (3, aI (4 : Int))]) (L' := []) (by kernel_rfl) (by kernel_rfl) ?_
    refine seqQ_ret ?_
    exact retQ_mk (by kernel_rfl) (by kernel_rfl) (by kernel_rfl)
  · replace h := ofF h3 h
    refine W_skip [0] [] (fr' := [(0, aI a0)]) (L' := []) (by kernel_rfl) (by kernel_rfl) ?_
    refine seqQ_norm ?_
    refine W_seq (by kernel_rfl) ?_
    refine W_region (by kernel_rfl) ?_
    refine WO_run (j := 1) (k := 1) (orcs := []) (kF := [9]) (kL := []) (fr' := [(9, aI a0)]) (L' := []) (obs := []) rfl (by kernel_rfl) allP0 ?_
    obtain ⟨r4, h5, h⟩ := bind_of h
    refine WO_call0 (us := [none]) (d := 10) (p := True) (j := 2) rfl ⟨by kernel_rfl, by kernel_rfl, by kernel_rfl⟩ trivial (cell_orphan_ok h5) (by kernel_rfl) ?_
    refine WO_run (j := 7) (k := 5) (orcs := []) (kF := [5]) (kL := []) (fr' := [(5, aB r4.2)]) (L' := []) (obs := []) rfl (by kernel_rfl) allP0 ?_
    refine WO_fin [5] [] (fr' := [(5, aB r4.2)]) (L' := []) (by kernel_rfl) (by kernel_rfl) ?_
    refine seqQ_norm ?_
    refine W_seq (by kernel_rfl) ?_
    refine W_run 4 [] [2, 3] [] (fr' := [(2, aB (!r4.2)), (3, aI (0 : Int))]) (L' := []) (obs := []) (by kernel_rfl) (by kernel_rfl) (by kernel_rfl) allP0 ?_
    refine seqQ_norm ?_
    obtain rfl := Option.some.inj h
    refine W_ret [2, 3] [] (fr' := [(2, aB (!r4.2)), (3, aI (0 : Int))]) (L' := []) (by kernel_rfl) (by kernel_rfl) ?_
    exact retQ_mk (by kernel_rfl) (by kernel_rfl) (by kernel_rfl)

def cell_Orphan (fuel : Nat) (a0 : Int) : Option ((List Bool) × Int) :=
(cell_wrong a0).bind fun r1 =>
bif r1 then
(some ([], (4 : Int)))
else
((cell_orphan fuel a0).bind fun r4 =>
bif !r4.2 then
(some ([], (5 : Int)))
else
(some (r4.1, (0 : Int))))
theorem cell_Orphan_ok {fuel : Nat} {a0 : Int} {r : ((List Bool) × Int)} (h : cell_Orphan fuel a0 = some r) : FnC Try.prog 24 [aI a0] [] (.tup [.dat (.slice .bool) r.1, .dat tI r.2]) [] := by
  refine fnC_of_W (B := bodyOf Try.f24) (n := 16) Try.func24 (by kernel_rfl) (by kernel_rfl) (by kernel_rfl) (by kernel_rfl) (by kernel_rfl) ?_
  intro K
  refine W_seq (by kernel_rfl) ?_
  refine W_run 2 [] [0] [] (fr' := [(0, aI a0)]) (L' := []) (obs := []) (by kernel_rfl) (by kernel_rfl) (by kernel_rfl) allP0 ?_
  refine seqQ_norm ?_
  refine W_seq (by kernel_rfl) ?_
  refine W_seq (by kernel_rfl) ?_
  refine W_region (by kernel_rfl) ?_
  refine WO_run (j := 1) (k := 1) (orcs := []) (kF := [0, 6]) (kL := []) (fr' := [(0, aI a0), (6, aI a0)]) (L' := []) (obs := []) rfl (by kernel_rfl) allP0 ?_
  obtain ⟨r1, h2, h⟩ := bind_of h
  refine WO_call0 (us := [none]) (d := 7) (p := True) (j := 2) rfl ⟨by kernel_rfl, by kernel_rfl, by kernel_rfl⟩ trivial (cell_wrong_ok h2) (by kernel_rfl) ?_
  refine WO_fin [0, 7] [] (fr' := [(0, aI a0), (7, aB r1)]) (L' := []) (by kernel_rfl) (by kernel_rfl) ?_
  refine seqQ_norm ?_
  refine W_cond (o := .tmp 7) (b := r1) (by kernel_rfl) (by kernel_rfl) (fun h3 => ?_) (fun h3 => ?_)
  · replace h := ofT h3 h
    refine W_seq (by kernel_rfl) ?_
    refine W_run 2 [] [2, 3] [] (fr' := [(2, .one (.nilS)), (3, aI (4 : Int))]) (L' := []) (obs := []) (by kernel_rfl) (by kernel_rfl) (by kernel_rfl) allP0 ?_
    refine seqQ_norm ?_
    obtain rfl := Option.some.inj h
    refine W_cnv 2 (.slice .bool) (by kernel_rfl) ?_
    refine W_ret [2, 3] [] (fr' := [(2, aD (.slice .bool) []), (3, aI (4 : Int))]) (L' := []) (by kernel_rfl) (by kernel_rfl) ?_
    refine seqQ_ret ?_
    exact retQ_mk (by kernel_rfl) (by kernel_rfl) (by kernel_rfl)
  · replace h := ofF h3 h
    refine W_skip [0] [] (fr' := [(0, aI a0)]) (L' := []) (by kernel_rfl) (by kernel_rfl) ?_
    refine seqQ_norm ?_
    refine W_seq (by kernel_rfl) ?_
    refine W_region (by kernel_rfl) ?_
    refine WO_run (j := 1) (k := 1) (orcs := []) (kF := [9]) (kL := []) (fr' := [(9, aI a0)]) (L' := []) (obs := []) rfl (by kernel_rfl) allP0 ?_
    obtain ⟨r4, h5, h⟩ := bind_of h
    refine WO_call0 (us := [none]) (d := 10) (p := True) (j := 2) rfl ⟨by kernel_rfl, by kernel_rfl, by kernel_rfl⟩ trivial (cell_orphan_ok h5) (by kernel_rfl) ?_
    refine WO_run (j := 7) (k := 5) (orcs := []) (kF := [4, 5]) (kL := []) (fr' := [(4, aD (.slice .bool) r4.1), (5, aB r4.2)]) (L' := []) (obs := []) rfl (by kernel_rfl) allP0 ?_
    refine WO_fin [4, 5] [] (fr' := [(4, aD (.slice .bool) r4.1), (5, aB r4.2)]) (L' := []) (by kernel_rfl) (by kernel_rfl) ?_
    refine seqQ_norm ?_
    refine W_seq (by kernel_rfl) ?_
    refine W_seq (by kernel_rfl) ?_
    refine W_run 2 [] [4, 14] [] (fr' := [(4, aD (.slice .bool) r4.1), (14, aB (!r4.2))]) (L' := []) (obs := []) (by kernel_rfl) (by kernel_rfl) (by kernel_rfl) allP0 ?_
    refine seqQ_norm ?_
    refine W_cond (o := .tmp 14) (b := !r4.2) (by kernel_rfl) (by kernel_rfl) (fun h6 => ?_) (fun h6 => ?_)
    · replace h := ofT h6 h
      refine W_seq (by kernel_rfl) ?_
      refine W_run 2 [] [2, 3] [] (fr' := [(2, .one (.nilS)), (3, aI (5 : Int))]) (L' := []) (obs := []) (by kernel_rfl) (by kernel_rfl) (by kernel_rfl) allP0 ?_
      refine seqQ_norm ?_
      obtain rfl := Option.some.inj h
      refine W_cnv 2 (.slice .bool) (by kernel_rfl) ?_
      refine W_ret [2, 3] [] (fr' := [(2, aD (.slice .bool) []), (3, aI (5 : Int))]) (L' := []) (by kernel_rfl) (by kernel_rfl) ?_
      refine seqQ_ret ?_
      exact retQ_mk (by kernel_rfl) (by kernel_rfl) (by kernel_rfl)
    · replace h := ofF h6 h
      refine W_skip [4] [] (fr' := [(4, aD (.slice .bool) r4.1)]) (L' := []) (by kernel_rfl) (by kernel_rfl) ?_
      refine seqQ_norm ?_
      refine W_seq (by kernel_rfl) ?_
      refine W_run 3 [] [2, 3] [] (fr' := [(2, aD (.slice .bool) r4.1), (3, aI (0 : Int))]) (L' := []) (obs := []) (by kernel_rfl) (by kernel_rfl) (by kernel_rfl) allP0 ?_
      refine seqQ_norm ?_
      obtain rfl := Option.some.inj h
      refine W_ret [2, 3] [] (fr' := [(2, aD (.slice .bool) r4.1), (3, aI (0 : Int))]) (L' := []) (by kernel_rfl) (by kernel_rfl) ?_
      exact retQ_mk (by kernel_rfl) (by kernel_rfl) (by kernel_rfl)

def ref_Within (a0 : Int) (a1 : Int) (a2 : Int) : Option Bool :=
some ((decide (a0 ≤ a1)) && (decide (a1 ≤ a2)))
theorem ref_Within_ok {a0 : Int} {a1 : Int} {a2 : Int} {r : Bool} (h : ref_Within a0 a1 a2 = some r) : FnC Try.prog 16 [aI a0, aI a1, aI a2] [] (aB r) [] := by
  refine fnC_of_W (B := bodyOf Try.f16) (n := 15) Try.func16 (by kernel_rfl) (by kernel_rfl) (by kernel_rfl) (by kernel_rfl) (by kernel_rfl) ?_
  intro K
  refine W_seq (by kernel_rfl) ?_
  refine W_run 1 [] [0, 1, 2] [] (fr' := [(0, aI a0), (1, aI a1), (2, aI a2)]) (L' := []) (obs := []) (by kernel_rfl) (by kernel_rfl) (by kernel_rfl) allP0 ?_
  refine seqQ_norm ?_
  refine W_seq (by kernel_rfl) ?_
  refine W_run 9 [] [6] [] (fr' := [(6, aB ((decide (a0 ≤ a1)) && (decide (a1 ≤ a2))))]) (L' := []) (obs := []) (by kernel_rfl) (by kernel_rfl) (by kernel_rfl) allP0 ?_
  refine seqQ_norm ?_
  obtain rfl := Option.some.inj h
  refine W_ret [6] [] (fr' := [(6, aB ((decide (a0 ≤ a1)) && (decide (a1 ≤ a2))))]) (L' := []) (by kernel_rfl) (by kernel_rfl) ?_
  exact retQ_mk (by kernel_rfl) (by kernel_rfl) (by kernel_rfl)

def law_ruleCode (a0 : Int) : Option Int :=
(ref_Within (0 : Int) a0 (255 : Int)).bind fun r1 =>
bif !r1 then
(some (4 : Int))
else
(some (0 : Int))
theorem law_ruleCode_ok {a0 : Int} {r : Int} (h : law_ruleCode a0 = some r) : FnC Try.prog 25 [aI a0] [] (aI r) [] := by
  refine fnC_of_W (B := bodyOf Try.f25) (n := 6) Try.func25 (by kernel_rfl) (by kernel_rfl) (by kernel_rfl) (by kernel_rfl) (by kernel_rfl) ?_
  intro K
  refine W_seq (by kernel_rfl) ?_
  refine W_run 1 [] [0] [] (fr' := [(0, aI a0)]) (L' := []) (obs := []) (by kernel_rfl) (by kernel_rfl) (by kernel_rfl) allP0 ?_
  refine seqQ_norm ?_
  refine W_seq (by kernel_rfl) ?_
  refine W_seq (by kernel_rfl) ?_
  refine W_region (by kernel_rfl) ?_
  refine WO_run (j := 1) (k := 1) (orcs := []) (kF := [3]) (kL := []) (fr' := [(3, aI a0)]) (L' := []) (obs := []) rfl (by kernel_rfl) allP0 ?_
  obtain ⟨r1, h2, h⟩ := bind_of h
  refine WO_call0 (us := [none, none, none]) (d := 4) (p := True) (j := 2) rfl ⟨by kernel_rfl, by kernel_rfl, by kernel_rfl⟩ trivial (ref_Within_ok h2) (by kernel_rfl) ?_
  refine WO_run (j := 3) (k := 1) (orcs := []) (kF := [5]) (kL := []) (fr' := [(5, aB (!r1))]) (L' := []) (obs := []) rfl (by kernel_rfl) allP0 ?_
  refine WO_fin [5] [] (fr' := [(5, aB (!r1))]) (L' := []) (by kernel_rfl) (by kernel_rfl) ?_
  refine seqQ_norm ?_
  refine W_cond (o := .tmp 5) (b := !r1) (by kernel_rfl) (by kernel_rfl) (fun h3 => ?_) (fun h3 => ?_)
  · replace h := ofT h3 h
    refine W_seq (by kernel_rfl) ?_
    refine W_run 1 [] [2] [] (fr' := [(2, aI (4 : Int))]) (L' := []) (obs := []) (by kernel_rfl) (by kernel_rfl) (by kernel_rfl) allP0 ?_
    refine seqQ_norm ?_
    obtain rfl := Option.some.inj h
    refine W_ret [2] [] (fr' := [(2, aI (4 : Int))]) (L' := []) (by kernel_rfl) (by kernel_rfl) ?_
    refine seqQ_ret ?_
    exact retQ_mk (by kernel_rfl) (by kernel_rfl) (by kernel_rfl)
  · replace h := ofF h3 h
    refine W_skip [] [] (fr' := []) (L' := []) (by kernel_rfl) (by kernel_rfl) ?_
    refine seqQ_norm ?_
    refine W_seq (by kernel_rfl) ?_
    refine W_run 1 [] [2] [] (fr' := [(2, aI (0 : Int))]) (L' := []) (obs := []) (by kernel_rfl) (by kernel_rfl) (by kernel_rfl) allP0 ?_
    refine seqQ_norm ?_
    obtain rfl := Option.some.inj h
    refine W_ret [2] [] (fr' := [(2, aI (0 : Int))]) (L' := []) (by kernel_rfl) (by kernel_rfl) ?_
    exact retQ_mk (by kernel_rfl) (by kernel_rfl) (by kernel_rfl)

def ref_Bit (a0 : Int) (a1 : Int) : Option Bool :=
bif (decide (a1 ≥ (0 : Int))) && (decide (a1 < (63 : Int))) then
((ck (0 ≤ IntKind.wrap .u64 (a1))).bind fun _ =>
some ((bAnd .i64 a0 (bShl .i64 (1 : Int) (IntKind.wrap .u64 (a1)))) != (0 : Int)))
else
(some false)
theorem ref_Bit_ok {a0 : Int} {a1 : Int} {r : Bool} (h : ref_Bit a0 a1 = some r) : FnC Try.prog 61 [aI a0, aI a1] [] (aB r) [] := by
  refine fnC_of_W (B := bodyOf Try.f61) (n := 19) Try.func61 (by kernel_rfl) (by kernel_rfl) (by kernel_rfl) (by kernel_rfl) (by kernel_rfl) ?_
  intro K
  refine W_seq (by kernel_rfl) ?_
  refine W_run 1 [] [0, 1] [] (fr' := [(0, aI a0), (1, aI a1)]) (L' := []) (obs := []) (by kernel_rfl) (by kernel_rfl) (by kernel_rfl) allP0 ?_
  refine seqQ_norm ?_
  refine W_seq (by kernel_rfl) ?_
  refine W_region (by kernel_rfl) ?_
  refine WO_run (j := 7) (k := 7) (orcs := []) (kF := [0, 1, 11]) (kL := []) (fr' := [(0, aI a0), (1, aI a1), (11, aB ((decide (a1 ≥ (0 : Int))) && (decide (a1 < (63 : Int)))))]) (L' := []) (obs := []) rfl (by kernel_rfl) allP0 ?_
  rcases Bool.eq_false_or_eq_true ((decide (a1 ≥ (0 : Int))) && (decide (a1 < (63 : Int)))) with h1 | h1
  · replace h := ofT h1 h
    obtain ⟨_, h2, h⟩ := bind_of h
    replace h2 := ck_some h2
    refine WO_run (j := 15) (k := 8) (orcs := [(14, .known true), (16, .known true), (18, .known true), (20, .known true), (22, .known true), (24, .known true), (27, .val (.dat .bool true))]) (kF := [4]) (kL := []) (fr' := [(4, aB ((bAnd .i64 a0 (bShl .i64 (1 : Int) (IntKind.wrap .u64 (a1)))) != (0 : Int)))]) (L' := []) (obs := [(((decide (a1 ≥ (0 : Int))) && (decide (a1 < (63 : Int)))) = true), (((decide (a1 ≥ (0 : Int))) && (decide (a1 < (63 : Int)))) = true), (((decide (a1 ≥ (0 : Int))) && (decide (a1 < (63 : Int)))) = true), (((decide (a1 ≥ (0 : Int))) && (decide (a1 < (63 : Int)))) = true), (0 ≤ IntKind.wrap .u64 (a1)), (((decide (a1 ≥ (0 : Int))) && (decide (a1 < (63 : Int)))) = true), (((decide (a1 ≥ (0 : Int))) && (decide (a1 < (63 : Int)))) = true), (((decide (a1 ≥ (0 : Int))) && (decide (a1 < (63 : Int)))) = true)]) rfl (by kernel_rfl) (allP2 h1 (allP2 h1 (allP2 h1 (allP2 h1 (allP2 h2 (allP2 h1 (allP2 h1 (allP1 h1)))))))) ?_
    refine WO_fin [4] [] (fr' := [(4, aB ((bAnd .i64 a0 (bShl .i64 (1 : Int) (IntKind.wrap .u64 (a1)))) != (0 : Int)))]) (L' := []) (by kernel_rfl) (by kernel_rfl) ?_
    refine seqQ_norm ?_
    obtain rfl := Option.some.inj h
    refine W_ret [4] [] (fr' := [(4, aB ((bAnd .i64 a0 (bShl .i64 (1 : Int) (IntKind.wrap .u64 (a1)))) != (0 : Int)))]) (L' := []) (by kernel_rfl) (by kernel_rfl) ?_
    exact retQ_mk (by kernel_rfl) (by kernel_rfl) (by kernel_rfl)
  · replace h := ofF h1 h
    refine WO_run (j := 15) (k := 8) (orcs := [(14, .known false), (16, .known false), (18, .known false), (20, .known false), (22, .known false), (24, .known false), (27, .val (.dat .bool false))]) (kF := [4]) (kL := []) (fr' := [(4, aB false)]) (L' := []) (obs := [(((decide (a1 ≥ (0 : Int))) && (decide (a1 < (63 : Int)))) = false), (((decide (a1 ≥ (0 : Int))) && (decide (a1 < (63 : Int)))) = false), (((decide (a1 ≥ (0 : Int))) && (decide (a1 < (63 : Int)))) = false), (((decide (a1 ≥ (0 : Int))) && (decide (a1 < (63 : Int)))) = false), (((decide (a1 ≥ (0 : Int))) && (decide (a1 < (63 : Int)))) = false), (((decide (a1 ≥ (0 : Int))) && (decide (a1 < (63 : Int)))) = false), (((decide (a1 ≥ (0 : Int))) && (decide (a1 < (63 : Int)))) = false)]) rfl (by kernel_rfl) (allP2 h1 (allP2 h1 (allP2 h1 (allP2 h1 (allP2 h1 (allP2 h1 (allP1 h1))))))) ?_
    refine WO_fin [4] [] (fr' := [(4, aB false)]) (L' := []) (by kernel_rfl) (by kernel_rfl) ?_
    refine seqQ_norm ?_
    obtain rfl := Option.some.inj h
    refine W_ret [4] [] (fr' := [(4, aB false)]) (L' := []) (by kernel_rfl) (by kernel_rfl) ?_
    exact retQ_mk (by kernel_rfl) (by kernel_rfl) (by kernel_rfl)

@[reducible] def ref_Truth_s1 (a0 : Int) (v : Int) : Fr × LL := ([(0, aI a0), (9, aI v)], [])
@[reducible] def ref_Truth_s2 (a0 : Int) (a3 : Bool) (v : Int) : Fr × LL := ([(0, aI a0), (3, aB a3), (9, aI v)], [])
@[reducible] def ref_Truth_s3 (a0 : Int) (a2 : Bool) (a3 : Bool) (v : Int) : Fr × LL := ([(0, aI a0), (2, aB a2), (3, aB a3), (9, aI v)], [])
def ref_Truth (a0 : Int) (a1 : Bool) (a2 : Bool) (a3 : Bool) : Option Bool :=
(bif a1 then
(some (4 : Int))
else
(some (0 : Int))).bind fun v4 =>
(bif a2 then
(some (w64 (v4 + (2 : Int))))
else
(some v4)).bind fun v9 =>
(bif a3 then
(some (w64 (v9 + (1 : Int))))
else
(some v9)).bind fun v14 =>
(ref_Bit a0 v14).bind fun r16 =>
some r16
theorem ref_Truth_ok {a0 : Int} {a1 : Bool} {a2 : Bool} {a3 : Bool} {r : Bool} (h : ref_Truth a0 a1 a2 a3 = some r) : FnC Try.prog 88 [aI a0, aB a1, aB a2, aB a3] [] (aB r) [] := by
  refine fnC_of_W (B := bodyOf Try.f88) (n := 22) Try.func88 (by kernel_rfl) (by kernel_rfl) (by kernel_rfl) (by kernel_rfl) (by kernel_rfl) ?_
  intro K
  refine W_seq (by kernel_rfl) ?_
  refine W_run 1 [] [0, 1, 2, 3] [] (fr' := [(0, aI a0), (1, aB a1), (2, aB a2), (3, aB a3)]) (L' := []) (obs := []) (by kernel_rfl) (by kernel_rfl) (by kernel_rfl) allP0 ?_
  refine seqQ_norm ?_
  refine W_seq (by kernel_rfl) ?_
  refine W_run 1 [] [0, 1, 2, 3, 9] [] (fr' := [(0, aI a0), (1, aB a1), (2, aB a2), (3, aB a3), (9, aI (0 : Int))]) (L' := []) (obs := []) (by kernel_rfl) (by kernel_rfl) (by kernel_rfl) allP0 ?_
  refine seqQ_norm ?_
  refine W_seq (by kernel_rfl) ?_
  obtain ⟨v4, h5, h⟩ := bind_of h
  refine W_cutK (Q' := (exQ .normal (ref_Truth_s3 a0 a2 a3)) v4) ?_ ?_
  · replace h := h5
    refine W_seq (by kernel_rfl) ?_
    refine W_run 1 [] [0, 2, 3, 9, 10] [] (fr' := [(0, aI a0), (2, aB a2), (3, aB a3), (9, aI (0 : Int)), (10, aB a1)]) (L' := []) (obs := []) (by kernel_rfl) (by kernel_rfl) (by kernel_rfl) allP0 ?_
    refine seqQ_norm ?_
    refine W_cond (o := .tmp 10) (b := a1) (by kernel_rfl) (by kernel_rfl) (fun h3 => ?_) (fun h3 => ?_)
    · replace h := ofT h3 h
      obtain rfl := Option.some.inj h
      refine W_run 3 [] [0, 2, 3, 9] [] (fr' := [(0, aI a0), (2, aB a2), (3, aB a3), (9, aI (4 : Int))]) (L' := []) (obs := []) (by kernel_rfl) (by kernel_rfl) (by kernel_rfl) allP0 ?_
      exact exQ_mk (by kernel_rfl) (by kernel_rfl)
    · replace h := ofF h3 h
      obtain rfl := Option.some.inj h
      refine W_skip [0, 2, 3, 9] [] (fr' := [(0, aI a0), (2, aB a2), (3, aB a3), (9, aI (0 : Int))]) (L' := []) (by kernel_rfl) (by kernel_rfl) ?_
      exact exQ_mk (by kernel_rfl) (by kernel_rfl)
  · intro e fr L hJ
    obtain ⟨rfl, rfl, rfl⟩ := hJ
    refine LT_keep [0, 2, 3, 9] [] (fr' := [(0, aI a0), (2, aB a2), (3, aB a3), (9, aI v4)]) (L' := []) (by kernel_rfl) ?_
    refine seqQ_norm ?_
    refine W_seq (by kernel_rfl) ?_
    obtain ⟨v9, h10, h⟩ := bind_of h
    refine W_cutK (Q' := (exQ .normal (ref_Truth_s2 a0 a3)) v9) ?_ ?_
    · replace h := h10
      refine W_seq (by kernel_rfl) ?_
      refine W_run 1 [] [0, 3, 9, 13] [] (fr' := [(0, aI a0), (3, aB a3), (9, aI v4), (13, aB a2)]) (L' := []) (obs := []) (by kernel_rfl) (by kernel_rfl) (by kernel_rfl) allP0 ?_
      refine seqQ_norm ?_
      refine W_cond (o := .tmp 13) (b := a2) (by kernel_rfl) (by kernel_rfl) (fun h8 => ?_) (fun h8 => ?_)
      · replace h := ofT h8 h
        obtain rfl := Option.some.inj h
        refine W_run 3 [] [0, 3, 9] [] (fr' := [(0, aI a0), (3, aB a3), (9, aI (w64 (v4 + (2 : Int))))]) (L' := []) (obs := []) (by kernel_rfl) (by kernel_rfl) (by kernel_rfl) allP0 ?_
        exact exQ_mk (by kernel_rfl) (by kernel_rfl)
      · replace h := ofF h8 h
        obtain rfl := Option.some.inj h
        refine W_skip [0, 3, 9] [] (fr' := [(0, aI a0), (3, aB a3), (9, aI v4)]) (L' := []) (by kernel_rfl) (by kernel_rfl) ?_
        exact exQ_mk (by kernel_rfl) (by kernel_rfl)
    · intro e fr L hJ
      obtain ⟨rfl, rfl, rfl⟩ := hJ
      refine LT_keep [0, 3, 9] [] (fr' := [(0, aI a0), (3, aB a3), (9, aI v9)]) (L' := []) (by kernel_rfl) ?_
      refine seqQ_norm ?_
      refine W_seq (by kernel_rfl) ?_
      obtain ⟨v14, h15, h⟩ := bind_of h
      refine W_cutK (Q' := (exQ .normal (ref_Truth_s1 a0)) v14) ?_ ?_
      · replace h := h15
        refine W_seq (by kernel_rfl) ?_
        refine W_run 1 [] [0, 9, 16] [] (fr' := [(0, aI a0), (9, aI v9), (16, aB a3)]) (L' := []) (obs := []) (by kernel_rfl) (by kernel_rfl) (by kernel_rfl) allP0 ?_
        refine seqQ_norm ?_
        refine W_cond (o := .tmp 16) (b := a3) (by kernel_rfl) (by kernel_rfl) (fun h13 => ?_) (fun h13 => ?_)
        · replace h := ofT h13 h
          obtain rfl := Option.some.inj h
          refine W_run 3 [] [0, 9] [] (fr' := [(0, aI a0), (9, aI (w64 (v9 + (1 : Int))))]) (L' := []) (obs := []) (by kernel_rfl) (by kernel_rfl) (by kernel_rfl) allP0 ?_
          exact exQ_mk (by kernel_rfl) (by kernel_rfl)
        · replace h := ofF h13 h
          obtain rfl := Option.some.inj h
          refine W_skip [0, 9] [] (fr' := [(0, aI a0), (9, aI v9)]) (L' := []) (by kernel_rfl) (by kernel_rfl) ?_
          exact exQ_mk (by kernel_rfl) (by kernel_rfl)
      · intro e fr L hJ
        obtain ⟨rfl, rfl, rfl⟩ := hJ
        refine LT_keep [0, 9] [] (fr' := [(0, aI a0), (9, aI v14)]) (L' := []) (by kernel_rfl) ?_
        refine seqQ_norm ?_
        refine W_seq (by kernel_rfl) ?_
        refine W_region (by kernel_rfl) ?_
        refine WO_run (j := 2) (k := 2) (orcs := []) (kF := [19, 20]) (kL := []) (fr' := [(19, aI a0), (20, aI v14)]) (L' := []) (obs := []) rfl (by kernel_rfl) allP0 ?_
        obtain ⟨r16, h17, h⟩ := bind_of h
        refine WO_call0 (us := [none, none]) (d := 21) (p := True) (j := 3) rfl ⟨by kernel_rfl, by kernel_rfl, by kernel_rfl⟩ trivial (ref_Bit_ok h17) (by kernel_rfl) ?_
        refine WO_run (j := 4) (k := 1) (orcs := []) (kF := [8]) (kL := []) (fr' := [(8, aB r16)]) (L' := []) (obs := []) rfl (by kernel_rfl) allP0 ?_
        refine WO_fin [8] [] (fr' := [(8, aB r16)]) (L' := []) (by kernel_rfl) (by kernel_rfl) ?_
        refine seqQ_norm ?_
        obtain rfl := Option.some.inj h
        refine W_ret [8] [] (fr' := [(8, aB r16)]) (L' := []) (by kernel_rfl) (by kernel_rfl) ?_
        exact retQ_mk (by kernel_rfl) (by kernel_rfl) (by kernel_rfl)

def ref_reached_g225 (a0 : Int) (x1113 : (List Bool)) (v1115 : Bool) (i1520 : Int) (i1652 : Int) : Option Bool :=
(idx x1113 i1520).bind fun v1706 =>
bif v1706 then
((ref_Truth a0 (decide (i1520 ≥ (2 : Int))) ((Int.tmod i1520 (2 : Int)) == (1 : Int)) (i1652 == (1 : Int))).bind fun r1709 =>
some (r1709 == v1115))
else
(some false)
@[reducible] def ref_reached_s226 (a0 : Int) (c0 : (List Bool)) (i1112 : Int) (x1113 : (List Bool)) (v1115 : Bool) (i1520 : Int) (i1652 : Int) (x1653 : (List Bool)) (v : Bool) : Fr × LL := ([(0, aI a0), (5, .one (.slc 11)), (7, aB v1115), (8, .one (.slc 18)), (9, aI i1520), (10, aI i1652), (12, .one (.slc 1000)), (13, aI (List.length c0 : Int)), (14, aI i1112), (43, aB v)], [(11, .seq .bool x1113), (18, .seq .bool x1653), (1000, .seq .bool c0)])
def ref_reached_g227 (a0 : Int) (x1113 : (List Bool)) (v1115 : Bool) (i1520 : Int) (i1652 : Int) (x1653 : (List Bool)) : Option (List Bool) :=
(ref_reached_g225 a0 x1113 v1115 i1520 i1652).bind fun v1711 =>
bif v1711 then
((idx x1653 (w64 ((w64 ((Int.tmod i1520 (2 : Int)) * (2 : Int))) + i1652))).bind fun v1714 =>
some (List.set x1653 (Int.toNat (w64 ((w64 ((Int.tmod i1520 (2 : Int)) * (2 : Int))) + i1652))) true))
else
(some x1653)
@[reducible] def ref_reached_s228 (a0 : Int) (c0 : (List Bool)) (i1112 : Int) (x1113 : (List Bool)) (v1115 : Bool) (i1520 : Int) (i1652 : Int) (v : (List Bool)) : Fr × LL := ([(0, aI a0), (5, .one (.slc 11)), (7, aB v1115), (8, .one (.slc 18)), (9, aI i1520), (10, aI i1652), (12, .one (.slc 1000)), (13, aI (List.length c0 : Int)), (14, aI i1112)], [(11, .seq .bool x1113), (18, .seq .bool v), (1000, .seq .bool c0)])
def ref_reached_b229 (a0 : Int) (x1113 : (List Bool)) (v1115 : Bool) (i1520 : Int) (i1652 : Int) (x1653 : (List Bool)) : Option (Flow (List Bool) (List Bool)) :=
(ref_reached_g227 a0 x1113 v1115 i1520 i1652 x1653).bind fun v1716 =>
some (.next v1716)
@[reducible] def ref_reached_s230 (a0 : Int) (c0 : (List Bool)) (i1112 : Int) (x1113 : (List Bool)) (v1115 : Bool) (i1520 : Int) (v : Int × (List Bool)) : Fr × LL := ([(0, aI a0), (5, .one (.slc 11)), (7, aB v1115), (8, .one (.slc 18)), (9, aI i1520), (10, aI v.1), (12, .one (.slc 1000)), (13, aI (List.length c0 : Int)), (14, aI i1112)], [(11, .seq .bool x1113), (18, .seq .bool v.2), (1000, .seq .bool c0)])
@[reducible] def ref_reached_s231 (a0 : Int) (c0 : (List Bool)) (i1112 : Int) (x1113 : (List Bool)) (v1115 : Bool) (i1520 : Int) (v : (List Bool)) : Fr × LL := ([(0, aI a0), (5, .one (.slc 11)), (7, aB v1115), (8, .one (.slc 18)), (9, aI i1520), (12, .one (.slc 1000)), (13, aI (List.length c0 : Int)), (14, aI i1112)], [(11, .seq .bool x1113), (18, .seq .bool v), (1000, .seq .bool c0)])
def ref_reached_b232 (a0 : Int) (x1113 : (List Bool)) (v1115 : Bool) (i1520 : Int) (x1521 : (List Bool)) : Option (Flow (List Bool) (List Bool)) :=
(forI (0 : Int) (2 : Int) (ref_reached_b229 a0 x1113 v1115 i1520) (fun x1653 => x1653) x1521).bind fun v1719 =>
some (.next v1719)
@[reducible] def ref_reached_s233 (a0 : Int) (c0 : (List Bool)) (i1112 : Int) (x1113 : (List Bool)) (v1115 : Bool) (v : Int × (List Bool)) : Fr × LL := ([(0, aI a0), (5, .one (.slc 11)), (7, aB v1115), (8, .one (.slc 18)), (9, aI v.1), (12, .one (.slc 1000)), (13, aI (List.length c0 : Int)), (14, aI i1112)], [(11, .seq .bool x1113), (18, .seq .bool v.2), (1000, .seq .bool c0)])
@[reducible] def ref_reached_s234 (a0 : Int) (c0 : (List Bool)) (i1112 : Int) (v : (List Bool)) : Fr × LL := ([(0, aI a0), (8, .one (.slc 18)), (12, .one (.slc 1000)), (13, aI (List.length c0 : Int)), (14, aI i1112)], [(18, .seq .bool v), (1000, .seq .bool c0)])
def ref_reached_b235 (a0 : Int) (i1112 : Int) (v1115 : Bool) (x1113 : (List Bool)) : Option (Flow (List Bool) (List Bool)) :=
(forI (0 : Int) (4 : Int) (ref_reached_b232 a0 x1113 v1115) (fun x1521 => x1521) (List.replicate (Int.toNat (4 : Int)) false)).bind fun v1724 =>
some (.next v1724)
@[reducible] def ref_reached_s236 (a0 : Int) (c0 : (List Bool)) (v : Int × (List Bool)) : Fr × LL := ([(0, aI a0), (5, .one (.slc 11)), (12, .one (.slc 1000)), (13, aI (List.length c0 : Int)), (14, aI v.1)], [(11, .seq .bool v.2), (1000, .seq .bool c0)])
@[reducible] def ref_reached_s237 (c0 : (List Bool)) (v : (List Bool)) : Fr × LL := ([(5, .one (.slc 11))], [(11, .seq .bool v), (1000, .seq .bool c0)])
def ref_reached_g238 (v1729 : (List Bool)) : Option Bool :=
(idx v1729 (0 : Int)).bind fun v1756 =>
bif v1756 then
(some true)
else
((idx v1729 (1 : Int)).bind fun v1759 =>
bif v1759 then
(some true)
else
((idx v1729 (2 : Int)).bind fun v1762 =>
bif v1762 then
(some true)
else
((idx v1729 (3 : Int)).bind fun v1765 =>
some v1765)))
@[reducible] def ref_reached_s239 (c0 : (List Bool)) (v : Bool) : Fr × LL := ([(4, aB v)], [(1000, .seq .bool c0)])
def ref_reached (a0 : Int) (c0 : (List Bool)) : Option Bool :=
(forL (ref_reached_b235 a0) (fun x1113 => x1113) c0 0 [true, true, true, true]).bind fun v1729 =>
(ref_reached_g238 v1729).bind fun v1767 =>
some v1767
theorem ref_reached_ok {a0 : Int} {c0 : (List Bool)} {r : Bool} (h : ref_reached a0 c0 = some r) : FnC Try.prog 62 [aI a0, .one (.slc 1000)] [(1000, .seq .bool c0)] (aB r) [(1000, .seq .bool c0)] := by
  refine fnC_of_W (B := bodyOf Try.f62) (n := 71) Try.func62 (by kernel_rfl) (by kernel_rfl) (by kernel_rfl) (by kernel_rfl) (by kernel_rfl) ?_
  intro K
  refine W_seq (by kernel_rfl) ?_
  refine W_run 1 [] [0, 1] [1000] (fr' := [(0, aI a0), (1, .one (.slc 1000))]) (L' := [(1000, .seq .bool c0)]) (obs := []) (by kernel_rfl) (by kernel_rfl) (by kernel_rfl) allP0 ?_
  refine seqQ_norm ?_
  refine W_seq (by kernel_rfl) ?_
  refine W_run 2 [] [0, 1, 5] [1000, 11] (fr' := [(0, aI a0), (1, .one (.slc 1000)), (5, .one (.slc 11))]) (L' := [(1000, .seq .bool c0), (11, .seq .bool [true, true, true, true])]) (obs := []) (by kernel_rfl) (by kernel_rfl) (by kernel_rfl) allP0 ?_
  refine seqQ_norm ?_
  refine W_seq (by kernel_rfl) ?_
  refine W_seq (by kernel_rfl) ?_
  refine W_run 3 [] [0, 5, 12, 13, 14] [11, 1000] (fr' := [(0, aI a0), (5, .one (.slc 11)), (12, .one (.slc 1000)), (13, aI (List.length c0 : Int)), (14, aI (0 : Int))]) (L' := [(11, .seq .bool [true, true, true, true]), (1000, .seq .bool c0)]) (obs := []) (by kernel_rfl) (by kernel_rfl) (by kernel_rfl) allP0 ?_
  refine seqQ_norm ?_
  refine W_block (id := 0) (by kernel_rfl) ?_
  obtain ⟨v1729, h1730, h⟩ := bind_of h
  refine W_lenS (s := 1000) (u := .bool) (xs := c0) (by kernel_rfl) (fun h1733 => ?_)
  obtain ⟨h1731, h1732⟩ := forL_iter h1733 h1730
  refine W_weaken [0, 5, 12, 13, 14] [11, 1000] (fr' := ((ref_reached_s236 a0 c0) ((0 : Int), [true, true, true, true])).1) (L' := ((ref_reached_s236 a0 c0) ((0 : Int), [true, true, true, true])).2) (by kernel_rfl) ?_
  refine W_cutK (W_loop (S := (ref_reached_s236 a0 c0)) (J := (exQ (.exit 0) (ref_reached_s237 c0))) (by kernel_rfl) ?_ h1731 _ v1729 h1732) ?_
  · rintro ⟨i1112, x1113⟩ s h
    refine W_seq (by kernel_rfl) ?_
    refine W_run 1 [] [0, 5, 12, 13, 14, 15] [11, 1000] (fr' := [(0, aI a0), (5, .one (.slc 11)), (12, .one (.slc 1000)), (13, aI (List.length c0 : Int)), (14, aI i1112), (15, aB (decide (i1112 < (List.length c0 : Int))))]) (L' := [(11, .seq .bool x1113), (1000, .seq .bool c0)]) (obs := []) (by kernel_rfl) (by kernel_rfl) (by kernel_rfl) allP0 ?_
    refine seqQ_norm ?_
    refine W_seq (by kernel_rfl) ?_
    refine W_cond (o := .tmp 15) (b := decide (i1112 < (List.length c0 : Int))) (by kernel_rfl) (by kernel_rfl) (fun h1117 => ?_) (fun h1117 => ?_)
    · replace h := stepL_true h1117 h
      obtain ⟨v1115, _, h1116, h, rfl⟩ := h
      refine W_skip [0, 5, 12, 13, 14] [11, 1000] (fr' := [(0, aI a0), (5, .one (.slc 11)), (12, .one (.slc 1000)), (13, aI (List.length c0 : Int)), (14, aI i1112)]) (L' := [(11, .seq .bool x1113), (1000, .seq .bool c0)]) (by kernel_rfl) (by kernel_rfl) ?_
      refine seqQ_norm ?_
      refine W_seq (by kernel_rfl) ?_
      refine W_block (id := 1) (by kernel_rfl) ?_
      refine W_seq (by kernel_rfl) ?_
      refine W_run 3 [(3, .val (.dat .bool v1115))] [0, 5, 7, 12, 13, 14] [11, 1000] (fr' := [(0, aI a0), (5, .one (.slc 11)), (7, aB v1115), (12, .one (.slc 1000)), (13, aI (List.length c0 : Int)), (14, aI i1112)]) (L' := [(11, .seq .bool x1113), (1000, .seq .bool c0)]) (obs := [InR i1112 (List.length c0), Idx c0 i1112 v1115]) (by kernel_rfl) (by kernel_rfl) (by kernel_rfl) (allP2 (InR.of h1116) (allP1 (Idx.of h1116))) ?_
      refine seqQ_norm ?_
      refine W_seq (by kernel_rfl) ?_
      refine W_run 2 [] [0, 5, 7, 8, 12, 13, 14] [11, 18, 1000] (fr' := [(0, aI a0), (5, .one (.slc 11)), (7, aB v1115), (8, .one (.slc 18)), (12, .one (.slc 1000)), (13, aI (List.length c0 : Int)), (14, aI i1112)]) (L' := [(11, .seq .bool x1113), (18, .seq .bool (List.replicate (Int.toNat (4 : Int)) false)), (1000, .seq .bool c0)]) (obs := [0 ≤ (4 : Int) ∧ (4 : Int) = (4 : Int) ∧ SmallLen (4 : Int)]) (by kernel_rfl) (by kernel_rfl) (by kernel_rfl) (allP1 (by unfold SmallLen; decide)) ?_
      refine seqQ_norm ?_
      refine W_seq (by kernel_rfl) ?_
      refine W_seq (by kernel_rfl) ?_
      refine W_run 1 [] [0, 5, 7, 8, 9, 12, 13, 14] [11, 18, 1000] (fr' := [(0, aI a0), (5, .one (.slc 11)), (7, aB v1115), (8, .one (.slc 18)), (9, aI (0 : Int)), (12, .one (.slc 1000)), (13, aI (List.length c0 : Int)), (14, aI i1112)]) (L' := [(11, .seq .bool x1113), (18, .seq .bool (List.replicate (Int.toNat (4 : Int)) false)), (1000, .seq .bool c0)]) (obs := []) (by kernel_rfl) (by kernel_rfl) (by kernel_rfl) allP0 ?_
      refine seqQ_norm ?_
      refine W_block (id := 2) (by kernel_rfl) ?_
      obtain ⟨v1724, h1725, h⟩ := bind_of h
      obtain ⟨h1726, h1727⟩ := forI_iter h1725
      refine W_weaken [0, 5, 7, 8, 9, 12, 13, 14] [11, 18, 1000] (fr' := ((ref_reached_s233 a0 c0 i1112 x1113 v1115) ((0 : Int), List.replicate (Int.toNat (4 : Int)) false)).1) (L' := ((ref_reached_s233 a0 c0 i1112 x1113 v1115) ((0 : Int), List.replicate (Int.toNat (4 : Int)) false)).2) (by kernel_rfl) ?_
      refine W_cutK (W_loop (S := (ref_reached_s233 a0 c0 i1112 x1113 v1115)) (J := (exQ (.exit 2) (ref_reached_s234 a0 c0 i1112))) (by kernel_rfl) ?_ h1726 _ v1724 h1727) ?_
      · rintro ⟨i1520, x1521⟩ s h
        refine W_seq (by kernel_rfl) ?_
        refine W_seq (by kernel_rfl) ?_
        refine W_run 2 [] [0, 5, 7, 8, 9, 12, 13, 14, 20] [11, 18, 1000] (fr' := [(0, aI a0), (5, .one (.slc 11)), (7, aB v1115), (8, .one (.slc 18)), (9, aI i1520), (12, .one (.slc 1000)), (13, aI (List.length c0 : Int)), (14, aI i1112), (20, aB (decide (i1520 < (4 : Int))))]) (L' := [(11, .seq .bool x1113), (18, .seq .bool x1521), (1000, .seq .bool c0)]) (obs := []) (by kernel_rfl) (by kernel_rfl) (by kernel_rfl) allP0 ?_
        refine seqQ_norm ?_
        refine W_cond (o := .tmp 20) (b := decide (i1520 < (4 : Int))) (by kernel_rfl) (by kernel_rfl) (fun h1523 => ?_) (fun h1523 => ?_)
        · replace h := stepI_true h1523 h
          obtain ⟨_, h, rfl⟩ := h
          refine W_skip [0, 5, 7, 8, 9, 12, 13, 14] [11, 18, 1000] (fr' := [(0, aI a0), (5, .one (.slc 11)), (7, aB v1115), (8, .one (.slc 18)), (9, aI i1520), (12, .one (.slc 1000)), (13, aI (List.length c0 : Int)), (14, aI i1112)]) (L' := [(11, .seq .bool x1113), (18, .seq .bool x1521), (1000, .seq .bool c0)]) (by kernel_rfl) (by kernel_rfl) ?_
          refine seqQ_norm ?_
          refine W_seq (by kernel_rfl) ?_
          refine W_block (id := 3) (by kernel_rfl) ?_
          refine W_seq (by kernel_rfl) ?_
          refine W_run 1 [] [0, 5, 7, 8, 9, 10, 12, 13, 14] [11, 18, 1000] (fr' := [(0, aI a0), (5, .one (.slc 11)), (7, aB v1115), (8, .one (.slc 18)), (9, aI i1520), (10, aI (0 : Int)), (12, .one (.slc 1000)), (13, aI (List.length c0 : Int)), (14, aI i1112)]) (L' := [(11, .seq .bool x1113), (18, .seq .bool x1521), (1000, .seq .bool c0)]) (obs := []) (by kernel_rfl) (by kernel_rfl) (by kernel_rfl) allP0 ?_
          refine seqQ_norm ?_
          refine W_block (id := 4) (by kernel_rfl) ?_
          obtain ⟨v1719, h1720, h⟩ := bind_of h
          obtain ⟨h1721, h1722⟩ := forI_iter h1720
          refine W_weaken [0, 5, 7, 8, 9, 10, 12, 13, 14] [11, 18, 1000] (fr' := ((ref_reached_s230 a0 c0 i1112 x1113 v1115 i1520) ((0 : Int), x1521)).1) (L' := ((ref_reached_s230 a0 c0 i1112 x1113 v1115 i1520) ((0 : Int), x1521)).2) (by kernel_rfl) ?_
          refine W_cutK (W_loop (S := (ref_reached_s230 a0 c0 i1112 x1113 v1115 i1520)) (J := (exQ (.exit 4) (ref_reached_s231 a0 c0 i1112 x1113 v1115 i1520))) (by kernel_rfl) ?_ h1721 _ v1719 h1722) ?_
          · rintro ⟨i1652, x1653⟩ s h
            refine W_seq (by kernel_rfl) ?_
            refine W_seq (by kernel_rfl) ?_
            refine W_run 2 [] [0, 5, 7, 8, 9, 10, 12, 13, 14, 24] [11, 18, 1000] (fr' := [(0, aI a0), (5, .one (.slc 11)), (7, aB v1115), (8, .one (.slc 18)), (9, aI i1520), (10, aI i1652), (12, .one (.slc 1000)), (13, aI (List.length c0 : Int)), (14, aI i1112), (24, aB (decide (i1652 < (2 : Int))))]) (L' := [(11, .seq .bool x1113), (18, .seq .bool x1653), (1000, .seq .bool c0)]) (obs := []) (by kernel_rfl) (by kernel_rfl) (by kernel_rfl) allP0 ?_
            refine seqQ_norm ?_
            refine W_cond (o := .tmp 24) (b := decide (i1652 < (2 : Int))) (by kernel_rfl) (by kernel_rfl) (fun h1655 => ?_) (fun h1655 => ?_)
            · replace h := stepI_true h1655 h
              obtain ⟨_, h, rfl⟩ := h
              refine W_skip [0, 5, 7, 8, 9, 10, 12, 13, 14] [11, 18, 1000] (fr' := [(0, aI a0), (5, .one (.slc 11)), (7, aB v1115), (8, .one (.slc 18)), (9, aI i1520), (10, aI i1652), (12, .one (.slc 1000)), (13, aI (List.length c0 : Int)), (14, aI i1112)]) (L' := [(11, .seq .bool x1113), (18, .seq .bool x1653), (1000, .seq .bool c0)]) (by kernel_rfl) (by kernel_rfl) ?_
              refine seqQ_norm ?_
              refine W_seq (by kernel_rfl) ?_
              obtain ⟨v1716, h1717, h⟩ := bind_of h
              refine W_cutK (Q' := (exQ .normal (ref_reached_s228 a0 c0 i1112 x1113 v1115 i1520 i1652)) v1716) ?_ ?_
              · replace h := h1717
                refine W_block (id := 5) (by kernel_rfl) ?_
                refine W_seq (by kernel_rfl) ?_
                obtain ⟨v1711, h1712, h⟩ := bind_of h
                refine W_cutK (Q' := (exQ .normal (ref_reached_s226 a0 c0 i1112 x1113 v1115 i1520 i1652 x1653)) v1711) ?_ ?_
                · replace h := h1712
                  obtain ⟨v1706, h1707, h⟩ := bind_of h
                  refine W_region (by kernel_rfl) ?_
                  refine WO_run (j := 5) (k := 5) (orcs := [(7, .val (.dat .bool v1706))]) (kF := [0, 5, 7, 8, 9, 10, 12, 13, 14, 31]) (kL := [11, 18, 1000]) (fr' := [(0, aI a0), (5, .one (.slc 11)), (7, aB v1115), (8, .one (.slc 18)), (9, aI i1520), (10, aI i1652), (12, .one (.slc 1000)), (13, aI (List.length c0 : Int)), (14, aI i1112), (31, aB v1706)]) (L' := [(11, .seq .bool x1113), (18, .seq .bool x1653), (1000, .seq .bool c0)]) (obs := [InR i1520 (List.length x1113), Idx x1113 i1520 v1706]) rfl (by kernel_rfl) (allP2 (InR.of h1707) (allP1 (Idx.of h1707))) ?_
                  rcases Bool.eq_false_or_eq_true (v1706) with h1708 | h1708
                  · replace h := ofT h1708 h
                    refine WO_run (j := 13) (k := 8) (orcs := [(10, .known true), (12, .known true), (14, .known true), (16, .known true), (18, .known true), (20, .known true), (22, .known true), (24, .known true)]) (kF := [0, 5, 7, 8, 9, 10, 12, 13, 14, 31, 32, 34, 37, 39]) (kL := [11, 18, 1000]) (fr' := [(0, aI a0), (5, .one (.slc 11)), (7, aB v1115), (8, .one (.slc 18)), (9, aI i1520), (10, aI i1652), (12, .one (.slc 1000)), (13, aI (List.length c0 : Int)), (14, aI i1112), (31, aB v1706), (32, aI a0), (34, aB (decide (i1520 ≥ (2 : Int)))), (37, aB ((Int.tmod i1520 (2 : Int)) == (1 : Int))), (39, aB (i1652 == (1 : Int)))]) (L' := [(11, .seq .bool x1113), (18, .seq .bool x1653), (1000, .seq .bool c0)]) (obs := [(v1706 = true), (v1706 = true), (v1706 = true), (v1706 = true), (v1706 = true), ((2 : Int) ≠ 0), (v1706 = true), (v1706 = true), (v1706 = true)]) rfl (by kernel_rfl) (allP2 h1708 (allP2 h1708 (allP2 h1708 (allP2 h1708 (allP2 h1708 (allP2 (by decide) (allP2 h1708 (allP2 h1708 (allP1 h1708))))))))) ?_
                    obtain ⟨r1709, h1710, h⟩ := bind_of h
                    refine WO_call0 (us := [none, none, none, none]) (d := 40) (p := (v1706 = true)) (j := 14) rfl ⟨by kernel_rfl, by kernel_rfl, by kernel_rfl⟩ h1708 (ref_Truth_ok h1710) (by kernel_rfl) ?_
                    refine WO_run (j := 17) (k := 3) (orcs := [(28, .known true), (30, .known true), (33, .val (.dat .bool true))]) (kF := [0, 5, 7, 8, 9, 10, 12, 13, 14, 43]) (kL := [11, 18, 1000]) (fr' := [(0, aI a0), (5, .one (.slc 11)), (7, aB v1115), (8, .one (.slc 18)), (9, aI i1520), (10, aI i1652), (12, .one (.slc 1000)), (13, aI (List.length c0 : Int)), (14, aI i1112), (43, aB (r1709 == v1115))]) (L' := [(11, .seq .bool x1113), (18, .seq .bool x1653), (1000, .seq .bool c0)]) (obs := [(v1706 = true), (v1706 = true), (v1706 = true)]) rfl (by kernel_rfl) (allP2 h1708 (allP2 h1708 (allP1 h1708))) ?_
                    obtain rfl := Option.some.inj h
                    refine WO_fin [0, 5, 7, 8, 9, 10, 12, 13, 14, 43] [11, 18, 1000] (fr' := [(0, aI a0), (5, .one (.slc 11)), (7, aB v1115), (8, .one (.slc 18)), (9, aI i1520), (10, aI i1652), (12, .one (.slc 1000)), (13, aI (List.length c0 : Int)), (14, aI i1112), (43, aB (r1709 == v1115))]) (L' := [(11, .seq .bool x1113), (18, .seq .bool x1653), (1000, .seq .bool c0)]) (by kernel_rfl) (by kernel_rfl) ?_
                    exact exQ_mk (by kernel_rfl) (by kernel_rfl)
                  · replace h := ofF h1708 h
                    refine WO_run (j := 17) (k := 12) (orcs := [(10, .known false), (12, .known false), (14, .known false), (16, .known false), (18, .known false), (20, .known false), (22, .known false), (24, .known false), (26, .known false), (28, .known false), (30, .known false), (33, .val (.dat .bool false))]) (kF := [0, 5, 7, 8, 9, 10, 12, 13, 14, 43]) (kL := [11, 18, 1000]) (fr' := [(0, aI a0), (5, .one (.slc 11)), (7, aB v1115), (8, .one (.slc 18)), (9, aI i1520), (10, aI i1652), (12, .one (.slc 1000)), (13, aI (List.length c0 : Int)), (14, aI i1112), (43, aB false)]) (L' := [(11, .seq .bool x1113), (18, .seq .bool x1653), (1000, .seq .bool c0)]) (obs := [(v1706 = false), (v1706 = false), (v1706 = false), (v1706 = false), (v1706 = false), (v1706 = false), (v1706 = false), (v1706 = false), (v1706 = false), (v1706 = false), (v1706 = false), (v1706 = false)]) rfl (by kernel_rfl) (allP2 h1708 (allP2 h1708 (allP2 h1708 (allP2 h1708 (allP2 h1708 (allP2 h1708 (allP2 h1708 (allP2 h1708 (allP2 h1708 (allP2 h1708 (allP2 h1708 (allP1 h1708)))))))))))) ?_
                    obtain rfl := Option.some.inj h
                    refine WO_fin [0, 5, 7, 8, 9, 10, 12, 13, 14, 43] [11, 18, 1000] (fr' := [(0, aI a0), (5, .one (.slc 11)), (7, aB v1115), (8, .one (.slc 18)), (9, aI i1520), (10, aI i1652), (12, .one (.slc 1000)), (13, aI (List.length c0 : Int)), (14, aI i1112), (43, aB false)]) (L' := [(11, .seq .bool x1113), (18, .seq .bool x1653), (1000, .seq .bool c0)]) (by kernel_rfl) (by kernel_rfl) ?_
                    exact exQ_mk (by kernel_rfl) (by kernel_rfl)
                · intro e fr L hJ
                  obtain ⟨rfl, rfl, rfl⟩ := hJ
                  refine LT_keep [0, 5, 7, 8, 9, 10, 12, 13, 14, 43] [11, 18, 1000] (fr' := [(0, aI a0), (5, .one (.slc 11)), (7, aB v1115), (8, .one (.slc 18)), (9, aI i1520), (10, aI i1652), (12, .one (.slc 1000)), (13, aI (List.length c0 : Int)), (14, aI i1112), (43, aB v1711)]) (L' := [(11, .seq .bool x1113), (18, .seq .bool x1653), (1000, .seq .bool c0)]) (by kernel_rfl) ?_
                  refine seqQ_norm ?_
                  refine W_cond (o := .tmp 43) (b := v1711) (by kernel_rfl) (by kernel_rfl) (fun h1713 => ?_) (fun h1713 => ?_)
                  · replace h := ofT h1713 h
                    obtain ⟨v1714, h1715, h⟩ := bind_of h
                    obtain rfl := Option.some.inj h
                    refine W_run 8 [] [0, 5, 7, 8, 9, 10, 12, 13, 14] [11, 18, 1000] (fr' := [(0, aI a0), (5, .one (.slc 11)), (7, aB v1115), (8, .one (.slc 18)), (9, aI i1520), (10, aI i1652), (12, .one (.slc 1000)), (13, aI (List.length c0 : Int)), (14, aI i1112)]) (L' := [(11, .seq .bool x1113), (18, .seq .bool (List.set x1653 (Int.toNat (w64 ((w64 ((Int.tmod i1520 (2 : Int)) * (2 : Int))) + i1652))) true)), (1000, .seq .bool c0)]) (obs := [((2 : Int) ≠ 0), InR (w64 ((w64 ((Int.tmod i1520 (2 : Int)) * (2 : Int))) + i1652)) (List.length x1653), InR (w64 ((w64 ((Int.tmod i1520 (2 : Int)) * (2 : Int))) + i1652)) (List.length x1653)]) (by kernel_rfl) (by kernel_rfl) (by kernel_rfl) (allP2 (by decide) (allP2 (InR.of h1715) (allP1 (InR.of h1715)))) ?_
                    refine blockQ_norm ?_
                    exact exQ_mk (by kernel_rfl) (by kernel_rfl)
                  · replace h := ofF h1713 h
                    obtain rfl := Option.some.inj h
                    refine W_skip [0, 5, 7, 8, 9, 10, 12, 13, 14] [11, 18, 1000] (fr' := [(0, aI a0), (5, .one (.slc 11)), (7, aB v1115), (8, .one (.slc 18)), (9, aI i1520), (10, aI i1652), (12, .one (.slc 1000)), (13, aI (List.length c0 : Int)), (14, aI i1112)]) (L' := [(11, .seq .bool x1113), (18, .seq .bool x1653), (1000, .seq .bool c0)]) (by kernel_rfl) (by kernel_rfl) ?_
                    refine blockQ_norm ?_
                    exact exQ_mk (by kernel_rfl) (by kernel_rfl)
              · intro e fr L hJ
                obtain ⟨rfl, rfl, rfl⟩ := hJ
                refine LT_keep [0, 5, 7, 8, 9, 10, 12, 13, 14] [11, 18, 1000] (fr' := [(0, aI a0), (5, .one (.slc 11)), (7, aB v1115), (8, .one (.slc 18)), (9, aI i1520), (10, aI i1652), (12, .one (.slc 1000)), (13, aI (List.length c0 : Int)), (14, aI i1112)]) (L' := [(11, .seq .bool x1113), (18, .seq .bool v1716), (1000, .seq .bool c0)]) (by kernel_rfl) ?_
                refine seqQ_norm ?_
                obtain rfl := Option.some.inj h
                refine W_run 3 [] [0, 5, 7, 8, 9, 10, 12, 13, 14] [11, 18, 1000] (fr' := [(0, aI a0), (5, .one (.slc 11)), (7, aB v1115), (8, .one (.slc 18)), (9, aI i1520), (10, aI (w64 (i1652 + (1 : Int)))), (12, .one (.slc 1000)), (13, aI (List.length c0 : Int)), (14, aI i1112)]) (L' := [(11, .seq .bool x1113), (18, .seq .bool v1716), (1000, .seq .bool c0)]) (obs := []) (by kernel_rfl) (by kernel_rfl) (by kernel_rfl) allP0 ?_
                exact round_next' (by kernel_rfl) (by kernel_rfl)
            · obtain rfl := stepI_false h1655 h
              refine W_exit (id := 4) [0, 5, 7, 8, 9, 12, 13, 14] [11, 18, 1000] (fr' := [(0, aI a0), (5, .one (.slc 11)), (7, aB v1115), (8, .one (.slc 18)), (9, aI i1520), (12, .one (.slc 1000)), (13, aI (List.length c0 : Int)), (14, aI i1112)]) (L' := [(11, .seq .bool x1113), (18, .seq .bool x1653), (1000, .seq .bool c0)]) (by kernel_rfl) (by kernel_rfl) ?_
              refine seqQ_exit ?_
              refine round_exit ?_
              exact exQ_mk (by kernel_rfl) (by kernel_rfl)
          · intro e fr L hJ
            obtain ⟨rfl, rfl, rfl⟩ := hJ
            refine LT_keep [0, 5, 7, 8, 9, 12, 13, 14] [11, 18, 1000] (fr' := [(0, aI a0), (5, .one (.slc 11)), (7, aB v1115), (8, .one (.slc 18)), (9, aI i1520), (12, .one (.slc 1000)), (13, aI (List.length c0 : Int)), (14, aI i1112)]) (L' := [(11, .seq .bool x1113), (18, .seq .bool v1719), (1000, .seq .bool c0)]) (by kernel_rfl) ?_
            refine blockQ_hit ?_
            refine blockQ_norm ?_
            refine seqQ_norm ?_
            obtain rfl := Option.some.inj h
            refine W_run 3 [] [0, 5, 7, 8, 9, 12, 13, 14] [11, 18, 1000] (fr' := [(0, aI a0), (5, .one (.slc 11)), (7, aB v1115), (8, .one (.slc 18)), (9, aI (w64 (i1520 + (1 : Int)))), (12, .one (.slc 1000)), (13, aI (List.length c0 : Int)), (14, aI i1112)]) (L' := [(11, .seq .bool x1113), (18, .seq .bool v1719), (1000, .seq .bool c0)]) (obs := []) (by kernel_rfl) (by kernel_rfl) (by kernel_rfl) allP0 ?_
            exact round_next' (by kernel_rfl) (by kernel_rfl)
        · obtain rfl := stepI_false h1523 h
          refine W_exit (id := 2) [0, 8, 12, 13, 14] [18, 1000] (fr' := [(0, aI a0), (8, .one (.slc 18)), (12, .one (.slc 1000)), (13, aI (List.length c0 : Int)), (14, aI i1112)]) (L' := [(18, .seq .bool x1521), (1000, .seq .bool c0)]) (by kernel_rfl) (by kernel_rfl) ?_
          refine seqQ_exit ?_
          refine round_exit ?_
          exact exQ_mk (by kernel_rfl) (by kernel_rfl)
      · intro e fr L hJ
        obtain ⟨rfl, rfl, rfl⟩ := hJ
        refine LT_keep [0, 8, 12, 13, 14] [18, 1000] (fr' := [(0, aI a0), (8, .one (.slc 18)), (12, .one (.slc 1000)), (13, aI (List.length c0 : Int)), (14, aI i1112)]) (L' := [(18, .seq .bool v1724), (1000, .seq .bool c0)]) (by kernel_rfl) ?_
        refine blockQ_hit ?_
        refine seqQ_norm ?_
        refine W_run 2 [] [0, 5, 12, 13, 14] [18, 1000] (fr' := [(0, aI a0), (5, .one (.slc 18)), (12, .one (.slc 1000)), (13, aI (List.length c0 : Int)), (14, aI i1112)]) (L' := [(18, .seq .bool v1724), (1000, .seq .bool c0)]) (obs := []) (by kernel_rfl) (by kernel_rfl) (by kernel_rfl) allP0 ?_
        refine blockQ_norm ?_
        refine seqQ_norm ?_
        refine W_region (by kernel_rfl) ?_
        refine WO_run (j := 2) (k := 2) (orcs := []) (kF := [0, 5, 12, 13, 14]) (kL := [18, 1000]) (fr' := [(0, aI a0), (5, .one (.slc 18)), (12, .one (.slc 1000)), (13, aI (List.length c0 : Int)), (14, aI (w64 (i1112 + (1 : Int))))]) (L' := [(18, .seq .bool v1724), (1000, .seq .bool c0)]) (obs := []) rfl (by kernel_rfl) allP0 ?_
        obtain rfl := Option.some.inj h
        refine WO_ren 18 11 (by kernel_rfl) ?_
        refine WO_fin [0, 5, 12, 13, 14] [11, 1000] (fr' := [(0, aI a0), (5, .one (.slc 11)), (12, .one (.slc 1000)), (13, aI (List.length c0 : Int)), (14, aI (w64 (i1112 + (1 : Int))))]) (L' := [(11, .seq .bool v1724), (1000, .seq .bool c0)]) (by kernel_rfl) (by kernel_rfl) ?_
        exact round_next' (by kernel_rfl) (by kernel_rfl)
    · obtain rfl := stepL_false h1117 h
      refine W_exit (id := 0) [5] [11, 1000] (fr' := [(5, .one (.slc 11))]) (L' := [(11, .seq .bool x1113), (1000, .seq .bool c0)]) (by kernel_rfl) (by kernel_rfl) ?_
      refine seqQ_exit ?_
      refine round_exit ?_
      exact exQ_mk (by kernel_rfl) (by kernel_rfl)
  · intro e fr L hJ
    obtain ⟨rfl, rfl, rfl⟩ := hJ
    refine LT_keep [5] [11, 1000] (fr' := [(5, .one (.slc 11))]) (L' := [(11, .seq .bool v1729), (1000, .seq .bool c0)]) (by kernel_rfl) ?_
    refine blockQ_hit ?_
    refine seqQ_norm ?_
    refine W_seq (by kernel_rfl) ?_
    obtain ⟨v1767, h1768, h⟩ := bind_of h
    refine W_cutK (Q' := (exQ .normal (ref_reached_s239 c0)) v1767) ?_ ?_
    · replace h := h1768
      obtain ⟨v1756, h1757, h⟩ := bind_of h
      refine W_region (by kernel_rfl) ?_
      refine WO_run (j := 4) (k := 4) (orcs := [(5, .val (.dat .bool v1756))]) (kF := [5, 56]) (kL := [11, 1000]) (fr' := [(5, .one (.slc 11)), (56, aB v1756)]) (L' := [(11, .seq .bool v1729), (1000, .seq .bool c0)]) (obs := [InR (0 : Int) (List.length v1729), Idx v1729 (0 : Int) v1756]) rfl (by kernel_rfl) (allP2 (InR.of h1757) (allP1 (Idx.of h1757))) ?_
      rcases Bool.eq_false_or_eq_true (v1756) with h1758 | h1758
      · replace h := ofT h1758 h
        refine WO_run (j := 19) (k := 15) (orcs := [(8, .known true), (10, .known true), (12, .known true), (15, .val (.dat .bool true)), (18, .known true), (20, .known true), (22, .known true), (25, .val (.dat .bool true)), (28, .known true), (30, .known true), (32, .known true), (35, .val (.dat .bool true))]) (kF := [4]) (kL := [11, 1000]) (fr' := [(4, aB true)]) (L' := [(11, .seq .bool v1729), (1000, .seq .bool c0)]) (obs := [(v1756 = true), (v1756 = true), (v1756 = true), (v1756 = true), (true = true), (true = true), (true = true), (true = true), (true = true), (true = true), (true = true), (true = true)]) rfl (by kernel_rfl) (allP2 h1758 (allP2 h1758 (allP2 h1758 (allP2 h1758 (allP2 rfl (allP2 rfl (allP2 rfl (allP2 rfl (allP2 rfl (allP2 rfl (allP2 rfl (allP1 rfl)))))))))))) ?_
        obtain rfl := Option.some.inj h
        refine WO_fin [4] [1000] (fr' := [(4, aB true)]) (L' := [(1000, .seq .bool c0)]) (by kernel_rfl) (by kernel_rfl) ?_
        exact exQ_mk (by kernel_rfl) (by kernel_rfl)
      · replace h := ofF h1758 h
        obtain ⟨v1759, h1760, h⟩ := bind_of h
        refine WO_run (j := 9) (k := 5) (orcs := [(8, .known false), (10, .known false), (12, .known false), (13, .val (.dat .bool v1759)), (15, .val (.dat .bool false))]) (kF := [5, 61]) (kL := [11, 1000]) (fr' := [(5, .one (.slc 11)), (61, aB v1759)]) (L' := [(11, .seq .bool v1729), (1000, .seq .bool c0)]) (obs := [(v1756 = false), (v1756 = false), InR (1 : Int) (List.length v1729), (v1756 = false), Idx v1729 (1 : Int) v1759, (v1756 = false)]) rfl (by kernel_rfl) (allP2 h1758 (allP2 h1758 (allP2 (InR.of h1760) (allP2 h1758 (allP2 (Idx.of h1760) (allP1 h1758)))))) ?_
        rcases Bool.eq_false_or_eq_true (v1759) with h1761 | h1761
        · replace h := ofT h1761 h
          refine WO_run (j := 19) (k := 10) (orcs := [(18, .known true), (20, .known true), (22, .known true), (25, .val (.dat .bool true)), (28, .known true), (30, .known true), (32, .known true), (35, .val (.dat .bool true))]) (kF := [4]) (kL := [11, 1000]) (fr' := [(4, aB true)]) (L' := [(11, .seq .bool v1729), (1000, .seq .bool c0)]) (obs := [(v1759 = true), (v1759 = true), (v1759 = true), (v1759 = true), (true = true), (true = true), (true = true), (true = true)]) rfl (by kernel_rfl) (allP2 h1761 (allP2 h1761 (allP2 h1761 (allP2 h1761 (allP2 rfl (allP2 rfl (allP2 rfl (allP1 rfl)))))))) ?_
          obtain rfl := Option.some.inj h
          refine WO_fin [4] [1000] (fr' := [(4, aB true)]) (L' := [(1000, .seq .bool c0)]) (by kernel_rfl) (by kernel_rfl) ?_
          exact exQ_mk (by kernel_rfl) (by kernel_rfl)
        · replace h := ofF h1761 h
          obtain ⟨v1762, h1763, h⟩ := bind_of h
          refine WO_run (j := 14) (k := 5) (orcs := [(18, .known false), (20, .known false), (22, .known false), (23, .val (.dat .bool v1762)), (25, .val (.dat .bool false))]) (kF := [5, 66]) (kL := [11, 1000]) (fr' := [(5, .one (.slc 11)), (66, aB v1762)]) (L' := [(11, .seq .bool v1729), (1000, .seq .bool c0)]) (obs := [(v1759 = false), (v1759 = false), InR (2 : Int) (List.length v1729), (v1759 = false), Idx v1729 (2 : Int) v1762, (v1759 = false)]) rfl (by kernel_rfl) (allP2 h1761 (allP2 h1761 (allP2 (InR.of h1763) (allP2 h1761 (allP2 (Idx.of h1763) (allP1 h1761)))))) ?_
          rcases Bool.eq_false_or_eq_true (v1762) with h1764 | h1764
          · replace h := ofT h1764 h
            refine WO_run (j := 19) (k := 5) (orcs := [(28, .known true), (30, .known true), (32, .known true), (35, .val (.dat .bool true))]) (kF := [4]) (kL := [11, 1000]) (fr' := [(4, aB true)]) (L' := [(11, .seq .bool v1729), (1000, .seq .bool c0)]) (obs := [(v1762 = true), (v1762 = true), (v1762 = true), (v1762 = true)]) rfl (by kernel_rfl) (allP2 h1764 (allP2 h1764 (allP2 h1764 (allP1 h1764)))) ?_
            obtain rfl := Option.some.inj h
            refine WO_fin [4] [1000] (fr' := [(4, aB true)]) (L' := [(1000, .seq .bool c0)]) (by kernel_rfl) (by kernel_rfl) ?_
            exact exQ_mk (by kernel_rfl) (by kernel_rfl)
          · replace h := ofF h1764 h
            obtain ⟨v1765, h1766, h⟩ := bind_of h
            refine WO_run (j := 19) (k := 5) (orcs := [(28, .known false), (30, .known false), (32, .known false), (33, .val (.dat .bool v1765)), (35, .val (.dat .bool false))]) (kF := [4]) (kL := [11, 1000]) (fr' := [(4, aB v1765)]) (L' := [(11, .seq .bool v1729), (1000, .seq .bool c0)]) (obs := [(v1762 = false), (v1762 = false), InR (3 : Int) (List.length v1729), (v1762 = false), Idx v1729 (3 : Int) v1765, (v1762 = false)]) rfl (by kernel_rfl) (allP2 h1764 (allP2 h1764 (allP2 (InR.of h1766) (allP2 h1764 (allP2 (Idx.of h1766) (allP1 h1764)))))) ?_
            obtain rfl := Option.some.inj h
            refine WO_fin [4] [1000] (fr' := [(4, aB v1765)]) (L' := [(1000, .seq .bool c0)]) (by kernel_rfl) (by kernel_rfl) ?_
            exact exQ_mk (by kernel_rfl) (by kernel_rfl)
    · intro e fr L hJ
      obtain ⟨rfl, rfl, rfl⟩ := hJ
      refine LT_keep [4] [1000] (fr' := [(4, aB v1767)]) (L' := [(1000, .seq .bool c0)]) (by kernel_rfl) ?_
      refine seqQ_norm ?_
      obtain rfl := Option.some.inj h
      refine W_ret [4] [1000] (fr' := [(4, aB v1767)]) (L' := [(1000, .seq .bool c0)]) (by kernel_rfl) (by kernel_rfl) ?_
      exact retQ_mk (by kernel_rfl) (by kernel_rfl) (by kernel_rfl)

def ref_Orphan_b32 (x174 : Int) (x203 : (Int × (List Bool))) : Option (Flow (Int × (List Bool)) (List Bool)) :=
bif decide (x203.1 ≥ (0 : Int)) then
((ref_Bit x174 x203.1).bind fun r209 =>
(ck ((List.length x203.2 : Int) + 1 ≤ 4294967296)).bind fun _ =>
some (.next (w64 (x203.1 - (1 : Int)), x203.2 ++ [r209])))
else
(some (.done x203.2))
@[reducible] def ref_Orphan_s33 (a0 : Int) (a1 : Int) (x74 : Int) (x174 : Int) (v : (Int × (List Bool))) : Fr × LL := ([(0, aI a0), (1, aI a1), (6, aI x74), (7, aI x174), (8, .one (.slc 33)), (9, aI v.1)], [(33, .seq .bool v.2)])
@[reducible] def ref_Orphan_s34 (a0 : Int) (a1 : Int) (x74 : Int) (x174 : Int) (v : (List Bool)) : Fr × LL := ([(0, aI a0), (1, aI a1), (6, aI x74), (7, aI x174), (8, .one (.slc 33))], [(33, .seq .bool v)])
def ref_Orphan_b35 (a0 : Int) (fuel : Nat) (x74 : Int) (x174 : Int) : Option (Flow Int (Esc ((List Bool) × Bool) Unit)) :=
(ck (0 ≤ IntKind.wrap .u64 (x74))).bind fun _ =>
bif decide (x174 < (bShl .i64 (1 : Int) (IntKind.wrap .u64 (x74)))) then
((iter (ref_Orphan_b32 x174) fuel (w64 (x74 - (1 : Int)), [])).bind fun v212 =>
(ref_reached a0 v212).bind fun r216 =>
bif !r216 then
(some (.done (.ret (v212, true))))
else
(some (.next (w64 (x174 + (1 : Int))))))
else
(some (.done (.brk ())))
@[reducible] def ref_Orphan_s36 (a0 : Int) (a1 : Int) (x74 : Int) (v : Int) : Fr × LL := ([(0, aI a0), (1, aI a1), (6, aI x74), (7, aI v)], [])
@[reducible] def ref_Orphan_s37 (v : ((List Bool) × Bool)) : Fr × LL := ([(4, aD (.slice .bool) v.1), (5, aB v.2)], [])
@[reducible] def ref_Orphan_s38 (a0 : Int) (a1 : Int) (x74 : Int) (v : Unit) : Fr × LL := ([(0, aI a0), (1, aI a1), (6, aI x74)], [])
def ref_Orphan_b39 (a0 : Int) (a1 : Int) (fuel : Nat) (x74 : Int) : Option (Flow Int (Esc ((List Bool) × Bool) Unit)) :=
bif decide (x74 ≤ a1) then
((iter (ref_Orphan_b35 a0 fuel x74) fuel (0 : Int)).bind fun v219 =>
match v219 with
| .ret v223 =>
(some (.done (.ret (v223.1, v223.2))))
| .brk v224 =>
(some (.next (w64 (x74 + (1 : Int))))))
else
(some (.done (.brk ())))
@[reducible] def ref_Orphan_s40 (a0 : Int) (a1 : Int) (v : Int) : Fr × LL := ([(0, aI a0), (1, aI a1), (6, aI v)], [])
@[reducible] def ref_Orphan_s41 (v : ((List Bool) × Bool)) : Fr × LL := ([(4, aD (.slice .bool) v.1), (5, aB v.2)], [])
@[reducible] def ref_Orphan_s42 (v : Unit) : Fr × LL := ([], [])
def ref_Orphan (fuel : Nat) (a0 : Int) (a1 : Int) : Option ((List Bool) × Bool) :=
(iter (ref_Orphan_b39 a0 a1 fuel) fuel (1 : Int)).bind fun v225 =>
match v225 with
| .ret v229 =>
(some (v229.1, v229.2))
| .brk v230 =>
(some ([], false))
theorem ref_Orphan_ok {fuel : Nat} {a0 : Int} {a1 : Int} {r : ((List Bool) × Bool)} (h : ref_Orphan fuel a0 a1 = some r) : FnC Try.prog 26 [aI a0, aI a1] [] (.tup [.dat (.slice .bool) r.1, .dat .bool r.2]) [] := by
  refine fnC_of_W (B := bodyOf Try.f26) (n := 39) Try.func26 (by kernel_rfl) (by kernel_rfl) (by kernel_rfl) (by kernel_rfl) (by kernel_rfl) ?_
  intro K
  refine W_seq (by kernel_rfl) ?_
  refine W_run 2 [] [0, 1] [] (fr' := [(0, aI a0), (1, aI a1)]) (L' := []) (obs := []) (by kernel_rfl) (by kernel_rfl) (by kernel_rfl) allP0 ?_
  refine seqQ_norm ?_
  refine W_seq (by kernel_rfl) ?_
  refine W_seq (by kernel_rfl) ?_
  refine W_run 1 [] [0, 1, 6] [] (fr' := [(0, aI a0), (1, aI a1), (6, aI (1 : Int))]) (L' := []) (obs := []) (by kernel_rfl) (by kernel_rfl) (by kernel_rfl) allP0 ?_
  refine seqQ_norm ?_
  refine W_block (id := 0) (by kernel_rfl) ?_
  obtain ⟨v225, h226, h⟩ := bind_of h
  refine W_weaken [0, 1, 6] [] (fr' := ((ref_Orphan_s40 a0 a1) (1 : Int)).1) (L' := ((ref_Orphan_s40 a0 a1) (1 : Int)).2) (by kernel_rfl) ?_
  refine W_cutK (W_loop (S := (ref_Orphan_s40 a0 a1)) (J := (escQ (exQ .ret ref_Orphan_s41) (exQ (.exit 0) ref_Orphan_s42))) (by kernel_rfl) ?_ fuel _ v225 h226) ?_
  · rintro x74 s h
    refine W_seq (by kernel_rfl) ?_
    refine W_seq (by kernel_rfl) ?_
    refine W_run 3 [] [0, 1, 6, 12] [] (fr' := [(0, aI a0), (1, aI a1), (6, aI x74), (12, aB (decide (x74 ≤ a1)))]) (L' := []) (obs := []) (by kernel_rfl) (by kernel_rfl) (by kernel_rfl) allP0 ?_
    refine seqQ_norm ?_
    refine W_cond (o := .tmp 12) (b := decide (x74 ≤ a1)) (by kernel_rfl) (by kernel_rfl) (fun h150 => ?_) (fun h150 => ?_)
    · replace h := ofT h150 h
      refine W_skip [0, 1, 6] [] (fr' := [(0, aI a0), (1, aI a1), (6, aI x74)]) (L' := []) (by kernel_rfl) (by kernel_rfl) ?_
      refine seqQ_norm ?_
      refine W_seq (by kernel_rfl) ?_
      refine W_block (id := 1) (by kernel_rfl) ?_
      refine W_seq (by kernel_rfl) ?_
      refine W_run 1 [] [0, 1, 6, 7] [] (fr' := [(0, aI a0), (1, aI a1), (6, aI x74), (7, aI (0 : Int))]) (L' := []) (obs := []) (by kernel_rfl) (by kernel_rfl) (by kernel_rfl) allP0 ?_
      refine seqQ_norm ?_
      refine W_block (id := 2) (by kernel_rfl) ?_
      obtain ⟨v219, h220, h⟩ := bind_of h
      refine W_weaken [0, 1, 6, 7] [] (fr' := ((ref_Orphan_s36 a0 a1 x74) (0 : Int)).1) (L' := ((ref_Orphan_s36 a0 a1 x74) (0 : Int)).2) (by kernel_rfl) ?_
      refine W_cutK (W_loop (S := (ref_Orphan_s36 a0 a1 x74)) (J := (escQ (exQ .ret ref_Orphan_s37) (exQ (.exit 2) (ref_Orphan_s38 a0 a1 x74)))) (by kernel_rfl) ?_ fuel _ v219 h220) ?_
      · rintro x174 s h
        refine W_seq (by kernel_rfl) ?_
        refine W_seq (by kernel_rfl) ?_
        obtain ⟨_, h197, h⟩ := bind_of h
        replace h197 := ck_some h197
        refine W_run 5 [] [0, 1, 6, 7, 19] [] (fr' := [(0, aI a0), (1, aI a1), (6, aI x74), (7, aI x174), (19, aB (decide (x174 < (bShl .i64 (1 : Int) (IntKind.wrap .u64 (x74))))))]) (L' := []) (obs := [(0 ≤ IntKind.wrap .u64 (x74))]) (by kernel_rfl) (by kernel_rfl) (by kernel_rfl) (allP1 h197) ?_
        refine seqQ_norm ?_
        refine W_cond (o := .tmp 19) (b := decide (x174 < (bShl .i64 (1 : Int) (IntKind.wrap .u64 (x74))))) (by kernel_rfl) (by kernel_rfl) (fun h198 => ?_) (fun h198 => ?_)
        · replace h := ofT h198 h
          refine W_skip [0, 1, 6, 7] [] (fr' := [(0, aI a0), (1, aI a1), (6, aI x74), (7, aI x174)]) (L' := []) (by kernel_rfl) (by kernel_rfl) ?_
          refine seqQ_norm ?_
          refine W_seq (by kernel_rfl) ?_
          refine W_block (id := 3) (by kernel_rfl) ?_
          refine W_seq (by kernel_rfl) ?_
          refine W_run 1 [] [0, 1, 6, 7, 8] [] (fr' := [(0, aI a0), (1, aI a1), (6, aI x74), (7, aI x174), (8, .one (.nilS))]) (L' := []) (obs := []) (by kernel_rfl) (by kernel_rfl) (by kernel_rfl) allP0 ?_
          refine seqQ_norm ?_
          refine W_seq (by kernel_rfl) ?_
          refine W_seq (by kernel_rfl) ?_
          refine W_run 3 [] [0, 1, 6, 7, 8, 9] [] (fr' := [(0, aI a0), (1, aI a1), (6, aI x74), (7, aI x174), (8, .one (.nilS)), (9, aI (w64 (x74 - (1 : Int))))]) (L' := []) (obs := []) (by kernel_rfl) (by kernel_rfl) (by kernel_rfl) allP0 ?_
          refine seqQ_norm ?_
          refine W_block (id := 4) (by kernel_rfl) ?_
          obtain ⟨v212, h213, h⟩ := bind_of h
          refine W_mine 8 33 .bool (by kernel_rfl) ?_
          refine W_weaken [0, 1, 6, 7, 8, 9] [33] (fr' := ((ref_Orphan_s33 a0 a1 x74 x174) (w64 (x74 - (1 : Int)), [])).1) (L' := ((ref_Orphan_s33 a0 a1 x74 x174) (w64 (x74 - (1 : Int)), [])).2) (by kernel_rfl) ?_
          refine W_cutK (W_loop (S := (ref_Orphan_s33 a0 a1 x74 x174)) (J := (exQ (.exit 4) (ref_Orphan_s34 a0 a1 x74 x174))) (by kernel_rfl) ?_ fuel _ v212 h213) ?_
          · rintro x203 s h
            refine W_seq (by kernel_rfl) ?_
            refine W_seq (by kernel_rfl) ?_
            refine W_run 2 [] [0, 1, 6, 7, 8, 9, 25] [33] (fr' := [(0, aI a0), (1, aI a1), (6, aI x74), (7, aI x174), (8, .one (.slc 33)), (9, aI x203.1), (25, aB (decide (x203.1 ≥ (0 : Int))))]) (L' := [(33, .seq .bool x203.2)]) (obs := []) (by kernel_rfl) (by kernel_rfl) (by kernel_rfl) allP0 ?_
            refine seqQ_norm ?_
            refine W_cond (o := .tmp 25) (b := decide (x203.1 ≥ (0 : Int))) (by kernel_rfl) (by kernel_rfl) (fun h208 => ?_) (fun h208 => ?_)
            · replace h := ofT h208 h
              refine W_skip [0, 1, 6, 7, 8, 9] [33] (fr' := [(0, aI a0), (1, aI a1), (6, aI x74), (7, aI x174), (8, .one (.slc 33)), (9, aI x203.1)]) (L' := [(33, .seq .bool x203.2)]) (by kernel_rfl) (by kernel_rfl) ?_
              refine seqQ_norm ?_
              refine W_seq (by kernel_rfl) ?_
              refine W_block (id := 5) (by kernel_rfl) ?_
              refine W_region (by kernel_rfl) ?_
              refine WO_run (j := 3) (k := 3) (orcs := []) (kF := [0, 1, 6, 7, 8, 9, 28, 29, 30]) (kL := [33]) (fr' := [(0, aI a0), (1, aI a1), (6, aI x74), (7, aI x174), (8, .one (.slc 33)), (9, aI x203.1), (28, .one (.slc 33)), (29, aI x174), (30, aI x203.1)]) (L' := [(33, .seq .bool x203.2)]) (obs := []) rfl (by kernel_rfl) allP0 ?_
              obtain ⟨r209, h210, h⟩ := bind_of h
              refine WO_call0 (us := [none, none]) (d := 31) (p := True) (j := 4) rfl ⟨by kernel_rfl, by kernel_rfl, by kernel_rfl⟩ trivial (ref_Bit_ok h210) (by kernel_rfl) ?_
              obtain ⟨_, h211, h⟩ := bind_of h
              replace h211 := ck_some h211
              refine WO_run (j := 7) (k := 3) (orcs := []) (kF := [0, 1, 6, 7, 8, 9]) (kL := [32, 33]) (fr' := [(0, aI a0), (1, aI a1), (6, aI x74), (7, aI x174), (8, .one (.slc 33)), (9, aI x203.1)]) (L' := [(32, .seq .bool [r209]), (33, .seq .bool (x203.2 ++ [r209]))]) (obs := [SmallLen (List.length x203.2 + List.length [r209])]) rfl (by kernel_rfl) (allP1 h211) ?_
              refine WO_fin [0, 1, 6, 7, 8, 9] [33] (fr' := [(0, aI a0), (1, aI a1), (6, aI x74), (7, aI x174), (8, .one (.slc 33)), (9, aI x203.1)]) (L' := [(33, .seq .bool (x203.2 ++ [r209]))]) (by kernel_rfl) (by kernel_rfl) ?_
              refine blockQ_norm ?_
              refine seqQ_norm ?_
              obtain rfl := Option.some.inj h
              refine W_run 3 [] [0, 1, 6, 7, 8, 9] [33] (fr' := [(0, aI a0), (1, aI a1), (6, aI x74), (7, aI x174), (8, .one (.slc 33)), (9, aI (w64 (x203.1 - (1 : Int))))]) (L' := [(33, .seq .bool (x203.2 ++ [r209]))]) (obs := []) (by kernel_rfl) (by kernel_rfl) (by kernel_rfl) allP0 ?_
              exact round_next' (by kernel_rfl) (by kernel_rfl)
            · replace h := ofF h208 h
              obtain rfl := Option.some.inj h
              refine W_exit (id := 4) [0, 1, 6, 7, 8] [33] (fr' := [(0, aI a0), (1, aI a1), (6, aI x74), (7, aI x174), (8, .one (.slc 33))]) (L' := [(33, .seq .bool x203.2)]) (by kernel_rfl) (by kernel_rfl) ?_
              refine seqQ_exit ?_
              refine round_exit ?_
              exact exQ_mk (by kernel_rfl) (by kernel_rfl)
          · intro e fr L hJ
            obtain ⟨rfl, rfl, rfl⟩ := hJ
            refine LT_keep [0, 1, 6, 7, 8] [33] (fr' := [(0, aI a0), (1, aI a1), (6, aI x74), (7, aI x174), (8, .one (.slc 33))]) (L' := [(33, .seq .bool v212)]) (by kernel_rfl) ?_
            refine blockQ_hit ?_
            refine seqQ_norm ?_
            refine W_seq (by kernel_rfl) ?_
            refine W_region (by kernel_rfl) ?_
            refine WO_run (j := 2) (k := 2) (orcs := []) (kF := [0, 1, 6, 7, 8, 34, 35]) (kL := [33]) (fr' := [(0, aI a0), (1, aI a1), (6, aI x74), (7, aI x174), (8, .one (.slc 33)), (34, aI a0), (35, .one (.slc 33))]) (L' := [(33, .seq .bool v212)]) (obs := []) rfl (by kernel_rfl) allP0 ?_
            obtain ⟨r216, h217, h⟩ := bind_of h
            refine WO_lend [(1000, 33)] (us := [none, none]) (d := 36) (p := True) (j := 3) rfl ⟨by kernel_rfl, by kernel_rfl, by kernel_rfl⟩ trivial (ref_reached_ok h217) (by kernel_rfl) (by kernel_rfl) ?_
            refine WO_run (j := 4) (k := 1) (orcs := []) (kF := [0, 1, 6, 7, 8, 37]) (kL := [33]) (fr' := [(0, aI a0), (1, aI a1), (6, aI x74), (7, aI x174), (8, .one (.slc 33)), (37, aB (!r216))]) (L' := [(33, .seq .bool v212)]) (obs := []) rfl (by kernel_rfl) allP0 ?_
            refine WO_fin [0, 1, 6, 7, 8, 37] [33] (fr' := [(0, aI a0), (1, aI a1), (6, aI x74), (7, aI x174), (8, .one (.slc 33)), (37, aB (!r216))]) (L' := [(33, .seq .bool v212)]) (by kernel_rfl) (by kernel_rfl) ?_
            refine seqQ_norm ?_
            refine W_cond (o := .tmp 37) (b := !r216) (by kernel_rfl) (by kernel_rfl) (fun h218 => ?_) (fun h218 => ?_)
            · replace h := ofT h218 h
              refine W_seq (by kernel_rfl) ?_
              refine W_run 3 [] [4, 5] [33] (fr' := [(4, .one (.slc 33)), (5, aB true)]) (L' := [(33, .seq .bool v212)]) (obs := []) (by kernel_rfl) (by kernel_rfl) (by kernel_rfl) allP0 ?_
              refine seqQ_norm ?_
              obtain rfl := Option.some.inj h
              refine W_frz 33 (by kernel_rfl) ?_
              refine W_ret [4, 5] [] (fr' := [(4, aD (.slice .bool) v212), (5, aB true)]) (L' := []) (by kernel_rfl) (by kernel_rfl) ?_
              refine blockQ_ret ?_
              refine seqQ_ret ?_
              refine round_ret ?_
              refine escQ_ret ?_
              exact exQ_mk (by kernel_rfl) (by kernel_rfl)
            · replace h := ofF h218 h
              refine W_skip [0, 1, 6, 7] [] (fr' := [(0, aI a0), (1, aI a1), (6, aI x74), (7, aI x174)]) (L' := []) (by kernel_rfl) (by kernel_rfl) ?_
              refine blockQ_norm ?_
              refine seqQ_norm ?_
              obtain rfl := Option.some.inj h
              refine W_run 3 [] [0, 1, 6, 7] [] (fr' := [(0, aI a0), (1, aI a1), (6, aI x74), (7, aI (w64 (x174 + (1 : Int))))]) (L' := []) (obs := []) (by kernel_rfl) (by kernel_rfl) (by kernel_rfl) allP0 ?_
              exact round_next' (by kernel_rfl) (by kernel_rfl)
        · replace h := ofF h198 h
          obtain rfl := Option.some.inj h
          refine W_exit (id := 2) [0, 1, 6] [] (fr' := [(0, aI a0), (1, aI a1), (6, aI x74)]) (L' := []) (by kernel_rfl) (by kernel_rfl) ?_
          refine seqQ_exit ?_
          refine round_exit ?_
          refine escQ_brk ?_
          exact exQ_mk (by kernel_rfl) (by kernel_rfl)
      · intro e fr L hJ
        rcases v219 with v223 | v224
        · obtain ⟨rfl, rfl, rfl⟩ := hJ
          obtain rfl := Option.some.inj h
          refine LT_keep [4, 5] [] (fr' := [(4, aD (.slice .bool) v223.1), (5, aB v223.2)]) (L' := []) (by kernel_rfl) ?_
          refine blockQ_ret ?_
          refine blockQ_ret ?_
          refine seqQ_ret ?_
          refine round_ret ?_
          refine escQ_ret ?_
          exact exQ_mk (by kernel_rfl) (by kernel_rfl)
        · obtain ⟨rfl, rfl, rfl⟩ := hJ
          refine LT_keep [0, 1, 6] [] (fr' := [(0, aI a0), (1, aI a1), (6, aI x74)]) (L' := []) (by kernel_rfl) ?_
          refine blockQ_hit ?_
          refine blockQ_norm ?_
          refine seqQ_norm ?_
          obtain rfl := Option.some.inj h
          refine W_run 3 [] [0, 1, 6] [] (fr' := [(0, aI a0), (1, aI a1), (6, aI (w64 (x74 + (1 : Int))))]) (L' := []) (obs := []) (by kernel_rfl) (by kernel_rfl) (by kernel_rfl) allP0 ?_
          exact round_next' (by kernel_rfl) (by kernel_rfl)
    · replace h := ofF h150 h
      obtain rfl := Option.some.inj h
      refine W_exit (id := 0) [] [] (fr' := []) (L' := []) (by kernel_rfl) (by kernel_rfl) ?_
      refine seqQ_exit ?_
      refine round_exit ?_
      refine escQ_brk ?_
      exact exQ_mk (by kernel_rfl) (by kernel_rfl)
  · intro e fr L hJ
    rcases v225 with v229 | v230
    · obtain ⟨rfl, rfl, rfl⟩ := hJ
      obtain rfl := Option.some.inj h
      refine LT_keep [4, 5] [] (fr' := [(4, aD (.slice .bool) v229.1), (5, aB v229.2)]) (L' := []) (by kernel_rfl) ?_
      refine blockQ_ret ?_
      refine seqQ_ret ?_
      exact retQ_mk (by kernel_rfl) (by kernel_rfl) (by kernel_rfl)
    · obtain ⟨rfl, rfl, rfl⟩ := hJ
      refine LT_keep [] [] (fr' := []) (L' := []) (by kernel_rfl) ?_
      refine blockQ_hit ?_
      refine seqQ_norm ?_
      refine W_seq (by kernel_rfl) ?_
      refine W_run 2 [] [4, 5] [] (fr' := [(4, .one (.nilS)), (5, aB false)]) (L' := []) (obs := []) (by kernel_rfl) (by kernel_rfl) (by kernel_rfl) allP0 ?_
      refine seqQ_norm ?_
      obtain rfl := Option.some.inj h
      refine W_cnv 4 (.slice .bool) (by kernel_rfl) ?_
      refine W_ret [4, 5] [] (fr' := [(4, aD (.slice .bool) []), (5, aB false)]) (L' := []) (by kernel_rfl) (by kernel_rfl) ?_
      exact retQ_mk (by kernel_rfl) (by kernel_rfl) (by kernel_rfl)

def ref_Bools_b1 (a1 : (List Bool)) (i16 : Int) (v19 : Bool) (x17 : Unit) : Option (Flow Unit (Esc Bool Unit)) :=
(idx a1 i16).bind fun v22 =>
bif !(v19 == v22) then
(some (.done (.ret false)))
else
(some (.next ()))
@[reducible] def ref_Bools_s2 (a0 : (List Bool)) (a1 : (List Bool)) (v : Int × Unit) : Fr × LL := ([(0, aD (.slice .bool) a0), (1, aD (.slice .bool) a1), (5, aI v.1)], [])
@[reducible] def ref_Bools_s3 (v : Bool) : Fr × LL := ([(4, aB v)], [])
@[reducible] def ref_Bools_s4 (v : Unit) : Fr × LL := ([], [])
def ref_Bools (a0 : (List Bool)) (a1 : (List Bool)) : Option Bool :=
bif (List.length a0 : Int) != (List.length a1 : Int) then
(some false)
else
((forL (ref_Bools_b1 a1) (fun x17 => (.brk ())) a0 0 ()).bind fun v26 =>
match v26 with
| .ret v31 =>
(some v31)
| .brk v32 =>
(some true))
theorem ref_Bools_ok {a0 : (List Bool)} {a1 : (List Bool)} {r : Bool} (h : ref_Bools a0 a1 = some r) : FnC Try.prog 27 [aD (.slice .bool) a0, aD (.slice .bool) a1] [] (aB r) [] := by
  refine fnC_of_W (B := bodyOf Try.f27) (n := 26) Try.func27 (by kernel_rfl) (by kernel_rfl) (by kernel_rfl) (by kernel_rfl) (by kernel_rfl) ?_
  intro K
  refine W_seq (by kernel_rfl) ?_
  refine W_run 1 [] [0, 1] [] (fr' := [(0, aD (.slice .bool) a0), (1, aD (.slice .bool) a1)]) (L' := []) (obs := []) (by kernel_rfl) (by kernel_rfl) (by kernel_rfl) allP0 ?_
  refine seqQ_norm ?_
  refine W_seq (by kernel_rfl) ?_
  refine W_seq (by kernel_rfl) ?_
  refine W_run 5 [] [0, 1, 10] [] (fr' := [(0, aD (.slice .bool) a0), (1, aD (.slice .bool) a1), (10, aB ((List.length a0 : Int) != (List.length a1 : Int)))]) (L' := []) (obs := []) (by kernel_rfl) (by kernel_rfl) (by kernel_rfl) allP0 ?_
  refine seqQ_norm ?_
  refine W_cond (o := .tmp 10) (b := (List.length a0 : Int) != (List.length a1 : Int)) (by kernel_rfl) (by kernel_rfl) (fun h1 => ?_) (fun h1 => ?_)
  · replace h := ofT h1 h
    refine W_seq (by kernel_rfl) ?_
    refine W_run 1 [] [4] [] (fr' := [(4, aB false)]) (L' := []) (obs := []) (by kernel_rfl) (by kernel_rfl) (by kernel_rfl) allP0 ?_
    refine seqQ_norm ?_
    obtain rfl := Option.some.inj h
    refine W_ret [4] [] (fr' := [(4, aB false)]) (L' := []) (by kernel_rfl) (by kernel_rfl) ?_
    refine seqQ_ret ?_
    exact retQ_mk (by kernel_rfl) (by kernel_rfl) (by kernel_rfl)
  · replace h := ofF h1 h
    refine W_skip [0, 1] [] (fr' := [(0, aD (.slice .bool) a0), (1, aD (.slice .bool) a1)]) (L' := []) (by kernel_rfl) (by kernel_rfl) ?_
    refine seqQ_norm ?_
    refine W_seq (by kernel_rfl) ?_
    refine W_seq (by kernel_rfl) ?_
    refine W_run 1 [] [0, 1, 5] [] (fr' := [(0, aD (.slice .bool) a0), (1, aD (.slice .bool) a1), (5, aI (0 : Int))]) (L' := []) (obs := []) (by kernel_rfl) (by kernel_rfl) (by kernel_rfl) allP0 ?_
    refine seqQ_norm ?_
    refine W_block (id := 0) (by kernel_rfl) ?_
    obtain ⟨v26, h27, h⟩ := bind_of h
    refine W_len (t := 0) (u := .bool) (xs := a0) (by kernel_rfl) (fun h30 => ?_)
    obtain ⟨h28, h29⟩ := forL_iter h30 h27
    refine W_weaken [0, 1, 5] [] (fr' := ((ref_Bools_s2 a0 a1) ((0 : Int), ())).1) (L' := ((ref_Bools_s2 a0 a1) ((0 : Int), ())).2) (by kernel_rfl) ?_
    refine W_cutK (W_loop (S := (ref_Bools_s2 a0 a1)) (J := (escQ (exQ .ret ref_Bools_s3) (exQ (.exit 0) ref_Bools_s4))) (by kernel_rfl) ?_ h28 _ v26 h29) ?_
    · rintro ⟨i16, x17⟩ s h
      refine W_seq (by kernel_rfl) ?_
      refine W_seq (by kernel_rfl) ?_
      refine W_run 4 [] [0, 1, 5, 14] [] (fr' := [(0, aD (.slice .bool) a0), (1, aD (.slice .bool) a1), (5, aI i16), (14, aB (decide (i16 < (List.length a0 : Int))))]) (L' := []) (obs := []) (by kernel_rfl) (by kernel_rfl) (by kernel_rfl) allP0 ?_
      refine seqQ_norm ?_
      refine W_cond (o := .tmp 14) (b := decide (i16 < (List.length a0 : Int))) (by kernel_rfl) (by kernel_rfl) (fun h21 => ?_) (fun h21 => ?_)
      · replace h := stepL_true h21 h
        obtain ⟨v19, _, h20, h, rfl⟩ := h
        refine W_skip [0, 1, 5] [] (fr' := [(0, aD (.slice .bool) a0), (1, aD (.slice .bool) a1), (5, aI i16)]) (L' := []) (by kernel_rfl) (by kernel_rfl) ?_
        refine seqQ_norm ?_
        refine W_seq (by kernel_rfl) ?_
        refine W_block (id := 1) (by kernel_rfl) ?_
        refine W_seq (by kernel_rfl) ?_
        obtain ⟨v22, h23, h⟩ := bind_of h
        refine W_draw2 9 [(5, .val (.dat .bool v19)), (13, .val (.dat .bool v22))] [] [0, 1, 5, 25] [] (fr' := [(0, aD (.slice .bool) a0), (1, aD (.slice .bool) a1), (5, aI i16), (25, aB (!(v19 == v22)))]) (L' := []) (out := [(17, aD (.slice .bool) a0), (18, aI i16), (19, .one (.dptr .bool v19)), (20, aB v19), (21, aD (.slice .bool) a1), (22, aI i16), (23, .one (.dptr .bool v22)), (24, aB v22), (25, aB (!(v19 == v22)))]) (obs := [Idx a0 i16 v19, Idx a1 i16 v22]) (obs2 := []) (calls := []) (by kernel_rfl) (by kernel_rfl) (by kernel_rfl) (by kernel_rfl) (allP2 (Idx.of h20) (allP1 (Idx.of h23))) allC0 (by kernel_rfl) allP0 ?_
        refine seqQ_norm ?_
        refine W_cond (o := .tmp 25) (b := !(v19 == v22)) (by kernel_rfl) (by kernel_rfl) (fun h24 => ?_) (fun h24 => ?_)
        · replace h := ofT h24 h
          refine W_seq (by kernel_rfl) ?_
          refine W_run 1 [] [4] [] (fr' := [(4, aB false)]) (L' := []) (obs := []) (by kernel_rfl) (by kernel_rfl) (by kernel_rfl) allP0 ?_
          refine seqQ_norm ?_
          obtain rfl := Option.some.inj h
          refine W_ret [4] [] (fr' := [(4, aB false)]) (L' := []) (by kernel_rfl) (by kernel_rfl) ?_
          refine blockQ_ret ?_
          refine seqQ_ret ?_
          refine round_ret ?_
          refine escQ_ret ?_
          exact exQ_mk (by kernel_rfl) (by kernel_rfl)
        · replace h := ofF h24 h
          refine W_skip [0, 1, 5] [] (fr' := [(0, aD (.slice .bool) a0), (1, aD (.slice .bool) a1), (5, aI i16)]) (L' := []) (by kernel_rfl) (by kernel_rfl) ?_
          refine blockQ_norm ?_
          refine seqQ_norm ?_
          obtain rfl := Option.some.inj h
          refine W_run 3 [] [0, 1, 5] [] (fr' := [(0, aD (.slice .bool) a0), (1, aD (.slice .bool) a1), (5, aI (w64 (i16 + (1 : Int))))]) (L' := []) (obs := []) (by kernel_rfl) (by kernel_rfl) (by kernel_rfl) allP0 ?_
          exact round_next' (by kernel_rfl) (by kernel_rfl)
      · obtain rfl := stepL_false h21 h
        refine W_exit (id := 0) [] [] (fr' := []) (L' := []) (by kernel_rfl) (by kernel_rfl) ?_
        refine seqQ_exit ?_
        refine round_exit ?_
        refine escQ_brk ?_
        exact exQ_mk (by kernel_rfl) (by kernel_rfl)
    · intro e fr L hJ
      rcases v26 with v31 | v32
      · obtain ⟨rfl, rfl, rfl⟩ := hJ
        obtain rfl := Option.some.inj h
        refine LT_keep [4] [] (fr' := [(4, aB v31)]) (L' := []) (by kernel_rfl) ?_
        refine blockQ_ret ?_
        refine seqQ_ret ?_
        exact retQ_mk (by kernel_rfl) (by kernel_rfl) (by kernel_rfl)
      · obtain ⟨rfl, rfl, rfl⟩ := hJ
        refine LT_keep [] [] (fr' := []) (L' := []) (by kernel_rfl) ?_
        refine blockQ_hit ?_
        refine seqQ_norm ?_
        refine W_seq (by kernel_rfl) ?_
        refine W_run 1 [] [4] [] (fr' := [(4, aB true)]) (L' := []) (obs := []) (by kernel_rfl) (by kernel_rfl) (by kernel_rfl) allP0 ?_
        refine seqQ_norm ?_
        obtain rfl := Option.some.inj h
        refine W_ret [4] [] (fr' := [(4, aB true)]) (L' := []) (by kernel_rfl) (by kernel_rfl) ?_
        exact retQ_mk (by kernel_rfl) (by kernel_rfl) (by kernel_rfl)

@[reducible] def law_CellOntos_s1 (v : Bool) : Fr × LL := ([(2, aB v)], [])
def law_CellOntos (fuel : Nat) (a0 : Int) : Option Bool :=
(cell_Onto fuel a0).bind fun r1 =>
(cell_Orphan fuel a0).bind fun r3 =>
(law_ruleCode a0).bind fun r5 =>
bif r5 != (0 : Int) then
(some ((((r1.2 == (4 : Int)) && (r3.2 == (4 : Int))) && (!r1.1)) && ((List.length r3.1 : Int) == (0 : Int))))
else
((ref_Orphan fuel a0 (16 : Int)).bind fun r8 =>
bif !r8.2 then
(some ((((r1.2 == (0 : Int)) && r1.1) && (r3.2 == (5 : Int))) && ((List.length r3.1 : Int) == (0 : Int))))
else
((bif ((r1.2 == (0 : Int)) && (!r1.1)) && (r3.2 == (0 : Int)) then
((ref_Bools r3.1 r8.1).bind fun r18 =>
some r18)
else
(some false)).bind fun v20 =>
some v20))
theorem law_CellOntos_ok {fuel : Nat} {a0 : Int} {r : Bool} (h : law_CellOntos fuel a0 = some r) : FnC Try.prog 5 [aI a0] [] (aB r) [] := by
  refine fnC_of_W (B := bodyOf Try.f5) (n := 73) Try.func5 (by kernel_rfl) (by kernel_rfl) (by kernel_rfl) (by kernel_rfl) (by kernel_rfl) ?_
  intro K
  refine W_seq (by kernel_rfl) ?_
  refine W_run 1 [] [0] [] (fr' := [(0, aI a0)]) (L' := []) (obs := []) (by kernel_rfl) (by kernel_rfl) (by kernel_rfl) allP0 ?_
  refine seqQ_norm ?_
  refine W_seq (by kernel_rfl) ?_
  refine W_region (by kernel_rfl) ?_
  refine WO_run (j := 1) (k := 1) (orcs := []) (kF := [0, 10]) (kL := []) (fr' := [(0, aI a0), (10, aI a0)]) (L' := []) (obs := []) rfl (by kernel_rfl) allP0 ?_
  obtain ⟨r1, h2, h⟩ := bind_of h
  refine WO_call0 (us := [none]) (d := 11) (p := True) (j := 2) rfl ⟨by kernel_rfl, by kernel_rfl, by kernel_rfl⟩ trivial (cell_Onto_ok h2) (by kernel_rfl) ?_
  refine WO_run (j := 7) (k := 5) (orcs := []) (kF := [0, 3, 4]) (kL := []) (fr' := [(0, aI a0), (3, aB r1.1), (4, aI r1.2)]) (L' := []) (obs := []) rfl (by kernel_rfl) allP0 ?_
  refine WO_fin [0, 3, 4] [] (fr' := [(0, aI a0), (3, aB r1.1), (4, aI r1.2)]) (L' := []) (by kernel_rfl) (by kernel_rfl) ?_
  refine seqQ_norm ?_
  refine W_seq (by kernel_rfl) ?_
  refine W_region (by kernel_rfl) ?_
  refine WO_run (j := 1) (k := 1) (orcs := []) (kF := [0, 3, 4, 15]) (kL := []) (fr' := [(0, aI a0), (3, aB r1.1), (4, aI r1.2), (15, aI a0)]) (L' := []) (obs := []) rfl (by kernel_rfl) allP0 ?_
  obtain ⟨r3, h4, h⟩ := bind_of h
  refine WO_call0 (us := [none]) (d := 16) (p := True) (j := 2) rfl ⟨by kernel_rfl, by kernel_rfl, by kernel_rfl⟩ trivial (cell_Orphan_ok h4) (by kernel_rfl) ?_
  refine WO_run (j := 7) (k := 5) (orcs := []) (kF := [0, 3, 4, 5, 6]) (kL := []) (fr' := [(0, aI a0), (3, aB r1.1), (4, aI r1.2), (5, aD (.slice .bool) r3.1), (6, aI r3.2)]) (L' := []) (obs := []) rfl (by kernel_rfl) allP0 ?_
  refine WO_fin [0, 3, 4, 5, 6] [] (fr' := [(0, aI a0), (3, aB r1.1), (4, aI r1.2), (5, aD (.slice .bool) r3.1), (6, aI r3.2)]) (L' := []) (by kernel_rfl) (by kernel_rfl) ?_
  refine seqQ_norm ?_
  refine W_seq (by kernel_rfl) ?_
  refine W_seq (by kernel_rfl) ?_
  refine W_region (by kernel_rfl) ?_
  refine WO_run (j := 1) (k := 1) (orcs := []) (kF := [0, 3, 4, 5, 6, 19]) (kL := []) (fr' := [(0, aI a0), (3, aB r1.1), (4, aI r1.2), (5, aD (.slice .bool) r3.1), (6, aI r3.2), (19, aI a0)]) (L' := []) (obs := []) rfl (by kernel_rfl) allP0 ?_
  obtain ⟨r5, h6, h⟩ := bind_of h
  refine WO_call0 (us := [none]) (d := 20) (p := True) (j := 2) rfl ⟨by kernel_rfl, by kernel_rfl, by kernel_rfl⟩ trivial (law_ruleCode_ok h6) (by kernel_rfl) ?_
  refine WO_run (j := 3) (k := 1) (orcs := []) (kF := [0, 3, 4, 5, 6, 21]) (kL := []) (fr' := [(0, aI a0), (3, aB r1.1), (4, aI r1.2), (5, aD (.slice .bool) r3.1), (6, aI r3.2), (21, aB (r5 != (0 : Int)))]) (L' := []) (obs := []) rfl (by kernel_rfl) allP0 ?_
  refine WO_fin [0, 3, 4, 5, 6, 21] [] (fr' := [(0, aI a0), (3, aB r1.1), (4, aI r1.2), (5, aD (.slice .bool) r3.1), (6, aI r3.2), (21, aB (r5 != (0 : Int)))]) (L' := []) (by kernel_rfl) (by kernel_rfl) ?_
  refine seqQ_norm ?_
  refine W_cond (o := .tmp 21) (b := r5 != (0 : Int)) (by kernel_rfl) (by kernel_rfl) (fun h7 => ?_) (fun h7 => ?_)
  · replace h := ofT h7 h
    refine W_seq (by kernel_rfl) ?_
    refine W_run 16 [] [2] [] (fr' := [(2, aB ((((r1.2 == (4 : Int)) && (r3.2 == (4 : Int))) && (!r1.1)) && ((List.length r3.1 : Int) == (0 : Int))))]) (L' := []) (obs := []) (by kernel_rfl) (by kernel_rfl) (by kernel_rfl) allP0 ?_
    refine seqQ_norm ?_
    obtain rfl := Option.some.inj h
    refine W_ret [2] [] (fr' := [(2, aB ((((r1.2 == (4 : Int)) && (r3.2 == (4 : Int))) && (!r1.1)) && ((List.length r3.1 : Int) == (0 : Int))))]) (L' := []) (by kernel_rfl) (by kernel_rfl) ?_
    refine seqQ_ret ?_
    exact retQ_mk (by kernel_rfl) (by kernel_rfl) (by kernel_rfl)
  · replace h := ofF h7 h
    refine W_skip [0, 3, 4, 5, 6] [] (fr' := [(0, aI a0), (3, aB r1.1), (4, aI r1.2), (5, aD (.slice .bool) r3.1), (6, aI r3.2)]) (L' := []) (by kernel_rfl) (by kernel_rfl) ?_
    refine seqQ_norm ?_
    refine W_seq (by kernel_rfl) ?_
    refine W_region (by kernel_rfl) ?_
    refine WO_run (j := 1) (k := 1) (orcs := []) (kF := [3, 4, 5, 6, 38]) (kL := []) (fr' := [(3, aB r1.1), (4, aI r1.2), (5, aD (.slice .bool) r3.1), (6, aI r3.2), (38, aI a0)]) (L' := []) (obs := []) rfl (by kernel_rfl) allP0 ?_
    obtain ⟨r8, h9, h⟩ := bind_of h
    refine WO_call0 (us := [none, none]) (d := 39) (p := True) (j := 2) rfl ⟨by kernel_rfl, by kernel_rfl, by kernel_rfl⟩ trivial (ref_Orphan_ok h9) (by kernel_rfl) ?_
    refine WO_run (j := 7) (k := 5) (orcs := []) (kF := [3, 4, 5, 6, 7, 8]) (kL := []) (fr' := [(3, aB r1.1), (4, aI r1.2), (5, aD (.slice .bool) r3.1), (6, aI r3.2), (7, aD (.slice .bool) r8.1), (8, aB r8.2)]) (L' := []) (obs := []) rfl (by kernel_rfl) allP0 ?_
    refine WO_fin [3, 4, 5, 6, 7, 8] [] (fr' := [(3, aB r1.1), (4, aI r1.2), (5, aD (.slice .bool) r3.1), (6, aI r3.2), (7, aD (.slice .bool) r8.1), (8, aB r8.2)]) (L' := []) (by kernel_rfl) (by kernel_rfl) ?_
    refine seqQ_norm ?_
    refine W_seq (by kernel_rfl) ?_
    refine W_seq (by kernel_rfl) ?_
    refine W_run 2 [] [3, 4, 5, 6, 7, 43] [] (fr' := [(3, aB r1.1), (4, aI r1.2), (5, aD (.slice .bool) r3.1), (6, aI r3.2), (7, aD (.slice .bool) r8.1), (43, aB (!r8.2))]) (L' := []) (obs := []) (by kernel_rfl) (by kernel_rfl) (by kernel_rfl) allP0 ?_
    refine seqQ_norm ?_
    refine W_cond (o := .tmp 43) (b := !r8.2) (by kernel_rfl) (by kernel_rfl) (fun h10 => ?_) (fun h10 => ?_)
    · replace h := ofT h10 h
      refine W_seq (by kernel_rfl) ?_
      refine W_run 15 [] [2] [] (fr' := [(2, aB ((((r1.2 == (0 : Int)) && r1.1) && (r3.2 == (5 : Int))) && ((List.length r3.1 : Int) == (0 : Int))))]) (L' := []) (obs := []) (by kernel_rfl) (by kernel_rfl) (by kernel_rfl) allP0 ?_
      refine seqQ_norm ?_
      obtain rfl := Option.some.inj h
      refine W_ret [2] [] (fr' := [(2, aB ((((r1.2 == (0 : Int)) && r1.1) && (r3.2 == (5 : Int))) && ((List.length r3.1 : Int) == (0 : Int))))]) (L' := []) (by kernel_rfl) (by kernel_rfl) ?_
      refine seqQ_ret ?_
      exact retQ_mk (by kernel_rfl) (by kernel_rfl) (by kernel_rfl)
    · replace h := ofF h10 h
      refine W_skip [3, 4, 5, 6, 7] [] (fr' := [(3, aB r1.1), (4, aI r1.2), (5, aD (.slice .bool) r3.1), (6, aI r3.2), (7, aD (.slice .bool) r8.1)]) (L' := []) (by kernel_rfl) (by kernel_rfl) ?_
      refine seqQ_norm ?_
      refine W_seq (by kernel_rfl) ?_
      obtain ⟨v20, h21, h⟩ := bind_of h
      refine W_cutK (Q' := (exQ .normal law_CellOntos_s1) v20) ?_ ?_
      · replace h := h21
        refine W_region (by kernel_rfl) ?_
        refine WO_run (j := 11) (k := 11) (orcs := []) (kF := [5, 7, 68]) (kL := []) (fr' := [(5, aD (.slice .bool) r3.1), (7, aD (.slice .bool) r8.1), (68, aB (((r1.2 == (0 : Int)) && (!r1.1)) && (r3.2 == (0 : Int))))]) (L' := []) (obs := []) rfl (by kernel_rfl) allP0 ?_
        rcases Bool.eq_false_or_eq_true (((r1.2 == (0 : Int)) && (!r1.1)) && (r3.2 == (0 : Int))) with h17 | h17
        · replace h := ofT h17 h
          refine WO_run (j := 13) (k := 2) (orcs := [(22, .known true), (24, .known true)]) (kF := [68, 69, 70]) (kL := []) (fr' := [(68, aB (((r1.2 == (0 : Int)) && (!r1.1)) && (r3.2 == (0 : Int)))), (69, aD (.slice .bool) r3.1), (70, aD (.slice .bool) r8.1)]) (L' := []) (obs := [((((r1.2 == (0 : Int)) && (!r1.1)) && (r3.2 == (0 : Int))) = true), ((((r1.2 == (0 : Int)) && (!r1.1)) && (r3.2 == (0 : Int))) = true)]) rfl (by kernel_rfl) (allP2 h17 (allP1 h17)) ?_
          obtain ⟨r18, h19, h⟩ := bind_of h
          refine WO_call0 (us := [none, none]) (d := 71) (p := ((((r1.2 == (0 : Int)) && (!r1.1)) && (r3.2 == (0 : Int))) = true)) (j := 14) rfl ⟨by kernel_rfl, by kernel_rfl, by kernel_rfl⟩ h17 (ref_Bools_ok h19) (by kernel_rfl) ?_
          refine WO_run (j := 16) (k := 2) (orcs := [(29, .val (.dat .bool true))]) (kF := [2]) (kL := []) (fr' := [(2, aB r18)]) (L' := []) (obs := [((((r1.2 == (0 : Int)) && (!r1.1)) && (r3.2 == (0 : Int))) = true)]) rfl (by kernel_rfl) (allP1 h17) ?_
          obtain rfl := Option.some.inj h
          refine WO_fin [2] [] (fr' := [(2, aB r18)]) (L' := []) (by kernel_rfl) (by kernel_rfl) ?_
          exact exQ_mk (by kernel_rfl) (by kernel_rfl)
        · replace h := ofF h17 h
          refine WO_run (j := 16) (k := 5) (orcs := [(22, .known false), (24, .known false), (26, .known false), (29, .val (.dat .bool false))]) (kF := [2]) (kL := []) (fr' := [(2, aB false)]) (L' := []) (obs := [((((r1.2 == (0 : Int)) && (!r1.1)) && (r3.2 == (0 : Int))) = false), ((((r1.2 == (0 : Int)) && (!r1.1)) && (r3.2 == (0 : Int))) = false), ((((r1.2 == (0 : Int)) && (!r1.1)) && (r3.2 == (0 : Int))) = false), ((((r1.2 == (0 : Int)) && (!r1.1)) && (r3.2 == (0 : Int))) = false)]) rfl (by kernel_rfl) (allP2 h17 (allP2 h17 (allP2 h17 (allP1 h17)))) ?_
          obtain rfl := Option.some.inj h
          refine WO_fin [2] [] (fr' := [(2, aB false)]) (L' := []) (by kernel_rfl) (by kernel_rfl) ?_
          exact exQ_mk (by kernel_rfl) (by kernel_rfl)
      · intro e fr L hJ
        obtain ⟨rfl, rfl, rfl⟩ := hJ
        refine LT_keep [2] [] (fr' := [(2, aB v20)]) (L' := []) (by kernel_rfl) ?_
        refine seqQ_norm ?_
        obtain rfl := Option.some.inj h
        refine W_ret [2] [] (fr' := [(2, aB v20)]) (L' := []) (by kernel_rfl) (by kernel_rfl) ?_
        exact retQ_mk (by kernel_rfl) (by kernel_rfl) (by kernel_rfl)
end Go.Proofs.Ytnblafiefaalgaa.cellOntos
