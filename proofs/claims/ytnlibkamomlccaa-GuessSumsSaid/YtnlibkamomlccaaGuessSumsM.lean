/- What the functions that GuessSums calls compute, as models, and that they compute it: written by a program of mine. -/
import Derived.Test.YtnlibkamomlccaaProg
import Derived.Test.YtnlibkamomlccaaSl3
set_option linter.all false
set_option maxRecDepth 100000
namespace Go.Proofs.Ytnlibkamomlccaa.guessSums
open Go Go.Sl
def guess_table (a0 : Int) (a1 : (List Bool)) : Option Int :=
bif (decide (a0 < (0 : Int))) || (decide (a0 > (4 : Int))) then
(some (1 : Int))
else
((ck (0 ≤ a0)).bind fun _ =>
bif (List.length a1 : Int) != (bShl .i64 (1 : Int) a0) then
(some (3 : Int))
else
(some (0 : Int)))
theorem guess_table_ok {a0 : Int} {a1 : (List Bool)} {r : Int} (h : guess_table a0 a1 = some r) : FnC Try.prog 45 [aI a0, aD (.slice .bool) a1] [] (aI r) [] := by
  refine fnC_of_W (B := bodyOf Try.f45) (n := 16) Try.func45 (by kernel_rfl) (by kernel_rfl) (by kernel_rfl) (by kernel_rfl) (by kernel_rfl) ?_
  intro K
  refine W_seq (by kernel_rfl) ?_
  refine W_run 1 [] [0, 1] [] (fr' := [(0, aI a0), (1, aD (.slice .bool) a1)]) (L' := []) (obs := []) (by kernel_rfl) (by kernel_rfl) (by kernel_rfl) allP0 ?_
  refine seqQ_norm ?_
  refine W_seq (by kernel_rfl) ?_
  refine W_seq (by kernel_rfl) ?_
  refine W_run 6 [] [0, 1, 10] [] (fr' := [(0, aI a0), (1, aD (.slice .bool) a1), (10, aB ((decide (a0 < (0 : Int))) || (decide (a0 > (4 : Int)))))]) (L' := []) (obs := []) (by kernel_rfl) (by kernel_rfl) (by kernel_rfl) allP0 ?_
  refine seqQ_norm ?_
  refine W_cond (o := .tmp 10) (b := (decide (a0 < (0 : Int))) || (decide (a0 > (4 : Int)))) (by kernel_rfl) (by kernel_rfl) (fun h1 => ?_) (fun h1 => ?_)
  · replace h := ofT h1 h
    refine W_seq (by kernel_rfl) ?_
    refine W_run 1 [] [4] [] (fr' := [(4, aI (1 : Int))]) (L' := []) (obs := []) (by kernel_rfl) (by kernel_rfl) (by kernel_rfl) allP0 ?_
    refine seqQ_norm ?_
    obtain rfl := Option.some.inj h
    refine W_ret [4] [] (fr' := [(4, aI (1 : Int))]) (L' := []) (by kernel_rfl) (by kernel_rfl) ?_
    refine seqQ_ret ?_
    exact retQ_mk (by kernel_rfl) (by kernel_rfl) (by kernel_rfl)
  · replace h := ofF h1 h
    refine W_skip [0, 1] [] (fr' := [(0, aI a0), (1, aD (.slice .bool) a1)]) (L' := []) (by kernel_rfl) (by kernel_rfl) ?_
    refine seqQ_norm ?_
    refine W_seq (by kernel_rfl) ?_
    refine W_seq (by kernel_rfl) ?_
    obtain ⟨_, h2, h⟩ := bind_of h
    replace h2 := ck_some h2
    refine W_run 5 [] [15] [] (fr' := [(15, aB ((List.length a1 : Int) != (bShl .i64 (1 : Int) a0)))]) (L' := []) (obs := [(0 ≤ a0)]) (by kernel_rfl) (by kernel_rfl) (by kernel_rfl) (allP1 h2) ?_
    refine seqQ_norm ?_
    refine W_cond (o := .tmp 15) (b := (List.length a1 : Int) != (bShl .i64 (1 : Int) a0)) (by kernel_rfl) (by kernel_rfl) (fun h3 => ?_) (fun h3 => ?_)
    · replace h := ofT h3 h
      refine W_seq (by kernel_rfl) ?_
      refine W_run 1 [] [4] [] (fr' := [(4, aI (3 : Int))]) (L' := []) (obs := []) (by kernel_rfl) (by kernel_rfl) (by kernel_rfl) allP0 ?_
      refine seqQ_norm ?_
      obtain rfl := Option.some.inj h
      refine W_ret [4] [] (fr' := [(4, aI (3 : Int))]) (L' := []) (by kernel_rfl) (by kernel_rfl) ?_
      refine seqQ_ret ?_
      exact retQ_mk (by kernel_rfl) (by kernel_rfl) (by kernel_rfl)
    · replace h := ofF h3 h
      refine W_skip [] [] (fr' := []) (L' := []) (by kernel_rfl) (by kernel_rfl) ?_
      refine seqQ_norm ?_
      refine W_seq (by kernel_rfl) ?_
      refine W_run 1 [] [4] [] (fr' := [(4, aI (0 : Int))]) (L' := []) (obs := []) (by kernel_rfl) (by kernel_rfl) (by kernel_rfl) allP0 ?_
      refine seqQ_norm ?_
      obtain rfl := Option.some.inj h
      refine W_ret [4] [] (fr' := [(4, aI (0 : Int))]) (L' := []) (by kernel_rfl) (by kernel_rfl) ?_
      exact retQ_mk (by kernel_rfl) (by kernel_rfl) (by kernel_rfl)

@[reducible] def guess_Sums_s20 (a1 : (List Bool)) (i128 : Int) (v131 : Bool) (i172 : Int) (v : Int) : Fr × LL := ([(1, aD (.slice .bool) a1), (7, aI v), (8, aI i128), (9, aB v131), (18, aD (.slice .bool) a1), (19, aI (List.length a1 : Int)), (20, aI i128), (25, aD (.slice .bool) a1), (26, aI (List.length a1 : Int)), (27, aI i172)], [])
def guess_Sums_b21 (a1 : (List Bool)) (i128 : Int) (v131 : Bool) (i172 : Int) (v175 : Bool) (x173 : Int) : Option (Flow Int Int) :=
((idx a1 (bXor .i64 i128 i172)).bind fun v184 =>
bif !(v184 == (!(v131 == v175))) then
(some (w64 (x173 + (1 : Int))))
else
(some x173)).bind fun v187 =>
some (.next v187)
@[reducible] def guess_Sums_s22 (a1 : (List Bool)) (i128 : Int) (v131 : Bool) (v : Int × Int) : Fr × LL := ([(1, aD (.slice .bool) a1), (7, aI v.2), (8, aI i128), (9, aB v131), (18, aD (.slice .bool) a1), (19, aI (List.length a1 : Int)), (20, aI i128), (25, aD (.slice .bool) a1), (26, aI (List.length a1 : Int)), (27, aI v.1)], [])
@[reducible] def guess_Sums_s23 (a1 : (List Bool)) (i128 : Int) (v : Int) : Fr × LL := ([(1, aD (.slice .bool) a1), (7, aI v), (18, aD (.slice .bool) a1), (19, aI (List.length a1 : Int)), (20, aI i128)], [])
def guess_Sums_b24 (a1 : (List Bool)) (i128 : Int) (v131 : Bool) (x129 : Int) : Option (Flow Int Int) :=
(forL (guess_Sums_b21 a1 i128 v131) (fun x173 => x173) a1 0 x129).bind fun v190 =>
some (.next v190)
@[reducible] def guess_Sums_s25 (a1 : (List Bool)) (v : Int × Int) : Fr × LL := ([(1, aD (.slice .bool) a1), (7, aI v.2), (18, aD (.slice .bool) a1), (19, aI (List.length a1 : Int)), (20, aI v.1)], [])
@[reducible] def guess_Sums_s26 (v : Int) : Fr × LL := ([(7, aI v)], [])
def guess_Sums (a0 : Int) (a1 : (List Bool)) : Option (Int × Int) :=
(guess_table a0 a1).bind fun r1 =>
bif r1 != (0 : Int) then
(some ((0 : Int), r1))
else
((forL (guess_Sums_b24 a1) (fun x129 => x129) a1 0 (0 : Int)).bind fun v196 =>
some (v196, (0 : Int)))
theorem guess_Sums_ok {a0 : Int} {a1 : (List Bool)} {r : (Int × Int)} (h : guess_Sums a0 a1 = some r) : FnC Try.prog 30 [aI a0, aD (.slice .bool) a1] [] (.tup [.dat tI r.1, .dat tI r.2]) [] := by
  refine fnC_of_W (B := bodyOf Try.f30) (n := 47) Try.func30 (by kernel_rfl) (by kernel_rfl) (by kernel_rfl) (by kernel_rfl) (by kernel_rfl) ?_
  intro K
  refine W_seq (by kernel_rfl) ?_
  refine W_run 2 [] [0, 1] [] (fr' := [(0, aI a0), (1, aD (.slice .bool) a1)]) (L' := []) (obs := []) (by kernel_rfl) (by kernel_rfl) (by kernel_rfl) allP0 ?_
  refine seqQ_norm ?_
  refine W_seq (by kernel_rfl) ?_
  refine W_seq (by kernel_rfl) ?_
  refine W_region (by kernel_rfl) ?_
  refine WO_run (j := 2) (k := 2) (orcs := []) (kF := [1, 12, 13]) (kL := []) (fr' := [(1, aD (.slice .bool) a1), (12, aI a0), (13, aD (.slice .bool) a1)]) (L' := []) (obs := []) rfl (by kernel_rfl) allP0 ?_
  obtain ⟨r1, h2, h⟩ := bind_of h
  refine WO_call0 (us := [none, none]) (d := 14) (p := True) (j := 3) rfl ⟨by kernel_rfl, by kernel_rfl, by kernel_rfl⟩ trivial (guess_table_ok h2) (by kernel_rfl) ?_
  refine WO_run (j := 4) (k := 1) (orcs := []) (kF := [1, 6]) (kL := []) (fr' := [(1, aD (.slice .bool) a1), (6, aI r1)]) (L' := []) (obs := []) rfl (by kernel_rfl) allP0 ?_
  refine WO_fin [1, 6] [] (fr' := [(1, aD (.slice .bool) a1), (6, aI r1)]) (L' := []) (by kernel_rfl) (by kernel_rfl) ?_
  refine seqQ_norm ?_
  refine W_seq (by kernel_rfl) ?_
  refine W_run 2 [] [1, 6, 16] [] (fr' := [(1, aD (.slice .bool) a1), (6, aI r1), (16, aB (r1 != (0 : Int)))]) (L' := []) (obs := []) (by kernel_rfl) (by kernel_rfl) (by kernel_rfl) allP0 ?_
  refine seqQ_norm ?_
  refine W_cond (o := .tmp 16) (b := r1 != (0 : Int)) (by kernel_rfl) (by kernel_rfl) (fun h3 => ?_) (fun h3 => ?_)
  · replace h := ofT h3 h
    refine W_seq (by kernel_rfl) ?_
    refine W_run 3 [] [4, 5] [] (fr' := [(4, aI (0 : Int)), (5, aI r1)]) (L' := []) (obs := []) (by kernel_rfl) (by kernel_rfl) (by kernel_rfl) allP0 ?_
    refine seqQ_norm ?_
    obtain rfl := Option.some.inj h
    refine W_ret [4, 5] [] (fr' := [(4, aI (0 : Int)), (5, aI r1)]) (L' := []) (by kernel_rfl) (by kernel_rfl) ?_
    refine seqQ_ret ?_
    exact retQ_mk (by kernel_rfl) (by kernel_rfl) (by kernel_rfl)
  · replace h := ofF h3 h
    refine W_skip [1] [] (fr' := [(1, aD (.slice .bool) a1)]) (L' := []) (by kernel_rfl) (by kernel_rfl) ?_
    refine seqQ_norm ?_
    refine W_seq (by kernel_rfl) ?_
    refine W_run 1 [] [1, 7] [] (fr' := [(1, aD (.slice .bool) a1), (7, aI (0 : Int))]) (L' := []) (obs := []) (by kernel_rfl) (by kernel_rfl) (by kernel_rfl) allP0 ?_
    refine seqQ_norm ?_
    refine W_seq (by kernel_rfl) ?_
    refine W_seq (by kernel_rfl) ?_
    refine W_run 3 [] [1, 7, 18, 19, 20] [] (fr' := [(1, aD (.slice .bool) a1), (7, aI (0 : Int)), (18, aD (.slice .bool) a1), (19, aI (List.length a1 : Int)), (20, aI (0 : Int))]) (L' := []) (obs := []) (by kernel_rfl) (by kernel_rfl) (by kernel_rfl) allP0 ?_
    refine seqQ_norm ?_
    refine W_block (id := 0) (by kernel_rfl) ?_
    obtain ⟨v196, h197, h⟩ := bind_of h
    refine W_len (t := 18) (u := .bool) (xs := a1) (by kernel_rfl) (fun h200 => ?_)
    obtain ⟨h198, h199⟩ := forL_iter h200 h197
    refine W_weaken [1, 7, 18, 19, 20] [] (fr' := ((guess_Sums_s25 a1) ((0 : Int), (0 : Int))).1) (L' := ((guess_Sums_s25 a1) ((0 : Int), (0 : Int))).2) (by kernel_rfl) ?_
    refine W_cutK (W_loop (S := (guess_Sums_s25 a1)) (J := (exQ (.exit 0) guess_Sums_s26)) (by kernel_rfl) ?_ h198 _ v196 h199) ?_
    · rintro ⟨i128, x129⟩ s h
      refine W_seq (by kernel_rfl) ?_
      refine W_run 1 [] [1, 7, 18, 19, 20, 21] [] (fr' := [(1, aD (.slice .bool) a1), (7, aI x129), (18, aD (.slice .bool) a1), (19, aI (List.length a1 : Int)), (20, aI i128), (21, aB (decide (i128 < (List.length a1 : Int))))]) (L' := []) (obs := []) (by kernel_rfl) (by kernel_rfl) (by kernel_rfl) allP0 ?_
      refine seqQ_norm ?_
      refine W_seq (by kernel_rfl) ?_
      refine W_cond (o := .tmp 21) (b := decide (i128 < (List.length a1 : Int))) (by kernel_rfl) (by kernel_rfl) (fun h133 => ?_) (fun h133 => ?_)
      · replace h := stepL_true h133 h
        obtain ⟨v131, _, h132, h, rfl⟩ := h
        refine W_skip [1, 7, 18, 19, 20] [] (fr' := [(1, aD (.slice .bool) a1), (7, aI x129), (18, aD (.slice .bool) a1), (19, aI (List.length a1 : Int)), (20, aI i128)]) (L' := []) (by kernel_rfl) (by kernel_rfl) ?_
        refine seqQ_norm ?_
        refine W_seq (by kernel_rfl) ?_
        refine W_block (id := 1) (by kernel_rfl) ?_
        refine W_seq (by kernel_rfl) ?_
        refine W_run 5 [(3, .val (.dat .bool v131))] [1, 7, 8, 9, 18, 19, 20] [] (fr' := [(1, aD (.slice .bool) a1), (7, aI x129), (8, aI i128), (9, aB v131), (18, aD (.slice .bool) a1), (19, aI (List.length a1 : Int)), (20, aI i128)]) (L' := []) (obs := [Idx a1 i128 v131]) (by kernel_rfl) (by kernel_rfl) (by kernel_rfl) (allP1 (Idx.of h132)) ?_
        refine seqQ_norm ?_
        refine W_seq (by kernel_rfl) ?_
        refine W_run 3 [] [1, 7, 8, 9, 18, 19, 20, 25, 26, 27] [] (fr' := [(1, aD (.slice .bool) a1), (7, aI x129), (8, aI i128), (9, aB v131), (18, aD (.slice .bool) a1), (19, aI (List.length a1 : Int)), (20, aI i128), (25, aD (.slice .bool) a1), (26, aI (List.length a1 : Int)), (27, aI (0 : Int))]) (L' := []) (obs := []) (by kernel_rfl) (by kernel_rfl) (by kernel_rfl) allP0 ?_
        refine seqQ_norm ?_
        refine W_block (id := 2) (by kernel_rfl) ?_
        obtain ⟨v190, h191, h⟩ := bind_of h
        refine W_len (t := 25) (u := .bool) (xs := a1) (by kernel_rfl) (fun h194 => ?_)
        obtain ⟨h192, h193⟩ := forL_iter h194 h191
        refine W_weaken [1, 7, 8, 9, 18, 19, 20, 25, 26, 27] [] (fr' := ((guess_Sums_s22 a1 i128 v131) ((0 : Int), x129)).1) (L' := ((guess_Sums_s22 a1 i128 v131) ((0 : Int), x129)).2) (by kernel_rfl) ?_
        refine W_cutK (W_loop (S := (guess_Sums_s22 a1 i128 v131)) (J := (exQ (.exit 2) (guess_Sums_s23 a1 i128))) (by kernel_rfl) ?_ h192 _ v190 h193) ?_
        · rintro ⟨i172, x173⟩ s h
          refine W_seq (by kernel_rfl) ?_
          refine W_run 1 [] [1, 7, 8, 9, 18, 19, 20, 25, 26, 27, 28] [] (fr' := [(1, aD (.slice .bool) a1), (7, aI x173), (8, aI i128), (9, aB v131), (18, aD (.slice .bool) a1), (19, aI (List.length a1 : Int)), (20, aI i128), (25, aD (.slice .bool) a1), (26, aI (List.length a1 : Int)), (27, aI i172), (28, aB (decide (i172 < (List.length a1 : Int))))]) (L' := []) (obs := []) (by kernel_rfl) (by kernel_rfl) (by kernel_rfl) allP0 ?_
          refine seqQ_norm ?_
          refine W_seq (by kernel_rfl) ?_
          refine W_cond (o := .tmp 28) (b := decide (i172 < (List.length a1 : Int))) (by kernel_rfl) (by kernel_rfl) (fun h177 => ?_) (fun h177 => ?_)
          · replace h := stepL_true h177 h
            obtain ⟨v175, _, h176, h, rfl⟩ := h
            refine W_skip [1, 7, 8, 9, 18, 19, 20, 25, 26, 27] [] (fr' := [(1, aD (.slice .bool) a1), (7, aI x173), (8, aI i128), (9, aB v131), (18, aD (.slice .bool) a1), (19, aI (List.length a1 : Int)), (20, aI i128), (25, aD (.slice .bool) a1), (26, aI (List.length a1 : Int)), (27, aI i172)]) (L' := []) (by kernel_rfl) (by kernel_rfl) ?_
            refine seqQ_norm ?_
            refine W_seq (by kernel_rfl) ?_
            obtain ⟨v187, h188, h⟩ := bind_of h
            refine W_cutK (Q' := (exQ .normal (guess_Sums_s20 a1 i128 v131 i172)) v187) ?_ ?_
            · replace h := h188
              refine W_block (id := 3) (by kernel_rfl) ?_
              refine W_seq (by kernel_rfl) ?_
              refine W_run 5 [(3, .val (.dat .bool v175))] [1, 7, 8, 9, 10, 11, 18, 19, 20, 25, 26, 27] [] (fr' := [(1, aD (.slice .bool) a1), (7, aI x173), (8, aI i128), (9, aB v131), (10, aI i172), (11, aB v175), (18, aD (.slice .bool) a1), (19, aI (List.length a1 : Int)), (20, aI i128), (25, aD (.slice .bool) a1), (26, aI (List.length a1 : Int)), (27, aI i172)]) (L' := []) (obs := [Idx a1 i172 v175]) (by kernel_rfl) (by kernel_rfl) (by kernel_rfl) (allP1 (Idx.of h176)) ?_
              refine seqQ_norm ?_
              refine W_seq (by kernel_rfl) ?_
              obtain ⟨v184, h185, h⟩ := bind_of h
              refine W_run 10 [(9, .val (.dat .bool v184))] [1, 7, 8, 9, 18, 19, 20, 25, 26, 27, 41] [] (fr' := [(1, aD (.slice .bool) a1), (7, aI x173), (8, aI i128), (9, aB v131), (18, aD (.slice .bool) a1), (19, aI (List.length a1 : Int)), (20, aI i128), (25, aD (.slice .bool) a1), (26, aI (List.length a1 : Int)), (27, aI i172), (41, aB (!(v184 == (!(v131 == v175)))))]) (L' := []) (obs := [Idx a1 (bXor .i64 i128 i172) v184]) (by kernel_rfl) (by kernel_rfl) (by kernel_rfl) (allP1 (Idx.of h185)) ?_
              refine seqQ_norm ?_
              refine W_cond (o := .tmp 41) (b := !(v184 == (!(v131 == v175)))) (by kernel_rfl) (by kernel_rfl) (fun h186 => ?_) (fun h186 => ?_)
              · replace h := ofT h186 h
                obtain rfl := Option.some.inj h
                refine W_run 3 [] [1, 7, 8, 9, 18, 19, 20, 25, 26, 27] [] (fr' := [(1, aD (.slice .bool) a1), (7, aI (w64 (x173 + (1 : Int)))), (8, aI i128), (9, aB v131), (18, aD (.slice .bool) a1), (19, aI (List.length a1 : Int)), (20, aI i128), (25, aD (.slice .bool) a1), (26, aI (List.length a1 : Int)), (27, aI i172)]) (L' := []) (obs := []) (by kernel_rfl) (by kernel_rfl) (by kernel_rfl) allP0 ?_
                refine blockQ_norm ?_
                exact exQ_mk (by kernel_rfl) (by kernel_rfl)
              · replace h := ofF h186 h
                obtain rfl := Option.some.inj h
                refine W_skip [1, 7, 8, 9, 18, 19, 20, 25, 26, 27] [] (fr' := [(1, aD (.slice .bool) a1), (7, aI x173), (8, aI i128), (9, aB v131), (18, aD (.slice .bool) a1), (19, aI (List.length a1 : Int)), (20, aI i128), (25, aD (.slice .bool) a1), (26, aI (List.length a1 : Int)), (27, aI i172)]) (L' := []) (by kernel_rfl) (by kernel_rfl) ?_
                refine blockQ_norm ?_
                exact exQ_mk (by kernel_rfl) (by kernel_rfl)
            · intro e fr L hJ
              obtain ⟨rfl, rfl, rfl⟩ := hJ
              refine LT_keep [1, 7, 8, 9, 18, 19, 20, 25, 26, 27] [] (fr' := [(1, aD (.slice .bool) a1), (7, aI v187), (8, aI i128), (9, aB v131), (18, aD (.slice .bool) a1), (19, aI (List.length a1 : Int)), (20, aI i128), (25, aD (.slice .bool) a1), (26, aI (List.length a1 : Int)), (27, aI i172)]) (L' := []) (by kernel_rfl) ?_
              refine seqQ_norm ?_
              obtain rfl := Option.some.inj h
              refine W_run 2 [] [1, 7, 8, 9, 18, 19, 20, 25, 26, 27] [] (fr' := [(1, aD (.slice .bool) a1), (7, aI v187), (8, aI i128), (9, aB v131), (18, aD (.slice .bool) a1), (19, aI (List.length a1 : Int)), (20, aI i128), (25, aD (.slice .bool) a1), (26, aI (List.length a1 : Int)), (27, aI (w64 (i172 + (1 : Int))))]) (L' := []) (obs := []) (by kernel_rfl) (by kernel_rfl) (by kernel_rfl) allP0 ?_
              exact round_next' (by kernel_rfl) (by kernel_rfl)
          · obtain rfl := stepL_false h177 h
            refine W_exit (id := 2) [1, 7, 18, 19, 20] [] (fr' := [(1, aD (.slice .bool) a1), (7, aI x173), (18, aD (.slice .bool) a1), (19, aI (List.length a1 : Int)), (20, aI i128)]) (L' := []) (by kernel_rfl) (by kernel_rfl) ?_
            refine seqQ_exit ?_
            refine round_exit ?_
            exact exQ_mk (by kernel_rfl) (by kernel_rfl)
        · intro e fr L hJ
          obtain ⟨rfl, rfl, rfl⟩ := hJ
          refine LT_keep [1, 7, 18, 19, 20] [] (fr' := [(1, aD (.slice .bool) a1), (7, aI v190), (18, aD (.slice .bool) a1), (19, aI (List.length a1 : Int)), (20, aI i128)]) (L' := []) (by kernel_rfl) ?_
          refine blockQ_hit ?_
          refine blockQ_norm ?_
          refine seqQ_norm ?_
          obtain rfl := Option.some.inj h
          refine W_run 2 [] [1, 7, 18, 19, 20] [] (fr' := [(1, aD (.slice .bool) a1), (7, aI v190), (18, aD (.slice .bool) a1), (19, aI (List.length a1 : Int)), (20, aI (w64 (i128 + (1 : Int))))]) (L' := []) (obs := []) (by kernel_rfl) (by kernel_rfl) (by kernel_rfl) allP0 ?_
          exact round_next' (by kernel_rfl) (by kernel_rfl)
      · obtain rfl := stepL_false h133 h
        refine W_exit (id := 0) [7] [] (fr' := [(7, aI x129)]) (L' := []) (by kernel_rfl) (by kernel_rfl) ?_
        refine seqQ_exit ?_
        refine round_exit ?_
        exact exQ_mk (by kernel_rfl) (by kernel_rfl)
    · intro e fr L hJ
      obtain ⟨rfl, rfl, rfl⟩ := hJ
      refine LT_keep [7] [] (fr' := [(7, aI v196)]) (L' := []) (by kernel_rfl) ?_
      refine blockQ_hit ?_
      refine seqQ_norm ?_
      refine W_seq (by kernel_rfl) ?_
      refine W_run 3 [] [4, 5] [] (fr' := [(4, aI v196), (5, aI (0 : Int))]) (L' := []) (obs := []) (by kernel_rfl) (by kernel_rfl) (by kernel_rfl) allP0 ?_
      refine seqQ_norm ?_
      obtain rfl := Option.some.inj h
      refine W_ret [4, 5] [] (fr' := [(4, aI v196), (5, aI (0 : Int))]) (L' := []) (by kernel_rfl) (by kernel_rfl) ?_
      exact retQ_mk (by kernel_rfl) (by kernel_rfl) (by kernel_rfl)

def ref_Within (a0 : Int) (a1 : Int) (a2 : Int) : Option Bool :=
some ((decide (a0 ≤ a1)) && (decide (a1 ≤ a2)))
theorem ref_Within_ok {a0 : Int} {a1 : Int} {a2 : Int} {r : Bool} (h : ref_Within a0 a1 a2 = some r) : FnC Try.prog 34 [aI a0, aI a1, aI a2] [] (aB r) [] := by
  refine fnC_of_W (B := bodyOf Try.f34) (n := 15) Try.func34 (by kernel_rfl) (by kernel_rfl) (by kernel_rfl) (by kernel_rfl) (by kernel_rfl) ?_
  intro K
  refine W_seq (by kernel_rfl) ?_
  refine W_run 1 [] [0, 1, 2] [] (fr' := [(0, aI a0), (1, aI a1), (2, aI a2)]) (L' := []) (obs := []) (by kernel_rfl) (by kernel_rfl) (by kernel_rfl) allP0 ?_
  refine seqQ_norm ?_
  refine W_seq (by kernel_rfl) ?_
  refine W_run 9 [] [6] [] (fr' := [(6, aB ((decide (a0 ≤ a1)) && (decide (a1 ≤ a2))))]) (L' := []) (obs := []) (by kernel_rfl) (by kernel_rfl) (by kernel_rfl) allP0 ?_
  refine seqQ_norm ?_
  obtain rfl := Option.some.inj h
  refine W_ret [6] [] (fr' := [(6, aB ((decide (a0 ≤ a1)) && (decide (a1 ≤ a2))))]) (L' := []) (by kernel_rfl) (by kernel_rfl) ?_
  exact retQ_mk (by kernel_rfl) (by kernel_rfl) (by kernel_rfl)

def ref_Inside_b1 (a0 : Int) (i11 : Int) (v14 : Int) (x12 : Unit) : Option (Flow Unit (Esc Bool Unit)) :=
bif (decide (v14 < (0 : Int))) || (decide (v14 ≥ a0)) then
(some (.done (.ret false)))
else
(some (.next ()))
@[reducible] def ref_Inside_s2 (a0 : Int) (a1 : (List Int)) (v : Int × Unit) : Fr × LL := ([(0, aI a0), (7, aD (.slice tI) a1), (8, aI (List.length a1 : Int)), (9, aI v.1)], [])
@[reducible] def ref_Inside_s3 (v : Bool) : Fr × LL := ([(4, aB v)], [])
@[reducible] def ref_Inside_s4 (v : Unit) : Fr × LL := ([], [])
def ref_Inside (a0 : Int) (a1 : (List Int)) : Option Bool :=
(forL (ref_Inside_b1 a0) (fun x12 => (.brk ())) a1 0 ()).bind fun v19 =>
match v19 with
| .ret v24 =>
(some v24)
| .brk v25 =>
(some true)
theorem ref_Inside_ok {a0 : Int} {a1 : (List Int)} {r : Bool} (h : ref_Inside a0 a1 = some r) : FnC Try.prog 35 [aI a0, aD (.slice tI) a1] [] (aB r) [] := by
  refine fnC_of_W (B := bodyOf Try.f35) (n := 21) Try.func35 (by kernel_rfl) (by kernel_rfl) (by kernel_rfl) (by kernel_rfl) (by kernel_rfl) ?_
  intro K
  refine W_seq (by kernel_rfl) ?_
  refine W_run 1 [] [0, 1] [] (fr' := [(0, aI a0), (1, aD (.slice tI) a1)]) (L' := []) (obs := []) (by kernel_rfl) (by kernel_rfl) (by kernel_rfl) allP0 ?_
  refine seqQ_norm ?_
  refine W_seq (by kernel_rfl) ?_
  refine W_seq (by kernel_rfl) ?_
  refine W_run 3 [] [0, 7, 8, 9] [] (fr' := [(0, aI a0), (7, aD (.slice tI) a1), (8, aI (List.length a1 : Int)), (9, aI (0 : Int))]) (L' := []) (obs := []) (by kernel_rfl) (by kernel_rfl) (by kernel_rfl) allP0 ?_
  refine seqQ_norm ?_
  refine W_block (id := 0) (by kernel_rfl) ?_
  obtain ⟨v19, h20, h⟩ := bind_of h
  refine W_len (t := 7) (u := tI) (xs := a1) (by kernel_rfl) (fun h23 => ?_)
  obtain ⟨h21, h22⟩ := forL_iter h23 h20
  refine W_weaken [0, 7, 8, 9] [] (fr' := ((ref_Inside_s2 a0 a1) ((0 : Int), ())).1) (L' := ((ref_Inside_s2 a0 a1) ((0 : Int), ())).2) (by kernel_rfl) ?_
  refine W_cutK (W_loop (S := (ref_Inside_s2 a0 a1)) (J := (escQ (exQ .ret ref_Inside_s3) (exQ (.exit 0) ref_Inside_s4))) (by kernel_rfl) ?_ h21 _ v19 h22) ?_
  · rintro ⟨i11, x12⟩ s h
    refine W_seq (by kernel_rfl) ?_
    refine W_run 1 [] [0, 7, 8, 9, 10] [] (fr' := [(0, aI a0), (7, aD (.slice tI) a1), (8, aI (List.length a1 : Int)), (9, aI i11), (10, aB (decide (i11 < (List.length a1 : Int))))]) (L' := []) (obs := []) (by kernel_rfl) (by kernel_rfl) (by kernel_rfl) allP0 ?_
    refine seqQ_norm ?_
    refine W_seq (by kernel_rfl) ?_
    refine W_cond (o := .tmp 10) (b := decide (i11 < (List.length a1 : Int))) (by kernel_rfl) (by kernel_rfl) (fun h16 => ?_) (fun h16 => ?_)
    · replace h := stepL_true h16 h
      obtain ⟨v14, _, h15, h, rfl⟩ := h
      refine W_skip [0, 7, 8, 9] [] (fr' := [(0, aI a0), (7, aD (.slice tI) a1), (8, aI (List.length a1 : Int)), (9, aI i11)]) (L' := []) (by kernel_rfl) (by kernel_rfl) ?_
      refine seqQ_norm ?_
      refine W_seq (by kernel_rfl) ?_
      refine W_block (id := 1) (by kernel_rfl) ?_
      refine W_seq (by kernel_rfl) ?_
      refine W_run 3 [(1, .val (.dat tI v14))] [0, 6, 7, 8, 9] [] (fr' := [(0, aI a0), (6, aI v14), (7, aD (.slice tI) a1), (8, aI (List.length a1 : Int)), (9, aI i11)]) (L' := []) (obs := [Idx a1 i11 v14]) (by kernel_rfl) (by kernel_rfl) (by kernel_rfl) (allP1 (Idx.of h15)) ?_
      refine seqQ_norm ?_
      refine W_seq (by kernel_rfl) ?_
      refine W_run 7 [] [0, 7, 8, 9, 19] [] (fr' := [(0, aI a0), (7, aD (.slice tI) a1), (8, aI (List.length a1 : Int)), (9, aI i11), (19, aB ((decide (v14 < (0 : Int))) || (decide (v14 ≥ a0))))]) (L' := []) (obs := []) (by kernel_rfl) (by kernel_rfl) (by kernel_rfl) allP0 ?_
      refine seqQ_norm ?_
      refine W_cond (o := .tmp 19) (b := (decide (v14 < (0 : Int))) || (decide (v14 ≥ a0))) (by kernel_rfl) (by kernel_rfl) (fun h17 => ?_) (fun h17 => ?_)
      · replace h := ofT h17 h
        refine W_seq (by kernel_rfl) ?_
        refine W_run 1 [] [4] [] (fr' := [(4, aB false)]) (L' := []) (obs := []) (by kernel_rfl) (by kernel_rfl) (by kernel_rfl) allP0 ?_
        refine seqQ_norm ?_
        obtain rfl := Option.some.inj h
        refine W_ret [4] [] (fr' := [(4, aB false)]) (L' := []) (by kernel_rfl) (by kernel_rfl) ?_
        refine blockQ_ret ?_
        refine seqQ_ret ?_
        refine round_ret ?_
        refine escQ_ret ?_
        exact exQ_mk (by kernel_rfl) (by kernel_rfl)
      · replace h := ofF h17 h
        refine W_skip [0, 7, 8, 9] [] (fr' := [(0, aI a0), (7, aD (.slice tI) a1), (8, aI (List.length a1 : Int)), (9, aI i11)]) (L' := []) (by kernel_rfl) (by kernel_rfl) ?_
        refine blockQ_norm ?_
        refine seqQ_norm ?_
        obtain rfl := Option.some.inj h
        refine W_run 2 [] [0, 7, 8, 9] [] (fr' := [(0, aI a0), (7, aD (.slice tI) a1), (8, aI (List.length a1 : Int)), (9, aI (w64 (i11 + (1 : Int))))]) (L' := []) (obs := []) (by kernel_rfl) (by kernel_rfl) (by kernel_rfl) allP0 ?_
        exact round_next' (by kernel_rfl) (by kernel_rfl)
    · obtain rfl := stepL_false h16 h
      refine W_exit (id := 0) [] [] (fr' := []) (L' := []) (by kernel_rfl) (by kernel_rfl) ?_
      refine seqQ_exit ?_
      refine round_exit ?_
      refine escQ_brk ?_
      exact exQ_mk (by kernel_rfl) (by kernel_rfl)
  · intro e fr L hJ
    rcases v19 with v24 | v25
    · obtain ⟨rfl, rfl, rfl⟩ := hJ
      obtain rfl := Option.some.inj h
      refine LT_keep [4] [] (fr' := [(4, aB v24)]) (L' := []) (by kernel_rfl) ?_
      refine blockQ_ret ?_
      refine seqQ_ret ?_
      exact retQ_mk (by kernel_rfl) (by kernel_rfl) (by kernel_rfl)
    · obtain ⟨rfl, rfl, rfl⟩ := hJ
      refine LT_keep [] [] (fr' := []) (L' := []) (by kernel_rfl) ?_
      refine blockQ_hit ?_
      refine seqQ_norm ?_
      refine W_seq (by kernel_rfl) ?_
      refine W_run 1 [] [4] [] (fr' := [(4, aB true)]) (L' := []) (obs := []) (by kernel_rfl) (by kernel_rfl) (by kernel_rfl) allP0 ?_
      refine seqQ_norm ?_
      obtain rfl := Option.some.inj h
      refine W_ret [4] [] (fr' := [(4, aB true)]) (L' := []) (by kernel_rfl) (by kernel_rfl) ?_
      exact retQ_mk (by kernel_rfl) (by kernel_rfl) (by kernel_rfl)

def ref_TableCheck (a0 : Int) (a1 : (List Bool)) (a2 : Int) : Option Int :=
(ref_Within (0 : Int) a0 (4 : Int)).bind fun r1 =>
bif !r1 then
(some (1 : Int))
else
((ck (0 ≤ IntKind.wrap .u64 (a0))).bind fun _ =>
bif (List.length a1 : Int) != (bShl .i64 (1 : Int) (IntKind.wrap .u64 (a0))) then
(some (3 : Int))
else
((ref_Inside (List.length a1 : Int) [a2]).bind fun r6 =>
bif !r6 then
(some (4 : Int))
else
(some (0 : Int))))
theorem ref_TableCheck_ok {a0 : Int} {a1 : (List Bool)} {a2 : Int} {r : Int} (h : ref_TableCheck a0 a1 a2 = some r) : FnC Try.prog 18 [aI a0, aD (.slice .bool) a1, aI a2] [] (aI r) [] := by
  refine fnC_of_W (B := bodyOf Try.f18) (n := 22) Try.func18 (by kernel_rfl) (by kernel_rfl) (by kernel_rfl) (by kernel_rfl) (by kernel_rfl) ?_
  intro K
  refine W_seq (by kernel_rfl) ?_
  refine W_run 1 [] [0, 1, 2] [] (fr' := [(0, aI a0), (1, aD (.slice .bool) a1), (2, aI a2)]) (L' := []) (obs := []) (by kernel_rfl) (by kernel_rfl) (by kernel_rfl) allP0 ?_
  refine seqQ_norm ?_
  refine W_seq (by kernel_rfl) ?_
  refine W_seq (by kernel_rfl) ?_
  refine W_region (by kernel_rfl) ?_
  refine WO_run (j := 1) (k := 1) (orcs := []) (kF := [0, 1, 2, 7]) (kL := []) (fr' := [(0, aI a0), (1, aD (.slice .bool) a1), (2, aI a2), (7, aI a0)]) (L' := []) (obs := []) rfl (by kernel_rfl) allP0 ?_
  obtain ⟨r1, h2, h⟩ := bind_of h
  refine WO_call0 (us := [none, none, none]) (d := 8) (p := True) (j := 2) rfl ⟨by kernel_rfl, by kernel_rfl, by kernel_rfl⟩ trivial (ref_Within_ok h2) (by kernel_rfl) ?_
  refine WO_run (j := 3) (k := 1) (orcs := []) (kF := [0, 1, 2, 9]) (kL := []) (fr' := [(0, aI a0), (1, aD (.slice .bool) a1), (2, aI a2), (9, aB (!r1))]) (L' := []) (obs := []) rfl (by kernel_rfl) allP0 ?_
  refine WO_fin [0, 1, 2, 9] [] (fr' := [(0, aI a0), (1, aD (.slice .bool) a1), (2, aI a2), (9, aB (!r1))]) (L' := []) (by kernel_rfl) (by kernel_rfl) ?_
  refine seqQ_norm ?_
  refine W_cond (o := .tmp 9) (b := !r1) (by kernel_rfl) (by kernel_rfl) (fun h3 => ?_) (fun h3 => ?_)
  · replace h := ofT h3 h
    refine W_seq (by kernel_rfl) ?_
    refine W_run 1 [] [6] [] (fr' := [(6, aI (1 : Int))]) (L' := []) (obs := []) (by kernel_rfl) (by kernel_rfl) (by kernel_rfl) allP0 ?_
    refine seqQ_norm ?_
    obtain rfl := Option.some.inj h
    refine W_ret [6] [] (fr' := [(6, aI (1 : Int))]) (L' := []) (by kernel_rfl) (by kernel_rfl) ?_
    refine seqQ_ret ?_
    exact retQ_mk (by kernel_rfl) (by kernel_rfl) (by kernel_rfl)
  · replace h := ofF h3 h
    refine W_skip [0, 1, 2] [] (fr' := [(0, aI a0), (1, aD (.slice .bool) a1), (2, aI a2)]) (L' := []) (by kernel_rfl) (by kernel_rfl) ?_
    refine seqQ_norm ?_
    refine W_seq (by kernel_rfl) ?_
    refine W_seq (by kernel_rfl) ?_
    obtain ⟨_, h4, h⟩ := bind_of h
    replace h4 := ck_some h4
    refine W_run 6 [] [1, 2, 15] [] (fr' := [(1, aD (.slice .bool) a1), (2, aI a2), (15, aB ((List.length a1 : Int) != (bShl .i64 (1 : Int) (IntKind.wrap .u64 (a0)))))]) (L' := []) (obs := [(0 ≤ IntKind.wrap .u64 (a0))]) (by kernel_rfl) (by kernel_rfl) (by kernel_rfl) (allP1 h4) ?_
    refine seqQ_norm ?_
    refine W_cond (o := .tmp 15) (b := (List.length a1 : Int) != (bShl .i64 (1 : Int) (IntKind.wrap .u64 (a0)))) (by kernel_rfl) (by kernel_rfl) (fun h5 => ?_) (fun h5 => ?_)
    · replace h := ofT h5 h
      refine W_seq (by kernel_rfl) ?_
      refine W_run 1 [] [6] [] (fr' := [(6, aI (3 : Int))]) (L' := []) (obs := []) (by kernel_rfl) (by kernel_rfl) (by kernel_rfl) allP0 ?_
      refine seqQ_norm ?_
      obtain rfl := Option.some.inj h
      refine W_ret [6] [] (fr' := [(6, aI (3 : Int))]) (L' := []) (by kernel_rfl) (by kernel_rfl) ?_
      refine seqQ_ret ?_
      exact retQ_mk (by kernel_rfl) (by kernel_rfl) (by kernel_rfl)
    · replace h := ofF h5 h
      refine W_skip [1, 2] [] (fr' := [(1, aD (.slice .bool) a1), (2, aI a2)]) (L' := []) (by kernel_rfl) (by kernel_rfl) ?_
      refine seqQ_norm ?_
      refine W_seq (by kernel_rfl) ?_
      refine W_seq (by kernel_rfl) ?_
      refine W_region (by kernel_rfl) ?_
      refine WO_run (j := 4) (k := 4) (orcs := []) (kF := [17, 19]) (kL := [19]) (fr' := [(17, aI (List.length a1 : Int)), (19, .one (.slc 19))]) (L' := [(19, .seq tI [a2])]) (obs := []) rfl (by kernel_rfl) allP0 ?_
      obtain ⟨r6, h7, h⟩ := bind_of h
      refine WO_frz 19 (by kernel_rfl) ?_
      refine WO_call0 (us := [none, none]) (d := 20) (p := True) (j := 5) rfl ⟨by kernel_rfl, by kernel_rfl, by kernel_rfl⟩ trivial (ref_Inside_ok h7) (by kernel_rfl) ?_
      refine WO_run (j := 6) (k := 1) (orcs := []) (kF := [21]) (kL := []) (fr' := [(21, aB (!r6))]) (L' := []) (obs := []) rfl (by kernel_rfl) allP0 ?_
      refine WO_fin [21] [] (fr' := [(21, aB (!r6))]) (L' := []) (by kernel_rfl) (by kernel_rfl) ?_
      refine seqQ_norm ?_
      refine W_cond (o := .tmp 21) (b := !r6) (by kernel_rfl) (by kernel_rfl) (fun h8 => ?_) (fun h8 => ?_)
      · replace h := ofT h8 h
        refine W_seq (by kernel_rfl) ?_
        refine W_run 1 [] [6] [] (fr' := [(6, aI (4 : Int))]) (L' := []) (obs := []) (by kernel_rfl) (by kernel_rfl) (by kernel_rfl) allP0 ?_
        refine seqQ_norm ?_
        obtain rfl := Option.some.inj h
        refine W_ret [6] [] (fr' := [(6, aI (4 : Int))]) (L' := []) (by kernel_rfl) (by kernel_rfl) ?_
        refine seqQ_ret ?_
        exact retQ_mk (by kernel_rfl) (by kernel_rfl) (by kernel_rfl)
      · replace h := ofF h8 h
        refine W_skip [] [] (fr' := []) (L' := []) (by kernel_rfl) (by kernel_rfl) ?_
        refine seqQ_norm ?_
        refine W_seq (by kernel_rfl) ?_
        refine W_run 1 [] [6] [] (fr' := [(6, aI (0 : Int))]) (L' := []) (obs := []) (by kernel_rfl) (by kernel_rfl) (by kernel_rfl) allP0 ?_
        refine seqQ_norm ?_
        obtain rfl := Option.some.inj h
        refine W_ret [6] [] (fr' := [(6, aI (0 : Int))]) (L' := []) (by kernel_rfl) (by kernel_rfl) ?_
        exact retQ_mk (by kernel_rfl) (by kernel_rfl) (by kernel_rfl)

@[reducible] def law_GuessSums_s23 (a1 : (List Bool)) (r1 : (Int × Int)) (i162 : Int) (i206 : Int) (v : Int) : Fr × LL := ([(1, aD (.slice .bool) a1), (5, aI r1.1), (6, aI r1.2), (8, aI v), (9, aI i162), (10, aI i206)], [])
def law_GuessSums_b24 (a1 : (List Bool)) (i162 : Int) (v165 : Bool) (i206 : Int) (v209 : Bool) (x207 : Int) : Option (Flow Int Int) :=
((idx a1 (bXor .i64 i162 i206)).bind fun v218 =>
bif !(v218 == (!(v165 == v209))) then
(some (w64 (x207 + (1 : Int))))
else
(some x207)).bind fun v221 =>
some (.next v221)
@[reducible] def law_GuessSums_s25 (a1 : (List Bool)) (r1 : (Int × Int)) (i162 : Int) (v : Int × Int) : Fr × LL := ([(1, aD (.slice .bool) a1), (5, aI r1.1), (6, aI r1.2), (8, aI v.2), (9, aI i162), (10, aI v.1)], [])
@[reducible] def law_GuessSums_s26 (a1 : (List Bool)) (r1 : (Int × Int)) (i162 : Int) (v : Int) : Fr × LL := ([(1, aD (.slice .bool) a1), (5, aI r1.1), (6, aI r1.2), (8, aI v), (9, aI i162)], [])
def law_GuessSums_b27 (a1 : (List Bool)) (i162 : Int) (v165 : Bool) (x163 : Int) : Option (Flow Int Int) :=
(forL (law_GuessSums_b24 a1 i162 v165) (fun x207 => x207) a1 0 x163).bind fun v224 =>
some (.next v224)
@[reducible] def law_GuessSums_s28 (a1 : (List Bool)) (r1 : (Int × Int)) (v : Int × Int) : Fr × LL := ([(1, aD (.slice .bool) a1), (5, aI r1.1), (6, aI r1.2), (8, aI v.2), (9, aI v.1)], [])
@[reducible] def law_GuessSums_s29 (r1 : (Int × Int)) (v : Int) : Fr × LL := ([(5, aI r1.1), (6, aI r1.2), (8, aI v)], [])
def law_GuessSums (a0 : Int) (a1 : (List Bool)) : Option Bool :=
(guess_Sums a0 a1).bind fun r1 =>
(ref_TableCheck a0 a1 (0 : Int)).bind fun r3 =>
bif r3 != (0 : Int) then
(some ((r1.2 == r3) && (r1.1 == (0 : Int))))
else
((forL (law_GuessSums_b27 a1) (fun x163 => x163) a1 0 (0 : Int)).bind fun v230 =>
some ((r1.2 == (0 : Int)) && (r1.1 == v230)))
theorem law_GuessSums_ok {a0 : Int} {a1 : (List Bool)} {r : Bool} (h : law_GuessSums a0 a1 = some r) : FnC Try.prog 11 [aI a0, aD (.slice .bool) a1] [] (aB r) [] := by
  refine fnC_of_W (B := bodyOf Try.f11) (n := 68) Try.func11 (by kernel_rfl) (by kernel_rfl) (by kernel_rfl) (by kernel_rfl) (by kernel_rfl) ?_
  intro K
  refine W_seq (by kernel_rfl) ?_
  refine W_run 1 [] [0, 1] [] (fr' := [(0, aI a0), (1, aD (.slice .bool) a1)]) (L' := []) (obs := []) (by kernel_rfl) (by kernel_rfl) (by kernel_rfl) allP0 ?_
  refine seqQ_norm ?_
  refine W_seq (by kernel_rfl) ?_
  refine W_region (by kernel_rfl) ?_
  refine WO_run (j := 2) (k := 2) (orcs := []) (kF := [0, 1, 13, 14]) (kL := []) (fr' := [(0, aI a0), (1, aD (.slice .bool) a1), (13, aI a0), (14, aD (.slice .bool) a1)]) (L' := []) (obs := []) rfl (by kernel_rfl) allP0 ?_
  obtain ⟨r1, h2, h⟩ := bind_of h
  refine WO_call0 (us := [none, none]) (d := 15) (p := True) (j := 3) rfl ⟨by kernel_rfl, by kernel_rfl, by kernel_rfl⟩ trivial (guess_Sums_ok h2) (by kernel_rfl) ?_
  refine WO_run (j := 8) (k := 5) (orcs := []) (kF := [0, 1, 5, 6]) (kL := []) (fr' := [(0, aI a0), (1, aD (.slice .bool) a1), (5, aI r1.1), (6, aI r1.2)]) (L' := []) (obs := []) rfl (by kernel_rfl) allP0 ?_
  refine WO_fin [0, 1, 5, 6] [] (fr' := [(0, aI a0), (1, aD (.slice .bool) a1), (5, aI r1.1), (6, aI r1.2)]) (L' := []) (by kernel_rfl) (by kernel_rfl) ?_
  refine seqQ_norm ?_
  refine W_seq (by kernel_rfl) ?_
  refine W_region (by kernel_rfl) ?_
  refine WO_run (j := 2) (k := 2) (orcs := []) (kF := [1, 5, 6, 18, 19]) (kL := []) (fr' := [(1, aD (.slice .bool) a1), (5, aI r1.1), (6, aI r1.2), (18, aI a0), (19, aD (.slice .bool) a1)]) (L' := []) (obs := []) rfl (by kernel_rfl) allP0 ?_
  obtain ⟨r3, h4, h⟩ := bind_of h
  refine WO_call0 (us := [none, none, none]) (d := 20) (p := True) (j := 3) rfl ⟨by kernel_rfl, by kernel_rfl, by kernel_rfl⟩ trivial (ref_TableCheck_ok h4) (by kernel_rfl) ?_
  refine WO_run (j := 4) (k := 1) (orcs := []) (kF := [1, 5, 6, 7]) (kL := []) (fr' := [(1, aD (.slice .bool) a1), (5, aI r1.1), (6, aI r1.2), (7, aI r3)]) (L' := []) (obs := []) rfl (by kernel_rfl) allP0 ?_
  refine WO_fin [1, 5, 6, 7] [] (fr' := [(1, aD (.slice .bool) a1), (5, aI r1.1), (6, aI r1.2), (7, aI r3)]) (L' := []) (by kernel_rfl) (by kernel_rfl) ?_
  refine seqQ_norm ?_
  refine W_seq (by kernel_rfl) ?_
  refine W_seq (by kernel_rfl) ?_
  refine W_run 2 [] [1, 5, 6, 7, 22] [] (fr' := [(1, aD (.slice .bool) a1), (5, aI r1.1), (6, aI r1.2), (7, aI r3), (22, aB (r3 != (0 : Int)))]) (L' := []) (obs := []) (by kernel_rfl) (by kernel_rfl) (by kernel_rfl) allP0 ?_
  refine seqQ_norm ?_
  refine W_cond (o := .tmp 22) (b := r3 != (0 : Int)) (by kernel_rfl) (by kernel_rfl) (fun h5 => ?_) (fun h5 => ?_)
  · replace h := ofT h5 h
    refine W_seq (by kernel_rfl) ?_
    refine W_run 8 [] [4] [] (fr' := [(4, aB ((r1.2 == r3) && (r1.1 == (0 : Int))))]) (L' := []) (obs := []) (by kernel_rfl) (by kernel_rfl) (by kernel_rfl) allP0 ?_
    refine seqQ_norm ?_
    obtain rfl := Option.some.inj h
    refine W_ret [4] [] (fr' := [(4, aB ((r1.2 == r3) && (r1.1 == (0 : Int))))]) (L' := []) (by kernel_rfl) (by kernel_rfl) ?_
    refine seqQ_ret ?_
    exact retQ_mk (by kernel_rfl) (by kernel_rfl) (by kernel_rfl)
  · replace h := ofF h5 h
    refine W_skip [1, 5, 6] [] (fr' := [(1, aD (.slice .bool) a1), (5, aI r1.1), (6, aI r1.2)]) (L' := []) (by kernel_rfl) (by kernel_rfl) ?_
    refine seqQ_norm ?_
    refine W_seq (by kernel_rfl) ?_
    refine W_run 1 [] [1, 5, 6, 8] [] (fr' := [(1, aD (.slice .bool) a1), (5, aI r1.1), (6, aI r1.2), (8, aI (0 : Int))]) (L' := []) (obs := []) (by kernel_rfl) (by kernel_rfl) (by kernel_rfl) allP0 ?_
    refine seqQ_norm ?_
    refine W_seq (by kernel_rfl) ?_
    refine W_seq (by kernel_rfl) ?_
    refine W_run 1 [] [1, 5, 6, 8, 9] [] (fr' := [(1, aD (.slice .bool) a1), (5, aI r1.1), (6, aI r1.2), (8, aI (0 : Int)), (9, aI (0 : Int))]) (L' := []) (obs := []) (by kernel_rfl) (by kernel_rfl) (by kernel_rfl) allP0 ?_
    refine seqQ_norm ?_
    refine W_block (id := 0) (by kernel_rfl) ?_
    obtain ⟨v230, h231, h⟩ := bind_of h
    refine W_len (t := 1) (u := .bool) (xs := a1) (by kernel_rfl) (fun h234 => ?_)
    obtain ⟨h232, h233⟩ := forL_iter h234 h231
    refine W_weaken [1, 5, 6, 8, 9] [] (fr' := ((law_GuessSums_s28 a1 r1) ((0 : Int), (0 : Int))).1) (L' := ((law_GuessSums_s28 a1 r1) ((0 : Int), (0 : Int))).2) (by kernel_rfl) ?_
    refine W_cutK (W_loop (S := (law_GuessSums_s28 a1 r1)) (J := (exQ (.exit 0) (law_GuessSums_s29 r1))) (by kernel_rfl) ?_ h232 _ v230 h233) ?_
    · rintro ⟨i162, x163⟩ s h
      refine W_seq (by kernel_rfl) ?_
      refine W_seq (by kernel_rfl) ?_
      refine W_run 4 [] [1, 5, 6, 8, 9, 33] [] (fr' := [(1, aD (.slice .bool) a1), (5, aI r1.1), (6, aI r1.2), (8, aI x163), (9, aI i162), (33, aB (decide (i162 < (List.length a1 : Int))))]) (L' := []) (obs := []) (by kernel_rfl) (by kernel_rfl) (by kernel_rfl) allP0 ?_
      refine seqQ_norm ?_
      refine W_cond (o := .tmp 33) (b := decide (i162 < (List.length a1 : Int))) (by kernel_rfl) (by kernel_rfl) (fun h167 => ?_) (fun h167 => ?_)
      · replace h := stepL_true h167 h
        obtain ⟨v165, _, h166, h, rfl⟩ := h
        refine W_skip [1, 5, 6, 8, 9] [] (fr' := [(1, aD (.slice .bool) a1), (5, aI r1.1), (6, aI r1.2), (8, aI x163), (9, aI i162)]) (L' := []) (by kernel_rfl) (by kernel_rfl) ?_
        refine seqQ_norm ?_
        refine W_seq (by kernel_rfl) ?_
        refine W_block (id := 1) (by kernel_rfl) ?_
        refine W_seq (by kernel_rfl) ?_
        refine W_run 1 [] [1, 5, 6, 8, 9, 10] [] (fr' := [(1, aD (.slice .bool) a1), (5, aI r1.1), (6, aI r1.2), (8, aI x163), (9, aI i162), (10, aI (0 : Int))]) (L' := []) (obs := []) (by kernel_rfl) (by kernel_rfl) (by kernel_rfl) allP0 ?_
        refine seqQ_norm ?_
        refine W_block (id := 2) (by kernel_rfl) ?_
        obtain ⟨v224, h225, h⟩ := bind_of h
        refine W_len (t := 1) (u := .bool) (xs := a1) (by kernel_rfl) (fun h228 => ?_)
        obtain ⟨h226, h227⟩ := forL_iter h228 h225
        refine W_weaken [1, 5, 6, 8, 9, 10] [] (fr' := ((law_GuessSums_s25 a1 r1 i162) ((0 : Int), x163)).1) (L' := ((law_GuessSums_s25 a1 r1 i162) ((0 : Int), x163)).2) (by kernel_rfl) ?_
        refine W_cutK (W_loop (S := (law_GuessSums_s25 a1 r1 i162)) (J := (exQ (.exit 2) (law_GuessSums_s26 a1 r1 i162))) (by kernel_rfl) ?_ h226 _ v224 h227) ?_
        · rintro ⟨i206, x207⟩ s h
          refine W_seq (by kernel_rfl) ?_
          refine W_seq (by kernel_rfl) ?_
          refine W_run 4 [] [1, 5, 6, 8, 9, 10, 39] [] (fr' := [(1, aD (.slice .bool) a1), (5, aI r1.1), (6, aI r1.2), (8, aI x207), (9, aI i162), (10, aI i206), (39, aB (decide (i206 < (List.length a1 : Int))))]) (L' := []) (obs := []) (by kernel_rfl) (by kernel_rfl) (by kernel_rfl) allP0 ?_
          refine seqQ_norm ?_
          refine W_cond (o := .tmp 39) (b := decide (i206 < (List.length a1 : Int))) (by kernel_rfl) (by kernel_rfl) (fun h211 => ?_) (fun h211 => ?_)
          · replace h := stepL_true h211 h
            obtain ⟨v209, _, h210, h, rfl⟩ := h
            refine W_skip [1, 5, 6, 8, 9, 10] [] (fr' := [(1, aD (.slice .bool) a1), (5, aI r1.1), (6, aI r1.2), (8, aI x207), (9, aI i162), (10, aI i206)]) (L' := []) (by kernel_rfl) (by kernel_rfl) ?_
            refine seqQ_norm ?_
            refine W_seq (by kernel_rfl) ?_
            obtain ⟨v221, h222, h⟩ := bind_of h
            refine W_cutK (Q' := (exQ .normal (law_GuessSums_s23 a1 r1 i162 i206)) v221) ?_ ?_
            · replace h := h222
              refine W_block (id := 3) (by kernel_rfl) ?_
              refine W_seq (by kernel_rfl) ?_
              refine W_draw2 9 [(5, .val (.dat .bool v165)), (13, .val (.dat .bool v209))] [] [1, 5, 6, 8, 9, 10, 11] [] (fr' := [(1, aD (.slice .bool) a1), (5, aI r1.1), (6, aI r1.2), (8, aI x207), (9, aI i162), (10, aI i206), (11, aB (!(v165 == v209)))]) (L' := []) (out := [(42, aD (.slice .bool) a1), (43, aI i162), (44, .one (.dptr .bool v165)), (45, aB v165), (46, aD (.slice .bool) a1), (47, aI i206), (48, .one (.dptr .bool v209)), (49, aB v209), (50, aB (!(v165 == v209)))]) (obs := [Idx a1 i162 v165, Idx a1 i206 v209]) (obs2 := []) (calls := []) (by kernel_rfl) (by kernel_rfl) (by kernel_rfl) (by kernel_rfl) (allP2 (Idx.of h166) (allP1 (Idx.of h210))) allC0 (by kernel_rfl) allP0 ?_
              refine seqQ_norm ?_
              refine W_seq (by kernel_rfl) ?_
              obtain ⟨v218, h219, h⟩ := bind_of h
              refine W_run 8 [(9, .val (.dat .bool v218))] [1, 5, 6, 8, 9, 10, 58] [] (fr' := [(1, aD (.slice .bool) a1), (5, aI r1.1), (6, aI r1.2), (8, aI x207), (9, aI i162), (10, aI i206), (58, aB (!(v218 == (!(v165 == v209)))))]) (L' := []) (obs := [Idx a1 (bXor .i64 i162 i206) v218]) (by kernel_rfl) (by kernel_rfl) (by kernel_rfl) (allP1 (Idx.of h219)) ?_
              refine seqQ_norm ?_
              refine W_cond (o := .tmp 58) (b := !(v218 == (!(v165 == v209)))) (by kernel_rfl) (by kernel_rfl) (fun h220 => ?_) (fun h220 => ?_)
              · replace h := ofT h220 h
                obtain rfl := Option.some.inj h
                refine W_run 3 [] [1, 5, 6, 8, 9, 10] [] (fr' := [(1, aD (.slice .bool) a1), (5, aI r1.1), (6, aI r1.2), (8, aI (w64 (x207 + (1 : Int)))), (9, aI i162), (10, aI i206)]) (L' := []) (obs := []) (by kernel_rfl) (by kernel_rfl) (by kernel_rfl) allP0 ?_
                refine blockQ_norm ?_
                exact exQ_mk (by kernel_rfl) (by kernel_rfl)
              · replace h := ofF h220 h
                obtain rfl := Option.some.inj h
                refine W_skip [1, 5, 6, 8, 9, 10] [] (fr' := [(1, aD (.slice .bool) a1), (5, aI r1.1), (6, aI r1.2), (8, aI x207), (9, aI i162), (10, aI i206)]) (L' := []) (by kernel_rfl) (by kernel_rfl) ?_
                refine blockQ_norm ?_
                exact exQ_mk (by kernel_rfl) (by kernel_rfl)
            · intro e fr L hJ
              obtain ⟨rfl, rfl, rfl⟩ := hJ
              refine LT_keep [1, 5, 6, 8, 9, 10] [] (fr' := [(1, aD (.slice .bool) a1), (5, aI r1.1), (6, aI r1.2), (8, aI v221), (9, aI i162), (10, aI i206)]) (L' := []) (by kernel_rfl) ?_
              refine seqQ_norm ?_
              obtain rfl := Option.some.inj h
              refine W_run 3 [] [1, 5, 6, 8, 9, 10] [] (fr' := [(1, aD (.slice .bool) a1), (5, aI r1.1), (6, aI r1.2), (8, aI v221), (9, aI i162), (10, aI (w64 (i206 + (1 : Int))))]) (L' := []) (obs := []) (by kernel_rfl) (by kernel_rfl) (by kernel_rfl) allP0 ?_
              exact round_next' (by kernel_rfl) (by kernel_rfl)
          · obtain rfl := stepL_false h211 h
            refine W_exit (id := 2) [1, 5, 6, 8, 9] [] (fr' := [(1, aD (.slice .bool) a1), (5, aI r1.1), (6, aI r1.2), (8, aI x207), (9, aI i162)]) (L' := []) (by kernel_rfl) (by kernel_rfl) ?_
            refine seqQ_exit ?_
            refine round_exit ?_
            exact exQ_mk (by kernel_rfl) (by kernel_rfl)
        · intro e fr L hJ
          obtain ⟨rfl, rfl, rfl⟩ := hJ
          refine LT_keep [1, 5, 6, 8, 9] [] (fr' := [(1, aD (.slice .bool) a1), (5, aI r1.1), (6, aI r1.2), (8, aI v224), (9, aI i162)]) (L' := []) (by kernel_rfl) ?_
          refine blockQ_hit ?_
          refine blockQ_norm ?_
          refine seqQ_norm ?_
          obtain rfl := Option.some.inj h
          refine W_run 3 [] [1, 5, 6, 8, 9] [] (fr' := [(1, aD (.slice .bool) a1), (5, aI r1.1), (6, aI r1.2), (8, aI v224), (9, aI (w64 (i162 + (1 : Int))))]) (L' := []) (obs := []) (by kernel_rfl) (by kernel_rfl) (by kernel_rfl) allP0 ?_
          exact round_next' (by kernel_rfl) (by kernel_rfl)
      · obtain rfl := stepL_false h167 h
        refine W_exit (id := 0) [5, 6, 8] [] (fr' := [(5, aI r1.1), (6, aI r1.2), (8, aI x163)]) (L' := []) (by kernel_rfl) (by kernel_rfl) ?_
        refine seqQ_exit ?_
        refine round_exit ?_
        exact exQ_mk (by kernel_rfl) (by kernel_rfl)
    · intro e fr L hJ
      obtain ⟨rfl, rfl, rfl⟩ := hJ
      refine LT_keep [5, 6, 8] [] (fr' := [(5, aI r1.1), (6, aI r1.2), (8, aI v230)]) (L' := []) (by kernel_rfl) ?_
      refine blockQ_hit ?_
      refine seqQ_norm ?_
      refine W_seq (by kernel_rfl) ?_
      refine W_run 8 [] [4] [] (fr' := [(4, aB ((r1.2 == (0 : Int)) && (r1.1 == v230)))]) (L' := []) (obs := []) (by kernel_rfl) (by kernel_rfl) (by kernel_rfl) allP0 ?_
      refine seqQ_norm ?_
      obtain rfl := Option.some.inj h
      refine W_ret [4] [] (fr' := [(4, aB ((r1.2 == (0 : Int)) && (r1.1 == v230)))]) (L' := []) (by kernel_rfl) (by kernel_rfl) ?_
      exact retQ_mk (by kernel_rfl) (by kernel_rfl) (by kernel_rfl)
end Go.Proofs.Ytnlibkamomlccaa.guessSums
