/- What the functions that PairFinds calls compute, as models, and that they compute it: written by a program of mine. -/
import Derived.Test.YtmongadolmofnaaProg
import Derived.Test.YtmongadolmofnaaSl3
set_option linter.all false
set_option maxRecDepth 100000
namespace Go.Proofs.Ytmongadolmofnaa.pairFinds
open Go Go.Sl
def pair_Find_b1 (i12 : Int) (v15 : Int) (x13 : Unit) : Option (Flow Unit (Esc (Int × Int × Int) Unit)) :=
bif (decide (v15 < (0 : Int))) || (decide (v15 > (20 : Int))) then
(some (.done (.ret ((0 : Int), (0 : Int), (4 : Int)))))
else
(some (.next ()))
@[reducible] def pair_Find_s2 (a0 : (List Int)) (v : Int × Unit) : Fr × LL := ([(0, aD (.slice tI) a0), (16, aD (.slice tI) a0), (17, aI (List.length a0 : Int)), (18, aI v.1)], [])
@[reducible] def pair_Find_s3 (v : (Int × Int × Int)) : Fr × LL := ([(2, aI v.1), (3, aI v.2.1), (4, aI v.2.2)], [])
@[reducible] def pair_Find_s4 (a0 : (List Int)) (v : Unit) : Fr × LL := ([(0, aD (.slice tI) a0)], [])
def pair_Find_b11 (i56 : Int) (x57 : (Int × Int)) (v59 : Int) (x65 : Int) : Option (Flow Int Int) :=
(ck (w64 ((1 : Int) + (w64 ((w64 (i56 + (1 : Int))) * (24 : Int)))) ≠ 0)).bind fun _ =>
bif (Int.tmod x65 (w64 ((1 : Int) + (w64 ((w64 (i56 + (1 : Int))) * (24 : Int)))))) != v59 then
(some (.next (w64 (x65 + x57.2))))
else
(some (.done x65))
@[reducible] def pair_Find_s12 (a0 : (List Int)) (i56 : Int) (x57 : (Int × Int)) (v59 : Int) (v : Int) : Fr × LL := ([(7, aI (24 : Int)), (8, aI v), (9, aI x57.2), (11, aI v59), (12, aI (w64 ((1 : Int) + (w64 ((w64 (i56 + (1 : Int))) * (24 : Int)))))), (29, aD (.slice tI) a0), (30, aI (List.length a0 : Int)), (31, aI i56)], [])
@[reducible] def pair_Find_s13 (a0 : (List Int)) (i56 : Int) (x57 : (Int × Int)) (v : Int) : Fr × LL := ([(7, aI (24 : Int)), (8, aI v), (9, aI x57.2), (12, aI (w64 ((1 : Int) + (w64 ((w64 (i56 + (1 : Int))) * (24 : Int)))))), (29, aD (.slice tI) a0), (30, aI (List.length a0 : Int)), (31, aI i56)], [])
def pair_Find_b14 (fuel : Nat) (i56 : Int) (v59 : Int) (x57 : (Int × Int)) : Option (Flow (Int × Int) Int) :=
(iter (pair_Find_b11 i56 x57 v59) fuel x57.1).bind fun v70 =>
some (.next (v70, w64 (x57.2 * (w64 ((1 : Int) + (w64 ((w64 (i56 + (1 : Int))) * (24 : Int))))))))
@[reducible] def pair_Find_s15 (a0 : (List Int)) (v : Int × (Int × Int)) : Fr × LL := ([(7, aI (24 : Int)), (8, aI v.2.1), (9, aI v.2.2), (29, aD (.slice tI) a0), (30, aI (List.length a0 : Int)), (31, aI v.1)], [])
@[reducible] def pair_Find_s16 (v : Int) : Fr × LL := ([(7, aI (24 : Int)), (8, aI v)], [])
def pair_Find (fuel : Nat) (a0 : (List Int)) : Option (Int × Int × Int) :=
bif decide ((List.length a0 : Int) > (5 : Int)) then
(some ((0 : Int), (0 : Int), (1 : Int)))
else
((forL pair_Find_b1 (fun x13 => (.brk ())) a0 0 ()).bind fun v20 =>
match v20 with
| .ret v25 =>
(some (v25.1, v25.2.1, v25.2.2))
| .brk v26 =>
((forL (pair_Find_b14 fuel) (fun x57 => x57.1) a0 0 ((0 : Int), (1 : Int))).bind fun v75 =>
some (v75, (24 : Int), (0 : Int))))
theorem pair_Find_ok {fuel : Nat} {a0 : (List Int)} {r : (Int × Int × Int)} (h : pair_Find fuel a0 = some r) : FnC Try.prog 18 [aD (.slice tI) a0] [] (.tup [.dat tI r.1, .dat tI r.2.1, .dat tI r.2.2]) [] := by
  refine fnC_of_W (B := bodyOf Try.f18) (n := 55) Try.func18 (by kernel_rfl) (by kernel_rfl) (by kernel_rfl) (by kernel_rfl) (by kernel_rfl) ?_
  intro K
  refine W_seq (by kernel_rfl) ?_
  refine W_run 3 [] [0] [] (fr' := [(0, aD (.slice tI) a0)]) (L' := []) (obs := []) (by kernel_rfl) (by kernel_rfl) (by kernel_rfl) allP0 ?_
  refine seqQ_norm ?_
  refine W_seq (by kernel_rfl) ?_
  refine W_seq (by kernel_rfl) ?_
  refine W_run 3 [] [0, 15] [] (fr' := [(0, aD (.slice tI) a0), (15, aB (decide ((List.length a0 : Int) > (5 : Int))))]) (L' := []) (obs := []) (by kernel_rfl) (by kernel_rfl) (by kernel_rfl) allP0 ?_
  refine seqQ_norm ?_
  refine W_cond (o := .tmp 15) (b := decide ((List.length a0 : Int) > (5 : Int))) (by kernel_rfl) (by kernel_rfl) (fun h1 => ?_) (fun h1 => ?_)
  · replace h := ofT h1 h
    refine W_seq (by kernel_rfl) ?_
    refine W_run 3 [] [2, 3, 4] [] (fr' := [(2, aI (0 : Int)), (3, aI (0 : Int)), (4, aI (1 : Int))]) (L' := []) (obs := []) (by kernel_rfl) (by kernel_rfl) (by kernel_rfl) allP0 ?_
    refine seqQ_norm ?_
    obtain rfl := Option.some.inj h
    refine W_ret [2, 3, 4] [] (fr' := [(2, aI (0 : Int)), (3, aI (0 : Int)), (4, aI (1 : Int))]) (L' := []) (by kernel_rfl) (by kernel_rfl) ?_
    refine seqQ_ret ?_
    exact retQ_mk (by kernel_rfl) (by kernel_rfl) (by kernel_rfl)
  · replace h := ofF h1 h
    refine W_skip [0] [] (fr' := [(0, aD (.slice tI) a0)]) (L' := []) (by kernel_rfl) (by kernel_rfl) ?_
    refine seqQ_norm ?_
    refine W_seq (by kernel_rfl) ?_
    refine W_seq (by kernel_rfl) ?_
    refine W_run 3 [] [0, 16, 17, 18] [] (fr' := [(0, aD (.slice tI) a0), (16, aD (.slice tI) a0), (17, aI (List.length a0 : Int)), (18, aI (0 : Int))]) (L' := []) (obs := []) (by kernel_rfl) (by kernel_rfl) (by kernel_rfl) allP0 ?_
    refine seqQ_norm ?_
    refine W_block (id := 0) (by kernel_rfl) ?_
    obtain ⟨v20, h21, h⟩ := bind_of h
    refine W_len (t := 16) (u := tI) (xs := a0) (by kernel_rfl) (fun h24 => ?_)
    obtain ⟨h22, h23⟩ := forL_iter h24 h21
    refine W_weaken [0, 16, 17, 18] [] (fr' := ((pair_Find_s2 a0) ((0 : Int), ())).1) (L' := ((pair_Find_s2 a0) ((0 : Int), ())).2) (by kernel_rfl) ?_
    refine W_cutK (W_loop (S := (pair_Find_s2 a0)) (J := (escQ (exQ .ret pair_Find_s3) (exQ (.exit 0) (pair_Find_s4 a0)))) (by kernel_rfl) ?_ h22 _ v20 h23) ?_
    · rintro ⟨i12, x13⟩ s h
      refine W_seq (by kernel_rfl) ?_
      refine W_run 1 [] [0, 16, 17, 18, 19] [] (fr' := [(0, aD (.slice tI) a0), (16, aD (.slice tI) a0), (17, aI (List.length a0 : Int)), (18, aI i12), (19, aB (decide (i12 < (List.length a0 : Int))))]) (L' := []) (obs := []) (by kernel_rfl) (by kernel_rfl) (by kernel_rfl) allP0 ?_
      refine seqQ_norm ?_
      refine W_seq (by kernel_rfl) ?_
      refine W_cond (o := .tmp 19) (b := decide (i12 < (List.length a0 : Int))) (by kernel_rfl) (by kernel_rfl) (fun h17 => ?_) (fun h17 => ?_)
      · replace h := stepL_true h17 h
        obtain ⟨v15, _, h16, h, rfl⟩ := h
        refine W_skip [0, 16, 17, 18] [] (fr' := [(0, aD (.slice tI) a0), (16, aD (.slice tI) a0), (17, aI (List.length a0 : Int)), (18, aI i12)]) (L' := []) (by kernel_rfl) (by kernel_rfl) ?_
        refine seqQ_norm ?_
        refine W_seq (by kernel_rfl) ?_
        refine W_block (id := 1) (by kernel_rfl) ?_
        refine W_seq (by kernel_rfl) ?_
        refine W_run 3 [(1, .val (.dat tI v15))] [0, 6, 16, 17, 18] [] (fr' := [(0, aD (.slice tI) a0), (6, aI v15), (16, aD (.slice tI) a0), (17, aI (List.length a0 : Int)), (18, aI i12)]) (L' := []) (obs := [Idx a0 i12 v15]) (by kernel_rfl) (by kernel_rfl) (by kernel_rfl) (allP1 (Idx.of h16)) ?_
        refine seqQ_norm ?_
        refine W_seq (by kernel_rfl) ?_
        refine W_run 6 [] [0, 16, 17, 18, 27] [] (fr' := [(0, aD (.slice tI) a0), (16, aD (.slice tI) a0), (17, aI (List.length a0 : Int)), (18, aI i12), (27, aB ((decide (v15 < (0 : Int))) || (decide (v15 > (20 : Int)))))]) (L' := []) (obs := []) (by kernel_rfl) (by kernel_rfl) (by kernel_rfl) allP0 ?_
        refine seqQ_norm ?_
        refine W_cond (o := .tmp 27) (b := (decide (v15 < (0 : Int))) || (decide (v15 > (20 : Int)))) (by kernel_rfl) (by kernel_rfl) (fun h18 => ?_) (fun h18 => ?_)
        · replace h := ofT h18 h
          refine W_seq (by kernel_rfl) ?_
          refine W_run 3 [] [2, 3, 4] [] (fr' := [(2, aI (0 : Int)), (3, aI (0 : Int)), (4, aI (4 : Int))]) (L' := []) (obs := []) (by kernel_rfl) (by kernel_rfl) (by kernel_rfl) allP0 ?_
          refine seqQ_norm ?_
          obtain rfl := Option.some.inj h
          refine W_ret [2, 3, 4] [] (fr' := [(2, aI (0 : Int)), (3, aI (0 : Int)), (4, aI (4 : Int))]) (L' := []) (by kernel_rfl) (by kernel_rfl) ?_
          refine blockQ_ret ?_
          refine seqQ_ret ?_
          refine round_ret ?_
          refine escQ_ret ?_
          exact exQ_mk (by kernel_rfl) (by kernel_rfl)
        · replace h := ofF h18 h
          refine W_skip [0, 16, 17, 18] [] (fr' := [(0, aD (.slice tI) a0), (16, aD (.slice tI) a0), (17, aI (List.length a0 : Int)), (18, aI i12)]) (L' := []) (by kernel_rfl) (by kernel_rfl) ?_
          refine blockQ_norm ?_
          refine seqQ_norm ?_
          obtain rfl := Option.some.inj h
          refine W_run 2 [] [0, 16, 17, 18] [] (fr' := [(0, aD (.slice tI) a0), (16, aD (.slice tI) a0), (17, aI (List.length a0 : Int)), (18, aI (w64 (i12 + (1 : Int))))]) (L' := []) (obs := []) (by kernel_rfl) (by kernel_rfl) (by kernel_rfl) allP0 ?_
          exact round_next' (by kernel_rfl) (by kernel_rfl)
      · obtain rfl := stepL_false h17 h
        refine W_exit (id := 0) [0] [] (fr' := [(0, aD (.slice tI) a0)]) (L' := []) (by kernel_rfl) (by kernel_rfl) ?_
        refine seqQ_exit ?_
        refine round_exit ?_
        refine escQ_brk ?_
        exact exQ_mk (by kernel_rfl) (by kernel_rfl)
    · intro e fr L hJ
      rcases v20 with v25 | v26
      · obtain ⟨rfl, rfl, rfl⟩ := hJ
        obtain rfl := Option.some.inj h
        refine LT_keep [2, 3, 4] [] (fr' := [(2, aI v25.1), (3, aI v25.2.1), (4, aI v25.2.2)]) (L' := []) (by kernel_rfl) ?_
        refine blockQ_ret ?_
        refine seqQ_ret ?_
        exact retQ_mk (by kernel_rfl) (by kernel_rfl) (by kernel_rfl)
      · obtain ⟨rfl, rfl, rfl⟩ := hJ
        refine LT_keep [0] [] (fr' := [(0, aD (.slice tI) a0)]) (L' := []) (by kernel_rfl) ?_
        refine blockQ_hit ?_
        refine seqQ_norm ?_
        refine W_seq (by kernel_rfl) ?_
        refine W_run 1 [] [0, 7] [] (fr' := [(0, aD (.slice tI) a0), (7, aI (24 : Int))]) (L' := []) (obs := []) (by kernel_rfl) (by kernel_rfl) (by kernel_rfl) allP0 ?_
        refine seqQ_norm ?_
        refine W_seq (by kernel_rfl) ?_
        refine W_run 2 [] [0, 7, 8, 9] [] (fr' := [(0, aD (.slice tI) a0), (7, aI (24 : Int)), (8, aI (0 : Int)), (9, aI (1 : Int))]) (L' := []) (obs := []) (by kernel_rfl) (by kernel_rfl) (by kernel_rfl) allP0 ?_
        refine seqQ_norm ?_
        refine W_seq (by kernel_rfl) ?_
        refine W_seq (by kernel_rfl) ?_
        refine W_run 3 [] [7, 8, 9, 29, 30, 31] [] (fr' := [(7, aI (24 : Int)), (8, aI (0 : Int)), (9, aI (1 : Int)), (29, aD (.slice tI) a0), (30, aI (List.length a0 : Int)), (31, aI (0 : Int))]) (L' := []) (obs := []) (by kernel_rfl) (by kernel_rfl) (by kernel_rfl) allP0 ?_
        refine seqQ_norm ?_
        refine W_block (id := 2) (by kernel_rfl) ?_
        obtain ⟨v75, h76, h⟩ := bind_of h
        refine W_len (t := 29) (u := tI) (xs := a0) (by kernel_rfl) (fun h79 => ?_)
        obtain ⟨h77, h78⟩ := forL_iter h79 h76
        refine W_weaken [7, 8, 9, 29, 30, 31] [] (fr' := ((pair_Find_s15 a0) ((0 : Int), ((0 : Int), (1 : Int)))).1) (L' := ((pair_Find_s15 a0) ((0 : Int), ((0 : Int), (1 : Int)))).2) (by kernel_rfl) ?_
        refine W_cutK (W_loop (S := (pair_Find_s15 a0)) (J := (exQ (.exit 2) pair_Find_s16)) (by kernel_rfl) ?_ h77 _ v75 h78) ?_
        · rintro ⟨i56, x57⟩ s h
          refine W_seq (by kernel_rfl) ?_
          refine W_run 1 [] [7, 8, 9, 29, 30, 31, 32] [] (fr' := [(7, aI (24 : Int)), (8, aI x57.1), (9, aI x57.2), (29, aD (.slice tI) a0), (30, aI (List.length a0 : Int)), (31, aI i56), (32, aB (decide (i56 < (List.length a0 : Int))))]) (L' := []) (obs := []) (by kernel_rfl) (by kernel_rfl) (by kernel_rfl) allP0 ?_
          refine seqQ_norm ?_
          refine W_seq (by kernel_rfl) ?_
          refine W_cond (o := .tmp 32) (b := decide (i56 < (List.length a0 : Int))) (by kernel_rfl) (by kernel_rfl) (fun h61 => ?_) (fun h61 => ?_)
          · replace h := stepL_true h61 h
            obtain ⟨v59, _, h60, h, rfl⟩ := h
            refine W_skip [7, 8, 9, 29, 30, 31] [] (fr' := [(7, aI (24 : Int)), (8, aI x57.1), (9, aI x57.2), (29, aD (.slice tI) a0), (30, aI (List.length a0 : Int)), (31, aI i56)]) (L' := []) (by kernel_rfl) (by kernel_rfl) ?_
            refine seqQ_norm ?_
            refine W_seq (by kernel_rfl) ?_
            refine W_block (id := 3) (by kernel_rfl) ?_
            refine W_seq (by kernel_rfl) ?_
            refine W_run 5 [(3, .val (.dat tI v59))] [7, 8, 9, 10, 11, 29, 30, 31] [] (fr' := [(7, aI (24 : Int)), (8, aI x57.1), (9, aI x57.2), (10, aI i56), (11, aI v59), (29, aD (.slice tI) a0), (30, aI (List.length a0 : Int)), (31, aI i56)]) (L' := []) (obs := [Idx a0 i56 v59]) (by kernel_rfl) (by kernel_rfl) (by kernel_rfl) (allP1 (Idx.of h60)) ?_
            refine seqQ_norm ?_
            refine W_seq (by kernel_rfl) ?_
            refine W_run 6 [] [7, 8, 9, 11, 12, 29, 30, 31] [] (fr' := [(7, aI (24 : Int)), (8, aI x57.1), (9, aI x57.2), (11, aI v59), (12, aI (w64 ((1 : Int) + (w64 ((w64 (i56 + (1 : Int))) * (24 : Int)))))), (29, aD (.slice tI) a0), (30, aI (List.length a0 : Int)), (31, aI i56)]) (L' := []) (obs := []) (by kernel_rfl) (by kernel_rfl) (by kernel_rfl) allP0 ?_
            refine seqQ_norm ?_
            refine W_seq (by kernel_rfl) ?_
            refine W_block (id := 4) (by kernel_rfl) ?_
            obtain ⟨v70, h71, h⟩ := bind_of h
            refine W_weaken [7, 8, 9, 11, 12, 29, 30, 31] [] (fr' := ((pair_Find_s12 a0 i56 x57 v59) x57.1).1) (L' := ((pair_Find_s12 a0 i56 x57 v59) x57.1).2) (by kernel_rfl) ?_
            refine W_cutK (W_loop (S := (pair_Find_s12 a0 i56 x57 v59)) (J := (exQ (.exit 4) (pair_Find_s13 a0 i56 x57))) (by kernel_rfl) ?_ fuel _ v70 h71) ?_
            · rintro x65 s h
              refine W_seq (by kernel_rfl) ?_
              refine W_seq (by kernel_rfl) ?_
              obtain ⟨_, h68, h⟩ := bind_of h
              replace h68 := ck_some h68
              refine W_run 5 [] [7, 8, 9, 11, 12, 29, 30, 31, 45] [] (fr' := [(7, aI (24 : Int)), (8, aI x65), (9, aI x57.2), (11, aI v59), (12, aI (w64 ((1 : Int) + (w64 ((w64 (i56 + (1 : Int))) * (24 : Int)))))), (29, aD (.slice tI) a0), (30, aI (List.length a0 : Int)), (31, aI i56), (45, aB ((Int.tmod x65 (w64 ((1 : Int) + (w64 ((w64 (i56 + (1 : Int))) * (24 : Int)))))) != v59))]) (L' := []) (obs := [(w64 ((1 : Int) + (w64 ((w64 (i56 + (1 : Int))) * (24 : Int)))) ≠ 0)]) (by kernel_rfl) (by kernel_rfl) (by kernel_rfl) (allP1 h68) ?_
              refine seqQ_norm ?_
              refine W_cond (o := .tmp 45) (b := (Int.tmod x65 (w64 ((1 : Int) + (w64 ((w64 (i56 + (1 : Int))) * (24 : Int)))))) != v59) (by kernel_rfl) (by kernel_rfl) (fun h69 => ?_) (fun h69 => ?_)
              · replace h := ofT h69 h
                refine W_skip [7, 8, 9, 11, 12, 29, 30, 31] [] (fr' := [(7, aI (24 : Int)), (8, aI x65), (9, aI x57.2), (11, aI v59), (12, aI (w64 ((1 : Int) + (w64 ((w64 (i56 + (1 : Int))) * (24 : Int)))))), (29, aD (.slice tI) a0), (30, aI (List.length a0 : Int)), (31, aI i56)]) (L' := []) (by kernel_rfl) (by kernel_rfl) ?_
                refine seqQ_norm ?_
                refine W_block (id := 5) (by kernel_rfl) ?_
                obtain rfl := Option.some.inj h
                refine W_run 4 [] [7, 8, 9, 11, 12, 29, 30, 31] [] (fr' := [(7, aI (24 : Int)), (8, aI (w64 (x65 + x57.2))), (9, aI x57.2), (11, aI v59), (12, aI (w64 ((1 : Int) + (w64 ((w64 (i56 + (1 : Int))) * (24 : Int)))))), (29, aD (.slice tI) a0), (30, aI (List.length a0 : Int)), (31, aI i56)]) (L' := []) (obs := []) (by kernel_rfl) (by kernel_rfl) (by kernel_rfl) allP0 ?_
                refine blockQ_norm ?_
                exact round_next' (by kernel_rfl) (by kernel_rfl)
              · replace h := ofF h69 h
                obtain rfl := Option.some.inj h
                refine W_exit (id := 4) [7, 8, 9, 12, 29, 30, 31] [] (fr' := [(7, aI (24 : Int)), (8, aI x65), (9, aI x57.2), (12, aI (w64 ((1 : Int) + (w64 ((w64 (i56 + (1 : Int))) * (24 : Int)))))), (29, aD (.slice tI) a0), (30, aI (List.length a0 : Int)), (31, aI i56)]) (L' := []) (by kernel_rfl) (by kernel_rfl) ?_
                refine seqQ_exit ?_
                refine round_exit ?_
                exact exQ_mk (by kernel_rfl) (by kernel_rfl)
            · intro e fr L hJ
              obtain ⟨rfl, rfl, rfl⟩ := hJ
              refine LT_keep [7, 8, 9, 12, 29, 30, 31] [] (fr' := [(7, aI (24 : Int)), (8, aI v70), (9, aI x57.2), (12, aI (w64 ((1 : Int) + (w64 ((w64 (i56 + (1 : Int))) * (24 : Int)))))), (29, aD (.slice tI) a0), (30, aI (List.length a0 : Int)), (31, aI i56)]) (L' := []) (by kernel_rfl) ?_
              refine blockQ_hit ?_
              refine seqQ_norm ?_
              refine W_run 4 [] [7, 8, 9, 29, 30, 31] [] (fr' := [(7, aI (24 : Int)), (8, aI v70), (9, aI (w64 (x57.2 * (w64 ((1 : Int) + (w64 ((w64 (i56 + (1 : Int))) * (24 : Int)))))))), (29, aD (.slice tI) a0), (30, aI (List.length a0 : Int)), (31, aI i56)]) (L' := []) (obs := []) (by kernel_rfl) (by kernel_rfl) (by kernel_rfl) allP0 ?_
              refine blockQ_norm ?_
              refine seqQ_norm ?_
              obtain rfl := Option.some.inj h
              refine W_run 2 [] [7, 8, 9, 29, 30, 31] [] (fr' := [(7, aI (24 : Int)), (8, aI v70), (9, aI (w64 (x57.2 * (w64 ((1 : Int) + (w64 ((w64 (i56 + (1 : Int))) * (24 : Int)))))))), (29, aD (.slice tI) a0), (30, aI (List.length a0 : Int)), (31, aI (w64 (i56 + (1 : Int))))]) (L' := []) (obs := []) (by kernel_rfl) (by kernel_rfl) (by kernel_rfl) allP0 ?_
              exact round_next' (by kernel_rfl) (by kernel_rfl)
          · obtain rfl := stepL_false h61 h
            refine W_exit (id := 2) [7, 8] [] (fr' := [(7, aI (24 : Int)), (8, aI x57.1)]) (L' := []) (by kernel_rfl) (by kernel_rfl) ?_
            refine seqQ_exit ?_
            refine round_exit ?_
            exact exQ_mk (by kernel_rfl) (by kernel_rfl)
        · intro e fr L hJ
          obtain ⟨rfl, rfl, rfl⟩ := hJ
          refine LT_keep [7, 8] [] (fr' := [(7, aI (24 : Int)), (8, aI v75)]) (L' := []) (by kernel_rfl) ?_
          refine blockQ_hit ?_
          refine seqQ_norm ?_
          refine W_seq (by kernel_rfl) ?_
          refine W_run 5 [] [2, 3, 4] [] (fr' := [(2, aI v75), (3, aI (24 : Int)), (4, aI (0 : Int))]) (L' := []) (obs := []) (by kernel_rfl) (by kernel_rfl) (by kernel_rfl) allP0 ?_
          refine seqQ_norm ?_
          obtain rfl := Option.some.inj h
          refine W_ret [2, 3, 4] [] (fr' := [(2, aI v75), (3, aI (24 : Int)), (4, aI (0 : Int))]) (L' := []) (by kernel_rfl) (by kernel_rfl) ?_
          exact retQ_mk (by kernel_rfl) (by kernel_rfl) (by kernel_rfl)

def ref_Within (a0 : Int) (a1 : Int) (a2 : Int) : Option Bool :=
some ((decide (a0 ≤ a1)) && (decide (a1 ≤ a2)))
theorem ref_Within_ok {a0 : Int} {a1 : Int} {a2 : Int} {r : Bool} (h : ref_Within a0 a1 a2 = some r) : FnC Try.prog 15 [aI a0, aI a1, aI a2] [] (aB r) [] := by
  refine fnC_of_W (B := bodyOf Try.f15) (n := 15) Try.func15 (by kernel_rfl) (by kernel_rfl) (by kernel_rfl) (by kernel_rfl) (by kernel_rfl) ?_
  intro K
  refine W_seq (by kernel_rfl) ?_
  refine W_run 1 [] [0, 1, 2] [] (fr' := [(0, aI a0), (1, aI a1), (2, aI a2)]) (L' := []) (obs := []) (by kernel_rfl) (by kernel_rfl) (by kernel_rfl) allP0 ?_
  refine seqQ_norm ?_
  refine W_seq (by kernel_rfl) ?_
  refine W_run 9 [] [6] [] (fr' := [(6, aB ((decide (a0 ≤ a1)) && (decide (a1 ≤ a2))))]) (L' := []) (obs := []) (by kernel_rfl) (by kernel_rfl) (by kernel_rfl) allP0 ?_
  refine seqQ_norm ?_
  obtain rfl := Option.some.inj h
  refine W_ret [6] [] (fr' := [(6, aB ((decide (a0 ≤ a1)) && (decide (a1 ≤ a2))))]) (L' := []) (by kernel_rfl) (by kernel_rfl) ?_
  exact retQ_mk (by kernel_rfl) (by kernel_rfl) (by kernel_rfl)

@[reducible] def law_PairFinds_s13 (a0 : (List Int)) (r1 : (Int × Int × Int)) (i100 : Int) (x101 : Int) (v : Bool) : Fr × LL := ([(0, aD (.slice tI) a0), (3, aI r1.1), (4, aI r1.2.1), (5, aI r1.2.2), (6, aI x101), (21, aD (.slice tI) a0), (22, aI (List.length a0 : Int)), (23, aI i100), (33, aB v)], [])
def law_PairFinds_g14 (x101 : Int) (v103 : Int) : Option Int :=
(bif x101 == (0 : Int) then
((ref_Within (0 : Int) v103 (20 : Int)).bind fun r137 =>
some (!r137))
else
(some false)).bind fun v139 =>
bif v139 then
(some (4 : Int))
else
(some x101)
@[reducible] def law_PairFinds_s15 (a0 : (List Int)) (r1 : (Int × Int × Int)) (i100 : Int) (v : Int) : Fr × LL := ([(0, aD (.slice tI) a0), (3, aI r1.1), (4, aI r1.2.1), (5, aI r1.2.2), (6, aI v), (21, aD (.slice tI) a0), (22, aI (List.length a0 : Int)), (23, aI i100)], [])
def law_PairFinds_b16 (i100 : Int) (v103 : Int) (x101 : Int) : Option (Flow Int Int) :=
(law_PairFinds_g14 x101 v103).bind fun v142 =>
some (.next v142)
@[reducible] def law_PairFinds_s17 (a0 : (List Int)) (r1 : (Int × Int × Int)) (v : Int × Int) : Fr × LL := ([(0, aD (.slice tI) a0), (3, aI r1.1), (4, aI r1.2.1), (5, aI r1.2.2), (6, aI v.2), (21, aD (.slice tI) a0), (22, aI (List.length a0 : Int)), (23, aI v.1)], [])
@[reducible] def law_PairFinds_s18 (a0 : (List Int)) (r1 : (Int × Int × Int)) (v : Int) : Fr × LL := ([(0, aD (.slice tI) a0), (3, aI r1.1), (4, aI r1.2.1), (5, aI r1.2.2), (6, aI v)], [])
def law_PairFinds_b19 (r1 : (Int × Int × Int)) (i164 : Int) (v167 : Int) (x165 : Unit) : Option (Flow Unit (Esc Bool Unit)) :=
(ck (w64 ((1 : Int) + (w64 (r1.2.1 * (w64 (i164 + (1 : Int)))))) ≠ 0)).bind fun _ =>
bif (w64 (r1.1 - (w64 ((w64 (Int.tdiv r1.1 (w64 ((1 : Int) + (w64 (r1.2.1 * (w64 (i164 + (1 : Int))))))))) * (w64 ((1 : Int) + (w64 (r1.2.1 * (w64 (i164 + (1 : Int))))))))))) != v167 then
(some (.done (.ret false)))
else
(some (.next ()))
@[reducible] def law_PairFinds_s20 (a0 : (List Int)) (r1 : (Int × Int × Int)) (v : Int × Unit) : Fr × LL := ([(0, aD (.slice tI) a0), (3, aI r1.1), (4, aI r1.2.1), (66, aD (.slice tI) a0), (67, aI (List.length a0 : Int)), (68, aI v.1)], [])
@[reducible] def law_PairFinds_s21 (v : Bool) : Fr × LL := ([(2, aB v)], [])
@[reducible] def law_PairFinds_s22 (a0 : (List Int)) (r1 : (Int × Int × Int)) (v : Unit) : Fr × LL := ([(0, aD (.slice tI) a0), (3, aI r1.1), (4, aI r1.2.1)], [])
def law_PairFinds_g23 (a0 : (List Int)) (r1 : (Int × Int × Int)) : Option Bool :=
bif (((List.length a0 : Int) == (0 : Int)) || (decide (r1.1 > (0 : Int)))) || (decide (r1.2.1 > (0 : Int))) then
(some true)
else
((idx a0 (0 : Int)).bind fun v187 =>
some (v187 == (0 : Int)))
@[reducible] def law_PairFinds_s24 (v : Bool) : Fr × LL := ([(2, aB v)], [])
@[reducible] def law_PairFinds_s25 (a0 : (List Int)) (r1 : (Int × Int × Int)) (v : Int) : Fr × LL := ([(0, aD (.slice tI) a0), (3, aI r1.1), (4, aI r1.2.1), (5, aI r1.2.2), (6, aI v)], [])
def law_PairFinds (fuel : Nat) (a0 : (List Int)) : Option Bool :=
(pair_Find fuel a0).bind fun r1 =>
(bif decide ((List.length a0 : Int) > (5 : Int)) then
(some (1 : Int))
else
(some (0 : Int))).bind fun v6 =>
(forL law_PairFinds_b16 (fun x101 => x101) a0 0 v6).bind fun v145 =>
bif v145 != (0 : Int) then
(some (((r1.2.2 == v145) && (r1.1 == (0 : Int))) && (r1.2.1 == (0 : Int))))
else
(bif ((((r1.2.2 != (0 : Int)) || (decide (r1.1 < (0 : Int)))) || (decide (r1.2.1 < (0 : Int)))) || (decide (r1.1 > (1152921504606846976 : Int)))) || (decide (r1.2.1 > (1152921504606846976 : Int))) then
(some false)
else
((forL (law_PairFinds_b19 r1) (fun x165 => (.brk ())) a0 0 ()).bind fun v173 =>
match v173 with
| .ret v178 =>
(some v178)
| .brk v179 =>
((law_PairFinds_g23 a0 r1).bind fun v189 =>
some v189)))
theorem law_PairFinds_ok {fuel : Nat} {a0 : (List Int)} {r : Bool} (h : law_PairFinds fuel a0 = some r) : FnC Try.prog 6 [aD (.slice tI) a0] [] (aB r) [] := by
  refine fnC_of_W (B := bodyOf Try.f6) (n := 105) Try.func6 (by kernel_rfl) (by kernel_rfl) (by kernel_rfl) (by kernel_rfl) (by kernel_rfl) ?_
  intro K
  refine W_seq (by kernel_rfl) ?_
  refine W_run 1 [] [0] [] (fr' := [(0, aD (.slice tI) a0)]) (L' := []) (obs := []) (by kernel_rfl) (by kernel_rfl) (by kernel_rfl) allP0 ?_
  refine seqQ_norm ?_
  refine W_seq (by kernel_rfl) ?_
  refine W_region (by kernel_rfl) ?_
  refine WO_run (j := 1) (k := 1) (orcs := []) (kF := [0, 13]) (kL := []) (fr' := [(0, aD (.slice tI) a0), (13, aD (.slice tI) a0)]) (L' := []) (obs := []) rfl (by kernel_rfl) allP0 ?_
  obtain ⟨r1, h2, h⟩ := bind_of h
  refine WO_call0 (us := [none]) (d := 14) (p := True) (j := 2) rfl ⟨by kernel_rfl, by kernel_rfl, by kernel_rfl⟩ trivial (pair_Find_ok h2) (by kernel_rfl) ?_
  refine WO_run (j := 9) (k := 7) (orcs := []) (kF := [0, 3, 4, 5]) (kL := []) (fr' := [(0, aD (.slice tI) a0), (3, aI r1.1), (4, aI r1.2.1), (5, aI r1.2.2)]) (L' := []) (obs := []) rfl (by kernel_rfl) allP0 ?_
  refine WO_fin [0, 3, 4, 5] [] (fr' := [(0, aD (.slice tI) a0), (3, aI r1.1), (4, aI r1.2.1), (5, aI r1.2.2)]) (L' := []) (by kernel_rfl) (by kernel_rfl) ?_
  refine seqQ_norm ?_
  refine W_seq (by kernel_rfl) ?_
  refine W_run 1 [] [0, 3, 4, 5, 6] [] (fr' := [(0, aD (.slice tI) a0), (3, aI r1.1), (4, aI r1.2.1), (5, aI r1.2.2), (6, aI (0 : Int))]) (L' := []) (obs := []) (by kernel_rfl) (by kernel_rfl) (by kernel_rfl) allP0 ?_
  refine seqQ_norm ?_
  refine W_seq (by kernel_rfl) ?_
  obtain ⟨v6, h7, h⟩ := bind_of h
  refine W_cutK (Q' := (exQ .normal (law_PairFinds_s25 a0 r1)) v6) ?_ ?_
  · replace h := h7
    refine W_seq (by kernel_rfl) ?_
    refine W_run 3 [] [0, 3, 4, 5, 6, 20] [] (fr' := [(0, aD (.slice tI) a0), (3, aI r1.1), (4, aI r1.2.1), (5, aI r1.2.2), (6, aI (0 : Int)), (20, aB (decide ((List.length a0 : Int) > (5 : Int))))]) (L' := []) (obs := []) (by kernel_rfl) (by kernel_rfl) (by kernel_rfl) allP0 ?_
    refine seqQ_norm ?_
    refine W_cond (o := .tmp 20) (b := decide ((List.length a0 : Int) > (5 : Int))) (by kernel_rfl) (by kernel_rfl) (fun h5 => ?_) (fun h5 => ?_)
    · replace h := ofT h5 h
      obtain rfl := Option.some.inj h
      refine W_run 1 [] [0, 3, 4, 5, 6] [] (fr' := [(0, aD (.slice tI) a0), (3, aI r1.1), (4, aI r1.2.1), (5, aI r1.2.2), (6, aI (1 : Int))]) (L' := []) (obs := []) (by kernel_rfl) (by kernel_rfl) (by kernel_rfl) allP0 ?_
      exact exQ_mk (by kernel_rfl) (by kernel_rfl)
    · replace h := ofF h5 h
      obtain rfl := Option.some.inj h
      refine W_skip [0, 3, 4, 5, 6] [] (fr' := [(0, aD (.slice tI) a0), (3, aI r1.1), (4, aI r1.2.1), (5, aI r1.2.2), (6, aI (0 : Int))]) (L' := []) (by kernel_rfl) (by kernel_rfl) ?_
      exact exQ_mk (by kernel_rfl) (by kernel_rfl)
  · intro e fr L hJ
    obtain ⟨rfl, rfl, rfl⟩ := hJ
    refine LT_keep [0, 3, 4, 5, 6] [] (fr' := [(0, aD (.slice tI) a0), (3, aI r1.1), (4, aI r1.2.1), (5, aI r1.2.2), (6, aI v6)]) (L' := []) (by kernel_rfl) ?_
    refine seqQ_norm ?_
    refine W_seq (by kernel_rfl) ?_
    refine W_seq (by kernel_rfl) ?_
    refine W_run 3 [] [0, 3, 4, 5, 6, 21, 22, 23] [] (fr' := [(0, aD (.slice tI) a0), (3, aI r1.1), (4, aI r1.2.1), (5, aI r1.2.2), (6, aI v6), (21, aD (.slice tI) a0), (22, aI (List.length a0 : Int)), (23, aI (0 : Int))]) (L' := []) (obs := []) (by kernel_rfl) (by kernel_rfl) (by kernel_rfl) allP0 ?_
    refine seqQ_norm ?_
    refine W_block (id := 0) (by kernel_rfl) ?_
    obtain ⟨v145, h146, h⟩ := bind_of h
    refine W_len (t := 21) (u := tI) (xs := a0) (by kernel_rfl) (fun h149 => ?_)
    obtain ⟨h147, h148⟩ := forL_iter h149 h146
    refine W_weaken [0, 3, 4, 5, 6, 21, 22, 23] [] (fr' := ((law_PairFinds_s17 a0 r1) ((0 : Int), v6)).1) (L' := ((law_PairFinds_s17 a0 r1) ((0 : Int), v6)).2) (by kernel_rfl) ?_
    refine W_cutK (W_loop (S := (law_PairFinds_s17 a0 r1)) (J := (exQ (.exit 0) (law_PairFinds_s18 a0 r1))) (by kernel_rfl) ?_ h147 _ v145 h148) ?_
    · rintro ⟨i100, x101⟩ s h
      refine W_seq (by kernel_rfl) ?_
      refine W_run 1 [] [0, 3, 4, 5, 6, 21, 22, 23, 24] [] (fr' := [(0, aD (.slice tI) a0), (3, aI r1.1), (4, aI r1.2.1), (5, aI r1.2.2), (6, aI x101), (21, aD (.slice tI) a0), (22, aI (List.length a0 : Int)), (23, aI i100), (24, aB (decide (i100 < (List.length a0 : Int))))]) (L' := []) (obs := []) (by kernel_rfl) (by kernel_rfl) (by kernel_rfl) allP0 ?_
      refine seqQ_norm ?_
      refine W_seq (by kernel_rfl) ?_
      refine W_cond (o := .tmp 24) (b := decide (i100 < (List.length a0 : Int))) (by kernel_rfl) (by kernel_rfl) (fun h105 => ?_) (fun h105 => ?_)
      · replace h := stepL_true h105 h
        obtain ⟨v103, _, h104, h, rfl⟩ := h
        refine W_skip [0, 3, 4, 5, 6, 21, 22, 23] [] (fr' := [(0, aD (.slice tI) a0), (3, aI r1.1), (4, aI r1.2.1), (5, aI r1.2.2), (6, aI x101), (21, aD (.slice tI) a0), (22, aI (List.length a0 : Int)), (23, aI i100)]) (L' := []) (by kernel_rfl) (by kernel_rfl) ?_
        refine seqQ_norm ?_
        refine W_seq (by kernel_rfl) ?_
        obtain ⟨v142, h143, h⟩ := bind_of h
        refine W_cutK (Q' := (exQ .normal (law_PairFinds_s15 a0 r1 i100)) v142) ?_ ?_
        · replace h := h143
          refine W_block (id := 1) (by kernel_rfl) ?_
          refine W_seq (by kernel_rfl) ?_
          refine W_run 3 [(1, .val (.dat tI v103))] [0, 3, 4, 5, 6, 8, 21, 22, 23] [] (fr' := [(0, aD (.slice tI) a0), (3, aI r1.1), (4, aI r1.2.1), (5, aI r1.2.2), (6, aI x101), (8, aI v103), (21, aD (.slice tI) a0), (22, aI (List.length a0 : Int)), (23, aI i100)]) (L' := []) (obs := [Idx a0 i100 v103]) (by kernel_rfl) (by kernel_rfl) (by kernel_rfl) (allP1 (Idx.of h104)) ?_
          refine seqQ_norm ?_
          refine W_seq (by kernel_rfl) ?_
          obtain ⟨v139, h140, h⟩ := bind_of h
          refine W_cutK (Q' := (exQ .normal (law_PairFinds_s13 a0 r1 i100 x101)) v139) ?_ ?_
          · replace h := h140
            refine W_region (by kernel_rfl) ?_
            refine WO_run (j := 3) (k := 3) (orcs := []) (kF := [0, 3, 4, 5, 6, 8, 21, 22, 23, 29]) (kL := []) (fr' := [(0, aD (.slice tI) a0), (3, aI r1.1), (4, aI r1.2.1), (5, aI r1.2.2), (6, aI x101), (8, aI v103), (21, aD (.slice tI) a0), (22, aI (List.length a0 : Int)), (23, aI i100), (29, aB (x101 == (0 : Int)))]) (L' := []) (obs := []) rfl (by kernel_rfl) allP0 ?_
            rcases Bool.eq_false_or_eq_true (x101 == (0 : Int)) with h136 | h136
            · replace h := ofT h136 h
              refine WO_run (j := 4) (k := 1) (orcs := [(6, .known true)]) (kF := [0, 3, 4, 5, 6, 21, 22, 23, 29, 30]) (kL := []) (fr' := [(0, aD (.slice tI) a0), (3, aI r1.1), (4, aI r1.2.1), (5, aI r1.2.2), (6, aI x101), (21, aD (.slice tI) a0), (22, aI (List.length a0 : Int)), (23, aI i100), (29, aB (x101 == (0 : Int))), (30, aI v103)]) (L' := []) (obs := [((x101 == (0 : Int)) = true)]) rfl (by kernel_rfl) (allP1 h136) ?_
              obtain ⟨r137, h138, h⟩ := bind_of h
              refine WO_call0 (us := [none, none, none]) (d := 31) (p := ((x101 == (0 : Int)) = true)) (j := 5) rfl ⟨by kernel_rfl, by kernel_rfl, by kernel_rfl⟩ h136 (ref_Within_ok h138) (by kernel_rfl) ?_
              refine WO_run (j := 7) (k := 2) (orcs := [(10, .known true), (13, .val (.dat .bool true))]) (kF := [0, 3, 4, 5, 6, 21, 22, 23, 33]) (kL := []) (fr' := [(0, aD (.slice tI) a0), (3, aI r1.1), (4, aI r1.2.1), (5, aI r1.2.2), (6, aI x101), (21, aD (.slice tI) a0), (22, aI (List.length a0 : Int)), (23, aI i100), (33, aB (!r137))]) (L' := []) (obs := [((x101 == (0 : Int)) = true), ((x101 == (0 : Int)) = true)]) rfl (by kernel_rfl) (allP2 h136 (allP1 h136)) ?_
              obtain rfl := Option.some.inj h
              refine WO_fin [0, 3, 4, 5, 6, 21, 22, 23, 33] [] (fr' := [(0, aD (.slice tI) a0), (3, aI r1.1), (4, aI r1.2.1), (5, aI r1.2.2), (6, aI x101), (21, aD (.slice tI) a0), (22, aI (List.length a0 : Int)), (23, aI i100), (33, aB (!r137))]) (L' := []) (by kernel_rfl) (by kernel_rfl) ?_
              exact exQ_mk (by kernel_rfl) (by kernel_rfl)
            · replace h := ofF h136 h
              refine WO_run (j := 7) (k := 4) (orcs := [(6, .known false), (8, .known false), (10, .known false), (13, .val (.dat .bool false))]) (kF := [0, 3, 4, 5, 6, 21, 22, 23, 33]) (kL := []) (fr' := [(0, aD (.slice tI) a0), (3, aI r1.1), (4, aI r1.2.1), (5, aI r1.2.2), (6, aI x101), (21, aD (.slice tI) a0), (22, aI (List.length a0 : Int)), (23, aI i100), (33, aB false)]) (L' := []) (obs := [((x101 == (0 : Int)) = false), ((x101 == (0 : Int)) = false), ((x101 == (0 : Int)) = false), ((x101 == (0 : Int)) = false)]) rfl (by kernel_rfl) (allP2 h136 (allP2 h136 (allP2 h136 (allP1 h136)))) ?_
              obtain rfl := Option.some.inj h
              refine WO_fin [0, 3, 4, 5, 6, 21, 22, 23, 33] [] (fr' := [(0, aD (.slice tI) a0), (3, aI r1.1), (4, aI r1.2.1), (5, aI r1.2.2), (6, aI x101), (21, aD (.slice tI) a0), (22, aI (List.length a0 : Int)), (23, aI i100), (33, aB false)]) (L' := []) (by kernel_rfl) (by kernel_rfl) ?_
              exact exQ_mk (by kernel_rfl) (by kernel_rfl)
          · intro e fr L hJ
            obtain ⟨rfl, rfl, rfl⟩ := hJ
            refine LT_keep [0, 3, 4, 5, 6, 21, 22, 23, 33] [] (fr' := [(0, aD (.slice tI) a0), (3, aI r1.1), (4, aI r1.2.1), (5, aI r1.2.2), (6, aI x101), (21, aD (.slice tI) a0), (22, aI (List.length a0 : Int)), (23, aI i100), (33, aB v139)]) (L' := []) (by kernel_rfl) ?_
            refine seqQ_norm ?_
            refine W_cond (o := .tmp 33) (b := v139) (by kernel_rfl) (by kernel_rfl) (fun h141 => ?_) (fun h141 => ?_)
            · replace h := ofT h141 h
              obtain rfl := Option.some.inj h
              refine W_run 1 [] [0, 3, 4, 5, 6, 21, 22, 23] [] (fr' := [(0, aD (.slice tI) a0), (3, aI r1.1), (4, aI r1.2.1), (5, aI r1.2.2), (6, aI (4 : Int)), (21, aD (.slice tI) a0), (22, aI (List.length a0 : Int)), (23, aI i100)]) (L' := []) (obs := []) (by kernel_rfl) (by kernel_rfl) (by kernel_rfl) allP0 ?_
              refine blockQ_norm ?_
              exact exQ_mk (by kernel_rfl) (by kernel_rfl)
            · replace h := ofF h141 h
              obtain rfl := Option.some.inj h
              refine W_skip [0, 3, 4, 5, 6, 21, 22, 23] [] (fr' := [(0, aD (.slice tI) a0), (3, aI r1.1), (4, aI r1.2.1), (5, aI r1.2.2), (6, aI x101), (21, aD (.slice tI) a0), (22, aI (List.length a0 : Int)), (23, aI i100)]) (L' := []) (by kernel_rfl) (by kernel_rfl) ?_
              refine blockQ_norm ?_
              exact exQ_mk (by kernel_rfl) (by kernel_rfl)
        · intro e fr L hJ
          obtain ⟨rfl, rfl, rfl⟩ := hJ
          refine LT_keep [0, 3, 4, 5, 6, 21, 22, 23] [] (fr' := [(0, aD (.slice tI) a0), (3, aI r1.1), (4, aI r1.2.1), (5, aI r1.2.2), (6, aI v142), (21, aD (.slice tI) a0), (22, aI (List.length a0 : Int)), (23, aI i100)]) (L' := []) (by kernel_rfl) ?_
          refine seqQ_norm ?_
          obtain rfl := Option.some.inj h
          refine W_run 2 [] [0, 3, 4, 5, 6, 21, 22, 23] [] (fr' := [(0, aD (.slice tI) a0), (3, aI r1.1), (4, aI r1.2.1), (5, aI r1.2.2), (6, aI v142), (21, aD (.slice tI) a0), (22, aI (List.length a0 : Int)), (23, aI (w64 (i100 + (1 : Int))))]) (L' := []) (obs := []) (by kernel_rfl) (by kernel_rfl) (by kernel_rfl) allP0 ?_
          exact round_next' (by kernel_rfl) (by kernel_rfl)
      · obtain rfl := stepL_false h105 h
        refine W_exit (id := 0) [0, 3, 4, 5, 6] [] (fr' := [(0, aD (.slice tI) a0), (3, aI r1.1), (4, aI r1.2.1), (5, aI r1.2.2), (6, aI x101)]) (L' := []) (by kernel_rfl) (by kernel_rfl) ?_
        refine seqQ_exit ?_
        refine round_exit ?_
        exact exQ_mk (by kernel_rfl) (by kernel_rfl)
    · intro e fr L hJ
      obtain ⟨rfl, rfl, rfl⟩ := hJ
      refine LT_keep [0, 3, 4, 5, 6] [] (fr' := [(0, aD (.slice tI) a0), (3, aI r1.1), (4, aI r1.2.1), (5, aI r1.2.2), (6, aI v145)]) (L' := []) (by kernel_rfl) ?_
      refine blockQ_hit ?_
      refine seqQ_norm ?_
      refine W_seq (by kernel_rfl) ?_
      refine W_seq (by kernel_rfl) ?_
      refine W_run 2 [] [0, 3, 4, 5, 6, 36] [] (fr' := [(0, aD (.slice tI) a0), (3, aI r1.1), (4, aI r1.2.1), (5, aI r1.2.2), (6, aI v145), (36, aB (v145 != (0 : Int)))]) (L' := []) (obs := []) (by kernel_rfl) (by kernel_rfl) (by kernel_rfl) allP0 ?_
      refine seqQ_norm ?_
      refine W_cond (o := .tmp 36) (b := v145 != (0 : Int)) (by kernel_rfl) (by kernel_rfl) (fun h150 => ?_) (fun h150 => ?_)
      · replace h := ofT h150 h
        refine W_seq (by kernel_rfl) ?_
        refine W_run 12 [] [2] [] (fr' := [(2, aB (((r1.2.2 == v145) && (r1.1 == (0 : Int))) && (r1.2.1 == (0 : Int))))]) (L' := []) (obs := []) (by kernel_rfl) (by kernel_rfl) (by kernel_rfl) allP0 ?_
        refine seqQ_norm ?_
        obtain rfl := Option.some.inj h
        refine W_ret [2] [] (fr' := [(2, aB (((r1.2.2 == v145) && (r1.1 == (0 : Int))) && (r1.2.1 == (0 : Int))))]) (L' := []) (by kernel_rfl) (by kernel_rfl) ?_
        refine seqQ_ret ?_
        exact retQ_mk (by kernel_rfl) (by kernel_rfl) (by kernel_rfl)
      · replace h := ofF h150 h
        refine W_skip [0, 3, 4, 5] [] (fr' := [(0, aD (.slice tI) a0), (3, aI r1.1), (4, aI r1.2.1), (5, aI r1.2.2)]) (L' := []) (by kernel_rfl) (by kernel_rfl) ?_
        refine seqQ_norm ?_
        refine W_seq (by kernel_rfl) ?_
        refine W_seq (by kernel_rfl) ?_
        refine W_run 18 [] [0, 3, 4, 65] [] (fr' := [(0, aD (.slice tI) a0), (3, aI r1.1), (4, aI r1.2.1), (65, aB (((((r1.2.2 != (0 : Int)) || (decide (r1.1 < (0 : Int)))) || (decide (r1.2.1 < (0 : Int)))) || (decide (r1.1 > (1152921504606846976 : Int)))) || (decide (r1.2.1 > (1152921504606846976 : Int)))))]) (L' := []) (obs := []) (by kernel_rfl) (by kernel_rfl) (by kernel_rfl) allP0 ?_
        refine seqQ_norm ?_
        refine W_cond (o := .tmp 65) (b := ((((r1.2.2 != (0 : Int)) || (decide (r1.1 < (0 : Int)))) || (decide (r1.2.1 < (0 : Int)))) || (decide (r1.1 > (1152921504606846976 : Int)))) || (decide (r1.2.1 > (1152921504606846976 : Int)))) (by kernel_rfl) (by kernel_rfl) (fun h151 => ?_) (fun h151 => ?_)
        · replace h := ofT h151 h
          refine W_seq (by kernel_rfl) ?_
          refine W_run 1 [] [2] [] (fr' := [(2, aB false)]) (L' := []) (obs := []) (by kernel_rfl) (by kernel_rfl) (by kernel_rfl) allP0 ?_
          refine seqQ_norm ?_
          obtain rfl := Option.some.inj h
          refine W_ret [2] [] (fr' := [(2, aB false)]) (L' := []) (by kernel_rfl) (by kernel_rfl) ?_
          refine seqQ_ret ?_
          exact retQ_mk (by kernel_rfl) (by kernel_rfl) (by kernel_rfl)
        · replace h := ofF h151 h
          refine W_skip [0, 3, 4] [] (fr' := [(0, aD (.slice tI) a0), (3, aI r1.1), (4, aI r1.2.1)]) (L' := []) (by kernel_rfl) (by kernel_rfl) ?_
          refine seqQ_norm ?_
          refine W_seq (by kernel_rfl) ?_
          refine W_seq (by kernel_rfl) ?_
          refine W_run 3 [] [0, 3, 4, 66, 67, 68] [] (fr' := [(0, aD (.slice tI) a0), (3, aI r1.1), (4, aI r1.2.1), (66, aD (.slice tI) a0), (67, aI (List.length a0 : Int)), (68, aI (0 : Int))]) (L' := []) (obs := []) (by kernel_rfl) (by kernel_rfl) (by kernel_rfl) allP0 ?_
          refine seqQ_norm ?_
          refine W_block (id := 2) (by kernel_rfl) ?_
          obtain ⟨v173, h174, h⟩ := bind_of h
          refine W_len (t := 66) (u := tI) (xs := a0) (by kernel_rfl) (fun h177 => ?_)
          obtain ⟨h175, h176⟩ := forL_iter h177 h174
          refine W_weaken [0, 3, 4, 66, 67, 68] [] (fr' := ((law_PairFinds_s20 a0 r1) ((0 : Int), ())).1) (L' := ((law_PairFinds_s20 a0 r1) ((0 : Int), ())).2) (by kernel_rfl) ?_
          refine W_cutK (W_loop (S := (law_PairFinds_s20 a0 r1)) (J := (escQ (exQ .ret law_PairFinds_s21) (exQ (.exit 2) (law_PairFinds_s22 a0 r1)))) (by kernel_rfl) ?_ h175 _ v173 h176) ?_
          · rintro ⟨i164, x165⟩ s h
            refine W_seq (by kernel_rfl) ?_
            refine W_run 1 [] [0, 3, 4, 66, 67, 68, 69] [] (fr' := [(0, aD (.slice tI) a0), (3, aI r1.1), (4, aI r1.2.1), (66, aD (.slice tI) a0), (67, aI (List.length a0 : Int)), (68, aI i164), (69, aB (decide (i164 < (List.length a0 : Int))))]) (L' := []) (obs := []) (by kernel_rfl) (by kernel_rfl) (by kernel_rfl) allP0 ?_
            refine seqQ_norm ?_
            refine W_seq (by kernel_rfl) ?_
            refine W_cond (o := .tmp 69) (b := decide (i164 < (List.length a0 : Int))) (by kernel_rfl) (by kernel_rfl) (fun h169 => ?_) (fun h169 => ?_)
            · replace h := stepL_true h169 h
              obtain ⟨v167, _, h168, h, rfl⟩ := h
              refine W_skip [0, 3, 4, 66, 67, 68] [] (fr' := [(0, aD (.slice tI) a0), (3, aI r1.1), (4, aI r1.2.1), (66, aD (.slice tI) a0), (67, aI (List.length a0 : Int)), (68, aI i164)]) (L' := []) (by kernel_rfl) (by kernel_rfl) ?_
              refine seqQ_norm ?_
              refine W_seq (by kernel_rfl) ?_
              refine W_block (id := 3) (by kernel_rfl) ?_
              refine W_seq (by kernel_rfl) ?_
              refine W_run 5 [(3, .val (.dat tI v167))] [0, 3, 4, 9, 10, 66, 67, 68] [] (fr' := [(0, aD (.slice tI) a0), (3, aI r1.1), (4, aI r1.2.1), (9, aI i164), (10, aI v167), (66, aD (.slice tI) a0), (67, aI (List.length a0 : Int)), (68, aI i164)]) (L' := []) (obs := [Idx a0 i164 v167]) (by kernel_rfl) (by kernel_rfl) (by kernel_rfl) (allP1 (Idx.of h168)) ?_
              refine seqQ_norm ?_
              refine W_seq (by kernel_rfl) ?_
              refine W_run 6 [] [0, 3, 4, 10, 11, 66, 67, 68] [] (fr' := [(0, aD (.slice tI) a0), (3, aI r1.1), (4, aI r1.2.1), (10, aI v167), (11, aI (w64 ((1 : Int) + (w64 (r1.2.1 * (w64 (i164 + (1 : Int)))))))), (66, aD (.slice tI) a0), (67, aI (List.length a0 : Int)), (68, aI i164)]) (L' := []) (obs := []) (by kernel_rfl) (by kernel_rfl) (by kernel_rfl) allP0 ?_
              refine seqQ_norm ?_
              refine W_seq (by kernel_rfl) ?_
              obtain ⟨_, h170, h⟩ := bind_of h
              replace h170 := ck_some h170
              refine W_run 9 [] [0, 3, 4, 66, 67, 68, 86] [] (fr' := [(0, aD (.slice tI) a0), (3, aI r1.1), (4, aI r1.2.1), (66, aD (.slice tI) a0), (67, aI (List.length a0 : Int)), (68, aI i164), (86, aB ((w64 (r1.1 - (w64 ((w64 (Int.tdiv r1.1 (w64 ((1 : Int) + (w64 (r1.2.1 * (w64 (i164 + (1 : Int))))))))) * (w64 ((1 : Int) + (w64 (r1.2.1 * (w64 (i164 + (1 : Int))))))))))) != v167))]) (L' := []) (obs := [(w64 ((1 : Int) + (w64 (r1.2.1 * (w64 (i164 + (1 : Int)))))) ≠ 0)]) (by kernel_rfl) (by kernel_rfl) (by kernel_rfl) (allP1 h170) ?_
              refine seqQ_norm ?_
              refine W_cond (o := .tmp 86) (b := (w64 (r1.1 - (w64 ((w64 (Int.tdiv r1.1 (w64 ((1 : Int) + (w64 (r1.2.1 * (w64 (i164 + (1 : Int))))))))) * (w64 ((1 : Int) + (w64 (r1.2.1 * (w64 (i164 + (1 : Int))))))))))) != v167) (by kernel_rfl) (by kernel_rfl) (fun h171 => ?_) (fun h171 => ?_)
              · replace h := ofT h171 h
                refine W_seq (by kernel_rfl) ?_
                refine W_run 1 [] [2] [] (fr' := [(2, aB false)]) (L' := []) (obs := []) (by kernel_rfl) (by kernel_rfl) (by kernel_rfl) allP0 ?_
                refine seqQ_norm ?_
                obtain rfl := Option.some.inj h
                refine W_ret [2] [] (fr' := [(2, aB false)]) (L' := []) (by kernel_rfl) (by kernel_rfl) ?_
                refine blockQ_ret ?_
                refine seqQ_ret ?_
                refine round_ret ?_
                refine escQ_ret ?_
                exact exQ_mk (by kernel_rfl) (by kernel_rfl)
              · replace h := ofF h171 h
                refine W_skip [0, 3, 4, 66, 67, 68] [] (fr' := [(0, aD (.slice tI) a0), (3, aI r1.1), (4, aI r1.2.1), (66, aD (.slice tI) a0), (67, aI (List.length a0 : Int)), (68, aI i164)]) (L' := []) (by kernel_rfl) (by kernel_rfl) ?_
                refine blockQ_norm ?_
                refine seqQ_norm ?_
                obtain rfl := Option.some.inj h
                refine W_run 2 [] [0, 3, 4, 66, 67, 68] [] (fr' := [(0, aD (.slice tI) a0), (3, aI r1.1), (4, aI r1.2.1), (66, aD (.slice tI) a0), (67, aI (List.length a0 : Int)), (68, aI (w64 (i164 + (1 : Int))))]) (L' := []) (obs := []) (by kernel_rfl) (by kernel_rfl) (by kernel_rfl) allP0 ?_
                exact round_next' (by kernel_rfl) (by kernel_rfl)
            · obtain rfl := stepL_false h169 h
              refine W_exit (id := 2) [0, 3, 4] [] (fr' := [(0, aD (.slice tI) a0), (3, aI r1.1), (4, aI r1.2.1)]) (L' := []) (by kernel_rfl) (by kernel_rfl) ?_
              refine seqQ_exit ?_
              refine round_exit ?_
              refine escQ_brk ?_
              exact exQ_mk (by kernel_rfl) (by kernel_rfl)
          · intro e fr L hJ
            rcases v173 with v178 | v179
            · obtain ⟨rfl, rfl, rfl⟩ := hJ
              obtain rfl := Option.some.inj h
              refine LT_keep [2] [] (fr' := [(2, aB v178)]) (L' := []) (by kernel_rfl) ?_
              refine blockQ_ret ?_
              refine seqQ_ret ?_
              exact retQ_mk (by kernel_rfl) (by kernel_rfl) (by kernel_rfl)
            · obtain ⟨rfl, rfl, rfl⟩ := hJ
              refine LT_keep [0, 3, 4] [] (fr' := [(0, aD (.slice tI) a0), (3, aI r1.1), (4, aI r1.2.1)]) (L' := []) (by kernel_rfl) ?_
              refine blockQ_hit ?_
              refine seqQ_norm ?_
              refine W_seq (by kernel_rfl) ?_
              obtain ⟨v189, h190, h⟩ := bind_of h
              refine W_cutK (Q' := (exQ .normal law_PairFinds_s24) v189) ?_ ?_
              · replace h := h190
                refine W_region (by kernel_rfl) ?_
                refine WO_run (j := 12) (k := 12) (orcs := []) (kF := [0, 99]) (kL := []) (fr' := [(0, aD (.slice tI) a0), (99, aB ((((List.length a0 : Int) == (0 : Int)) || (decide (r1.1 > (0 : Int)))) || (decide (r1.2.1 > (0 : Int)))))]) (L' := []) (obs := []) rfl (by kernel_rfl) allP0 ?_
                rcases Bool.eq_false_or_eq_true ((((List.length a0 : Int) == (0 : Int)) || (decide (r1.1 > (0 : Int)))) || (decide (r1.2.1 > (0 : Int)))) with h186 | h186
                · replace h := ofT h186 h
                  refine WO_run (j := 18) (k := 6) (orcs := [(24, .known true), (26, .known true), (28, .known true), (30, .known true), (33, .val (.dat .bool true))]) (kF := [2]) (kL := []) (fr' := [(2, aB true)]) (L' := []) (obs := [(((((List.length a0 : Int) == (0 : Int)) || (decide (r1.1 > (0 : Int)))) || (decide (r1.2.1 > (0 : Int)))) = true), (((((List.length a0 : Int) == (0 : Int)) || (decide (r1.1 > (0 : Int)))) || (decide (r1.2.1 > (0 : Int)))) = true), (((((List.length a0 : Int) == (0 : Int)) || (decide (r1.1 > (0 : Int)))) || (decide (r1.2.1 > (0 : Int)))) = true), (((((List.length a0 : Int) == (0 : Int)) || (decide (r1.1 > (0 : Int)))) || (decide (r1.2.1 > (0 : Int)))) = true), (((((List.length a0 : Int) == (0 : Int)) || (decide (r1.1 > (0 : Int)))) || (decide (r1.2.1 > (0 : Int)))) = true)]) rfl (by kernel_rfl) (allP2 h186 (allP2 h186 (allP2 h186 (allP2 h186 (allP1 h186))))) ?_
                  obtain rfl := Option.some.inj h
                  refine WO_fin [2] [] (fr' := [(2, aB true)]) (L' := []) (by kernel_rfl) (by kernel_rfl) ?_
                  exact exQ_mk (by kernel_rfl) (by kernel_rfl)
                · replace h := ofF h186 h
                  obtain ⟨v187, h188, h⟩ := bind_of h
                  refine WO_run (j := 18) (k := 6) (orcs := [(24, .known false), (26, .known false), (27, .val (.dat tI v187)), (28, .known false), (30, .known false), (33, .val (.dat .bool false))]) (kF := [2]) (kL := []) (fr' := [(2, aB (v187 == (0 : Int)))]) (L' := []) (obs := [(((((List.length a0 : Int) == (0 : Int)) || (decide (r1.1 > (0 : Int)))) || (decide (r1.2.1 > (0 : Int)))) = false), (((((List.length a0 : Int) == (0 : Int)) || (decide (r1.1 > (0 : Int)))) || (decide (r1.2.1 > (0 : Int)))) = false), Idx a0 (0 : Int) v187, (((((List.length a0 : Int) == (0 : Int)) || (decide (r1.1 > (0 : Int)))) || (decide (r1.2.1 > (0 : Int)))) = false), (((((List.length a0 : Int) == (0 : Int)) || (decide (r1.1 > (0 : Int)))) || (decide (r1.2.1 > (0 : Int)))) = false), (((((List.length a0 : Int) == (0 : Int)) || (decide (r1.1 > (0 : Int)))) || (decide (r1.2.1 > (0 : Int)))) = false)]) rfl (by kernel_rfl) (allP2 h186 (allP2 h186 (allP2 (Idx.of h188) (allP2 h186 (allP2 h186 (allP1 h186)))))) ?_
                  obtain rfl := Option.some.inj h
                  refine WO_fin [2] [] (fr' := [(2, aB (v187 == (0 : Int)))]) (L' := []) (by kernel_rfl) (by kernel_rfl) ?_
                  exact exQ_mk (by kernel_rfl) (by kernel_rfl)
              · intro e fr L hJ
                obtain ⟨rfl, rfl, rfl⟩ := hJ
                refine LT_keep [2] [] (fr' := [(2, aB v189)]) (L' := []) (by kernel_rfl) ?_
                refine seqQ_norm ?_
                obtain rfl := Option.some.inj h
                refine W_ret [2] [] (fr' := [(2, aB v189)]) (L' := []) (by kernel_rfl) (by kernel_rfl) ?_
                exact retQ_mk (by kernel_rfl) (by kernel_rfl) (by kernel_rfl)
end Go.Proofs.Ytmongadolmofnaa.pairFinds
