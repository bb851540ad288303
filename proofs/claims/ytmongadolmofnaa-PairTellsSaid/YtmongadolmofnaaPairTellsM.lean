/- What the functions that PairTells calls compute, as models, and that they compute it: written by a program of mine. -/
import Derived.Test.YtmongadolmofnaaProg
import Derived.Test.YtmongadolmofnaaSl3
set_option linter.all false
set_option maxRecDepth 100000
namespace Go.Proofs.Ytmongadolmofnaa.pairTells
open Go Go.Sl
def pair_sums (a0 : Int) : Option Int :=
some (w64 (Int.tdiv (w64 (a0 * (w64 (a0 + (1 : Int))))) (2 : Int)))
theorem pair_sums_ok {a0 : Int} {r : Int} (h : pair_sums a0 = some r) : FnC Try.prog 37 [aI a0] [] (aI r) [] := by
  refine fnC_of_W (B := bodyOf Try.f37) (n := 8) Try.func37 (by kernel_rfl) (by kernel_rfl) (by kernel_rfl) (by kernel_rfl) (by kernel_rfl) ?_
  intro K
  refine W_seq (by kernel_rfl) ?_
  refine W_run 1 [] [0] [] (fr' := [(0, aI a0)]) (L' := []) (obs := []) (by kernel_rfl) (by kernel_rfl) (by kernel_rfl) allP0 ?_
  refine seqQ_norm ?_
  refine W_seq (by kernel_rfl) ?_
  refine W_run 6 [] [2] [] (fr' := [(2, aI (w64 (Int.tdiv (w64 (a0 * (w64 (a0 + (1 : Int))))) (2 : Int))))]) (L' := []) (obs := [((2 : Int) ≠ 0)]) (by kernel_rfl) (by kernel_rfl) (by kernel_rfl) (allP1 (by decide)) ?_
  refine seqQ_norm ?_
  obtain rfl := Option.some.inj h
  refine W_ret [2] [] (fr' := [(2, aI (w64 (Int.tdiv (w64 (a0 * (w64 (a0 + (1 : Int))))) (2 : Int))))]) (L' := []) (by kernel_rfl) (by kernel_rfl) ?_
  exact retQ_mk (by kernel_rfl) (by kernel_rfl) (by kernel_rfl)

def pair_Pair (a0 : Int) (a1 : Int) : Option (Int × Int) :=
bif (decide ((imin a0 a1) < (0 : Int))) || (decide ((imax a0 a1) > (1000000 : Int))) then
(some ((0 : Int), (4 : Int)))
else
((pair_sums (w64 (a0 + a1))).bind fun r2 =>
some (w64 (r2 + a1), (0 : Int)))
theorem pair_Pair_ok {a0 : Int} {a1 : Int} {r : (Int × Int)} (h : pair_Pair a0 a1 = some r) : FnC Try.prog 16 [aI a0, aI a1] [] (.tup [.dat tI r.1, .dat tI r.2]) [] := by
  refine fnC_of_W (B := bodyOf Try.f16) (n := 22) Try.func16 (by kernel_rfl) (by kernel_rfl) (by kernel_rfl) (by kernel_rfl) (by kernel_rfl) ?_
  intro K
  refine W_seq (by kernel_rfl) ?_
  refine W_run 2 [] [0, 1] [] (fr' := [(0, aI a0), (1, aI a1)]) (L' := []) (obs := []) (by kernel_rfl) (by kernel_rfl) (by kernel_rfl) allP0 ?_
  refine seqQ_norm ?_
  refine W_seq (by kernel_rfl) ?_
  refine W_seq (by kernel_rfl) ?_
  refine W_run 10 [] [0, 1, 15] [] (fr' := [(0, aI a0), (1, aI a1), (15, aB ((decide ((imin a0 a1) < (0 : Int))) || (decide ((imax a0 a1) > (1000000 : Int)))))]) (L' := []) (obs := []) (by kernel_rfl) (by kernel_rfl) (by kernel_rfl) allP0 ?_
  refine seqQ_norm ?_
  refine W_cond (o := .tmp 15) (b := (decide ((imin a0 a1) < (0 : Int))) || (decide ((imax a0 a1) > (1000000 : Int)))) (by kernel_rfl) (by kernel_rfl) (fun h1 => ?_) (fun h1 => ?_)
  · replace h := ofT h1 h
    refine W_seq (by kernel_rfl) ?_
    refine W_run 2 [] [4, 5] [] (fr' := [(4, aI (0 : Int)), (5, aI (4 : Int))]) (L' := []) (obs := []) (by kernel_rfl) (by kernel_rfl) (by kernel_rfl) allP0 ?_
    refine seqQ_norm ?_
    obtain rfl := Option.some.inj h
    refine W_ret [4, 5] [] (fr' := [(4, aI (0 : Int)), (5, aI (4 : Int))]) (L' := []) (by kernel_rfl) (by kernel_rfl) ?_
    refine seqQ_ret ?_
    exact retQ_mk (by kernel_rfl) (by kernel_rfl) (by kernel_rfl)
  · replace h := ofF h1 h
    refine W_skip [0, 1] [] (fr' := [(0, aI a0), (1, aI a1)]) (L' := []) (by kernel_rfl) (by kernel_rfl) ?_
    refine seqQ_norm ?_
    refine W_seq (by kernel_rfl) ?_
    refine W_region (by kernel_rfl) ?_
    refine WO_run (j := 3) (k := 3) (orcs := []) (kF := [1, 18]) (kL := []) (fr' := [(1, aI a1), (18, aI (w64 (a0 + a1)))]) (L' := []) (obs := []) rfl (by kernel_rfl) allP0 ?_
    obtain ⟨r2, h3, h⟩ := bind_of h
    refine WO_call0 (us := [none]) (d := 19) (p := True) (j := 4) rfl ⟨by kernel_rfl, by kernel_rfl, by kernel_rfl⟩ trivial (pair_sums_ok h3) (by kernel_rfl) ?_
    refine WO_run (j := 8) (k := 4) (orcs := []) (kF := [4, 5]) (kL := []) (fr' := [(4, aI (w64 (r2 + a1))), (5, aI (0 : Int))]) (L' := []) (obs := []) rfl (by kernel_rfl) allP0 ?_
    refine WO_fin [4, 5] [] (fr' := [(4, aI (w64 (r2 + a1))), (5, aI (0 : Int))]) (L' := []) (by kernel_rfl) (by kernel_rfl) ?_
    refine seqQ_norm ?_
    obtain rfl := Option.some.inj h
    refine W_ret [4, 5] [] (fr' := [(4, aI (w64 (r2 + a1))), (5, aI (0 : Int))]) (L' := []) (by kernel_rfl) (by kernel_rfl) ?_
    exact retQ_mk (by kernel_rfl) (by kernel_rfl) (by kernel_rfl)

def ref_Within (a0 : Int) (a1 : Int) (a2 : Int) : Option Bool :=
some ((decide (a0 ≤ a1)) && (decide (a1 ≤ a2)))
theorem ref_Within_ok {a0 : Int} {a1 : Int} {a2 : Int} {r : Bool} (h : ref_Within a0 a1 a2 = some r) : FnC Try.prog 15 [aI a0, aI a1, aI a2] [] (aB r) [] := by
  refine fnC_of_W (B := bodyOf Try.f15) (n := 15) Try.func15 (by kernel_rfl) (by kernel_rfl) (by kernel_rfl) (by kernel_rfl) (by kernel_rfl) ?_
  intro K
  refine W_seq (by kernel_rfl) ?_
  refine W_run 1 [] [0, 1, 2] [] (fr' := [(0, aI a0), (1, aI a1), (2, aI a2)]) (L' := []) (obs := []) (by kernel_rfl) (by kernel_rfl) (by kernel_rfl) allP0 ?_
  refine seqQ_norm ?_
  refine W_seq (by kernel_rfl) ?_
  refine W_run 9 [] [6] [] (fr' := [(6, aB ((decide (a0 ≤ a1)) && (decide (a1 ≤ a2))))]) (L' := []) (obs := []) (by kernel_rfl) (by kernel_rfl) (by kernel_rfl) allP0 ?_
  refine seqQ_norm ?_
  obtain rfl := Option.some.inj h
  refine W_ret [6] [] (fr' := [(6, aB ((decide (a0 ≤ a1)) && (decide (a1 ≤ a2))))]) (L' := []) (by kernel_rfl) (by kernel_rfl) ?_
  exact retQ_mk (by kernel_rfl) (by kernel_rfl) (by kernel_rfl)

@[reducible] def law_PairTells_s1 (a0 : Int) (a1 : Int) (r1 : (Int × Int)) (v : Bool) : Fr × LL := ([(0, aI a0), (1, aI a1), (5, aI r1.1), (6, aI r1.2), (21, aB v)], [])
def law_PairTells (a0 : Int) (a1 : Int) : Option Bool :=
(pair_Pair a0 a1).bind fun r1 =>
((ref_Within (0 : Int) a0 (1000000 : Int)).bind fun r13 =>
bif !r13 then
(some true)
else
((ref_Within (0 : Int) a1 (1000000 : Int)).bind fun r16 =>
some (!r16))).bind fun v18 =>
bif v18 then
(some ((r1.2 == (4 : Int)) && (r1.1 == (0 : Int))))
else
(some ((r1.2 == (0 : Int)) && (r1.1 == (w64 ((w64 (Int.tdiv (w64 ((w64 (a0 + a1)) * (w64 ((w64 (a0 + a1)) + (1 : Int))))) (2 : Int))) + a1)))))
theorem law_PairTells_ok {a0 : Int} {a1 : Int} {r : Bool} (h : law_PairTells a0 a1 = some r) : FnC Try.prog 4 [aI a0, aI a1] [] (aB r) [] := by
  refine fnC_of_W (B := bodyOf Try.f4) (n := 44) Try.func4 (by kernel_rfl) (by kernel_rfl) (by kernel_rfl) (by kernel_rfl) (by kernel_rfl) ?_
  intro K
  refine W_seq (by kernel_rfl) ?_
  refine W_run 1 [] [0, 1] [] (fr' := [(0, aI a0), (1, aI a1)]) (L' := []) (obs := []) (by kernel_rfl) (by kernel_rfl) (by kernel_rfl) allP0 ?_
  refine seqQ_norm ?_
  refine W_seq (by kernel_rfl) ?_
  refine W_region (by kernel_rfl) ?_
  refine WO_run (j := 2) (k := 2) (orcs := []) (kF := [0, 1, 9, 10]) (kL := []) (fr' := [(0, aI a0), (1, aI a1), (9, aI a0), (10, aI a1)]) (L' := []) (obs := []) rfl (by kernel_rfl) allP0 ?_
  obtain ⟨r1, h2, h⟩ := bind_of h
  refine WO_call0 (us := [none, none]) (d := 11) (p := True) (j := 3) rfl ⟨by kernel_rfl, by kernel_rfl, by kernel_rfl⟩ trivial (pair_Pair_ok h2) (by kernel_rfl) ?_
  refine WO_run (j := 8) (k := 5) (orcs := []) (kF := [0, 1, 5, 6]) (kL := []) (fr' := [(0, aI a0), (1, aI a1), (5, aI r1.1), (6, aI r1.2)]) (L' := []) (obs := []) rfl (by kernel_rfl) allP0 ?_
  refine WO_fin [0, 1, 5, 6] [] (fr' := [(0, aI a0), (1, aI a1), (5, aI r1.1), (6, aI r1.2)]) (L' := []) (by kernel_rfl) (by kernel_rfl) ?_
  refine seqQ_norm ?_
  refine W_seq (by kernel_rfl) ?_
  refine W_seq (by kernel_rfl) ?_
  obtain ⟨v18, h19, h⟩ := bind_of h
  refine W_cutK (Q' := (exQ .normal (law_PairTells_s1 a0 a1 r1)) v18) ?_ ?_
  · replace h := h19
    refine W_region (by kernel_rfl) ?_
    refine WO_run (j := 1) (k := 1) (orcs := []) (kF := [0, 1, 5, 6, 14]) (kL := []) (fr' := [(0, aI a0), (1, aI a1), (5, aI r1.1), (6, aI r1.2), (14, aI a0)]) (L' := []) (obs := []) rfl (by kernel_rfl) allP0 ?_
    obtain ⟨r13, h14, h⟩ := bind_of h
    refine WO_call0 (us := [none, none, none]) (d := 15) (p := True) (j := 2) rfl ⟨by kernel_rfl, by kernel_rfl, by kernel_rfl⟩ trivial (ref_Within_ok h14) (by kernel_rfl) ?_
    refine WO_run (j := 5) (k := 3) (orcs := []) (kF := [0, 1, 5, 6, 17, 18]) (kL := []) (fr' := [(0, aI a0), (1, aI a1), (5, aI r1.1), (6, aI r1.2), (17, aB (!r13)), (18, .mb 17 false (.dat tI a1))]) (L' := []) (obs := []) rfl (by kernel_rfl) allP0 ?_
    rcases Bool.eq_false_or_eq_true (!r13) with h15 | h15
    · replace h := ofT h15 h
      refine WO_run (j := 8) (k := 3) (orcs := [(10, .known true), (12, .known true), (15, .val (.dat .bool true))]) (kF := [0, 1, 5, 6, 21]) (kL := []) (fr' := [(0, aI a0), (1, aI a1), (5, aI r1.1), (6, aI r1.2), (21, aB true)]) (L' := []) (obs := [((!r13) = true), ((!r13) = true), ((!r13) = true)]) rfl (by kernel_rfl) (allP2 h15 (allP2 h15 (allP1 h15))) ?_
      obtain rfl := Option.some.inj h
      refine WO_fin [0, 1, 5, 6, 21] [] (fr' := [(0, aI a0), (1, aI a1), (5, aI r1.1), (6, aI r1.2), (21, aB true)]) (L' := []) (by kernel_rfl) (by kernel_rfl) ?_
      exact exQ_mk (by kernel_rfl) (by kernel_rfl)
    · replace h := ofF h15 h
      obtain ⟨r16, h17, h⟩ := bind_of h
      refine WO_call0 (us := [none, none, none]) (d := 19) (p := ((!r13) = false)) (j := 6) rfl ⟨by kernel_rfl, by kernel_rfl, by kernel_rfl⟩ h15 (ref_Within_ok h17) (by kernel_rfl) ?_
      refine WO_run (j := 8) (k := 2) (orcs := [(12, .known false), (15, .val (.dat .bool false))]) (kF := [0, 1, 5, 6, 21]) (kL := []) (fr' := [(0, aI a0), (1, aI a1), (5, aI r1.1), (6, aI r1.2), (21, aB (!r16))]) (L' := []) (obs := [((!r13) = false), ((!r13) = false)]) rfl (by kernel_rfl) (allP2 h15 (allP1 h15)) ?_
      obtain rfl := Option.some.inj h
      refine WO_fin [0, 1, 5, 6, 21] [] (fr' := [(0, aI a0), (1, aI a1), (5, aI r1.1), (6, aI r1.2), (21, aB (!r16))]) (L' := []) (by kernel_rfl) (by kernel_rfl) ?_
      exact exQ_mk (by kernel_rfl) (by kernel_rfl)
  · intro e fr L hJ
    obtain ⟨rfl, rfl, rfl⟩ := hJ
    refine LT_keep [0, 1, 5, 6, 21] [] (fr' := [(0, aI a0), (1, aI a1), (5, aI r1.1), (6, aI r1.2), (21, aB v18)]) (L' := []) (by kernel_rfl) ?_
    refine seqQ_norm ?_
    refine W_cond (o := .tmp 21) (b := v18) (by kernel_rfl) (by kernel_rfl) (fun h20 => ?_) (fun h20 => ?_)
    · replace h := ofT h20 h
      refine W_seq (by kernel_rfl) ?_
      refine W_run 7 [] [4] [] (fr' := [(4, aB ((r1.2 == (4 : Int)) && (r1.1 == (0 : Int))))]) (L' := []) (obs := []) (by kernel_rfl) (by kernel_rfl) (by kernel_rfl) allP0 ?_
      refine seqQ_norm ?_
      obtain rfl := Option.some.inj h
      refine W_ret [4] [] (fr' := [(4, aB ((r1.2 == (4 : Int)) && (r1.1 == (0 : Int))))]) (L' := []) (by kernel_rfl) (by kernel_rfl) ?_
      refine seqQ_ret ?_
      exact retQ_mk (by kernel_rfl) (by kernel_rfl) (by kernel_rfl)
    · replace h := ofF h20 h
      refine W_skip [0, 1, 5, 6] [] (fr' := [(0, aI a0), (1, aI a1), (5, aI r1.1), (6, aI r1.2)]) (L' := []) (by kernel_rfl) (by kernel_rfl) ?_
      refine seqQ_norm ?_
      refine W_seq (by kernel_rfl) ?_
      refine W_run 4 [] [1, 5, 6, 7] [] (fr' := [(1, aI a1), (5, aI r1.1), (6, aI r1.2), (7, aI (w64 (a0 + a1)))]) (L' := []) (obs := []) (by kernel_rfl) (by kernel_rfl) (by kernel_rfl) allP0 ?_
      refine seqQ_norm ?_
      refine W_seq (by kernel_rfl) ?_
      refine W_run 14 [] [4] [] (fr' := [(4, aB ((r1.2 == (0 : Int)) && (r1.1 == (w64 ((w64 (Int.tdiv (w64 ((w64 (a0 + a1)) * (w64 ((w64 (a0 + a1)) + (1 : Int))))) (2 : Int))) + a1)))))]) (L' := []) (obs := [((2 : Int) ≠ 0)]) (by kernel_rfl) (by kernel_rfl) (by kernel_rfl) (allP1 (by decide)) ?_
      refine seqQ_norm ?_
      obtain rfl := Option.some.inj h
      refine W_ret [4] [] (fr' := [(4, aB ((r1.2 == (0 : Int)) && (r1.1 == (w64 ((w64 (Int.tdiv (w64 ((w64 (a0 + a1)) * (w64 ((w64 (a0 + a1)) + (1 : Int))))) (2 : Int))) + a1)))))]) (L' := []) (by kernel_rfl) (by kernel_rfl) ?_
      exact retQ_mk (by kernel_rfl) (by kernel_rfl) (by kernel_rfl)
end Go.Proofs.Ytmongadolmofnaa.pairTells
