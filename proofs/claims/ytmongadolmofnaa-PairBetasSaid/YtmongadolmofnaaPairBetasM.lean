/- What the functions that PairBetas calls compute, as models, and that they compute it: written by a program of mine. -/
import Derived.Test.YtmongadolmofnaaProg
import Derived.Test.YtmongadolmofnaaSl3
set_option linter.all false
set_option maxRecDepth 100000
namespace Go.Proofs.Ytmongadolmofnaa.pairBetas
open Go Go.Sl
def pair_Beta (a0 : Int) (a1 : Int) (a2 : Int) : Option (Int × Int) :=
bif ((((decide (a0 < (0 : Int))) || (decide (a1 < (0 : Int)))) || (decide (a1 > (1099511627776 : Int)))) || (decide (a2 < (0 : Int)))) || (decide (a2 > (1000 : Int))) then
(some ((0 : Int), (4 : Int)))
else
((ck (w64 ((1 : Int) + (w64 ((w64 (a2 + (1 : Int))) * a1))) ≠ 0)).bind fun _ =>
some (Int.tmod a0 (w64 ((1 : Int) + (w64 ((w64 (a2 + (1 : Int))) * a1)))), (0 : Int)))
theorem pair_Beta_ok {a0 : Int} {a1 : Int} {a2 : Int} {r : (Int × Int)} (h : pair_Beta a0 a1 a2 = some r) : FnC Try.prog 14 [aI a0, aI a1, aI a2] [] (.tup [.dat tI r.1, .dat tI r.2]) [] := by
  refine fnC_of_W (B := bodyOf Try.f14) (n := 33) Try.func14 (by kernel_rfl) (by kernel_rfl) (by kernel_rfl) (by kernel_rfl) (by kernel_rfl) ?_
  intro K
  refine W_seq (by kernel_rfl) ?_
  refine W_run 2 [] [0, 1, 2] [] (fr' := [(0, aI a0), (1, aI a1), (2, aI a2)]) (L' := []) (obs := []) (by kernel_rfl) (by kernel_rfl) (by kernel_rfl) allP0 ?_
  refine seqQ_norm ?_
  refine W_seq (by kernel_rfl) ?_
  refine W_seq (by kernel_rfl) ?_
  refine W_run 18 [] [0, 1, 2, 25] [] (fr' := [(0, aI a0), (1, aI a1), (2, aI a2), (25, aB (((((decide (a0 < (0 : Int))) || (decide (a1 < (0 : Int)))) || (decide (a1 > (1099511627776 : Int)))) || (decide (a2 < (0 : Int)))) || (decide (a2 > (1000 : Int)))))]) (L' := []) (obs := []) (by kernel_rfl) (by kernel_rfl) (by kernel_rfl) allP0 ?_
  refine seqQ_norm ?_
  refine W_cond (o := .tmp 25) (b := ((((decide (a0 < (0 : Int))) || (decide (a1 < (0 : Int)))) || (decide (a1 > (1099511627776 : Int)))) || (decide (a2 < (0 : Int)))) || (decide (a2 > (1000 : Int)))) (by kernel_rfl) (by kernel_rfl) (fun h1 => ?_) (fun h1 => ?_)
  · replace h := ofT h1 h
    refine W_seq (by kernel_rfl) ?_
    refine W_run 2 [] [6, 7] [] (fr' := [(6, aI (0 : Int)), (7, aI (4 : Int))]) (L' := []) (obs := []) (by kernel_rfl) (by kernel_rfl) (by kernel_rfl) allP0 ?_
    refine seqQ_norm ?_
    obtain rfl := Option.some.inj h
    refine W_ret [6, 7] [] (fr' := [(6, aI (0 : Int)), (7, aI (4 : Int))]) (L' := []) (by kernel_rfl) (by kernel_rfl) ?_
    refine seqQ_ret ?_
    exact retQ_mk (by kernel_rfl) (by kernel_rfl) (by kernel_rfl)
  · replace h := ofF h1 h
    refine W_skip [0, 1, 2] [] (fr' := [(0, aI a0), (1, aI a1), (2, aI a2)]) (L' := []) (by kernel_rfl) (by kernel_rfl) ?_
    refine seqQ_norm ?_
    refine W_seq (by kernel_rfl) ?_
    obtain ⟨_, h2, h⟩ := bind_of h
    replace h2 := ck_some h2
    refine W_run 9 [] [6, 7] [] (fr' := [(6, aI (Int.tmod a0 (w64 ((1 : Int) + (w64 ((w64 (a2 + (1 : Int))) * a1)))))), (7, aI (0 : Int))]) (L' := []) (obs := [(w64 ((1 : Int) + (w64 ((w64 (a2 + (1 : Int))) * a1))) ≠ 0)]) (by kernel_rfl) (by kernel_rfl) (by kernel_rfl) (allP1 h2) ?_
    refine seqQ_norm ?_
    obtain rfl := Option.some.inj h
    refine W_ret [6, 7] [] (fr' := [(6, aI (Int.tmod a0 (w64 ((1 : Int) + (w64 ((w64 (a2 + (1 : Int))) * a1)))))), (7, aI (0 : Int))]) (L' := []) (by kernel_rfl) (by kernel_rfl) ?_
    exact retQ_mk (by kernel_rfl) (by kernel_rfl) (by kernel_rfl)

def ref_Within (a0 : Int) (a1 : Int) (a2 : Int) : Option Bool :=
some ((decide (a0 ≤ a1)) && (decide (a1 ≤ a2)))
theorem ref_Within_ok {a0 : Int} {a1 : Int} {a2 : Int} {r : Bool} (h : ref_Within a0 a1 a2 = some r) : FnC Try.prog 15 [aI a0, aI a1, aI a2] [] (aB r) [] := by
  refine fnC_of_W (B := bodyOf Try.f15) (n := 15) Try.func15 (by kernel_rfl) (by kernel_rfl) (by kernel_rfl) (by kernel_rfl) (by kernel_rfl) ?_
  intro K
  refine W_seq (by kernel_rfl) ?_
  refine W_run 1 [] [0, 1, 2] [] (fr' := [(0, aI a0), (1, aI a1), (2, aI a2)]) (L' := []) (obs := []) (by kernel_rfl) (by kernel_rfl) (by kernel_rfl) allP0 ?_
  refine seqQ_norm ?_
  refine W_seq (by kernel_rfl) ?_
  refine W_run 9 [] [6] [] (fr' := [(6, aB ((decide (a0 ≤ a1)) && (decide (a1 ≤ a2))))]) (L' := []) (obs := []) (by kernel_rfl) (by kernel_rfl) (by kernel_rfl) allP0 ?_
  refine seqQ_norm ?_
  obtain rfl := Option.some.inj h
  refine W_ret [6] [] (fr' := [(6, aB ((decide (a0 ≤ a1)) && (decide (a1 ≤ a2))))]) (L' := []) (by kernel_rfl) (by kernel_rfl) ?_
  exact retQ_mk (by kernel_rfl) (by kernel_rfl) (by kernel_rfl)

def law_PairBetas_g1 (a0 : Int) (a1 : Int) (a2 : Int) : Option Bool :=
bif ((decide (a0 < (0 : Int))) || (decide (a1 < (0 : Int)))) || (decide (a1 > (1099511627776 : Int))) then
(some true)
else
((ref_Within (0 : Int) a2 (1000 : Int)).bind fun r10 =>
some (!r10))
@[reducible] def law_PairBetas_s2 (a0 : Int) (a1 : Int) (a2 : Int) (r1 : (Int × Int)) (v : Bool) : Fr × LL := ([(0, aI a0), (1, aI a1), (2, aI a2), (7, aI r1.1), (8, aI r1.2), (31, aB v)], [])
def law_PairBetas (a0 : Int) (a1 : Int) (a2 : Int) : Option Bool :=
(pair_Beta a0 a1 a2).bind fun r1 =>
(law_PairBetas_g1 a0 a1 a2).bind fun v12 =>
bif v12 then
(some ((r1.2 == (4 : Int)) && (r1.1 == (0 : Int))))
else
(bif r1.2 == (0 : Int) then
((ck (w64 ((1 : Int) + (w64 (a1 * (w64 (a2 + (1 : Int)))))) ≠ 0)).bind fun _ =>
some (r1.1 == (w64 (a0 - (w64 ((w64 (Int.tdiv a0 (w64 ((1 : Int) + (w64 (a1 * (w64 (a2 + (1 : Int))))))))) * (w64 ((1 : Int) + (w64 (a1 * (w64 (a2 + (1 : Int)))))))))))))
else
(some false))
theorem law_PairBetas_ok {a0 : Int} {a1 : Int} {a2 : Int} {r : Bool} (h : law_PairBetas a0 a1 a2 = some r) : FnC Try.prog 3 [aI a0, aI a1, aI a2] [] (aB r) [] := by
  refine fnC_of_W (B := bodyOf Try.f3) (n := 56) Try.func3 (by kernel_rfl) (by kernel_rfl) (by kernel_rfl) (by kernel_rfl) (by kernel_rfl) ?_
  intro K
  refine W_seq (by kernel_rfl) ?_
  refine W_run 1 [] [0, 1, 2] [] (fr' := [(0, aI a0), (1, aI a1), (2, aI a2)]) (L' := []) (obs := []) (by kernel_rfl) (by kernel_rfl) (by kernel_rfl) allP0 ?_
  refine seqQ_norm ?_
  refine W_seq (by kernel_rfl) ?_
  refine W_region (by kernel_rfl) ?_
  refine WO_run (j := 3) (k := 3) (orcs := []) (kF := [0, 1, 2, 11, 12, 13]) (kL := []) (fr' := [(0, aI a0), (1, aI a1), (2, aI a2), (11, aI a0), (12, aI a1), (13, aI a2)]) (L' := []) (obs := []) rfl (by kernel_rfl) allP0 ?_
  obtain ⟨r1, h2, h⟩ := bind_of h
  refine WO_call0 (us := [none, none, none]) (d := 14) (p := True) (j := 4) rfl ⟨by kernel_rfl, by kernel_rfl, by kernel_rfl⟩ trivial (pair_Beta_ok h2) (by kernel_rfl) ?_
  refine WO_run (j := 9) (k := 5) (orcs := []) (kF := [0, 1, 2, 7, 8]) (kL := []) (fr' := [(0, aI a0), (1, aI a1), (2, aI a2), (7, aI r1.1), (8, aI r1.2)]) (L' := []) (obs := []) rfl (by kernel_rfl) allP0 ?_
  refine WO_fin [0, 1, 2, 7, 8] [] (fr' := [(0, aI a0), (1, aI a1), (2, aI a2), (7, aI r1.1), (8, aI r1.2)]) (L' := []) (by kernel_rfl) (by kernel_rfl) ?_
  refine seqQ_norm ?_
  refine W_seq (by kernel_rfl) ?_
  refine W_seq (by kernel_rfl) ?_
  obtain ⟨v12, h13, h⟩ := bind_of h
  refine W_cutK (Q' := (exQ .normal (law_PairBetas_s2 a0 a1 a2 r1)) v12) ?_ ?_
  · replace h := h13
    refine W_region (by kernel_rfl) ?_
    refine WO_run (j := 12) (k := 12) (orcs := []) (kF := [0, 1, 2, 7, 8, 27, 28]) (kL := []) (fr' := [(0, aI a0), (1, aI a1), (2, aI a2), (7, aI r1.1), (8, aI r1.2), (27, aB (((decide (a0 < (0 : Int))) || (decide (a1 < (0 : Int)))) || (decide (a1 > (1099511627776 : Int))))), (28, .mb 27 false (.dat tI a2))]) (L' := []) (obs := []) rfl (by kernel_rfl) allP0 ?_
    rcases Bool.eq_false_or_eq_true (((decide (a0 < (0 : Int))) || (decide (a1 < (0 : Int)))) || (decide (a1 > (1099511627776 : Int)))) with h9 | h9
    · replace h := ofT h9 h
      refine WO_run (j := 15) (k := 3) (orcs := [(24, .known true), (26, .known true), (29, .val (.dat .bool true))]) (kF := [0, 1, 2, 7, 8, 31]) (kL := []) (fr' := [(0, aI a0), (1, aI a1), (2, aI a2), (7, aI r1.1), (8, aI r1.2), (31, aB true)]) (L' := []) (obs := [((((decide (a0 < (0 : Int))) || (decide (a1 < (0 : Int)))) || (decide (a1 > (1099511627776 : Int)))) = true), ((((decide (a0 < (0 : Int))) || (decide (a1 < (0 : Int)))) || (decide (a1 > (1099511627776 : Int)))) = true), ((((decide (a0 < (0 : Int))) || (decide (a1 < (0 : Int)))) || (decide (a1 > (1099511627776 : Int)))) = true)]) rfl (by kernel_rfl) (allP2 h9 (allP2 h9 (allP1 h9))) ?_
      obtain rfl := Option.some.inj h
      refine WO_fin [0, 1, 2, 7, 8, 31] [] (fr' := [(0, aI a0), (1, aI a1), (2, aI a2), (7, aI r1.1), (8, aI r1.2), (31, aB true)]) (L' := []) (by kernel_rfl) (by kernel_rfl) ?_
      exact exQ_mk (by kernel_rfl) (by kernel_rfl)
    · replace h := ofF h9 h
      obtain ⟨r10, h11, h⟩ := bind_of h
      refine WO_call0 (us := [none, none, none]) (d := 29) (p := ((((decide (a0 < (0 : Int))) || (decide (a1 < (0 : Int)))) || (decide (a1 > (1099511627776 : Int)))) = false)) (j := 13) rfl ⟨by kernel_rfl, by kernel_rfl, by kernel_rfl⟩ h9 (ref_Within_ok h11) (by kernel_rfl) ?_
      refine WO_run (j := 15) (k := 2) (orcs := [(26, .known false), (29, .val (.dat .bool false))]) (kF := [0, 1, 2, 7, 8, 31]) (kL := []) (fr' := [(0, aI a0), (1, aI a1), (2, aI a2), (7, aI r1.1), (8, aI r1.2), (31, aB (!r10))]) (L' := []) (obs := [((((decide (a0 < (0 : Int))) || (decide (a1 < (0 : Int)))) || (decide (a1 > (1099511627776 : Int)))) = false), ((((decide (a0 < (0 : Int))) || (decide (a1 < (0 : Int)))) || (decide (a1 > (1099511627776 : Int)))) = false)]) rfl (by kernel_rfl) (allP2 h9 (allP1 h9)) ?_
      obtain rfl := Option.some.inj h
      refine WO_fin [0, 1, 2, 7, 8, 31] [] (fr' := [(0, aI a0), (1, aI a1), (2, aI a2), (7, aI r1.1), (8, aI r1.2), (31, aB (!r10))]) (L' := []) (by kernel_rfl) (by kernel_rfl) ?_
      exact exQ_mk (by kernel_rfl) (by kernel_rfl)
  · intro e fr L hJ
    obtain ⟨rfl, rfl, rfl⟩ := hJ
    refine LT_keep [0, 1, 2, 7, 8, 31] [] (fr' := [(0, aI a0), (1, aI a1), (2, aI a2), (7, aI r1.1), (8, aI r1.2), (31, aB v12)]) (L' := []) (by kernel_rfl) ?_
    refine seqQ_norm ?_
    refine W_cond (o := .tmp 31) (b := v12) (by kernel_rfl) (by kernel_rfl) (fun h14 => ?_) (fun h14 => ?_)
    · replace h := ofT h14 h
      refine W_seq (by kernel_rfl) ?_
      refine W_run 7 [] [6] [] (fr' := [(6, aB ((r1.2 == (4 : Int)) && (r1.1 == (0 : Int))))]) (L' := []) (obs := []) (by kernel_rfl) (by kernel_rfl) (by kernel_rfl) allP0 ?_
      refine seqQ_norm ?_
      obtain rfl := Option.some.inj h
      refine W_ret [6] [] (fr' := [(6, aB ((r1.2 == (4 : Int)) && (r1.1 == (0 : Int))))]) (L' := []) (by kernel_rfl) (by kernel_rfl) ?_
      refine seqQ_ret ?_
      exact retQ_mk (by kernel_rfl) (by kernel_rfl) (by kernel_rfl)
    · replace h := ofF h14 h
      refine W_skip [0, 1, 2, 7, 8] [] (fr' := [(0, aI a0), (1, aI a1), (2, aI a2), (7, aI r1.1), (8, aI r1.2)]) (L' := []) (by kernel_rfl) (by kernel_rfl) ?_
      refine seqQ_norm ?_
      refine W_seq (by kernel_rfl) ?_
      refine W_run 6 [] [0, 7, 8, 9] [] (fr' := [(0, aI a0), (7, aI r1.1), (8, aI r1.2), (9, aI (w64 ((1 : Int) + (w64 (a1 * (w64 (a2 + (1 : Int))))))))]) (L' := []) (obs := []) (by kernel_rfl) (by kernel_rfl) (by kernel_rfl) allP0 ?_
      refine seqQ_norm ?_
      refine W_seq (by kernel_rfl) ?_
      refine W_region (by kernel_rfl) ?_
      refine WO_run (j := 7) (k := 7) (orcs := []) (kF := [9, 45, 46, 47, 48, 49]) (kL := []) (fr' := [(9, aI (w64 ((1 : Int) + (w64 (a1 * (w64 (a2 + (1 : Int)))))))), (45, aB (r1.2 == (0 : Int))), (46, .mb 45 true (.dat tI r1.1)), (47, .mb 45 true (.dat tI a0)), (48, .mb 45 true (.dat tI a0)), (49, .mb 45 true (.dat tI (w64 ((1 : Int) + (w64 (a1 * (w64 (a2 + (1 : Int)))))))))]) (L' := []) (obs := []) rfl (by kernel_rfl) allP0 ?_
      rcases Bool.eq_false_or_eq_true (r1.2 == (0 : Int)) with h15 | h15
      · replace h := ofT h15 h
        obtain ⟨_, h16, h⟩ := bind_of h
        replace h16 := ck_some h16
        refine WO_run (j := 14) (k := 7) (orcs := [(14, .known true), (16, .known true), (18, .known true), (20, .known true), (22, .known true), (25, .val (.dat .bool true))]) (kF := [6]) (kL := []) (fr' := [(6, aB (r1.1 == (w64 (a0 - (w64 ((w64 (Int.tdiv a0 (w64 ((1 : Int) + (w64 (a1 * (w64 (a2 + (1 : Int))))))))) * (w64 ((1 : Int) + (w64 (a1 * (w64 (a2 + (1 : Int)))))))))))))]) (L' := []) (obs := [((r1.2 == (0 : Int)) = true), (w64 ((1 : Int) + (w64 (a1 * (w64 (a2 + (1 : Int)))))) ≠ 0), ((r1.2 == (0 : Int)) = true), ((r1.2 == (0 : Int)) = true), ((r1.2 == (0 : Int)) = true), ((r1.2 == (0 : Int)) = true), ((r1.2 == (0 : Int)) = true)]) rfl (by kernel_rfl) (allP2 h15 (allP2 h16 (allP2 h15 (allP2 h15 (allP2 h15 (allP2 h15 (allP1 h15))))))) ?_
        refine WO_fin [6] [] (fr' := [(6, aB (r1.1 == (w64 (a0 - (w64 ((w64 (Int.tdiv a0 (w64 ((1 : Int) + (w64 (a1 * (w64 (a2 + (1 : Int))))))))) * (w64 ((1 : Int) + (w64 (a1 * (w64 (a2 + (1 : Int)))))))))))))]) (L' := []) (by kernel_rfl) (by kernel_rfl) ?_
        refine seqQ_norm ?_
        obtain rfl := Option.some.inj h
        refine W_ret [6] [] (fr' := [(6, aB (r1.1 == (w64 (a0 - (w64 ((w64 (Int.tdiv a0 (w64 ((1 : Int) + (w64 (a1 * (w64 (a2 + (1 : Int))))))))) * (w64 ((1 : Int) + (w64 (a1 * (w64 (a2 + (1 : Int)))))))))))))]) (L' := []) (by kernel_rfl) (by kernel_rfl) ?_
        exact retQ_mk (by kernel_rfl) (by kernel_rfl) (by kernel_rfl)
      · replace h := ofF h15 h
        refine WO_run (j := 14) (k := 7) (orcs := [(14, .known false), (16, .known false), (18, .known false), (20, .known false), (22, .known false), (25, .val (.dat .bool false))]) (kF := [6]) (kL := []) (fr' := [(6, aB false)]) (L' := []) (obs := [((r1.2 == (0 : Int)) = false), ((r1.2 == (0 : Int)) = false), ((r1.2 == (0 : Int)) = false), ((r1.2 == (0 : Int)) = false), ((r1.2 == (0 : Int)) = false), ((r1.2 == (0 : Int)) = false)]) rfl (by kernel_rfl) (allP2 h15 (allP2 h15 (allP2 h15 (allP2 h15 (allP2 h15 (allP1 h15)))))) ?_
        refine WO_fin [6] [] (fr' := [(6, aB false)]) (L' := []) (by kernel_rfl) (by kernel_rfl) ?_
        refine seqQ_norm ?_
        obtain rfl := Option.some.inj h
        refine W_ret [6] [] (fr' := [(6, aB false)]) (L' := []) (by kernel_rfl) (by kernel_rfl) ?_
        exact retQ_mk (by kernel_rfl) (by kernel_rfl) (by kernel_rfl)
end Go.Proofs.Ytmongadolmofnaa.pairBetas
