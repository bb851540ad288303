/- What the functions that FuncsRanks calls compute, as models, and that they compute it: written by a program of mine. -/
import Derived.Test.YtbjfglckfknheaaProg
import Derived.Test.YtbjfglckfknheaaFuncsRanksM1
set_option linter.all false
set_option maxRecDepth 100000
namespace Go.Proofs.Ytbjfglckfknheaa.funcsRanks
open Go Go.Sl
@[reducible] def law_FuncsRanks_s1 (v : Bool) : Fr × LL := ([(2, aB v)], [])
def law_FuncsRanks (fuel : Nat) (a0 : (List (Int × (Int × (Int × (Int × (Int × (List Int)))))))) : Option Bool :=
(funcs_Rank a0).bind fun r1 =>
(ref_FuncsCheck a0).bind fun r3 =>
bif r3 != (0 : Int) then
(some ((r1.2 == r3) && (r1.1 == (0 : Int))))
else
((bif r1.2 == (0 : Int) then
((ref_Rank fuel a0).bind fun r13 =>
some (r1.1 == r13))
else
(some false)).bind fun v15 =>
some v15)
theorem law_FuncsRanks_ok {fuel : Nat} {a0 : (List (Int × (Int × (Int × (Int × (Int × (List Int)))))))} {r : Bool} (h : law_FuncsRanks fuel a0 = some r) : FnC Try.prog 10 [aD (.slice (.pair tI (.pair tI (.pair tI (.pair tI (.pair tI (.slice tI))))))) a0] [] (aB r) [] := by
  refine fnC_of_W (B := bodyOf Try.f10) (n := 30) Try.func10 (by kernel_rfl) (by kernel_rfl) (by kernel_rfl) (by kernel_rfl) (by kernel_rfl) ?_
  intro K
  refine W_seq (by kernel_rfl) ?_
  refine W_run 1 [] [0] [] (fr' := [(0, aD (.slice (.pair tI (.pair tI (.pair tI (.pair tI (.pair tI (.slice tI))))))) a0)]) (L' := []) (obs := []) (by kernel_rfl) (by kernel_rfl) (by kernel_rfl) allP0 ?_
  refine seqQ_norm ?_
  refine W_seq (by kernel_rfl) ?_
  refine W_region (by kernel_rfl) ?_
  refine WO_run (j := 1) (k := 1) (orcs := []) (kF := [0, 7]) (kL := []) (fr' := [(0, aD (.slice (.pair tI (.pair tI (.pair tI (.pair tI (.pair tI (.slice tI))))))) a0), (7, aD (.slice (.pair tI (.pair tI (.pair tI (.pair tI (.pair tI (.slice tI))))))) a0)]) (L' := []) (obs := []) rfl (by kernel_rfl) allP0 ?_
  obtain ⟨r1, h2, h⟩ := bind_of h
  refine WO_call0 (us := [none]) (d := 8) (p := True) (j := 2) rfl ⟨by kernel_rfl, by kernel_rfl, by kernel_rfl⟩ trivial (funcs_Rank_ok h2) (by kernel_rfl) ?_
  refine WO_run (j := 7) (k := 5) (orcs := []) (kF := [0, 3, 4]) (kL := []) (fr' := [(0, aD (.slice (.pair tI (.pair tI (.pair tI (.pair tI (.pair tI (.slice tI))))))) a0), (3, aI r1.1), (4, aI r1.2)]) (L' := []) (obs := []) rfl (by kernel_rfl) allP0 ?_
  refine WO_fin [0, 3, 4] [] (fr' := [(0, aD (.slice (.pair tI (.pair tI (.pair tI (.pair tI (.pair tI (.slice tI))))))) a0), (3, aI r1.1), (4, aI r1.2)]) (L' := []) (by kernel_rfl) (by kernel_rfl) ?_
  refine seqQ_norm ?_
  refine W_seq (by kernel_rfl) ?_
  refine W_region (by kernel_rfl) ?_
  refine WO_run (j := 1) (k := 1) (orcs := []) (kF := [0, 3, 4, 11]) (kL := []) (fr' := [(0, aD (.slice (.pair tI (.pair tI (.pair tI (.pair tI (.pair tI (.slice tI))))))) a0), (3, aI r1.1), (4, aI r1.2), (11, aD (.slice (.pair tI (.pair tI (.pair tI (.pair tI (.pair tI (.slice tI))))))) a0)]) (L' := []) (obs := []) rfl (by kernel_rfl) allP0 ?_
  obtain ⟨r3, h4, h⟩ := bind_of h
  refine WO_call0 (us := [none]) (d := 12) (p := True) (j := 2) rfl ⟨by kernel_rfl, by kernel_rfl, by kernel_rfl⟩ trivial (ref_FuncsCheck_ok h4) (by kernel_rfl) ?_
  refine WO_run (j := 3) (k := 1) (orcs := []) (kF := [0, 3, 4, 5]) (kL := []) (fr' := [(0, aD (.slice (.pair tI (.pair tI (.pair tI (.pair tI (.pair tI (.slice tI))))))) a0), (3, aI r1.1), (4, aI r1.2), (5, aI r3)]) (L' := []) (obs := []) rfl (by kernel_rfl) allP0 ?_
  refine WO_fin [0, 3, 4, 5] [] (fr' := [(0, aD (.slice (.pair tI (.pair tI (.pair tI (.pair tI (.pair tI (.slice tI))))))) a0), (3, aI r1.1), (4, aI r1.2), (5, aI r3)]) (L' := []) (by kernel_rfl) (by kernel_rfl) ?_
  refine seqQ_norm ?_
  refine W_seq (by kernel_rfl) ?_
  refine W_seq (by kernel_rfl) ?_
  refine W_run 2 [] [0, 3, 4, 5, 14] [] (fr' := [(0, aD (.slice (.pair tI (.pair tI (.pair tI (.pair tI (.pair tI (.slice tI))))))) a0), (3, aI r1.1), (4, aI r1.2), (5, aI r3), (14, aB (r3 != (0 : Int)))]) (L' := []) (obs := []) (by kernel_rfl) (by kernel_rfl) (by kernel_rfl) allP0 ?_
  refine seqQ_norm ?_
  refine W_cond (o := .tmp 14) (b := r3 != (0 : Int)) (by kernel_rfl) (by kernel_rfl) (fun h5 => ?_) (fun h5 => ?_)
  · replace h := ofT h5 h
    refine W_seq (by kernel_rfl) ?_
    refine W_run 8 [] [2] [] (fr' := [(2, aB ((r1.2 == r3) && (r1.1 == (0 : Int))))]) (L' := []) (obs := []) (by kernel_rfl) (by kernel_rfl) (by kernel_rfl) allP0 ?_
    refine seqQ_norm ?_
    obtain rfl := Option.some.inj h
    refine W_ret [2] [] (fr' := [(2, aB ((r1.2 == r3) && (r1.1 == (0 : Int))))]) (L' := []) (by kernel_rfl) (by kernel_rfl) ?_
    refine seqQ_ret ?_
    exact retQ_mk (by kernel_rfl) (by kernel_rfl) (by kernel_rfl)
  · replace h := ofF h5 h
    refine W_skip [0, 3, 4] [] (fr' := [(0, aD (.slice (.pair tI (.pair tI (.pair tI (.pair tI (.pair tI (.slice tI))))))) a0), (3, aI r1.1), (4, aI r1.2)]) (L' := []) (by kernel_rfl) (by kernel_rfl) ?_
    refine seqQ_norm ?_
    refine W_seq (by kernel_rfl) ?_
    obtain ⟨v15, h16, h⟩ := bind_of h
    refine W_cutK (Q' := (exQ .normal law_FuncsRanks_s1) v15) ?_ ?_
    · replace h := h16
      refine W_region (by kernel_rfl) ?_
      refine WO_run (j := 3) (k := 3) (orcs := []) (kF := [0, 3, 24]) (kL := []) (fr' := [(0, aD (.slice (.pair tI (.pair tI (.pair tI (.pair tI (.pair tI (.slice tI))))))) a0), (3, aI r1.1), (24, aB (r1.2 == (0 : Int)))]) (L' := []) (obs := []) rfl (by kernel_rfl) allP0 ?_
      rcases Bool.eq_false_or_eq_true (r1.2 == (0 : Int)) with h12 | h12
      · replace h := ofT h12 h
        refine WO_run (j := 5) (k := 2) (orcs := [(6, .known true), (8, .known true)]) (kF := [24, 25, 26]) (kL := []) (fr' := [(24, aB (r1.2 == (0 : Int))), (25, aI r1.1), (26, aD (.slice (.pair tI (.pair tI (.pair tI (.pair tI (.pair tI (.slice tI))))))) a0)]) (L' := []) (obs := [((r1.2 == (0 : Int)) = true), ((r1.2 == (0 : Int)) = true)]) rfl (by kernel_rfl) (allP2 h12 (allP1 h12)) ?_
        obtain ⟨r13, h14, h⟩ := bind_of h
        refine WO_call0 (us := [none]) (d := 27) (p := ((r1.2 == (0 : Int)) = true)) (j := 6) rfl ⟨by kernel_rfl, by kernel_rfl, by kernel_rfl⟩ h12 (ref_Rank_ok h14) (by kernel_rfl) ?_
        refine WO_run (j := 9) (k := 3) (orcs := [(12, .known true), (15, .val (.dat .bool true))]) (kF := [2]) (kL := []) (fr' := [(2, aB (r1.1 == r13))]) (L' := []) (obs := [((r1.2 == (0 : Int)) = true), ((r1.2 == (0 : Int)) = true)]) rfl (by kernel_rfl) (allP2 h12 (allP1 h12)) ?_
        obtain rfl := Option.some.inj h
        refine WO_fin [2] [] (fr' := [(2, aB (r1.1 == r13))]) (L' := []) (by kernel_rfl) (by kernel_rfl) ?_
        exact exQ_mk (by kernel_rfl) (by kernel_rfl)
      · replace h := ofF h12 h
        refine WO_run (j := 9) (k := 6) (orcs := [(6, .known false), (8, .known false), (10, .known false), (12, .known false), (15, .val (.dat .bool false))]) (kF := [2]) (kL := []) (fr' := [(2, aB false)]) (L' := []) (obs := [((r1.2 == (0 : Int)) = false), ((r1.2 == (0 : Int)) = false), ((r1.2 == (0 : Int)) = false), ((r1.2 == (0 : Int)) = false), ((r1.2 == (0 : Int)) = false)]) rfl (by kernel_rfl) (allP2 h12 (allP2 h12 (allP2 h12 (allP2 h12 (allP1 h12))))) ?_
        obtain rfl := Option.some.inj h
        refine WO_fin [2] [] (fr' := [(2, aB false)]) (L' := []) (by kernel_rfl) (by kernel_rfl) ?_
        exact exQ_mk (by kernel_rfl) (by kernel_rfl)
    · intro e fr L hJ
      obtain ⟨rfl, rfl, rfl⟩ := hJ
      refine LT_keep [2] [] (fr' := [(2, aB v15)]) (L' := []) (by kernel_rfl) ?_
      refine seqQ_norm ?_
      obtain rfl := Option.some.inj h
      refine W_ret [2] [] (fr' := [(2, aB v15)]) (L' := []) (by kernel_rfl) (by kernel_rfl) ?_
      exact retQ_mk (by kernel_rfl) (by kernel_rfl) (by kernel_rfl)
end Go.Proofs.Ytbjfglckfknheaa.funcsRanks
