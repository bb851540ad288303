/- What the functions that CombNorms calls compute, as models, and that they compute it: written by a program of mine. -/
import Derived.Test.YtkkmiclmbhbmjaaProg
import Derived.Test.YtkkmiclmbhbmjaaCombNormsM1
set_option linter.all false
set_option maxRecDepth 100000
namespace Go.Proofs.Ytkkmiclmbhbmjaa.combNorms
open Go Go.Sl
@[reducible] def law_CombNorms_s3 (a0 : (List (Int × (Int × (Int × Int))))) (a1 : Int) (r1 : ((List (Int × (Int × (Int × Int)))) × Int × Int)) (r3 : Int) (v : Bool) : Fr × LL := ([(0, aD (.slice (.pair tI (.pair tI (.pair tI tI)))) a0), (1, aI a1), (5, aD (.slice (.pair tI (.pair tI (.pair tI tI)))) r1.1), (6, aI r1.2.1), (7, aI r1.2.2), (8, aI r3), (28, aB v)], [])
def law_CombNorms_g4 (a1 : Int) (r3 : Int) : Option Int :=
(bif r3 == (0 : Int) then
((ref_Within (0 : Int) a1 (60 : Int)).bind fun r36 =>
some (!r36))
else
(some false)).bind fun v38 =>
bif v38 then
(some (4 : Int))
else
(some r3)
def law_CombNorms_b5 (a1 : Int) (fuel : Nat) (r1 : ((List (Int × (Int × (Int × Int)))) × Int × Int)) (x54 : (CT × Int)) : Option (Flow (CT × Int) (Esc Bool (CT × Int))) :=
bif decide (x54.2 < a1) then
((ref_Stepped fuel x54.1).bind fun r63 =>
bif !r63.2 then
(some (.done (.brk (x54.1, x54.2))))
else
((ref_Nodes fuel r63.1).bind fun r66 =>
bif decide (r66 > (300 : Int)) then
(some (.done (.ret (((r1.2.2 == (7 : Int)) && ((List.length r1.1 : Int) == (0 : Int))) && (r1.2.1 == (0 : Int))))))
else
(some (.next (r63.1, w64 (x54.2 + (1 : Int)))))))
else
(some (.done (.brk (x54.1, x54.2))))
@[reducible] def law_CombNorms_s6 (a1 : Int) (r1 : ((List (Int × (Int × (Int × Int)))) × Int × Int)) (v : (CT × Int)) : Fr × LL := ([(1, aI a1), (5, aD (.slice (.pair tI (.pair tI (.pair tI tI)))) r1.1), (6, aI r1.2.1), (7, aI r1.2.2), (9, aD .tree v.1), (10, aI v.2)], [])
@[reducible] def law_CombNorms_s7 (v : Bool) : Fr × LL := ([(4, aB v)], [])
@[reducible] def law_CombNorms_s8 (r1 : ((List (Int × (Int × (Int × Int)))) × Int × Int)) (v : (CT × Int)) : Fr × LL := ([(5, aD (.slice (.pair tI (.pair tI (.pair tI tI)))) r1.1), (6, aI r1.2.1), (7, aI r1.2.2), (9, aD .tree v.1), (10, aI v.2)], [])
@[reducible] def law_CombNorms_s9 (v : Bool) : Fr × LL := ([(4, aB v)], [])
@[reducible] def law_CombNorms_s10 (a0 : (List (Int × (Int × (Int × Int))))) (a1 : Int) (r1 : ((List (Int × (Int × (Int × Int)))) × Int × Int)) (v : Int) : Fr × LL := ([(0, aD (.slice (.pair tI (.pair tI (.pair tI tI)))) a0), (1, aI a1), (5, aD (.slice (.pair tI (.pair tI (.pair tI tI)))) r1.1), (6, aI r1.2.1), (7, aI r1.2.2), (8, aI v)], [])
def law_CombNorms (fuel : Nat) (a0 : (List (Int × (Int × (Int × Int))))) (a1 : Int) : Option Bool :=
(comb_Norm fuel a0 a1).bind fun r1 =>
(ref_CombCheck a0).bind fun r3 =>
(law_CombNorms_g4 a1 r3).bind fun v41 =>
bif v41 != (0 : Int) then
(some (((r1.2.2 == v41) && ((List.length r1.1 : Int) == (0 : Int))) && (r1.2.1 == (0 : Int))))
else
((ref_Read fuel a0 (w64 ((List.length a0 : Int) - (1 : Int)))).bind fun r44 =>
(iter (law_CombNorms_b5 a1 fuel r1) fuel (r44, (0 : Int))).bind fun v69 =>
match v69 with
| .ret v73 =>
(some v73)
| .brk v74 =>
((bif (r1.2.2 == (0 : Int)) && (r1.2.1 == v74.2) then
((ref_Write fuel v74.1 []).bind fun r86 =>
(ref_Combs r1.1 r86).bind fun r88 =>
some r88)
else
(some false)).bind fun v90 =>
some v90))
theorem law_CombNorms_ok {fuel : Nat} {a0 : (List (Int × (Int × (Int × Int))))} {a1 : Int} {r : Bool} (h : law_CombNorms fuel a0 a1 = some r) : FnC Try.prog 9 [aD (.slice (.pair tI (.pair tI (.pair tI tI)))) a0, aI a1] [] (aB r) [] := by
  refine fnC_of_W (B := bodyOf Try.f9) (n := 88) Try.func9 (by kernel_rfl) (by kernel_rfl) (by kernel_rfl) (by kernel_rfl) (by kernel_rfl) ?_
  intro K
  refine W_seq (by kernel_rfl) ?_
  refine W_run 1 [] [0, 1] [] (fr' := [(0, aD (.slice (.pair tI (.pair tI (.pair tI tI)))) a0), (1, aI a1)]) (L' := []) (obs := []) (by kernel_rfl) (by kernel_rfl) (by kernel_rfl) allP0 ?_
  refine seqQ_norm ?_
  refine W_seq (by kernel_rfl) ?_
  refine W_region (by kernel_rfl) ?_
  refine WO_run (j := 2) (k := 2) (orcs := []) (kF := [0, 1, 14, 15]) (kL := []) (fr' := [(0, aD (.slice (.pair tI (.pair tI (.pair tI tI)))) a0), (1, aI a1), (14, aD (.slice (.pair tI (.pair tI (.pair tI tI)))) a0), (15, aI a1)]) (L' := []) (obs := []) rfl (by kernel_rfl) allP0 ?_
  obtain ⟨r1, h2, h⟩ := bind_of h
  refine WO_call0 (us := [none, none]) (d := 16) (p := True) (j := 3) rfl ⟨by kernel_rfl, by kernel_rfl, by kernel_rfl⟩ trivial (comb_Norm_ok h2) (by kernel_rfl) ?_
  refine WO_run (j := 10) (k := 7) (orcs := []) (kF := [0, 1, 5, 6, 7]) (kL := []) (fr' := [(0, aD (.slice (.pair tI (.pair tI (.pair tI tI)))) a0), (1, aI a1), (5, aD (.slice (.pair tI (.pair tI (.pair tI tI)))) r1.1), (6, aI r1.2.1), (7, aI r1.2.2)]) (L' := []) (obs := []) rfl (by kernel_rfl) allP0 ?_
  refine WO_fin [0, 1, 5, 6, 7] [] (fr' := [(0, aD (.slice (.pair tI (.pair tI (.pair tI tI)))) a0), (1, aI a1), (5, aD (.slice (.pair tI (.pair tI (.pair tI tI)))) r1.1), (6, aI r1.2.1), (7, aI r1.2.2)]) (L' := []) (by kernel_rfl) (by kernel_rfl) ?_
  refine seqQ_norm ?_
  refine W_seq (by kernel_rfl) ?_
  refine W_region (by kernel_rfl) ?_
  refine WO_run (j := 1) (k := 1) (orcs := []) (kF := [0, 1, 5, 6, 7, 20]) (kL := []) (fr' := [(0, aD (.slice (.pair tI (.pair tI (.pair tI tI)))) a0), (1, aI a1), (5, aD (.slice (.pair tI (.pair tI (.pair tI tI)))) r1.1), (6, aI r1.2.1), (7, aI r1.2.2), (20, aD (.slice (.pair tI (.pair tI (.pair tI tI)))) a0)]) (L' := []) (obs := []) rfl (by kernel_rfl) allP0 ?_
  obtain ⟨r3, h4, h⟩ := bind_of h
  refine WO_call0 (us := [none]) (d := 21) (p := True) (j := 2) rfl ⟨by kernel_rfl, by kernel_rfl, by kernel_rfl⟩ trivial (ref_CombCheck_ok h4) (by kernel_rfl) ?_
  refine WO_run (j := 3) (k := 1) (orcs := []) (kF := [0, 1, 5, 6, 7, 8]) (kL := []) (fr' := [(0, aD (.slice (.pair tI (.pair tI (.pair tI tI)))) a0), (1, aI a1), (5, aD (.slice (.pair tI (.pair tI (.pair tI tI)))) r1.1), (6, aI r1.2.1), (7, aI r1.2.2), (8, aI r3)]) (L' := []) (obs := []) rfl (by kernel_rfl) allP0 ?_
  refine WO_fin [0, 1, 5, 6, 7, 8] [] (fr' := [(0, aD (.slice (.pair tI (.pair tI (.pair tI tI)))) a0), (1, aI a1), (5, aD (.slice (.pair tI (.pair tI (.pair tI tI)))) r1.1), (6, aI r1.2.1), (7, aI r1.2.2), (8, aI r3)]) (L' := []) (by kernel_rfl) (by kernel_rfl) ?_
  refine seqQ_norm ?_
  refine W_seq (by kernel_rfl) ?_
  obtain ⟨v41, h42, h⟩ := bind_of h
  refine W_cutK (Q' := (exQ .normal (law_CombNorms_s10 a0 a1 r1)) v41) ?_ ?_
  · replace h := h42
    refine W_seq (by kernel_rfl) ?_
    obtain ⟨v38, h39, h⟩ := bind_of h
    refine W_cutK (Q' := (exQ .normal (law_CombNorms_s3 a0 a1 r1 r3)) v38) ?_ ?_
    · replace h := h39
      refine W_region (by kernel_rfl) ?_
      refine WO_run (j := 3) (k := 3) (orcs := []) (kF := [0, 1, 5, 6, 7, 8, 24]) (kL := []) (fr' := [(0, aD (.slice (.pair tI (.pair tI (.pair tI tI)))) a0), (1, aI a1), (5, aD (.slice (.pair tI (.pair tI (.pair tI tI)))) r1.1), (6, aI r1.2.1), (7, aI r1.2.2), (8, aI r3), (24, aB (r3 == (0 : Int)))]) (L' := []) (obs := []) rfl (by kernel_rfl) allP0 ?_
      rcases Bool.eq_false_or_eq_true (r3 == (0 : Int)) with h35 | h35
      · replace h := ofT h35 h
        refine WO_run (j := 4) (k := 1) (orcs := [(6, .known true)]) (kF := [0, 1, 5, 6, 7, 8, 24, 25]) (kL := []) (fr' := [(0, aD (.slice (.pair tI (.pair tI (.pair tI tI)))) a0), (1, aI a1), (5, aD (.slice (.pair tI (.pair tI (.pair tI tI)))) r1.1), (6, aI r1.2.1), (7, aI r1.2.2), (8, aI r3), (24, aB (r3 == (0 : Int))), (25, aI a1)]) (L' := []) (obs := [((r3 == (0 : Int)) = true)]) rfl (by kernel_rfl) (allP1 h35) ?_
        obtain ⟨r36, h37, h⟩ := bind_of h
        refine WO_call0 (us := [none, none, none]) (d := 26) (p := ((r3 == (0 : Int)) = true)) (j := 5) rfl ⟨by kernel_rfl, by kernel_rfl, by kernel_rfl⟩ h35 (ref_Within_ok h37) (by kernel_rfl) ?_
        refine WO_run (j := 7) (k := 2) (orcs := [(10, .known true), (13, .val (.dat .bool true))]) (kF := [0, 1, 5, 6, 7, 8, 28]) (kL := []) (fr' := [(0, aD (.slice (.pair tI (.pair tI (.pair tI tI)))) a0), (1, aI a1), (5, aD (.slice (.pair tI (.pair tI (.pair tI tI)))) r1.1), (6, aI r1.2.1), (7, aI r1.2.2), (8, aI r3), (28, aB (!r36))]) (L' := []) (obs := [((r3 == (0 : Int)) = true), ((r3 == (0 : Int)) = true)]) rfl (by kernel_rfl) (allP2 h35 (allP1 h35)) ?_
        obtain rfl := Option.some.inj h
        refine WO_fin [0, 1, 5, 6, 7, 8, 28] [] (fr' := [(0, aD (.slice (.pair tI (.pair tI (.pair tI tI)))) a0), (1, aI a1), (5, aD (.slice (.pair tI (.pair tI (.pair tI tI)))) r1.1), (6, aI r1.2.1), (7, aI r1.2.2), (8, aI r3), (28, aB (!r36))]) (L' := []) (by kernel_rfl) (by kernel_rfl) ?_
        exact exQ_mk (by kernel_rfl) (by kernel_rfl)
      · replace h := ofF h35 h
        refine WO_run (j := 7) (k := 4) (orcs := [(6, .known false), (8, .known false), (10, .known false), (13, .val (.dat .bool false))]) (kF := [0, 1, 5, 6, 7, 8, 28]) (kL := []) (fr' := [(0, aD (.slice (.pair tI (.pair tI (.pair tI tI)))) a0), (1, aI a1), (5, aD (.slice (.pair tI (.pair tI (.pair tI tI)))) r1.1), (6, aI r1.2.1), (7, aI r1.2.2), (8, aI r3), (28, aB false)]) (L' := []) (obs := [((r3 == (0 : Int)) = false), ((r3 == (0 : Int)) = false), ((r3 == (0 : Int)) = false), ((r3 == (0 : Int)) = false)]) rfl (by kernel_rfl) (allP2 h35 (allP2 h35 (allP2 h35 (allP1 h35)))) ?_
        obtain rfl := Option.some.inj h
        refine WO_fin [0, 1, 5, 6, 7, 8, 28] [] (fr' := [(0, aD (.slice (.pair tI (.pair tI (.pair tI tI)))) a0), (1, aI a1), (5, aD (.slice (.pair tI (.pair tI (.pair tI tI)))) r1.1), (6, aI r1.2.1), (7, aI r1.2.2), (8, aI r3), (28, aB false)]) (L' := []) (by kernel_rfl) (by kernel_rfl) ?_
        exact exQ_mk (by kernel_rfl) (by kernel_rfl)
    · intro e fr L hJ
      obtain ⟨rfl, rfl, rfl⟩ := hJ
      refine LT_keep [0, 1, 5, 6, 7, 8, 28] [] (fr' := [(0, aD (.slice (.pair tI (.pair tI (.pair tI tI)))) a0), (1, aI a1), (5, aD (.slice (.pair tI (.pair tI (.pair tI tI)))) r1.1), (6, aI r1.2.1), (7, aI r1.2.2), (8, aI r3), (28, aB v38)]) (L' := []) (by kernel_rfl) ?_
      refine seqQ_norm ?_
      refine W_cond (o := .tmp 28) (b := v38) (by kernel_rfl) (by kernel_rfl) (fun h40 => ?_) (fun h40 => ?_)
      · replace h := ofT h40 h
        obtain rfl := Option.some.inj h
        refine W_run 1 [] [0, 1, 5, 6, 7, 8] [] (fr' := [(0, aD (.slice (.pair tI (.pair tI (.pair tI tI)))) a0), (1, aI a1), (5, aD (.slice (.pair tI (.pair tI (.pair tI tI)))) r1.1), (6, aI r1.2.1), (7, aI r1.2.2), (8, aI (4 : Int))]) (L' := []) (obs := []) (by kernel_rfl) (by kernel_rfl) (by kernel_rfl) allP0 ?_
        exact exQ_mk (by kernel_rfl) (by kernel_rfl)
      · replace h := ofF h40 h
        obtain rfl := Option.some.inj h
        refine W_skip [0, 1, 5, 6, 7, 8] [] (fr' := [(0, aD (.slice (.pair tI (.pair tI (.pair tI tI)))) a0), (1, aI a1), (5, aD (.slice (.pair tI (.pair tI (.pair tI tI)))) r1.1), (6, aI r1.2.1), (7, aI r1.2.2), (8, aI r3)]) (L' := []) (by kernel_rfl) (by kernel_rfl) ?_
        exact exQ_mk (by kernel_rfl) (by kernel_rfl)
  · intro e fr L hJ
    obtain ⟨rfl, rfl, rfl⟩ := hJ
    refine LT_keep [0, 1, 5, 6, 7, 8] [] (fr' := [(0, aD (.slice (.pair tI (.pair tI (.pair tI tI)))) a0), (1, aI a1), (5, aD (.slice (.pair tI (.pair tI (.pair tI tI)))) r1.1), (6, aI r1.2.1), (7, aI r1.2.2), (8, aI v41)]) (L' := []) (by kernel_rfl) ?_
    refine seqQ_norm ?_
    refine W_seq (by kernel_rfl) ?_
    refine W_seq (by kernel_rfl) ?_
    refine W_run 2 [] [0, 1, 5, 6, 7, 8, 30] [] (fr' := [(0, aD (.slice (.pair tI (.pair tI (.pair tI tI)))) a0), (1, aI a1), (5, aD (.slice (.pair tI (.pair tI (.pair tI tI)))) r1.1), (6, aI r1.2.1), (7, aI r1.2.2), (8, aI v41), (30, aB (v41 != (0 : Int)))]) (L' := []) (obs := []) (by kernel_rfl) (by kernel_rfl) (by kernel_rfl) allP0 ?_
    refine seqQ_norm ?_
    refine W_cond (o := .tmp 30) (b := v41 != (0 : Int)) (by kernel_rfl) (by kernel_rfl) (fun h43 => ?_) (fun h43 => ?_)
    · replace h := ofT h43 h
      refine W_seq (by kernel_rfl) ?_
      refine W_run 13 [] [4] [] (fr' := [(4, aB (((r1.2.2 == v41) && ((List.length r1.1 : Int) == (0 : Int))) && (r1.2.1 == (0 : Int))))]) (L' := []) (obs := []) (by kernel_rfl) (by kernel_rfl) (by kernel_rfl) allP0 ?_
      refine seqQ_norm ?_
      obtain rfl := Option.some.inj h
      refine W_ret [4] [] (fr' := [(4, aB (((r1.2.2 == v41) && ((List.length r1.1 : Int) == (0 : Int))) && (r1.2.1 == (0 : Int))))]) (L' := []) (by kernel_rfl) (by kernel_rfl) ?_
      refine seqQ_ret ?_
      exact retQ_mk (by kernel_rfl) (by kernel_rfl) (by kernel_rfl)
    · replace h := ofF h43 h
      refine W_skip [0, 1, 5, 6, 7] [] (fr' := [(0, aD (.slice (.pair tI (.pair tI (.pair tI tI)))) a0), (1, aI a1), (5, aD (.slice (.pair tI (.pair tI (.pair tI tI)))) r1.1), (6, aI r1.2.1), (7, aI r1.2.2)]) (L' := []) (by kernel_rfl) (by kernel_rfl) ?_
      refine seqQ_norm ?_
      refine W_seq (by kernel_rfl) ?_
      refine W_region (by kernel_rfl) ?_
      refine WO_run (j := 4) (k := 4) (orcs := []) (kF := [1, 5, 6, 7, 43, 46]) (kL := []) (fr' := [(1, aI a1), (5, aD (.slice (.pair tI (.pair tI (.pair tI tI)))) r1.1), (6, aI r1.2.1), (7, aI r1.2.2), (43, aD (.slice (.pair tI (.pair tI (.pair tI tI)))) a0), (46, aI (w64 ((List.length a0 : Int) - (1 : Int))))]) (L' := []) (obs := []) rfl (by kernel_rfl) allP0 ?_
      obtain ⟨r44, h45, h⟩ := bind_of h
      refine WO_call0 (us := [none, none]) (d := 47) (p := True) (j := 5) rfl ⟨by kernel_rfl, by kernel_rfl, by kernel_rfl⟩ trivial (ref_Read_ok h45) (by kernel_rfl) ?_
      refine WO_run (j := 6) (k := 1) (orcs := []) (kF := [1, 5, 6, 7, 9]) (kL := []) (fr' := [(1, aI a1), (5, aD (.slice (.pair tI (.pair tI (.pair tI tI)))) r1.1), (6, aI r1.2.1), (7, aI r1.2.2), (9, aD .tree r44)]) (L' := []) (obs := []) rfl (by kernel_rfl) allP0 ?_
      refine WO_fin [1, 5, 6, 7, 9] [] (fr' := [(1, aI a1), (5, aD (.slice (.pair tI (.pair tI (.pair tI tI)))) r1.1), (6, aI r1.2.1), (7, aI r1.2.2), (9, aD .tree r44)]) (L' := []) (by kernel_rfl) (by kernel_rfl) ?_
      refine seqQ_norm ?_
      refine W_seq (by kernel_rfl) ?_
      refine W_run 1 [] [1, 5, 6, 7, 9, 10] [] (fr' := [(1, aI a1), (5, aD (.slice (.pair tI (.pair tI (.pair tI tI)))) r1.1), (6, aI r1.2.1), (7, aI r1.2.2), (9, aD .tree r44), (10, aI (0 : Int))]) (L' := []) (obs := []) (by kernel_rfl) (by kernel_rfl) (by kernel_rfl) allP0 ?_
      refine seqQ_norm ?_
      refine W_seq (by kernel_rfl) ?_
      refine W_block (id := 0) (by kernel_rfl) ?_
      obtain ⟨v69, h70, h⟩ := bind_of h
      refine W_weaken [1, 5, 6, 7, 9, 10] [] (fr' := ((law_CombNorms_s6 a1 r1) (r44, (0 : Int))).1) (L' := ((law_CombNorms_s6 a1 r1) (r44, (0 : Int))).2) (by kernel_rfl) ?_
      refine W_cutK (W_loop (S := (law_CombNorms_s6 a1 r1)) (J := (escQ (exQ .ret law_CombNorms_s7) (exQ (.exit 0) (law_CombNorms_s8 r1)))) (by kernel_rfl) ?_ fuel _ v69 h70) ?_
      · rintro x54 s h
        refine W_seq (by kernel_rfl) ?_
        refine W_seq (by kernel_rfl) ?_
        refine W_run 3 [] [1, 5, 6, 7, 9, 10, 50] [] (fr' := [(1, aI a1), (5, aD (.slice (.pair tI (.pair tI (.pair tI tI)))) r1.1), (6, aI r1.2.1), (7, aI r1.2.2), (9, aD .tree x54.1), (10, aI x54.2), (50, aB (decide (x54.2 < a1)))]) (L' := []) (obs := []) (by kernel_rfl) (by kernel_rfl) (by kernel_rfl) allP0 ?_
        refine seqQ_norm ?_
        refine W_cond (o := .tmp 50) (b := decide (x54.2 < a1)) (by kernel_rfl) (by kernel_rfl) (fun h62 => ?_) (fun h62 => ?_)
        · replace h := ofT h62 h
          refine W_skip [1, 5, 6, 7, 9, 10] [] (fr' := [(1, aI a1), (5, aD (.slice (.pair tI (.pair tI (.pair tI tI)))) r1.1), (6, aI r1.2.1), (7, aI r1.2.2), (9, aD .tree x54.1), (10, aI x54.2)]) (L' := []) (by kernel_rfl) (by kernel_rfl) ?_
          refine seqQ_norm ?_
          refine W_block (id := 1) (by kernel_rfl) ?_
          refine W_seq (by kernel_rfl) ?_
          refine W_region (by kernel_rfl) ?_
          refine WO_run (j := 1) (k := 1) (orcs := []) (kF := [1, 5, 6, 7, 9, 10, 52]) (kL := []) (fr' := [(1, aI a1), (5, aD (.slice (.pair tI (.pair tI (.pair tI tI)))) r1.1), (6, aI r1.2.1), (7, aI r1.2.2), (9, aD .tree x54.1), (10, aI x54.2), (52, aD .tree x54.1)]) (L' := []) (obs := []) rfl (by kernel_rfl) allP0 ?_
          obtain ⟨r63, h64, h⟩ := bind_of h
          refine WO_call0 (us := [none]) (d := 53) (p := True) (j := 2) rfl ⟨by kernel_rfl, by kernel_rfl, by kernel_rfl⟩ trivial (ref_Stepped_ok h64) (by kernel_rfl) ?_
          refine WO_run (j := 7) (k := 5) (orcs := []) (kF := [1, 5, 6, 7, 9, 10, 11, 12]) (kL := []) (fr' := [(1, aI a1), (5, aD (.slice (.pair tI (.pair tI (.pair tI tI)))) r1.1), (6, aI r1.2.1), (7, aI r1.2.2), (9, aD .tree x54.1), (10, aI x54.2), (11, aD .tree r63.1), (12, aB r63.2)]) (L' := []) (obs := []) rfl (by kernel_rfl) allP0 ?_
          refine WO_fin [1, 5, 6, 7, 9, 10, 11, 12] [] (fr' := [(1, aI a1), (5, aD (.slice (.pair tI (.pair tI (.pair tI tI)))) r1.1), (6, aI r1.2.1), (7, aI r1.2.2), (9, aD .tree x54.1), (10, aI x54.2), (11, aD .tree r63.1), (12, aB r63.2)]) (L' := []) (by kernel_rfl) (by kernel_rfl) ?_
          refine seqQ_norm ?_
          refine W_seq (by kernel_rfl) ?_
          refine W_seq (by kernel_rfl) ?_
          refine W_run 2 [] [1, 5, 6, 7, 9, 10, 11, 57] [] (fr' := [(1, aI a1), (5, aD (.slice (.pair tI (.pair tI (.pair tI tI)))) r1.1), (6, aI r1.2.1), (7, aI r1.2.2), (9, aD .tree x54.1), (10, aI x54.2), (11, aD .tree r63.1), (57, aB (!r63.2))]) (L' := []) (obs := []) (by kernel_rfl) (by kernel_rfl) (by kernel_rfl) allP0 ?_
          refine seqQ_norm ?_
          refine W_cond (o := .tmp 57) (b := !r63.2) (by kernel_rfl) (by kernel_rfl) (fun h65 => ?_) (fun h65 => ?_)
          · replace h := ofT h65 h
            obtain rfl := Option.some.inj h
            refine W_exit (id := 0) [5, 6, 7, 9, 10] [] (fr' := [(5, aD (.slice (.pair tI (.pair tI (.pair tI tI)))) r1.1), (6, aI r1.2.1), (7, aI r1.2.2), (9, aD .tree x54.1), (10, aI x54.2)]) (L' := []) (by kernel_rfl) (by kernel_rfl) ?_
            refine seqQ_exit ?_
            refine blockQ_miss rfl ?_
            refine round_exit ?_
            refine escQ_brk ?_
            exact exQ_mk (by kernel_rfl) (by kernel_rfl)
          · replace h := ofF h65 h
            refine W_skip [1, 5, 6, 7, 10, 11] [] (fr' := [(1, aI a1), (5, aD (.slice (.pair tI (.pair tI (.pair tI tI)))) r1.1), (6, aI r1.2.1), (7, aI r1.2.2), (10, aI x54.2), (11, aD .tree r63.1)]) (L' := []) (by kernel_rfl) (by kernel_rfl) ?_
            refine seqQ_norm ?_
            refine W_seq (by kernel_rfl) ?_
            refine W_seq (by kernel_rfl) ?_
            refine W_region (by kernel_rfl) ?_
            refine WO_run (j := 1) (k := 1) (orcs := []) (kF := [1, 5, 6, 7, 10, 11, 58]) (kL := []) (fr' := [(1, aI a1), (5, aD (.slice (.pair tI (.pair tI (.pair tI tI)))) r1.1), (6, aI r1.2.1), (7, aI r1.2.2), (10, aI x54.2), (11, aD .tree r63.1), (58, aD .tree r63.1)]) (L' := []) (obs := []) rfl (by kernel_rfl) allP0 ?_
            obtain ⟨r66, h67, h⟩ := bind_of h
            refine WO_call0 (us := [none]) (d := 59) (p := True) (j := 2) rfl ⟨by kernel_rfl, by kernel_rfl, by kernel_rfl⟩ trivial (ref_Nodes_ok h67) (by kernel_rfl) ?_
            refine WO_run (j := 3) (k := 1) (orcs := []) (kF := [1, 5, 6, 7, 10, 11, 60]) (kL := []) (fr' := [(1, aI a1), (5, aD (.slice (.pair tI (.pair tI (.pair tI tI)))) r1.1), (6, aI r1.2.1), (7, aI r1.2.2), (10, aI x54.2), (11, aD .tree r63.1), (60, aB (decide (r66 > (300 : Int))))]) (L' := []) (obs := []) rfl (by kernel_rfl) allP0 ?_
            refine WO_fin [1, 5, 6, 7, 10, 11, 60] [] (fr' := [(1, aI a1), (5, aD (.slice (.pair tI (.pair tI (.pair tI tI)))) r1.1), (6, aI r1.2.1), (7, aI r1.2.2), (10, aI x54.2), (11, aD .tree r63.1), (60, aB (decide (r66 > (300 : Int))))]) (L' := []) (by kernel_rfl) (by kernel_rfl) ?_
            refine seqQ_norm ?_
            refine W_cond (o := .tmp 60) (b := decide (r66 > (300 : Int))) (by kernel_rfl) (by kernel_rfl) (fun h68 => ?_) (fun h68 => ?_)
            · replace h := ofT h68 h
              refine W_seq (by kernel_rfl) ?_
              refine W_run 12 [] [4] [] (fr' := [(4, aB (((r1.2.2 == (7 : Int)) && ((List.length r1.1 : Int) == (0 : Int))) && (r1.2.1 == (0 : Int))))]) (L' := []) (obs := []) (by kernel_rfl) (by kernel_rfl) (by kernel_rfl) allP0 ?_
              refine seqQ_norm ?_
              obtain rfl := Option.some.inj h
              refine W_ret [4] [] (fr' := [(4, aB (((r1.2.2 == (7 : Int)) && ((List.length r1.1 : Int) == (0 : Int))) && (r1.2.1 == (0 : Int))))]) (L' := []) (by kernel_rfl) (by kernel_rfl) ?_
              refine seqQ_ret ?_
              refine blockQ_ret ?_
              refine round_ret ?_
              refine escQ_ret ?_
              exact exQ_mk (by kernel_rfl) (by kernel_rfl)
            · replace h := ofF h68 h
              refine W_skip [1, 5, 6, 7, 10, 11] [] (fr' := [(1, aI a1), (5, aD (.slice (.pair tI (.pair tI (.pair tI tI)))) r1.1), (6, aI r1.2.1), (7, aI r1.2.2), (10, aI x54.2), (11, aD .tree r63.1)]) (L' := []) (by kernel_rfl) (by kernel_rfl) ?_
              refine seqQ_norm ?_
              refine W_seq (by kernel_rfl) ?_
              refine W_run 2 [] [1, 5, 6, 7, 9, 10] [] (fr' := [(1, aI a1), (5, aD (.slice (.pair tI (.pair tI (.pair tI tI)))) r1.1), (6, aI r1.2.1), (7, aI r1.2.2), (9, aD .tree r63.1), (10, aI x54.2)]) (L' := []) (obs := []) (by kernel_rfl) (by kernel_rfl) (by kernel_rfl) allP0 ?_
              refine seqQ_norm ?_
              obtain rfl := Option.some.inj h
              refine W_run 3 [] [1, 5, 6, 7, 9, 10] [] (fr' := [(1, aI a1), (5, aD (.slice (.pair tI (.pair tI (.pair tI tI)))) r1.1), (6, aI r1.2.1), (7, aI r1.2.2), (9, aD .tree r63.1), (10, aI (w64 (x54.2 + (1 : Int))))]) (L' := []) (obs := []) (by kernel_rfl) (by kernel_rfl) (by kernel_rfl) allP0 ?_
              refine blockQ_norm ?_
              exact round_next' (by kernel_rfl) (by kernel_rfl)
        · replace h := ofF h62 h
          obtain rfl := Option.some.inj h
          refine W_exit (id := 0) [5, 6, 7, 9, 10] [] (fr' := [(5, aD (.slice (.pair tI (.pair tI (.pair tI tI)))) r1.1), (6, aI r1.2.1), (7, aI r1.2.2), (9, aD .tree x54.1), (10, aI x54.2)]) (L' := []) (by kernel_rfl) (by kernel_rfl) ?_
          refine seqQ_exit ?_
          refine round_exit ?_
          refine escQ_brk ?_
          exact exQ_mk (by kernel_rfl) (by kernel_rfl)
      · intro e fr L hJ
        rcases v69 with v73 | v74
        · obtain ⟨rfl, rfl, rfl⟩ := hJ
          obtain rfl := Option.some.inj h
          refine LT_keep [4] [] (fr' := [(4, aB v73)]) (L' := []) (by kernel_rfl) ?_
          refine blockQ_ret ?_
          refine seqQ_ret ?_
          exact retQ_mk (by kernel_rfl) (by kernel_rfl) (by kernel_rfl)
        · obtain ⟨rfl, rfl, rfl⟩ := hJ
          refine LT_keep [5, 6, 7, 9, 10] [] (fr' := [(5, aD (.slice (.pair tI (.pair tI (.pair tI tI)))) r1.1), (6, aI r1.2.1), (7, aI r1.2.2), (9, aD .tree v74.1), (10, aI v74.2)]) (L' := []) (by kernel_rfl) ?_
          refine blockQ_hit ?_
          refine seqQ_norm ?_
          refine W_seq (by kernel_rfl) ?_
          obtain ⟨v90, h91, h⟩ := bind_of h
          refine W_cutK (Q' := (exQ .normal law_CombNorms_s9) v90) ?_ ?_
          · replace h := h91
            refine W_region (by kernel_rfl) ?_
            refine WO_run (j := 8) (k := 8) (orcs := []) (kF := [5, 9, 82]) (kL := []) (fr' := [(5, aD (.slice (.pair tI (.pair tI (.pair tI tI)))) r1.1), (9, aD .tree v74.1), (82, aB ((r1.2.2 == (0 : Int)) && (r1.2.1 == v74.2)))]) (L' := []) (obs := []) rfl (by kernel_rfl) allP0 ?_
            rcases Bool.eq_false_or_eq_true ((r1.2.2 == (0 : Int)) && (r1.2.1 == v74.2)) with h85 | h85
            · replace h := ofT h85 h
              refine WO_run (j := 10) (k := 2) (orcs := [(16, .known true), (18, .known true)]) (kF := [82, 83, 84]) (kL := []) (fr' := [(82, aB ((r1.2.2 == (0 : Int)) && (r1.2.1 == v74.2))), (83, aD (.slice (.pair tI (.pair tI (.pair tI tI)))) r1.1), (84, aD .tree v74.1)]) (L' := []) (obs := [(((r1.2.2 == (0 : Int)) && (r1.2.1 == v74.2)) = true), (((r1.2.2 == (0 : Int)) && (r1.2.1 == v74.2)) = true)]) rfl (by kernel_rfl) (allP2 h85 (allP1 h85)) ?_
              obtain ⟨r86, h87, h⟩ := bind_of h
              refine WO_call0 (us := [none, some (.slice (.pair tI (.pair tI (.pair tI tI))))]) (d := 85) (p := (((r1.2.2 == (0 : Int)) && (r1.2.1 == v74.2)) = true)) (j := 11) rfl ⟨by kernel_rfl, by kernel_rfl, by kernel_rfl⟩ h85 (ref_Write_ok h87) (by kernel_rfl) ?_
              obtain ⟨r88, h89, h⟩ := bind_of h
              refine WO_call0 (us := [none, none]) (d := 86) (p := (((r1.2.2 == (0 : Int)) && (r1.2.1 == v74.2)) = true)) (j := 12) rfl ⟨by kernel_rfl, by kernel_rfl, by kernel_rfl⟩ h85 (ref_Combs_ok h89) (by kernel_rfl) ?_
              refine WO_run (j := 14) (k := 2) (orcs := [(25, .val (.dat .bool true))]) (kF := [4]) (kL := []) (fr' := [(4, aB r88)]) (L' := []) (obs := [(((r1.2.2 == (0 : Int)) && (r1.2.1 == v74.2)) = true)]) rfl (by kernel_rfl) (allP1 h85) ?_
              obtain rfl := Option.some.inj h
              refine WO_fin [4] [] (fr' := [(4, aB r88)]) (L' := []) (by kernel_rfl) (by kernel_rfl) ?_
              exact exQ_mk (by kernel_rfl) (by kernel_rfl)
            · replace h := ofF h85 h
              refine WO_run (j := 14) (k := 6) (orcs := [(16, .known false), (18, .known false), (20, .known false), (22, .known false), (25, .val (.dat .bool false))]) (kF := [4]) (kL := []) (fr' := [(4, aB false)]) (L' := []) (obs := [(((r1.2.2 == (0 : Int)) && (r1.2.1 == v74.2)) = false), (((r1.2.2 == (0 : Int)) && (r1.2.1 == v74.2)) = false), (((r1.2.2 == (0 : Int)) && (r1.2.1 == v74.2)) = false), (((r1.2.2 == (0 : Int)) && (r1.2.1 == v74.2)) = false), (((r1.2.2 == (0 : Int)) && (r1.2.1 == v74.2)) = false)]) rfl (by kernel_rfl) (allP2 h85 (allP2 h85 (allP2 h85 (allP2 h85 (allP1 h85))))) ?_
              obtain rfl := Option.some.inj h
              refine WO_fin [4] [] (fr' := [(4, aB false)]) (L' := []) (by kernel_rfl) (by kernel_rfl) ?_
              exact exQ_mk (by kernel_rfl) (by kernel_rfl)
          · intro e fr L hJ
            obtain ⟨rfl, rfl, rfl⟩ := hJ
            refine LT_keep [4] [] (fr' := [(4, aB v90)]) (L' := []) (by kernel_rfl) ?_
            refine seqQ_norm ?_
            obtain rfl := Option.some.inj h
            refine W_ret [4] [] (fr' := [(4, aB v90)]) (L' := []) (by kernel_rfl) (by kernel_rfl) ?_
            exact retQ_mk (by kernel_rfl) (by kernel_rfl) (by kernel_rfl)
end Go.Proofs.Ytkkmiclmbhbmjaa.combNorms
