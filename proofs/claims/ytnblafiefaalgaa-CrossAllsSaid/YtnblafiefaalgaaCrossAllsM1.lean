/- What the functions that CrossAlls calls compute, as models, and that they compute it: written by a program of mine. -/
import Derived.Test.YtnblafiefaalgaaProg
import Derived.Test.YtnblafiefaalgaaSl6
set_option linter.all false
set_option maxRecDepth 100000
namespace Go.Proofs.Ytnblafiefaalgaa.crossAlls
open Go Go.Sl
noncomputable def tape_Check_1 (a0 : (List (Int × (Int × Int)))) (c0 : (Int × (Int × (List (List (Int × (Int × Int))))))) : Option Bool :=
some ((List.length a0 : Int) != c0.2.1)
theorem tape_Check_1_ok {a0 : (List (Int × (Int × Int)))} {c0 : (Int × (Int × (List (List (Int × (Int × Int))))))} {r : Bool} (h : tape_Check_1 a0 c0 = some r) : FnC Try.prog 101 [aD (.slice (.pair tI (.pair tI tI))) a0, .one (.ptr 1000 0)] [(1000, .one (.pair tI (.pair tI (.slice (.slice (.pair tI (.pair tI tI)))))) c0)] (aB r) [(1000, .one (.pair tI (.pair tI (.slice (.slice (.pair tI (.pair tI tI)))))) c0)] := by
  refine fnC_of_W (B := bodyOf Try.f101) (n := 9) Try.func101 (by kernel_rfl) (by kernel_rfl) (by kernel_rfl) (by kernel_rfl) (by kernel_rfl) ?_
  intro K
  refine W_seq (by kernel_rfl) ?_
  refine W_run 1 [] [0, 1] [1000] (fr' := [(0, aD (.slice (.pair tI (.pair tI tI))) a0), (1, .one (.ptr 1000 0))]) (L' := [(1000, .one (.pair tI (.pair tI (.slice (.slice (.pair tI (.pair tI tI)))))) c0)]) (obs := []) (by kernel_rfl) (by kernel_rfl) (by kernel_rfl) allP0 ?_
  refine seqQ_norm ?_
  refine W_seq (by kernel_rfl) ?_
  refine W_run 6 [] [3] [1000] (fr' := [(3, aB ((List.length a0 : Int) != c0.2.1))]) (L' := [(1000, .one (.pair tI (.pair tI (.slice (.slice (.pair tI (.pair tI tI)))))) c0)]) (obs := []) (by kernel_rfl) (by kernel_rfl) (by kernel_rfl) allP0 ?_
  refine seqQ_norm ?_
  obtain rfl := Option.some.inj h
  refine W_ret [3] [1000] (fr' := [(3, aB ((List.length a0 : Int) != c0.2.1))]) (L' := [(1000, .one (.pair tI (.pair tI (.slice (.slice (.pair tI (.pair tI tI)))))) c0)]) (by kernel_rfl) (by kernel_rfl) ?_
  exact retQ_mk (by kernel_rfl) (by kernel_rfl) (by kernel_rfl)

noncomputable def slices_IndexFunc_LLapiRuleLapiRule_with_tape_Check_1_b1 (c0 : (Int × (Int × (List (List (Int × (Int × Int))))))) (i15 : Int) (v18 : (List (Int × (Int × Int)))) (x16 : Unit) : Option (Flow Unit (Esc Int Unit)) :=
(tape_Check_1 v18 c0).bind fun r21 =>
bif r21 then
(some (.done (.ret i15)))
else
(some (.next ()))
@[reducible] noncomputable def slices_IndexFunc_LLapiRuleLapiRule_with_tape_Check_1_s2 (a0 : (List (List (Int × (Int × Int))))) (c0 : (Int × (Int × (List (List (Int × (Int × Int))))))) (v : Int × Unit) : Fr × LL := ([(0, aD (.slice (.slice (.pair tI (.pair tI tI)))) a0), (1, .one (.fn 101 [(1000, 0)])), (7, aI (List.length a0 : Int)), (8, aI v.1)], [(1000, .one (.pair tI (.pair tI (.slice (.slice (.pair tI (.pair tI tI)))))) c0)])
@[reducible] noncomputable def slices_IndexFunc_LLapiRuleLapiRule_with_tape_Check_1_s3 (c0 : (Int × (Int × (List (List (Int × (Int × Int))))))) (v : Int) : Fr × LL := ([(4, aI v)], [(1000, .one (.pair tI (.pair tI (.slice (.slice (.pair tI (.pair tI tI)))))) c0)])
@[reducible] noncomputable def slices_IndexFunc_LLapiRuleLapiRule_with_tape_Check_1_s4 (c0 : (Int × (Int × (List (List (Int × (Int × Int))))))) (v : Unit) : Fr × LL := ([], [(1000, .one (.pair tI (.pair tI (.slice (.slice (.pair tI (.pair tI tI)))))) c0)])
noncomputable def slices_IndexFunc_LLapiRuleLapiRule_with_tape_Check_1 (a0 : (List (List (Int × (Int × Int))))) (c0 : (Int × (Int × (List (List (Int × (Int × Int))))))) : Option Int :=
(forL (slices_IndexFunc_LLapiRuleLapiRule_with_tape_Check_1_b1 c0) (fun x16 => (.brk ())) a0 0 ()).bind fun v25 =>
match v25 with
| .ret v30 =>
(some v30)
| .brk v31 =>
(some (-1 : Int))
theorem slices_IndexFunc_LLapiRuleLapiRule_with_tape_Check_1_ok {a0 : (List (List (Int × (Int × Int))))} {c0 : (Int × (Int × (List (List (Int × (Int × Int))))))} {r : Int} (h : slices_IndexFunc_LLapiRuleLapiRule_with_tape_Check_1 a0 c0 = some r) : FnC Try.prog 107 [aD (.slice (.slice (.pair tI (.pair tI tI)))) a0, .one (.fn 101 [(1000, 0)])] [(1000, .one (.pair tI (.pair tI (.slice (.slice (.pair tI (.pair tI tI)))))) c0)] (aI r) [(1000, .one (.pair tI (.pair tI (.slice (.slice (.pair tI (.pair tI tI)))))) c0)] := by
  refine fnC_of_W (B := bodyOf Try.f107) (n := 19) Try.func107 (by kernel_rfl) (by kernel_rfl) (by kernel_rfl) (by kernel_rfl) (by kernel_rfl) ?_
  intro K
  refine W_seq (by kernel_rfl) ?_
  refine W_run 1 [] [0, 1] [1000] (fr' := [(0, aD (.slice (.slice (.pair tI (.pair tI tI)))) a0), (1, .one (.fn 101 [(1000, 0)]))]) (L' := [(1000, .one (.pair tI (.pair tI (.slice (.slice (.pair tI (.pair tI tI)))))) c0)]) (obs := []) (by kernel_rfl) (by kernel_rfl) (by kernel_rfl) allP0 ?_
  refine seqQ_norm ?_
  refine W_seq (by kernel_rfl) ?_
  refine W_seq (by kernel_rfl) ?_
  refine W_run 3 [] [0, 1, 7, 8] [1000] (fr' := [(0, aD (.slice (.slice (.pair tI (.pair tI tI)))) a0), (1, .one (.fn 101 [(1000, 0)])), (7, aI (List.length a0 : Int)), (8, aI (0 : Int))]) (L' := [(1000, .one (.pair tI (.pair tI (.slice (.slice (.pair tI (.pair tI tI)))))) c0)]) (obs := []) (by kernel_rfl) (by kernel_rfl) (by kernel_rfl) allP0 ?_
  refine seqQ_norm ?_
  refine W_block (id := 0) (by kernel_rfl) ?_
  obtain ⟨v25, h26, h⟩ := bind_of h
  refine W_len (t := 0) (u := (.slice (.pair tI (.pair tI tI)))) (xs := a0) (by kernel_rfl) (fun h29 => ?_)
  obtain ⟨h27, h28⟩ := forL_iter h29 h26
  refine W_weaken [0, 1, 7, 8] [1000] (fr' := ((slices_IndexFunc_LLapiRuleLapiRule_with_tape_Check_1_s2 a0 c0) ((0 : Int), ())).1) (L' := ((slices_IndexFunc_LLapiRuleLapiRule_with_tape_Check_1_s2 a0 c0) ((0 : Int), ())).2) (by kernel_rfl) ?_
  refine W_cutK (W_loop (S := (slices_IndexFunc_LLapiRuleLapiRule_with_tape_Check_1_s2 a0 c0)) (J := (escQ (exQ .ret (slices_IndexFunc_LLapiRuleLapiRule_with_tape_Check_1_s3 c0)) (exQ (.exit 0) (slices_IndexFunc_LLapiRuleLapiRule_with_tape_Check_1_s4 c0)))) (by kernel_rfl) ?_ h27 _ v25 h28) ?_
  · rintro ⟨i15, x16⟩ s h
    refine W_seq (by kernel_rfl) ?_
    refine W_run 1 [] [0, 1, 7, 8, 9] [1000] (fr' := [(0, aD (.slice (.slice (.pair tI (.pair tI tI)))) a0), (1, .one (.fn 101 [(1000, 0)])), (7, aI (List.length a0 : Int)), (8, aI i15), (9, aB (decide (i15 < (List.length a0 : Int))))]) (L' := [(1000, .one (.pair tI (.pair tI (.slice (.slice (.pair tI (.pair tI tI)))))) c0)]) (obs := []) (by kernel_rfl) (by kernel_rfl) (by kernel_rfl) allP0 ?_
    refine seqQ_norm ?_
    refine W_seq (by kernel_rfl) ?_
    refine W_cond (o := .tmp 9) (b := decide (i15 < (List.length a0 : Int))) (by kernel_rfl) (by kernel_rfl) (fun h20 => ?_) (fun h20 => ?_)
    · replace h := stepL_true h20 h
      obtain ⟨v18, _, h19, h, rfl⟩ := h
      refine W_skip [0, 1, 7, 8] [1000] (fr' := [(0, aD (.slice (.slice (.pair tI (.pair tI tI)))) a0), (1, .one (.fn 101 [(1000, 0)])), (7, aI (List.length a0 : Int)), (8, aI i15)]) (L' := [(1000, .one (.pair tI (.pair tI (.slice (.slice (.pair tI (.pair tI tI)))))) c0)]) (by kernel_rfl) (by kernel_rfl) ?_
      refine seqQ_norm ?_
      refine W_seq (by kernel_rfl) ?_
      refine W_block (id := 1) (by kernel_rfl) ?_
      refine W_seq (by kernel_rfl) ?_
      refine W_run 2 [] [0, 1, 5, 7, 8] [1000] (fr' := [(0, aD (.slice (.slice (.pair tI (.pair tI tI)))) a0), (1, .one (.fn 101 [(1000, 0)])), (5, aI i15), (7, aI (List.length a0 : Int)), (8, aI i15)]) (L' := [(1000, .one (.pair tI (.pair tI (.slice (.slice (.pair tI (.pair tI tI)))))) c0)]) (obs := []) (by kernel_rfl) (by kernel_rfl) (by kernel_rfl) allP0 ?_
      refine seqQ_norm ?_
      refine W_seq (by kernel_rfl) ?_
      refine W_region (by kernel_rfl) ?_
      refine WO_run (j := 5) (k := 5) (orcs := [(7, .val (.dat (.slice (.pair tI (.pair tI tI))) v18))]) (kF := [0, 1, 5, 7, 8, 11, 15]) (kL := [1000]) (fr' := [(0, aD (.slice (.slice (.pair tI (.pair tI tI)))) a0), (1, .one (.fn 101 [(1000, 0)])), (5, aI i15), (7, aI (List.length a0 : Int)), (8, aI i15), (11, .one (.fn 101 [(1000, 0)])), (15, aD (.slice (.pair tI (.pair tI tI))) v18)]) (L' := [(1000, .one (.pair tI (.pair tI (.slice (.slice (.pair tI (.pair tI tI)))))) c0)]) (obs := [Idx a0 i15 v18]) rfl (by kernel_rfl) (allP1 (Idx.of h19)) ?_
      obtain ⟨r21, h22, h⟩ := bind_of h
      refine WO_lend [(1000, 1000)] (us := [none, none]) (d := 16) (p := True) (j := 6) rfl ⟨by kernel_rfl, by kernel_rfl, by kernel_rfl⟩ trivial (tape_Check_1_ok h22) (by kernel_rfl) (by kernel_rfl) ?_
      refine WO_fin [0, 1, 5, 7, 8, 16] [1000] (fr' := [(0, aD (.slice (.slice (.pair tI (.pair tI tI)))) a0), (1, .one (.fn 101 [(1000, 0)])), (5, aI i15), (7, aI (List.length a0 : Int)), (8, aI i15), (16, aB r21)]) (L' := [(1000, .one (.pair tI (.pair tI (.slice (.slice (.pair tI (.pair tI tI)))))) c0)]) (by kernel_rfl) (by kernel_rfl) ?_
      refine seqQ_norm ?_
      refine W_cond (o := .tmp 16) (b := r21) (by kernel_rfl) (by kernel_rfl) (fun h23 => ?_) (fun h23 => ?_)
      · replace h := ofT h23 h
        refine W_seq (by kernel_rfl) ?_
        refine W_run 2 [] [4] [1000] (fr' := [(4, aI i15)]) (L' := [(1000, .one (.pair tI (.pair tI (.slice (.slice (.pair tI (.pair tI tI)))))) c0)]) (obs := []) (by kernel_rfl) (by kernel_rfl) (by kernel_rfl) allP0 ?_
        refine seqQ_norm ?_
        obtain rfl := Option.some.inj h
        refine W_ret [4] [1000] (fr' := [(4, aI i15)]) (L' := [(1000, .one (.pair tI (.pair tI (.slice (.slice (.pair tI (.pair tI tI)))))) c0)]) (by kernel_rfl) (by kernel_rfl) ?_
        refine blockQ_ret ?_
        refine seqQ_ret ?_
        refine round_ret ?_
        refine escQ_ret ?_
        exact exQ_mk (by kernel_rfl) (by kernel_rfl)
      · replace h := ofF h23 h
        refine W_skip [0, 1, 7, 8] [1000] (fr' := [(0, aD (.slice (.slice (.pair tI (.pair tI tI)))) a0), (1, .one (.fn 101 [(1000, 0)])), (7, aI (List.length a0 : Int)), (8, aI i15)]) (L' := [(1000, .one (.pair tI (.pair tI (.slice (.slice (.pair tI (.pair tI tI)))))) c0)]) (by kernel_rfl) (by kernel_rfl) ?_
        refine blockQ_norm ?_
        refine seqQ_norm ?_
        obtain rfl := Option.some.inj h
        refine W_run 2 [] [0, 1, 7, 8] [1000] (fr' := [(0, aD (.slice (.slice (.pair tI (.pair tI tI)))) a0), (1, .one (.fn 101 [(1000, 0)])), (7, aI (List.length a0 : Int)), (8, aI (w64 (i15 + (1 : Int))))]) (L' := [(1000, .one (.pair tI (.pair tI (.slice (.slice (.pair tI (.pair tI tI)))))) c0)]) (obs := []) (by kernel_rfl) (by kernel_rfl) (by kernel_rfl) allP0 ?_
        exact round_next' (by kernel_rfl) (by kernel_rfl)
    · obtain rfl := stepL_false h20 h
      refine W_exit (id := 0) [] [1000] (fr' := []) (L' := [(1000, .one (.pair tI (.pair tI (.slice (.slice (.pair tI (.pair tI tI)))))) c0)]) (by kernel_rfl) (by kernel_rfl) ?_
      refine seqQ_exit ?_
      refine round_exit ?_
      refine escQ_brk ?_
      exact exQ_mk (by kernel_rfl) (by kernel_rfl)
  · intro e fr L hJ
    rcases v25 with v30 | v31
    · obtain ⟨rfl, rfl, rfl⟩ := hJ
      obtain rfl := Option.some.inj h
      refine LT_keep [4] [1000] (fr' := [(4, aI v30)]) (L' := [(1000, .one (.pair tI (.pair tI (.slice (.slice (.pair tI (.pair tI tI)))))) c0)]) (by kernel_rfl) ?_
      refine blockQ_ret ?_
      refine seqQ_ret ?_
      exact retQ_mk (by kernel_rfl) (by kernel_rfl) (by kernel_rfl)
    · obtain ⟨rfl, rfl, rfl⟩ := hJ
      refine LT_keep [] [1000] (fr' := []) (L' := [(1000, .one (.pair tI (.pair tI (.slice (.slice (.pair tI (.pair tI tI)))))) c0)]) (by kernel_rfl) ?_
      refine blockQ_hit ?_
      refine seqQ_norm ?_
      refine W_seq (by kernel_rfl) ?_
      refine W_run 1 [] [4] [1000] (fr' := [(4, aI (-1 : Int))]) (L' := [(1000, .one (.pair tI (.pair tI (.slice (.slice (.pair tI (.pair tI tI)))))) c0)]) (obs := []) (by kernel_rfl) (by kernel_rfl) (by kernel_rfl) allP0 ?_
      refine seqQ_norm ?_
      obtain rfl := Option.some.inj h
      refine W_ret [4] [1000] (fr' := [(4, aI (-1 : Int))]) (L' := [(1000, .one (.pair tI (.pair tI (.slice (.slice (.pair tI (.pair tI tI)))))) c0)]) (by kernel_rfl) (by kernel_rfl) ?_
      exact retQ_mk (by kernel_rfl) (by kernel_rfl) (by kernel_rfl)

noncomputable def slices_ContainsFunc_LLapiRuleLapiRule_with_tape_Check_1 (a0 : (List (List (Int × (Int × Int))))) (c0 : (Int × (Int × (List (List (Int × (Int × Int))))))) : Option Bool :=
(slices_IndexFunc_LLapiRuleLapiRule_with_tape_Check_1 a0 c0).bind fun r1 =>
some (decide (r1 ≥ (0 : Int)))
theorem slices_ContainsFunc_LLapiRuleLapiRule_with_tape_Check_1_ok {a0 : (List (List (Int × (Int × Int))))} {c0 : (Int × (Int × (List (List (Int × (Int × Int))))))} {r : Bool} (h : slices_ContainsFunc_LLapiRuleLapiRule_with_tape_Check_1 a0 c0 = some r) : FnC Try.prog 100 [aD (.slice (.slice (.pair tI (.pair tI tI)))) a0, .one (.fn 101 [(1000, 0)])] [(1000, .one (.pair tI (.pair tI (.slice (.slice (.pair tI (.pair tI tI)))))) c0)] (aB r) [(1000, .one (.pair tI (.pair tI (.slice (.slice (.pair tI (.pair tI tI)))))) c0)] := by
  refine fnC_of_W (B := bodyOf Try.f100) (n := 9) Try.func100 (by kernel_rfl) (by kernel_rfl) (by kernel_rfl) (by kernel_rfl) (by kernel_rfl) ?_
  intro K
  refine W_seq (by kernel_rfl) ?_
  refine W_run 1 [] [0, 1] [1000] (fr' := [(0, aD (.slice (.slice (.pair tI (.pair tI tI)))) a0), (1, .one (.fn 101 [(1000, 0)]))]) (L' := [(1000, .one (.pair tI (.pair tI (.slice (.slice (.pair tI (.pair tI tI)))))) c0)]) (obs := []) (by kernel_rfl) (by kernel_rfl) (by kernel_rfl) allP0 ?_
  refine seqQ_norm ?_
  refine W_seq (by kernel_rfl) ?_
  refine W_region (by kernel_rfl) ?_
  refine WO_run (j := 2) (k := 2) (orcs := []) (kF := [5, 6]) (kL := [1000]) (fr' := [(5, aD (.slice (.slice (.pair tI (.pair tI tI)))) a0), (6, .one (.fn 101 [(1000, 0)]))]) (L' := [(1000, .one (.pair tI (.pair tI (.slice (.slice (.pair tI (.pair tI tI)))))) c0)]) (obs := []) rfl (by kernel_rfl) allP0 ?_
  obtain ⟨r1, h2, h⟩ := bind_of h
  refine WO_lend [(1000, 1000)] (us := [none, none]) (d := 7) (p := True) (j := 3) rfl ⟨by kernel_rfl, by kernel_rfl, by kernel_rfl⟩ trivial (slices_IndexFunc_LLapiRuleLapiRule_with_tape_Check_1_ok h2) (by kernel_rfl) (by kernel_rfl) ?_
  refine WO_run (j := 5) (k := 2) (orcs := []) (kF := [4]) (kL := [1000]) (fr' := [(4, aB (decide (r1 ≥ (0 : Int))))]) (L' := [(1000, .one (.pair tI (.pair tI (.slice (.slice (.pair tI (.pair tI tI)))))) c0)]) (obs := []) rfl (by kernel_rfl) allP0 ?_
  refine WO_fin [4] [1000] (fr' := [(4, aB (decide (r1 ≥ (0 : Int))))]) (L' := [(1000, .one (.pair tI (.pair tI (.slice (.slice (.pair tI (.pair tI tI)))))) c0)]) (by kernel_rfl) (by kernel_rfl) ?_
  refine seqQ_norm ?_
  obtain rfl := Option.some.inj h
  refine W_ret [4] [1000] (fr' := [(4, aB (decide (r1 ≥ (0 : Int))))]) (L' := [(1000, .one (.pair tI (.pair tI (.slice (.slice (.pair tI (.pair tI tI)))))) c0)]) (by kernel_rfl) (by kernel_rfl) ?_
  exact retQ_mk (by kernel_rfl) (by kernel_rfl) (by kernel_rfl)

noncomputable def tape_Check_g1 (a0 : (Int × (Int × (List (List (Int × (Int × Int))))))) : Option Bool :=
bif decide (a0.1 < (1 : Int)) then
(some true)
else
(bif decide (a0.1 > (5 : Int)) then
(some true)
else
(bif decide (a0.2.1 < (2 : Int)) then
(some true)
else
(some (decide (a0.2.1 > (4 : Int))))))
@[reducible] noncomputable def tape_Check_s33 (a0 : (Int × (Int × (List (List (Int × (Int × Int))))))) (i185 : Int) (v188 : (List (Int × (Int × Int)))) (i235 : Int) (v : Bool) : Fr × LL := ([(1, .one (.ptr 1 0)), (38, aD (.slice (.slice (.pair tI (.pair tI tI)))) a0.2.2), (39, aI (List.length a0.2.2 : Int)), (40, aI i185), (44, aD (.slice (.pair tI (.pair tI tI))) v188), (45, aI (List.length v188 : Int)), (46, aI i235), (70, aB v)], [(1, .one (.pair tI (.pair tI (.slice (.slice (.pair tI (.pair tI tI)))))) a0)])
@[reducible] noncomputable def tape_Check_s34 (a0 : (Int × (Int × (List (List (Int × (Int × Int))))))) (i185 : Int) (v188 : (List (Int × (Int × Int)))) (i235 : Int) (v238 : (Int × (Int × Int))) (v : Bool) : Fr × LL := ([(1, .one (.ptr 1 0)), (6, .one (.ptr 6 0)), (38, aD (.slice (.slice (.pair tI (.pair tI tI)))) a0.2.2), (39, aI (List.length a0.2.2 : Int)), (40, aI i185), (44, aD (.slice (.pair tI (.pair tI tI))) v188), (45, aI (List.length v188 : Int)), (46, aI i235), (61, aB v)], [(1, .one (.pair tI (.pair tI (.slice (.slice (.pair tI (.pair tI tI)))))) a0), (6, .one (.pair tI (.pair tI tI)) v238)])
@[reducible] noncomputable def tape_Check_s35 (a0 : (Int × (Int × (List (List (Int × (Int × Int))))))) (i185 : Int) (v188 : (List (Int × (Int × Int)))) (i235 : Int) (v238 : (Int × (Int × Int))) (v : Bool) : Fr × LL := ([(1, .one (.ptr 1 0)), (6, .one (.ptr 6 0)), (38, aD (.slice (.slice (.pair tI (.pair tI tI)))) a0.2.2), (39, aI (List.length a0.2.2 : Int)), (40, aI i185), (44, aD (.slice (.pair tI (.pair tI tI))) v188), (45, aI (List.length v188 : Int)), (46, aI i235), (50, aB v)], [(1, .one (.pair tI (.pair tI (.slice (.slice (.pair tI (.pair tI tI)))))) a0), (6, .one (.pair tI (.pair tI tI)) v238)])
noncomputable def tape_Check_b36 (a0 : (Int × (Int × (List (List (Int × (Int × Int))))))) (i235 : Int) (v238 : (Int × (Int × Int))) (x236 : Unit) : Option (Flow Unit (Esc Int Unit)) :=
(bif decide (v238.1 < (0 : Int)) then
(some true)
else
(some (decide (v238.1 ≥ a0.2.1)))).bind fun v244 =>
bif v244 then
(some (.done (.ret (2 : Int))))
else
((bif decide (v238.2.1 < (-1 : Int)) then
(some true)
else
(some (decide (v238.2.1 > (1 : Int))))).bind fun v250 =>
bif v250 then
(some (.done (.ret (4 : Int))))
else
((bif decide (v238.2.2 < (0 : Int)) then
(some true)
else
(some (decide (v238.2.2 > a0.1)))).bind fun v256 =>
bif v256 then
(some (.done (.ret (2 : Int))))
else
(some (.next ()))))
@[reducible] noncomputable def tape_Check_s37 (a0 : (Int × (Int × (List (List (Int × (Int × Int))))))) (i185 : Int) (v188 : (List (Int × (Int × Int)))) (v : Int × Unit) : Fr × LL := ([(1, .one (.ptr 1 0)), (38, aD (.slice (.slice (.pair tI (.pair tI tI)))) a0.2.2), (39, aI (List.length a0.2.2 : Int)), (40, aI i185), (44, aD (.slice (.pair tI (.pair tI tI))) v188), (45, aI (List.length v188 : Int)), (46, aI v.1)], [(1, .one (.pair tI (.pair tI (.slice (.slice (.pair tI (.pair tI tI)))))) a0)])
@[reducible] noncomputable def tape_Check_s38 (v : Int) : Fr × LL := ([(2, aI v)], [])
@[reducible] noncomputable def tape_Check_s39 (a0 : (Int × (Int × (List (List (Int × (Int × Int))))))) (i185 : Int) (v : Unit) : Fr × LL := ([(1, .one (.ptr 1 0)), (38, aD (.slice (.slice (.pair tI (.pair tI tI)))) a0.2.2), (39, aI (List.length a0.2.2 : Int)), (40, aI i185)], [(1, .one (.pair tI (.pair tI (.slice (.slice (.pair tI (.pair tI tI)))))) a0)])
noncomputable def tape_Check_b40 (a0 : (Int × (Int × (List (List (Int × (Int × Int))))))) (i185 : Int) (v188 : (List (Int × (Int × Int)))) (x186 : Unit) : Option (Flow Unit (Esc Int Unit)) :=
(forL (tape_Check_b36 a0) (fun x236 => (.brk ())) v188 0 ()).bind fun v260 =>
match v260 with
| .ret v265 =>
(some (.done (.ret v265)))
| .brk v266 =>
(some (.next ()))
@[reducible] noncomputable def tape_Check_s41 (a0 : (Int × (Int × (List (List (Int × (Int × Int))))))) (v : Int × Unit) : Fr × LL := ([(1, .one (.ptr 1 0)), (38, aD (.slice (.slice (.pair tI (.pair tI tI)))) a0.2.2), (39, aI (List.length a0.2.2 : Int)), (40, aI v.1)], [(1, .one (.pair tI (.pair tI (.slice (.slice (.pair tI (.pair tI tI)))))) a0)])
@[reducible] noncomputable def tape_Check_s42 (v : Int) : Fr × LL := ([(2, aI v)], [])
@[reducible] noncomputable def tape_Check_s43 (v : Unit) : Fr × LL := ([], [])
@[reducible] noncomputable def tape_Check_s44 (a0 : (Int × (Int × (List (List (Int × (Int × Int))))))) (v : Bool) : Fr × LL := ([(1, .one (.ptr 1 0)), (36, aB v)], [(1, .one (.pair tI (.pair tI (.slice (.slice (.pair tI (.pair tI tI)))))) a0)])
@[reducible] noncomputable def tape_Check_s45 (a0 : (Int × (Int × (List (List (Int × (Int × Int))))))) (v : Bool) : Fr × LL := ([(1, .one (.ptr 1 0)), (24, aB v)], [(1, .one (.pair tI (.pair tI (.slice (.slice (.pair tI (.pair tI tI)))))) a0)])
noncomputable def tape_Check (a0 : (Int × (Int × (List (List (Int × (Int × Int))))))) : Option Int :=
(tape_Check_g1 a0).bind fun v10 =>
bif v10 then
(some (1 : Int))
else
((bif (List.length a0.2.2 : Int) != a0.1 then
(some true)
else
((slices_ContainsFunc_LLapiRuleLapiRule_with_tape_Check_1 a0.2.2 a0).bind fun r20 =>
some r20)).bind fun v22 =>
bif v22 then
(some (3 : Int))
else
((forL (tape_Check_b40 a0) (fun x186 => (.brk ())) a0.2.2 0 ()).bind fun v268 =>
match v268 with
| .ret v273 =>
(some v273)
| .brk v274 =>
(some (0 : Int))))
theorem tape_Check_ok {a0 : (Int × (Int × (List (List (Int × (Int × Int))))))} {r : Int} (h : tape_Check a0 = some r) : FnC Try.prog 89 [aD (.pair tI (.pair tI (.slice (.slice (.pair tI (.pair tI tI)))))) a0] [] (aI r) [] := by
  refine fnC_of_W (B := bodyOf Try.f89) (n := 83) Try.func89 (by kernel_rfl) (by kernel_rfl) (by kernel_rfl) (by kernel_rfl) (by kernel_rfl) ?_
  intro K
  refine W_seq (by kernel_rfl) ?_
  refine W_run 2 [] [1] [1] (fr' := [(1, .one (.ptr 1 0))]) (L' := [(1, .one (.pair tI (.pair tI (.slice (.slice (.pair tI (.pair tI tI)))))) a0)]) (obs := []) (by kernel_rfl) (by kernel_rfl) (by kernel_rfl) allP0 ?_
  refine seqQ_norm ?_
  refine W_seq (by kernel_rfl) ?_
  refine W_seq (by kernel_rfl) ?_
  obtain ⟨v10, h11, h⟩ := bind_of h
  refine W_cutK (Q' := (exQ .normal (tape_Check_s45 a0)) v10) ?_ ?_
  · replace h := h11
    refine W_region (by kernel_rfl) ?_
    refine WO_run (j := 4) (k := 4) (orcs := []) (kF := [1, 10]) (kL := [1]) (fr' := [(1, .one (.ptr 1 0)), (10, aB (decide (a0.1 < (1 : Int))))]) (L' := [(1, .one (.pair tI (.pair tI (.slice (.slice (.pair tI (.pair tI tI)))))) a0)]) (obs := []) rfl (by kernel_rfl) allP0 ?_
    rcases Bool.eq_false_or_eq_true (decide (a0.1 < (1 : Int))) with h7 | h7
    · replace h := ofT h7 h
      refine WO_run (j := 18) (k := 14) (orcs := [(8, .known true), (10, .known true), (12, .known true), (15, .val (.dat .bool true)), (18, .known true), (20, .known true), (22, .known true), (25, .val (.dat .bool true)), (28, .known true), (30, .known true), (32, .known true), (35, .val (.dat .bool true))]) (kF := [1, 24]) (kL := [1]) (fr' := [(1, .one (.ptr 1 0)), (24, aB true)]) (L' := [(1, .one (.pair tI (.pair tI (.slice (.slice (.pair tI (.pair tI tI)))))) a0)]) (obs := [((decide (a0.1 < (1 : Int))) = true), ((decide (a0.1 < (1 : Int))) = true), ((decide (a0.1 < (1 : Int))) = true), ((decide (a0.1 < (1 : Int))) = true), (true = true), (true = true), (true = true), (true = true), (true = true), (true = true), (true = true), (true = true)]) rfl (by kernel_rfl) (allP2 h7 (allP2 h7 (allP2 h7 (allP2 h7 (allP2 rfl (allP2 rfl (allP2 rfl (allP2 rfl (allP2 rfl (allP2 rfl (allP2 rfl (allP1 rfl)))))))))))) ?_
      obtain rfl := Option.some.inj h
      refine WO_fin [1, 24] [1] (fr' := [(1, .one (.ptr 1 0)), (24, aB true)]) (L' := [(1, .one (.pair tI (.pair tI (.slice (.slice (.pair tI (.pair tI tI)))))) a0)]) (by kernel_rfl) (by kernel_rfl) ?_
      exact exQ_mk (by kernel_rfl) (by kernel_rfl)
    · replace h := ofF h7 h
      refine WO_run (j := 9) (k := 5) (orcs := [(8, .known false), (10, .known false), (12, .known false), (15, .val (.dat .bool false))]) (kF := [1, 15]) (kL := [1]) (fr' := [(1, .one (.ptr 1 0)), (15, aB (decide (a0.1 > (5 : Int))))]) (L' := [(1, .one (.pair tI (.pair tI (.slice (.slice (.pair tI (.pair tI tI)))))) a0)]) (obs := [((decide (a0.1 < (1 : Int))) = false), ((decide (a0.1 < (1 : Int))) = false), ((decide (a0.1 < (1 : Int))) = false), ((decide (a0.1 < (1 : Int))) = false)]) rfl (by kernel_rfl) (allP2 h7 (allP2 h7 (allP2 h7 (allP1 h7)))) ?_
      rcases Bool.eq_false_or_eq_true (decide (a0.1 > (5 : Int))) with h8 | h8
      · replace h := ofT h8 h
        refine WO_run (j := 18) (k := 9) (orcs := [(18, .known true), (20, .known true), (22, .known true), (25, .val (.dat .bool true)), (28, .known true), (30, .known true), (32, .known true), (35, .val (.dat .bool true))]) (kF := [1, 24]) (kL := [1]) (fr' := [(1, .one (.ptr 1 0)), (24, aB true)]) (L' := [(1, .one (.pair tI (.pair tI (.slice (.slice (.pair tI (.pair tI tI)))))) a0)]) (obs := [((decide (a0.1 > (5 : Int))) = true), ((decide (a0.1 > (5 : Int))) = true), ((decide (a0.1 > (5 : Int))) = true), ((decide (a0.1 > (5 : Int))) = true), (true = true), (true = true), (true = true), (true = true)]) rfl (by kernel_rfl) (allP2 h8 (allP2 h8 (allP2 h8 (allP2 h8 (allP2 rfl (allP2 rfl (allP2 rfl (allP1 rfl)))))))) ?_
        obtain rfl := Option.some.inj h
        refine WO_fin [1, 24] [1] (fr' := [(1, .one (.ptr 1 0)), (24, aB true)]) (L' := [(1, .one (.pair tI (.pair tI (.slice (.slice (.pair tI (.pair tI tI)))))) a0)]) (by kernel_rfl) (by kernel_rfl) ?_
        exact exQ_mk (by kernel_rfl) (by kernel_rfl)
      · replace h := ofF h8 h
        refine WO_run (j := 14) (k := 5) (orcs := [(18, .known false), (20, .known false), (22, .known false), (25, .val (.dat .bool false))]) (kF := [1, 20]) (kL := [1]) (fr' := [(1, .one (.ptr 1 0)), (20, aB (decide (a0.2.1 < (2 : Int))))]) (L' := [(1, .one (.pair tI (.pair tI (.slice (.slice (.pair tI (.pair tI tI)))))) a0)]) (obs := [((decide (a0.1 > (5 : Int))) = false), ((decide (a0.1 > (5 : Int))) = false), ((decide (a0.1 > (5 : Int))) = false), ((decide (a0.1 > (5 : Int))) = false)]) rfl (by kernel_rfl) (allP2 h8 (allP2 h8 (allP2 h8 (allP1 h8)))) ?_
        rcases Bool.eq_false_or_eq_true (decide (a0.2.1 < (2 : Int))) with h9 | h9
        · replace h := ofT h9 h
          refine WO_run (j := 18) (k := 4) (orcs := [(28, .known true), (30, .known true), (32, .known true), (35, .val (.dat .bool true))]) (kF := [1, 24]) (kL := [1]) (fr' := [(1, .one (.ptr 1 0)), (24, aB true)]) (L' := [(1, .one (.pair tI (.pair tI (.slice (.slice (.pair tI (.pair tI tI)))))) a0)]) (obs := [((decide (a0.2.1 < (2 : Int))) = true), ((decide (a0.2.1 < (2 : Int))) = true), ((decide (a0.2.1 < (2 : Int))) = true), ((decide (a0.2.1 < (2 : Int))) = true)]) rfl (by kernel_rfl) (allP2 h9 (allP2 h9 (allP2 h9 (allP1 h9)))) ?_
          obtain rfl := Option.some.inj h
          refine WO_fin [1, 24] [1] (fr' := [(1, .one (.ptr 1 0)), (24, aB true)]) (L' := [(1, .one (.pair tI (.pair tI (.slice (.slice (.pair tI (.pair tI tI)))))) a0)]) (by kernel_rfl) (by kernel_rfl) ?_
          exact exQ_mk (by kernel_rfl) (by kernel_rfl)
        · replace h := ofF h9 h
          refine WO_run (j := 18) (k := 4) (orcs := [(28, .known false), (30, .known false), (32, .known false), (35, .val (.dat .bool false))]) (kF := [1, 24]) (kL := [1]) (fr' := [(1, .one (.ptr 1 0)), (24, aB (decide (a0.2.1 > (4 : Int))))]) (L' := [(1, .one (.pair tI (.pair tI (.slice (.slice (.pair tI (.pair tI tI)))))) a0)]) (obs := [((decide (a0.2.1 < (2 : Int))) = false), ((decide (a0.2.1 < (2 : Int))) = false), ((decide (a0.2.1 < (2 : Int))) = false), ((decide (a0.2.1 < (2 : Int))) = false)]) rfl (by kernel_rfl) (allP2 h9 (allP2 h9 (allP2 h9 (allP1 h9)))) ?_
          obtain rfl := Option.some.inj h
          refine WO_fin [1, 24] [1] (fr' := [(1, .one (.ptr 1 0)), (24, aB (decide (a0.2.1 > (4 : Int))))]) (L' := [(1, .one (.pair tI (.pair tI (.slice (.slice (.pair tI (.pair tI tI)))))) a0)]) (by kernel_rfl) (by kernel_rfl) ?_
          exact exQ_mk (by kernel_rfl) (by kernel_rfl)
  · intro e fr L hJ
    obtain ⟨rfl, rfl, rfl⟩ := hJ
    refine LT_keep [1, 24] [1] (fr' := [(1, .one (.ptr 1 0)), (24, aB v10)]) (L' := [(1, .one (.pair tI (.pair tI (.slice (.slice (.pair tI (.pair tI tI)))))) a0)]) (by kernel_rfl) ?_
    refine seqQ_norm ?_
    refine W_cond (o := .tmp 24) (b := v10) (by kernel_rfl) (by kernel_rfl) (fun h12 => ?_) (fun h12 => ?_)
    · replace h := ofT h12 h
      refine W_seq (by kernel_rfl) ?_
      refine W_run 1 [] [2] [] (fr' := [(2, aI (1 : Int))]) (L' := []) (obs := []) (by kernel_rfl) (by kernel_rfl) (by kernel_rfl) allP0 ?_
      refine seqQ_norm ?_
      obtain rfl := Option.some.inj h
      refine W_ret [2] [] (fr' := [(2, aI (1 : Int))]) (L' := []) (by kernel_rfl) (by kernel_rfl) ?_
      refine seqQ_ret ?_
      exact retQ_mk (by kernel_rfl) (by kernel_rfl) (by kernel_rfl)
    · replace h := ofF h12 h
      refine W_skip [1] [1] (fr' := [(1, .one (.ptr 1 0))]) (L' := [(1, .one (.pair tI (.pair tI (.slice (.slice (.pair tI (.pair tI tI)))))) a0)]) (by kernel_rfl) (by kernel_rfl) ?_
      refine seqQ_norm ?_
      refine W_seq (by kernel_rfl) ?_
      refine W_seq (by kernel_rfl) ?_
      obtain ⟨v22, h23, h⟩ := bind_of h
      refine W_cutK (Q' := (exQ .normal (tape_Check_s44 a0)) v22) ?_ ?_
      · replace h := h23
        refine W_region (by kernel_rfl) ?_
        refine WO_run (j := 7) (k := 7) (orcs := []) (kF := [1, 31]) (kL := [1]) (fr' := [(1, .one (.ptr 1 0)), (31, aB ((List.length a0.2.2 : Int) != a0.1))]) (L' := [(1, .one (.pair tI (.pair tI (.slice (.slice (.pair tI (.pair tI tI)))))) a0)]) (obs := []) rfl (by kernel_rfl) allP0 ?_
        rcases Bool.eq_false_or_eq_true ((List.length a0.2.2 : Int) != a0.1) with h19 | h19
        · replace h := ofT h19 h
          refine WO_run (j := 12) (k := 5) (orcs := [(14, .known true), (16, .known true), (18, .known true), (20, .known true), (23, .val (.dat .bool true))]) (kF := [1, 36]) (kL := [1]) (fr' := [(1, .one (.ptr 1 0)), (36, aB true)]) (L' := [(1, .one (.pair tI (.pair tI (.slice (.slice (.pair tI (.pair tI tI)))))) a0)]) (obs := [(((List.length a0.2.2 : Int) != a0.1) = true), (((List.length a0.2.2 : Int) != a0.1) = true), (((List.length a0.2.2 : Int) != a0.1) = true), (((List.length a0.2.2 : Int) != a0.1) = true), (((List.length a0.2.2 : Int) != a0.1) = true)]) rfl (by kernel_rfl) (allP2 h19 (allP2 h19 (allP2 h19 (allP2 h19 (allP1 h19))))) ?_
          obtain rfl := Option.some.inj h
          refine WO_fin [1, 36] [1] (fr' := [(1, .one (.ptr 1 0)), (36, aB true)]) (L' := [(1, .one (.pair tI (.pair tI (.slice (.slice (.pair tI (.pair tI tI)))))) a0)]) (by kernel_rfl) (by kernel_rfl) ?_
          exact exQ_mk (by kernel_rfl) (by kernel_rfl)
        · replace h := ofF h19 h
          refine WO_run (j := 10) (k := 3) (orcs := [(14, .known false), (16, .known false), (18, .known false)]) (kF := [1, 31, 33, 34]) (kL := [1]) (fr' := [(1, .one (.ptr 1 0)), (31, aB ((List.length a0.2.2 : Int) != a0.1)), (33, aD (.slice (.slice (.pair tI (.pair tI tI)))) a0.2.2), (34, .one (.fn 101 [(1, 0)]))]) (L' := [(1, .one (.pair tI (.pair tI (.slice (.slice (.pair tI (.pair tI tI)))))) a0)]) (obs := [(((List.length a0.2.2 : Int) != a0.1) = false), (((List.length a0.2.2 : Int) != a0.1) = false), (((List.length a0.2.2 : Int) != a0.1) = false)]) rfl (by kernel_rfl) (allP2 h19 (allP2 h19 (allP1 h19))) ?_
          obtain ⟨r20, h21, h⟩ := bind_of h
          refine WO_lend [(1000, 1)] (us := [none, none]) (d := 35) (p := (((List.length a0.2.2 : Int) != a0.1) = false)) (j := 11) rfl ⟨by kernel_rfl, by kernel_rfl, by kernel_rfl⟩ h19 (slices_ContainsFunc_LLapiRuleLapiRule_with_tape_Check_1_ok h21) (by kernel_rfl) (by kernel_rfl) ?_
          refine WO_run (j := 12) (k := 1) (orcs := [(23, .val (.dat .bool false))]) (kF := [1, 36]) (kL := [1]) (fr' := [(1, .one (.ptr 1 0)), (36, aB r20)]) (L' := [(1, .one (.pair tI (.pair tI (.slice (.slice (.pair tI (.pair tI tI)))))) a0)]) (obs := [(((List.length a0.2.2 : Int) != a0.1) = false)]) rfl (by kernel_rfl) (allP1 h19) ?_
          obtain rfl := Option.some.inj h
          refine WO_fin [1, 36] [1] (fr' := [(1, .one (.ptr 1 0)), (36, aB r20)]) (L' := [(1, .one (.pair tI (.pair tI (.slice (.slice (.pair tI (.pair tI tI)))))) a0)]) (by kernel_rfl) (by kernel_rfl) ?_
          exact exQ_mk (by kernel_rfl) (by kernel_rfl)
      · intro e fr L hJ
        obtain ⟨rfl, rfl, rfl⟩ := hJ
        refine LT_keep [1, 36] [1] (fr' := [(1, .one (.ptr 1 0)), (36, aB v22)]) (L' := [(1, .one (.pair tI (.pair tI (.slice (.slice (.pair tI (.pair tI tI)))))) a0)]) (by kernel_rfl) ?_
        refine seqQ_norm ?_
        refine W_cond (o := .tmp 36) (b := v22) (by kernel_rfl) (by kernel_rfl) (fun h24 => ?_) (fun h24 => ?_)
        · replace h := ofT h24 h
          refine W_seq (by kernel_rfl) ?_
          refine W_run 1 [] [2] [] (fr' := [(2, aI (3 : Int))]) (L' := []) (obs := []) (by kernel_rfl) (by kernel_rfl) (by kernel_rfl) allP0 ?_
          refine seqQ_norm ?_
          obtain rfl := Option.some.inj h
          refine W_ret [2] [] (fr' := [(2, aI (3 : Int))]) (L' := []) (by kernel_rfl) (by kernel_rfl) ?_
          refine seqQ_ret ?_
          exact retQ_mk (by kernel_rfl) (by kernel_rfl) (by kernel_rfl)
        · replace h := ofF h24 h
          refine W_skip [1] [1] (fr' := [(1, .one (.ptr 1 0))]) (L' := [(1, .one (.pair tI (.pair tI (.slice (.slice (.pair tI (.pair tI tI)))))) a0)]) (by kernel_rfl) (by kernel_rfl) ?_
          refine seqQ_norm ?_
          refine W_seq (by kernel_rfl) ?_
          refine W_seq (by kernel_rfl) ?_
          refine W_run 4 [] [1, 38, 39, 40] [1] (fr' := [(1, .one (.ptr 1 0)), (38, aD (.slice (.slice (.pair tI (.pair tI tI)))) a0.2.2), (39, aI (List.length a0.2.2 : Int)), (40, aI (0 : Int))]) (L' := [(1, .one (.pair tI (.pair tI (.slice (.slice (.pair tI (.pair tI tI)))))) a0)]) (obs := []) (by kernel_rfl) (by kernel_rfl) (by kernel_rfl) allP0 ?_
          refine seqQ_norm ?_
          refine W_block (id := 0) (by kernel_rfl) ?_
          obtain ⟨v268, h269, h⟩ := bind_of h
          refine W_len (t := 38) (u := (.slice (.pair tI (.pair tI tI)))) (xs := a0.2.2) (by kernel_rfl) (fun h272 => ?_)
          obtain ⟨h270, h271⟩ := forL_iter h272 h269
          refine W_weaken [1, 38, 39, 40] [1] (fr' := ((tape_Check_s41 a0) ((0 : Int), ())).1) (L' := ((tape_Check_s41 a0) ((0 : Int), ())).2) (by kernel_rfl) ?_
          refine W_cutK (W_loop (S := (tape_Check_s41 a0)) (J := (escQ (exQ .ret tape_Check_s42) (exQ (.exit 0) tape_Check_s43))) (by kernel_rfl) ?_ h270 _ v268 h271) ?_
          · rintro ⟨i185, x186⟩ s h
            refine W_seq (by kernel_rfl) ?_
            refine W_run 1 [] [1, 38, 39, 40, 41] [1] (fr' := [(1, .one (.ptr 1 0)), (38, aD (.slice (.slice (.pair tI (.pair tI tI)))) a0.2.2), (39, aI (List.length a0.2.2 : Int)), (40, aI i185), (41, aB (decide (i185 < (List.length a0.2.2 : Int))))]) (L' := [(1, .one (.pair tI (.pair tI (.slice (.slice (.pair tI (.pair tI tI)))))) a0)]) (obs := []) (by kernel_rfl) (by kernel_rfl) (by kernel_rfl) allP0 ?_
            refine seqQ_norm ?_
            refine W_seq (by kernel_rfl) ?_
            refine W_cond (o := .tmp 41) (b := decide (i185 < (List.length a0.2.2 : Int))) (by kernel_rfl) (by kernel_rfl) (fun h190 => ?_) (fun h190 => ?_)
            · replace h := stepL_true h190 h
              obtain ⟨v188, _, h189, h, rfl⟩ := h
              refine W_skip [1, 38, 39, 40] [1] (fr' := [(1, .one (.ptr 1 0)), (38, aD (.slice (.slice (.pair tI (.pair tI tI)))) a0.2.2), (39, aI (List.length a0.2.2 : Int)), (40, aI i185)]) (L' := [(1, .one (.pair tI (.pair tI (.slice (.slice (.pair tI (.pair tI tI)))))) a0)]) (by kernel_rfl) (by kernel_rfl) ?_
              refine seqQ_norm ?_
              refine W_seq (by kernel_rfl) ?_
              refine W_block (id := 1) (by kernel_rfl) ?_
              refine W_seq (by kernel_rfl) ?_
              refine W_run 3 [(1, .val (.dat (.slice (.pair tI (.pair tI tI))) v188))] [1, 4, 38, 39, 40] [1] (fr' := [(1, .one (.ptr 1 0)), (4, aD (.slice (.pair tI (.pair tI tI))) v188), (38, aD (.slice (.slice (.pair tI (.pair tI tI)))) a0.2.2), (39, aI (List.length a0.2.2 : Int)), (40, aI i185)]) (L' := [(1, .one (.pair tI (.pair tI (.slice (.slice (.pair tI (.pair tI tI)))))) a0)]) (obs := [Idx a0.2.2 i185 v188]) (by kernel_rfl) (by kernel_rfl) (by kernel_rfl) (allP1 (Idx.of h189)) ?_
              refine seqQ_norm ?_
              refine W_seq (by kernel_rfl) ?_
              refine W_run 3 [] [1, 38, 39, 40, 44, 45, 46] [1] (fr' := [(1, .one (.ptr 1 0)), (38, aD (.slice (.slice (.pair tI (.pair tI tI)))) a0.2.2), (39, aI (List.length a0.2.2 : Int)), (40, aI i185), (44, aD (.slice (.pair tI (.pair tI tI))) v188), (45, aI (List.length v188 : Int)), (46, aI (0 : Int))]) (L' := [(1, .one (.pair tI (.pair tI (.slice (.slice (.pair tI (.pair tI tI)))))) a0)]) (obs := []) (by kernel_rfl) (by kernel_rfl) (by kernel_rfl) allP0 ?_
              refine seqQ_norm ?_
              refine W_block (id := 2) (by kernel_rfl) ?_
              obtain ⟨v260, h261, h⟩ := bind_of h
              refine W_len (t := 44) (u := (.pair tI (.pair tI tI))) (xs := v188) (by kernel_rfl) (fun h264 => ?_)
              obtain ⟨h262, h263⟩ := forL_iter h264 h261
              refine W_weaken [1, 38, 39, 40, 44, 45, 46] [1] (fr' := ((tape_Check_s37 a0 i185 v188) ((0 : Int), ())).1) (L' := ((tape_Check_s37 a0 i185 v188) ((0 : Int), ())).2) (by kernel_rfl) ?_
              refine W_cutK (W_loop (S := (tape_Check_s37 a0 i185 v188)) (J := (escQ (exQ .ret tape_Check_s38) (exQ (.exit 2) (tape_Check_s39 a0 i185)))) (by kernel_rfl) ?_ h262 _ v260 h263) ?_
              · rintro ⟨i235, x236⟩ s h
                refine W_seq (by kernel_rfl) ?_
                refine W_run 1 [] [1, 38, 39, 40, 44, 45, 46, 47] [1] (fr' := [(1, .one (.ptr 1 0)), (38, aD (.slice (.slice (.pair tI (.pair tI tI)))) a0.2.2), (39, aI (List.length a0.2.2 : Int)), (40, aI i185), (44, aD (.slice (.pair tI (.pair tI tI))) v188), (45, aI (List.length v188 : Int)), (46, aI i235), (47, aB (decide (i235 < (List.length v188 : Int))))]) (L' := [(1, .one (.pair tI (.pair tI (.slice (.slice (.pair tI (.pair tI tI)))))) a0)]) (obs := []) (by kernel_rfl) (by kernel_rfl) (by kernel_rfl) allP0 ?_
                refine seqQ_norm ?_
                refine W_seq (by kernel_rfl) ?_
                refine W_cond (o := .tmp 47) (b := decide (i235 < (List.length v188 : Int))) (by kernel_rfl) (by kernel_rfl) (fun h240 => ?_) (fun h240 => ?_)
                · replace h := stepL_true h240 h
                  obtain ⟨v238, _, h239, h, rfl⟩ := h
                  refine W_skip [1, 38, 39, 40, 44, 45, 46] [1] (fr' := [(1, .one (.ptr 1 0)), (38, aD (.slice (.slice (.pair tI (.pair tI tI)))) a0.2.2), (39, aI (List.length a0.2.2 : Int)), (40, aI i185), (44, aD (.slice (.pair tI (.pair tI tI))) v188), (45, aI (List.length v188 : Int)), (46, aI i235)]) (L' := [(1, .one (.pair tI (.pair tI (.slice (.slice (.pair tI (.pair tI tI)))))) a0)]) (by kernel_rfl) (by kernel_rfl) ?_
                  refine seqQ_norm ?_
                  refine W_seq (by kernel_rfl) ?_
                  refine W_block (id := 3) (by kernel_rfl) ?_
                  refine W_seq (by kernel_rfl) ?_
                  refine W_run 4 [(1, .val (.dat (.pair tI (.pair tI tI)) v238)), (5, .typed)] [1, 6, 38, 39, 40, 44, 45, 46] [1, 6] (fr' := [(1, .one (.ptr 1 0)), (6, .one (.ptr 6 0)), (38, aD (.slice (.slice (.pair tI (.pair tI tI)))) a0.2.2), (39, aI (List.length a0.2.2 : Int)), (40, aI i185), (44, aD (.slice (.pair tI (.pair tI tI))) v188), (45, aI (List.length v188 : Int)), (46, aI i235)]) (L' := [(1, .one (.pair tI (.pair tI (.slice (.slice (.pair tI (.pair tI tI)))))) a0), (6, .one (.pair tI (.pair tI tI)) v238)]) (obs := [Idx v188 i235 v238, True]) (by kernel_rfl) (by kernel_rfl) (by kernel_rfl) (allP2 (Idx.of h239) (allP1 trivial)) ?_
                  refine seqQ_norm ?_
                  refine W_block (id := 4) (by kernel_rfl) ?_
                  refine W_seq (by kernel_rfl) ?_
                  obtain ⟨v244, h245, h⟩ := bind_of h
                  refine W_cutK (Q' := (exQ .normal (tape_Check_s35 a0 i185 v188 i235 v238)) v244) ?_ ?_
                  · replace h := h245
                    refine W_region (by kernel_rfl) ?_
                    refine WO_run (j := 4) (k := 4) (orcs := []) (kF := [1, 6, 38, 39, 40, 44, 45, 46, 54]) (kL := [1, 6]) (fr' := [(1, .one (.ptr 1 0)), (6, .one (.ptr 6 0)), (38, aD (.slice (.slice (.pair tI (.pair tI tI)))) a0.2.2), (39, aI (List.length a0.2.2 : Int)), (40, aI i185), (44, aD (.slice (.pair tI (.pair tI tI))) v188), (45, aI (List.length v188 : Int)), (46, aI i235), (54, aB (decide (v238.1 < (0 : Int))))]) (L' := [(1, .one (.pair tI (.pair tI (.slice (.slice (.pair tI (.pair tI tI)))))) a0), (6, .one (.pair tI (.pair tI tI)) v238)]) (obs := []) rfl (by kernel_rfl) allP0 ?_
                    rcases Bool.eq_false_or_eq_true (decide (v238.1 < (0 : Int))) with h243 | h243
                    · replace h := ofT h243 h
                      refine WO_run (j := 11) (k := 7) (orcs := [(8, .known true), (10, .known true), (12, .known true), (14, .known true), (16, .known true), (19, .val (.dat .bool true))]) (kF := [1, 6, 38, 39, 40, 44, 45, 46, 50]) (kL := [1, 6]) (fr' := [(1, .one (.ptr 1 0)), (6, .one (.ptr 6 0)), (38, aD (.slice (.slice (.pair tI (.pair tI tI)))) a0.2.2), (39, aI (List.length a0.2.2 : Int)), (40, aI i185), (44, aD (.slice (.pair tI (.pair tI tI))) v188), (45, aI (List.length v188 : Int)), (46, aI i235), (50, aB true)]) (L' := [(1, .one (.pair tI (.pair tI (.slice (.slice (.pair tI (.pair tI tI)))))) a0), (6, .one (.pair tI (.pair tI tI)) v238)]) (obs := [((decide (v238.1 < (0 : Int))) = true), ((decide (v238.1 < (0 : Int))) = true), ((decide (v238.1 < (0 : Int))) = true), ((decide (v238.1 < (0 : Int))) = true), ((decide (v238.1 < (0 : Int))) = true), ((decide (v238.1 < (0 : Int))) = true)]) rfl (by kernel_rfl) (allP2 h243 (allP2 h243 (allP2 h243 (allP2 h243 (allP2 h243 (allP1 h243)))))) ?_
                      obtain rfl := Option.some.inj h
                      refine WO_fin [1, 6, 38, 39, 40, 44, 45, 46, 50] [1, 6] (fr' := [(1, .one (.ptr 1 0)), (6, .one (.ptr 6 0)), (38, aD (.slice (.slice (.pair tI (.pair tI tI)))) a0.2.2), (39, aI (List.length a0.2.2 : Int)), (40, aI i185), (44, aD (.slice (.pair tI (.pair tI tI))) v188), (45, aI (List.length v188 : Int)), (46, aI i235), (50, aB true)]) (L' := [(1, .one (.pair tI (.pair tI (.slice (.slice (.pair tI (.pair tI tI)))))) a0), (6, .one (.pair tI (.pair tI tI)) v238)]) (by kernel_rfl) (by kernel_rfl) ?_
                      exact exQ_mk (by kernel_rfl) (by kernel_rfl)
                    · replace h := ofF h243 h
                      refine WO_run (j := 11) (k := 7) (orcs := [(8, .known false), (10, .known false), (12, .known false), (14, .known false), (16, .known false), (19, .val (.dat .bool false))]) (kF := [1, 6, 38, 39, 40, 44, 45, 46, 50]) (kL := [1, 6]) (fr' := [(1, .one (.ptr 1 0)), (6, .one (.ptr 6 0)), (38, aD (.slice (.slice (.pair tI (.pair tI tI)))) a0.2.2), (39, aI (List.length a0.2.2 : Int)), (40, aI i185), (44, aD (.slice (.pair tI (.pair tI tI))) v188), (45, aI (List.length v188 : Int)), (46, aI i235), (50, aB (decide (v238.1 ≥ a0.2.1)))]) (L' := [(1, .one (.pair tI (.pair tI (.slice (.slice (.pair tI (.pair tI tI)))))) a0), (6, .one (.pair tI (.pair tI tI)) v238)]) (obs := [((decide (v238.1 < (0 : Int))) = false), ((decide (v238.1 < (0 : Int))) = false), ((decide (v238.1 < (0 : Int))) = false), ((decide (v238.1 < (0 : Int))) = false), ((decide (v238.1 < (0 : Int))) = false), ((decide (v238.1 < (0 : Int))) = false)]) rfl (by kernel_rfl) (allP2 h243 (allP2 h243 (allP2 h243 (allP2 h243 (allP2 h243 (allP1 h243)))))) ?_
                      obtain rfl := Option.some.inj h
                      refine WO_fin [1, 6, 38, 39, 40, 44, 45, 46, 50] [1, 6] (fr' := [(1, .one (.ptr 1 0)), (6, .one (.ptr 6 0)), (38, aD (.slice (.slice (.pair tI (.pair tI tI)))) a0.2.2), (39, aI (List.length a0.2.2 : Int)), (40, aI i185), (44, aD (.slice (.pair tI (.pair tI tI))) v188), (45, aI (List.length v188 : Int)), (46, aI i235), (50, aB (decide (v238.1 ≥ a0.2.1)))]) (L' := [(1, .one (.pair tI (.pair tI (.slice (.slice (.pair tI (.pair tI tI)))))) a0), (6, .one (.pair tI (.pair tI tI)) v238)]) (by kernel_rfl) (by kernel_rfl) ?_
                      exact exQ_mk (by kernel_rfl) (by kernel_rfl)
                  · intro e fr L hJ
                    obtain ⟨rfl, rfl, rfl⟩ := hJ
                    refine LT_keep [1, 6, 38, 39, 40, 44, 45, 46, 50] [1, 6] (fr' := [(1, .one (.ptr 1 0)), (6, .one (.ptr 6 0)), (38, aD (.slice (.slice (.pair tI (.pair tI tI)))) a0.2.2), (39, aI (List.length a0.2.2 : Int)), (40, aI i185), (44, aD (.slice (.pair tI (.pair tI tI))) v188), (45, aI (List.length v188 : Int)), (46, aI i235), (50, aB v244)]) (L' := [(1, .one (.pair tI (.pair tI (.slice (.slice (.pair tI (.pair tI tI)))))) a0), (6, .one (.pair tI (.pair tI tI)) v238)]) (by kernel_rfl) ?_
                    refine seqQ_norm ?_
                    refine W_cond (o := .tmp 50) (b := v244) (by kernel_rfl) (by kernel_rfl) (fun h246 => ?_) (fun h246 => ?_)
                    · replace h := ofT h246 h
                      refine W_seq (by kernel_rfl) ?_
                      refine W_run 1 [] [2] [] (fr' := [(2, aI (2 : Int))]) (L' := []) (obs := []) (by kernel_rfl) (by kernel_rfl) (by kernel_rfl) allP0 ?_
                      refine seqQ_norm ?_
                      obtain rfl := Option.some.inj h
                      refine W_ret [2] [] (fr' := [(2, aI (2 : Int))]) (L' := []) (by kernel_rfl) (by kernel_rfl) ?_
                      refine blockQ_ret ?_
                      refine blockQ_ret ?_
                      refine seqQ_ret ?_
                      refine round_ret ?_
                      refine escQ_ret ?_
                      exact exQ_mk (by kernel_rfl) (by kernel_rfl)
                    · replace h := ofF h246 h
                      refine W_seq (by kernel_rfl) ?_
                      obtain ⟨v250, h251, h⟩ := bind_of h
                      refine W_cutK (Q' := (exQ .normal (tape_Check_s34 a0 i185 v188 i235 v238)) v250) ?_ ?_
                      · replace h := h251
                        refine W_region (by kernel_rfl) ?_
                        refine WO_run (j := 4) (k := 4) (orcs := []) (kF := [1, 6, 38, 39, 40, 44, 45, 46, 65]) (kL := [1, 6]) (fr' := [(1, .one (.ptr 1 0)), (6, .one (.ptr 6 0)), (38, aD (.slice (.slice (.pair tI (.pair tI tI)))) a0.2.2), (39, aI (List.length a0.2.2 : Int)), (40, aI i185), (44, aD (.slice (.pair tI (.pair tI tI))) v188), (45, aI (List.length v188 : Int)), (46, aI i235), (65, aB (decide (v238.2.1 < (-1 : Int))))]) (L' := [(1, .one (.pair tI (.pair tI (.slice (.slice (.pair tI (.pair tI tI)))))) a0), (6, .one (.pair tI (.pair tI tI)) v238)]) (obs := []) rfl (by kernel_rfl) allP0 ?_
                        rcases Bool.eq_false_or_eq_true (decide (v238.2.1 < (-1 : Int))) with h249 | h249
                        · replace h := ofT h249 h
                          refine WO_run (j := 9) (k := 5) (orcs := [(8, .known true), (10, .known true), (12, .known true), (15, .val (.dat .bool true))]) (kF := [1, 6, 38, 39, 40, 44, 45, 46, 61]) (kL := [1, 6]) (fr' := [(1, .one (.ptr 1 0)), (6, .one (.ptr 6 0)), (38, aD (.slice (.slice (.pair tI (.pair tI tI)))) a0.2.2), (39, aI (List.length a0.2.2 : Int)), (40, aI i185), (44, aD (.slice (.pair tI (.pair tI tI))) v188), (45, aI (List.length v188 : Int)), (46, aI i235), (61, aB true)]) (L' := [(1, .one (.pair tI (.pair tI (.slice (.slice (.pair tI (.pair tI tI)))))) a0), (6, .one (.pair tI (.pair tI tI)) v238)]) (obs := [((decide (v238.2.1 < (-1 : Int))) = true), ((decide (v238.2.1 < (-1 : Int))) = true), ((decide (v238.2.1 < (-1 : Int))) = true), ((decide (v238.2.1 < (-1 : Int))) = true)]) rfl (by kernel_rfl) (allP2 h249 (allP2 h249 (allP2 h249 (allP1 h249)))) ?_
                          obtain rfl := Option.some.inj h
                          refine WO_fin [1, 6, 38, 39, 40, 44, 45, 46, 61] [1, 6] (fr' := [(1, .one (.ptr 1 0)), (6, .one (.ptr 6 0)), (38, aD (.slice (.slice (.pair tI (.pair tI tI)))) a0.2.2), (39, aI (List.length a0.2.2 : Int)), (40, aI i185), (44, aD (.slice (.pair tI (.pair tI tI))) v188), (45, aI (List.length v188 : Int)), (46, aI i235), (61, aB true)]) (L' := [(1, .one (.pair tI (.pair tI (.slice (.slice (.pair tI (.pair tI tI)))))) a0), (6, .one (.pair tI (.pair tI tI)) v238)]) (by kernel_rfl) (by kernel_rfl) ?_
                          exact exQ_mk (by kernel_rfl) (by kernel_rfl)
                        · replace h := ofF h249 h
                          refine WO_run (j := 9) (k := 5) (orcs := [(8, .known false), (10, .known false), (12, .known false), (15, .val (.dat .bool false))]) (kF := [1, 6, 38, 39, 40, 44, 45, 46, 61]) (kL := [1, 6]) (fr' := [(1, .one (.ptr 1 0)), (6, .one (.ptr 6 0)), (38, aD (.slice (.slice (.pair tI (.pair tI tI)))) a0.2.2), (39, aI (List.length a0.2.2 : Int)), (40, aI i185), (44, aD (.slice (.pair tI (.pair tI tI))) v188), (45, aI (List.length v188 : Int)), (46, aI i235), (61, aB (decide (v238.2.1 > (1 : Int))))]) (L' := [(1, .one (.pair tI (.pair tI (.slice (.slice (.pair tI (.pair tI tI)))))) a0), (6, .one (.pair tI (.pair tI tI)) v238)]) (obs := [((decide (v238.2.1 < (-1 : Int))) = false), ((decide (v238.2.1 < (-1 : Int))) = false), ((decide (v238.2.1 < (-1 : Int))) = false), ((decide (v238.2.1 < (-1 : Int))) = false)]) rfl (by kernel_rfl) (allP2 h249 (allP2 h249 (allP2 h249 (allP1 h249)))) ?_
                          obtain rfl := Option.some.inj h
                          refine WO_fin [1, 6, 38, 39, 40, 44, 45, 46, 61] [1, 6] (fr' := [(1, .one (.ptr 1 0)), (6, .one (.ptr 6 0)), (38, aD (.slice (.slice (.pair tI (.pair tI tI)))) a0.2.2), (39, aI (List.length a0.2.2 : Int)), (40, aI i185), (44, aD (.slice (.pair tI (.pair tI tI))) v188), (45, aI (List.length v188 : Int)), (46, aI i235), (61, aB (decide (v238.2.1 > (1 : Int))))]) (L' := [(1, .one (.pair tI (.pair tI (.slice (.slice (.pair tI (.pair tI tI)))))) a0), (6, .one (.pair tI (.pair tI tI)) v238)]) (by kernel_rfl) (by kernel_rfl) ?_
                          exact exQ_mk (by kernel_rfl) (by kernel_rfl)
                      · intro e fr L hJ
                        obtain ⟨rfl, rfl, rfl⟩ := hJ
                        refine LT_keep [1, 6, 38, 39, 40, 44, 45, 46, 61] [1, 6] (fr' := [(1, .one (.ptr 1 0)), (6, .one (.ptr 6 0)), (38, aD (.slice (.slice (.pair tI (.pair tI tI)))) a0.2.2), (39, aI (List.length a0.2.2 : Int)), (40, aI i185), (44, aD (.slice (.pair tI (.pair tI tI))) v188), (45, aI (List.length v188 : Int)), (46, aI i235), (61, aB v250)]) (L' := [(1, .one (.pair tI (.pair tI (.slice (.slice (.pair tI (.pair tI tI)))))) a0), (6, .one (.pair tI (.pair tI tI)) v238)]) (by kernel_rfl) ?_
                        refine seqQ_norm ?_
                        refine W_cond (o := .tmp 61) (b := v250) (by kernel_rfl) (by kernel_rfl) (fun h252 => ?_) (fun h252 => ?_)
                        · replace h := ofT h252 h
                          refine W_seq (by kernel_rfl) ?_
                          refine W_run 1 [] [2] [] (fr' := [(2, aI (4 : Int))]) (L' := []) (obs := []) (by kernel_rfl) (by kernel_rfl) (by kernel_rfl) allP0 ?_
                          refine seqQ_norm ?_
                          obtain rfl := Option.some.inj h
                          refine W_ret [2] [] (fr' := [(2, aI (4 : Int))]) (L' := []) (by kernel_rfl) (by kernel_rfl) ?_
                          refine blockQ_ret ?_
                          refine blockQ_ret ?_
                          refine seqQ_ret ?_
                          refine round_ret ?_
                          refine escQ_ret ?_
                          exact exQ_mk (by kernel_rfl) (by kernel_rfl)
                        · replace h := ofF h252 h
                          refine W_seq (by kernel_rfl) ?_
                          obtain ⟨v256, h257, h⟩ := bind_of h
                          refine W_cutK (Q' := (exQ .normal (tape_Check_s33 a0 i185 v188 i235)) v256) ?_ ?_
                          · replace h := h257
                            refine W_region (by kernel_rfl) ?_
                            refine WO_run (j := 4) (k := 4) (orcs := []) (kF := [1, 6, 38, 39, 40, 44, 45, 46, 74]) (kL := [1, 6]) (fr' := [(1, .one (.ptr 1 0)), (6, .one (.ptr 6 0)), (38, aD (.slice (.slice (.pair tI (.pair tI tI)))) a0.2.2), (39, aI (List.length a0.2.2 : Int)), (40, aI i185), (44, aD (.slice (.pair tI (.pair tI tI))) v188), (45, aI (List.length v188 : Int)), (46, aI i235), (74, aB (decide (v238.2.2 < (0 : Int))))]) (L' := [(1, .one (.pair tI (.pair tI (.slice (.slice (.pair tI (.pair tI tI)))))) a0), (6, .one (.pair tI (.pair tI tI)) v238)]) (obs := []) rfl (by kernel_rfl) allP0 ?_
                            rcases Bool.eq_false_or_eq_true (decide (v238.2.2 < (0 : Int))) with h255 | h255
                            · replace h := ofT h255 h
                              refine WO_run (j := 11) (k := 7) (orcs := [(8, .known true), (10, .known true), (12, .known true), (14, .known true), (16, .known true), (19, .val (.dat .bool true))]) (kF := [1, 38, 39, 40, 44, 45, 46, 70]) (kL := [1, 6]) (fr' := [(1, .one (.ptr 1 0)), (38, aD (.slice (.slice (.pair tI (.pair tI tI)))) a0.2.2), (39, aI (List.length a0.2.2 : Int)), (40, aI i185), (44, aD (.slice (.pair tI (.pair tI tI))) v188), (45, aI (List.length v188 : Int)), (46, aI i235), (70, aB true)]) (L' := [(1, .one (.pair tI (.pair tI (.slice (.slice (.pair tI (.pair tI tI)))))) a0), (6, .one (.pair tI (.pair tI tI)) v238)]) (obs := [((decide (v238.2.2 < (0 : Int))) = true), ((decide (v238.2.2 < (0 : Int))) = true), ((decide (v238.2.2 < (0 : Int))) = true), ((decide (v238.2.2 < (0 : Int))) = true), ((decide (v238.2.2 < (0 : Int))) = true), ((decide (v238.2.2 < (0 : Int))) = true)]) rfl (by kernel_rfl) (allP2 h255 (allP2 h255 (allP2 h255 (allP2 h255 (allP2 h255 (allP1 h255)))))) ?_
                              obtain rfl := Option.some.inj h
                              refine WO_fin [1, 38, 39, 40, 44, 45, 46, 70] [1] (fr' := [(1, .one (.ptr 1 0)), (38, aD (.slice (.slice (.pair tI (.pair tI tI)))) a0.2.2), (39, aI (List.length a0.2.2 : Int)), (40, aI i185), (44, aD (.slice (.pair tI (.pair tI tI))) v188), (45, aI (List.length v188 : Int)), (46, aI i235), (70, aB true)]) (L' := [(1, .one (.pair tI (.pair tI (.slice (.slice (.pair tI (.pair tI tI)))))) a0)]) (by kernel_rfl) (by kernel_rfl) ?_
                              exact exQ_mk (by kernel_rfl) (by kernel_rfl)
                            · replace h := ofF h255 h
                              refine WO_run (j := 11) (k := 7) (orcs := [(8, .known false), (10, .known false), (12, .known false), (14, .known false), (16, .known false), (19, .val (.dat .bool false))]) (kF := [1, 38, 39, 40, 44, 45, 46, 70]) (kL := [1, 6]) (fr' := [(1, .one (.ptr 1 0)), (38, aD (.slice (.slice (.pair tI (.pair tI tI)))) a0.2.2), (39, aI (List.length a0.2.2 : Int)), (40, aI i185), (44, aD (.slice (.pair tI (.pair tI tI))) v188), (45, aI (List.length v188 : Int)), (46, aI i235), (70, aB (decide (v238.2.2 > a0.1)))]) (L' := [(1, .one (.pair tI (.pair tI (.slice (.slice (.pair tI (.pair tI tI)))))) a0), (6, .one (.pair tI (.pair tI tI)) v238)]) (obs := [((decide (v238.2.2 < (0 : Int))) = false), ((decide (v238.2.2 < (0 : Int))) = false), ((decide (v238.2.2 < (0 : Int))) = false), ((decide (v238.2.2 < (0 : Int))) = false), ((decide (v238.2.2 < (0 : Int))) = false), ((decide (v238.2.2 < (0 : Int))) = false)]) rfl (by kernel_rfl) (allP2 h255 (allP2 h255 (allP2 h255 (allP2 h255 (allP2 h255 (allP1 h255)))))) ?_
                              obtain rfl := Option.some.inj h
                              refine WO_fin [1, 38, 39, 40, 44, 45, 46, 70] [1] (fr' := [(1, .one (.ptr 1 0)), (38, aD (.slice (.slice (.pair tI (.pair tI tI)))) a0.2.2), (39, aI (List.length a0.2.2 : Int)), (40, aI i185), (44, aD (.slice (.pair tI (.pair tI tI))) v188), (45, aI (List.length v188 : Int)), (46, aI i235), (70, aB (decide (v238.2.2 > a0.1)))]) (L' := [(1, .one (.pair tI (.pair tI (.slice (.slice (.pair tI (.pair tI tI)))))) a0)]) (by kernel_rfl) (by kernel_rfl) ?_
                              exact exQ_mk (by kernel_rfl) (by kernel_rfl)
                          · intro e fr L hJ
                            obtain ⟨rfl, rfl, rfl⟩ := hJ
                            refine LT_keep [1, 38, 39, 40, 44, 45, 46, 70] [1] (fr' := [(1, .one (.ptr 1 0)), (38, aD (.slice (.slice (.pair tI (.pair tI tI)))) a0.2.2), (39, aI (List.length a0.2.2 : Int)), (40, aI i185), (44, aD (.slice (.pair tI (.pair tI tI))) v188), (45, aI (List.length v188 : Int)), (46, aI i235), (70, aB v256)]) (L' := [(1, .one (.pair tI (.pair tI (.slice (.slice (.pair tI (.pair tI tI)))))) a0)]) (by kernel_rfl) ?_
                            refine seqQ_norm ?_
                            refine W_cond (o := .tmp 70) (b := v256) (by kernel_rfl) (by kernel_rfl) (fun h258 => ?_) (fun h258 => ?_)
                            · replace h := ofT h258 h
                              refine W_seq (by kernel_rfl) ?_
                              refine W_run 1 [] [2] [] (fr' := [(2, aI (2 : Int))]) (L' := []) (obs := []) (by kernel_rfl) (by kernel_rfl) (by kernel_rfl) allP0 ?_
                              refine seqQ_norm ?_
                              obtain rfl := Option.some.inj h
                              refine W_ret [2] [] (fr' := [(2, aI (2 : Int))]) (L' := []) (by kernel_rfl) (by kernel_rfl) ?_
                              refine blockQ_ret ?_
                              refine blockQ_ret ?_
                              refine seqQ_ret ?_
                              refine round_ret ?_
                              refine escQ_ret ?_
                              exact exQ_mk (by kernel_rfl) (by kernel_rfl)
                            · replace h := ofF h258 h
                              refine W_skip [1, 38, 39, 40, 44, 45, 46] [1] (fr' := [(1, .one (.ptr 1 0)), (38, aD (.slice (.slice (.pair tI (.pair tI tI)))) a0.2.2), (39, aI (List.length a0.2.2 : Int)), (40, aI i185), (44, aD (.slice (.pair tI (.pair tI tI))) v188), (45, aI (List.length v188 : Int)), (46, aI i235)]) (L' := [(1, .one (.pair tI (.pair tI (.slice (.slice (.pair tI (.pair tI tI)))))) a0)]) (by kernel_rfl) (by kernel_rfl) ?_
                              refine blockQ_norm ?_
                              refine blockQ_norm ?_
                              refine seqQ_norm ?_
                              obtain rfl := Option.some.inj h
                              refine W_run 2 [] [1, 38, 39, 40, 44, 45, 46] [1] (fr' := [(1, .one (.ptr 1 0)), (38, aD (.slice (.slice (.pair tI (.pair tI tI)))) a0.2.2), (39, aI (List.length a0.2.2 : Int)), (40, aI i185), (44, aD (.slice (.pair tI (.pair tI tI))) v188), (45, aI (List.length v188 : Int)), (46, aI (w64 (i235 + (1 : Int))))]) (L' := [(1, .one (.pair tI (.pair tI (.slice (.slice (.pair tI (.pair tI tI)))))) a0)]) (obs := []) (by kernel_rfl) (by kernel_rfl) (by kernel_rfl) allP0 ?_
                              exact round_next' (by kernel_rfl) (by kernel_rfl)
                · obtain rfl := stepL_false h240 h
                  refine W_exit (id := 2) [1, 38, 39, 40] [1] (fr' := [(1, .one (.ptr 1 0)), (38, aD (.slice (.slice (.pair tI (.pair tI tI)))) a0.2.2), (39, aI (List.length a0.2.2 : Int)), (40, aI i185)]) (L' := [(1, .one (.pair tI (.pair tI (.slice (.slice (.pair tI (.pair tI tI)))))) a0)]) (by kernel_rfl) (by kernel_rfl) ?_
                  refine seqQ_exit ?_
                  refine round_exit ?_
                  refine escQ_brk ?_
                  exact exQ_mk (by kernel_rfl) (by kernel_rfl)
              · intro e fr L hJ
                rcases v260 with v265 | v266
                · obtain ⟨rfl, rfl, rfl⟩ := hJ
                  obtain rfl := Option.some.inj h
                  refine LT_keep [2] [] (fr' := [(2, aI v265)]) (L' := []) (by kernel_rfl) ?_
                  refine blockQ_ret ?_
                  refine blockQ_ret ?_
                  refine seqQ_ret ?_
                  refine round_ret ?_
                  refine escQ_ret ?_
                  exact exQ_mk (by kernel_rfl) (by kernel_rfl)
                · obtain ⟨rfl, rfl, rfl⟩ := hJ
                  refine LT_keep [1, 38, 39, 40] [1] (fr' := [(1, .one (.ptr 1 0)), (38, aD (.slice (.slice (.pair tI (.pair tI tI)))) a0.2.2), (39, aI (List.length a0.2.2 : Int)), (40, aI i185)]) (L' := [(1, .one (.pair tI (.pair tI (.slice (.slice (.pair tI (.pair tI tI)))))) a0)]) (by kernel_rfl) ?_
                  refine blockQ_hit ?_
                  refine blockQ_norm ?_
                  refine seqQ_norm ?_
                  obtain rfl := Option.some.inj h
                  refine W_run 2 [] [1, 38, 39, 40] [1] (fr' := [(1, .one (.ptr 1 0)), (38, aD (.slice (.slice (.pair tI (.pair tI tI)))) a0.2.2), (39, aI (List.length a0.2.2 : Int)), (40, aI (w64 (i185 + (1 : Int))))]) (L' := [(1, .one (.pair tI (.pair tI (.slice (.slice (.pair tI (.pair tI tI)))))) a0)]) (obs := []) (by kernel_rfl) (by kernel_rfl) (by kernel_rfl) allP0 ?_
                  exact round_next' (by kernel_rfl) (by kernel_rfl)
            · obtain rfl := stepL_false h190 h
              refine W_exit (id := 0) [] [] (fr' := []) (L' := []) (by kernel_rfl) (by kernel_rfl) ?_
              refine seqQ_exit ?_
              refine round_exit ?_
              refine escQ_brk ?_
              exact exQ_mk (by kernel_rfl) (by kernel_rfl)
          · intro e fr L hJ
            rcases v268 with v273 | v274
            · obtain ⟨rfl, rfl, rfl⟩ := hJ
              obtain rfl := Option.some.inj h
              refine LT_keep [2] [] (fr' := [(2, aI v273)]) (L' := []) (by kernel_rfl) ?_
              refine blockQ_ret ?_
              refine seqQ_ret ?_
              exact retQ_mk (by kernel_rfl) (by kernel_rfl) (by kernel_rfl)
            · obtain ⟨rfl, rfl, rfl⟩ := hJ
              refine LT_keep [] [] (fr' := []) (L' := []) (by kernel_rfl) ?_
              refine blockQ_hit ?_
              refine seqQ_norm ?_
              refine W_seq (by kernel_rfl) ?_
              refine W_run 1 [] [2] [] (fr' := [(2, aI (0 : Int))]) (L' := []) (obs := []) (by kernel_rfl) (by kernel_rfl) (by kernel_rfl) allP0 ?_
              refine seqQ_norm ?_
              obtain rfl := Option.some.inj h
              refine W_ret [2] [] (fr' := [(2, aI (0 : Int))]) (L' := []) (by kernel_rfl) (by kernel_rfl) ?_
              exact retQ_mk (by kernel_rfl) (by kernel_rfl) (by kernel_rfl)

noncomputable def tape_Tape_Put (a1 : Int) (a2 : Int) (c0 : (Option (List (Int × Int)))) : Option (Option (List (Int × Int))) :=
bif a2 == (0 : Int) then
(some (Option.map (fun l => mDel (deqT tI) l a1) c0))
else
((ck (Option.isSome c0 = true)).bind fun _ =>
some (Option.map (fun l => mPut (deqT tI) l a1 a2) c0))
theorem tape_Tape_Put_ok {a1 : Int} {a2 : Int} {c0 : (Option (List (Int × Int)))} {r : (Option (List (Int × Int)))} (h : tape_Tape_Put a1 a2 c0 = some r) : FnC Try.prog 66 [.one (.slc 1000), aI a1, aI a2] [(1000, .map tI tI c0)] (.tup []) [(1000, .map tI tI r)] := by
  refine fnC_of_W (B := bodyOf Try.f66) (n := 13) Try.func66 (by kernel_rfl) (by kernel_rfl) (by kernel_rfl) (by kernel_rfl) (by kernel_rfl) ?_
  intro K
  refine W_seq (by kernel_rfl) ?_
  refine W_seq (by kernel_rfl) ?_
  refine W_run 2 [] [0, 1, 2, 7] [1000] (fr' := [(0, .one (.slc 1000)), (1, aI a1), (2, aI a2), (7, aB (a2 == (0 : Int)))]) (L' := [(1000, .map tI tI c0)]) (obs := []) (by kernel_rfl) (by kernel_rfl) (by kernel_rfl) allP0 ?_
  refine seqQ_norm ?_
  refine W_cond (o := .tmp 7) (b := a2 == (0 : Int)) (by kernel_rfl) (by kernel_rfl) (fun h1 => ?_) (fun h1 => ?_)
  · replace h := ofT h1 h
    refine W_seq (by kernel_rfl) ?_
    refine W_run 3 [] [] [1000] (fr' := []) (L' := [(1000, .map tI tI (Option.map (fun l => mDel (deqT tI) l a1) c0))]) (obs := []) (by kernel_rfl) (by kernel_rfl) (by kernel_rfl) allP0 ?_
    refine seqQ_norm ?_
    obtain rfl := Option.some.inj h
    refine W_ret [] [1000] (fr' := []) (L' := [(1000, .map tI tI (Option.map (fun l => mDel (deqT tI) l a1) c0))]) (by kernel_rfl) (by kernel_rfl) ?_
    refine seqQ_ret ?_
    exact retQ_mk (by kernel_rfl) (by kernel_rfl) (by kernel_rfl)
  · replace h := ofF h1 h
    refine W_skip [0, 1, 2] [1000] (fr' := [(0, .one (.slc 1000)), (1, aI a1), (2, aI a2)]) (L' := [(1000, .map tI tI c0)]) (by kernel_rfl) (by kernel_rfl) ?_
    refine seqQ_norm ?_
    obtain ⟨_, h2, h⟩ := bind_of h
    replace h2 := ck_some h2
    obtain rfl := Option.some.inj h
    refine W_run 4 [] [] [1000] (fr' := []) (L' := [(1000, .map tI tI (Option.map (fun l => mPut (deqT tI) l a1 a2) c0))]) (obs := [Option.isSome c0 = true]) (by kernel_rfl) (by kernel_rfl) (by kernel_rfl) (allP1 h2) ?_
    exact ⟨.inr rfl, by kernel_rfl, by kernel_rfl, by kernel_rfl⟩

@[reducible] noncomputable def tape_lay_s10 (a0 : (Int × (Int × (List (List (Int × (Int × Int))))))) (a1 : (List Int)) (a2 : Int) (i71 : Int) (x72 : (Option (List (Int × Int)))) (v74 : Int) (v : Bool) : Fr × LL := ([(2, aI a2), (3, .one (.ptr 3 0)), (8, .one (.slc 11)), (9, aI i71), (10, aI v74), (12, aD (.slice tI) a1), (13, aI (List.length a1 : Int)), (14, aI i71), (26, aB v)], [(3, .one (.pair tI (.pair tI (.slice (.slice (.pair tI (.pair tI tI)))))) a0), (11, .map tI tI x72)])
noncomputable def tape_lay_b11 (a0 : (Int × (Int × (List (List (Int × (Int × Int))))))) (a2 : Int) (i71 : Int) (v74 : Int) (x72 : (Option (List (Int × Int)))) : Option (Flow (Option (List (Int × Int))) (Esc ((Option (List (Int × Int))) × Bool) (Option (List (Int × Int))))) :=
(bif decide (v74 < (0 : Int)) then
(some true)
else
(some (decide (v74 ≥ a0.2.1)))).bind fun v80 =>
bif v80 then
(some (.done (.ret ((none : Option (List (Int × Int))), false))))
else
((tape_Tape_Put (w64 (a2 + i71)) v74 x72).bind fun r83 =>
some (.next r83))
@[reducible] noncomputable def tape_lay_s12 (a0 : (Int × (Int × (List (List (Int × (Int × Int))))))) (a1 : (List Int)) (a2 : Int) (v : Int × (Option (List (Int × Int)))) : Fr × LL := ([(2, aI a2), (3, .one (.ptr 3 0)), (8, .one (.slc 11)), (12, aD (.slice tI) a1), (13, aI (List.length a1 : Int)), (14, aI v.1)], [(3, .one (.pair tI (.pair tI (.slice (.slice (.pair tI (.pair tI tI)))))) a0), (11, .map tI tI v.2)])
@[reducible] noncomputable def tape_lay_s13 (v : ((Option (List (Int × Int))) × Bool)) : Fr × LL := ([(6, .one (.slc 11)), (7, aB v.2)], [(11, .map tI tI v.1)])
@[reducible] noncomputable def tape_lay_s14 (v : (Option (List (Int × Int)))) : Fr × LL := ([(8, .one (.slc 11))], [(11, .map tI tI v)])
noncomputable def tape_lay (a0 : (Int × (Int × (List (List (Int × (Int × Int))))))) (a1 : (List Int)) (a2 : Int) : Option ((Option (List (Int × Int))) × Bool) :=
(forL (tape_lay_b11 a0 a2) (fun x72 => (.brk x72)) a1 0 (some [] : Option (List (Int × Int)))).bind fun v86 =>
match v86 with
| .ret v91 =>
(some (v91.1, v91.2))
| .brk v92 =>
(some (v92, true))
theorem tape_lay_ok {a0 : (Int × (Int × (List (List (Int × (Int × Int))))))} {a1 : (List Int)} {a2 : Int} {r : ((Option (List (Int × Int))) × Bool)} (h : tape_lay a0 a1 a2 = some r) : FnC Try.prog 95 [aD (.pair tI (.pair tI (.slice (.slice (.pair tI (.pair tI tI)))))) a0, aD (.slice tI) a1, aI a2] [] (.tup [.slc 11, .dat .bool r.2]) [(11, .map tI tI r.1)] := by
  refine fnC_of_W (B := bodyOf Try.f95) (n := 35) Try.func95 (by kernel_rfl) (by kernel_rfl) (by kernel_rfl) (by kernel_rfl) (by kernel_rfl) ?_
  intro K
  refine W_seq (by kernel_rfl) ?_
  refine W_run 3 [] [1, 2, 3] [3] (fr' := [(1, aD (.slice tI) a1), (2, aI a2), (3, .one (.ptr 3 0))]) (L' := [(3, .one (.pair tI (.pair tI (.slice (.slice (.pair tI (.pair tI tI)))))) a0)]) (obs := []) (by kernel_rfl) (by kernel_rfl) (by kernel_rfl) allP0 ?_
  refine seqQ_norm ?_
  refine W_seq (by kernel_rfl) ?_
  refine W_run 2 [] [1, 2, 3, 8] [3, 11] (fr' := [(1, aD (.slice tI) a1), (2, aI a2), (3, .one (.ptr 3 0)), (8, .one (.slc 11))]) (L' := [(3, .one (.pair tI (.pair tI (.slice (.slice (.pair tI (.pair tI tI)))))) a0), (11, .map tI tI (some [] : Option (List (Int × Int))))]) (obs := []) (by kernel_rfl) (by kernel_rfl) (by kernel_rfl) allP0 ?_
  refine seqQ_norm ?_
  refine W_seq (by kernel_rfl) ?_
  refine W_seq (by kernel_rfl) ?_
  refine W_run 3 [] [2, 3, 8, 12, 13, 14] [3, 11] (fr' := [(2, aI a2), (3, .one (.ptr 3 0)), (8, .one (.slc 11)), (12, aD (.slice tI) a1), (13, aI (List.length a1 : Int)), (14, aI (0 : Int))]) (L' := [(3, .one (.pair tI (.pair tI (.slice (.slice (.pair tI (.pair tI tI)))))) a0), (11, .map tI tI (some [] : Option (List (Int × Int))))]) (obs := []) (by kernel_rfl) (by kernel_rfl) (by kernel_rfl) allP0 ?_
  refine seqQ_norm ?_
  refine W_block (id := 0) (by kernel_rfl) ?_
  obtain ⟨v86, h87, h⟩ := bind_of h
  refine W_len (t := 12) (u := tI) (xs := a1) (by kernel_rfl) (fun h90 => ?_)
  obtain ⟨h88, h89⟩ := forL_iter h90 h87
  refine W_weaken [2, 3, 8, 12, 13, 14] [3, 11] (fr' := ((tape_lay_s12 a0 a1 a2) ((0 : Int), (some [] : Option (List (Int × Int))))).1) (L' := ((tape_lay_s12 a0 a1 a2) ((0 : Int), (some [] : Option (List (Int × Int))))).2) (by kernel_rfl) ?_
  refine W_cutK (W_loop (S := (tape_lay_s12 a0 a1 a2)) (J := (escQ (exQ .ret tape_lay_s13) (exQ (.exit 0) tape_lay_s14))) (by kernel_rfl) ?_ h88 _ v86 h89) ?_
  · rintro ⟨i71, x72⟩ s h
    refine W_seq (by kernel_rfl) ?_
    refine W_run 1 [] [2, 3, 8, 12, 13, 14, 15] [3, 11] (fr' := [(2, aI a2), (3, .one (.ptr 3 0)), (8, .one (.slc 11)), (12, aD (.slice tI) a1), (13, aI (List.length a1 : Int)), (14, aI i71), (15, aB (decide (i71 < (List.length a1 : Int))))]) (L' := [(3, .one (.pair tI (.pair tI (.slice (.slice (.pair tI (.pair tI tI)))))) a0), (11, .map tI tI x72)]) (obs := []) (by kernel_rfl) (by kernel_rfl) (by kernel_rfl) allP0 ?_
    refine seqQ_norm ?_
    refine W_seq (by kernel_rfl) ?_
    refine W_cond (o := .tmp 15) (b := decide (i71 < (List.length a1 : Int))) (by kernel_rfl) (by kernel_rfl) (fun h76 => ?_) (fun h76 => ?_)
    · replace h := stepL_true h76 h
      obtain ⟨v74, _, h75, h, rfl⟩ := h
      refine W_skip [2, 3, 8, 12, 13, 14] [3, 11] (fr' := [(2, aI a2), (3, .one (.ptr 3 0)), (8, .one (.slc 11)), (12, aD (.slice tI) a1), (13, aI (List.length a1 : Int)), (14, aI i71)]) (L' := [(3, .one (.pair tI (.pair tI (.slice (.slice (.pair tI (.pair tI tI)))))) a0), (11, .map tI tI x72)]) (by kernel_rfl) (by kernel_rfl) ?_
      refine seqQ_norm ?_
      refine W_seq (by kernel_rfl) ?_
      refine W_block (id := 1) (by kernel_rfl) ?_
      refine W_seq (by kernel_rfl) ?_
      refine W_run 5 [(3, .val (.dat tI v74))] [2, 3, 8, 9, 10, 12, 13, 14] [3, 11] (fr' := [(2, aI a2), (3, .one (.ptr 3 0)), (8, .one (.slc 11)), (9, aI i71), (10, aI v74), (12, aD (.slice tI) a1), (13, aI (List.length a1 : Int)), (14, aI i71)]) (L' := [(3, .one (.pair tI (.pair tI (.slice (.slice (.pair tI (.pair tI tI)))))) a0), (11, .map tI tI x72)]) (obs := [Idx a1 i71 v74]) (by kernel_rfl) (by kernel_rfl) (by kernel_rfl) (allP1 (Idx.of h75)) ?_
      refine seqQ_norm ?_
      refine W_seq (by kernel_rfl) ?_
      refine W_seq (by kernel_rfl) ?_
      obtain ⟨v80, h81, h⟩ := bind_of h
      refine W_cutK (Q' := (exQ .normal (tape_lay_s10 a0 a1 a2 i71 x72 v74)) v80) ?_ ?_
      · replace h := h81
        refine W_region (by kernel_rfl) ?_
        refine WO_run (j := 3) (k := 3) (orcs := []) (kF := [2, 3, 8, 9, 10, 12, 13, 14, 21]) (kL := [3, 11]) (fr' := [(2, aI a2), (3, .one (.ptr 3 0)), (8, .one (.slc 11)), (9, aI i71), (10, aI v74), (12, aD (.slice tI) a1), (13, aI (List.length a1 : Int)), (14, aI i71), (21, aB (decide (v74 < (0 : Int))))]) (L' := [(3, .one (.pair tI (.pair tI (.slice (.slice (.pair tI (.pair tI tI)))))) a0), (11, .map tI tI x72)]) (obs := []) rfl (by kernel_rfl) allP0 ?_
        rcases Bool.eq_false_or_eq_true (decide (v74 < (0 : Int))) with h79 | h79
        · replace h := ofT h79 h
          refine WO_run (j := 8) (k := 5) (orcs := [(6, .known true), (8, .known true), (10, .known true), (12, .known true), (15, .val (.dat .bool true))]) (kF := [2, 3, 8, 9, 10, 12, 13, 14, 26]) (kL := [3, 11]) (fr' := [(2, aI a2), (3, .one (.ptr 3 0)), (8, .one (.slc 11)), (9, aI i71), (10, aI v74), (12, aD (.slice tI) a1), (13, aI (List.length a1 : Int)), (14, aI i71), (26, aB true)]) (L' := [(3, .one (.pair tI (.pair tI (.slice (.slice (.pair tI (.pair tI tI)))))) a0), (11, .map tI tI x72)]) (obs := [((decide (v74 < (0 : Int))) = true), ((decide (v74 < (0 : Int))) = true), ((decide (v74 < (0 : Int))) = true), ((decide (v74 < (0 : Int))) = true), ((decide (v74 < (0 : Int))) = true)]) rfl (by kernel_rfl) (allP2 h79 (allP2 h79 (allP2 h79 (allP2 h79 (allP1 h79))))) ?_
          obtain rfl := Option.some.inj h
          refine WO_fin [2, 3, 8, 9, 10, 12, 13, 14, 26] [3, 11] (fr' := [(2, aI a2), (3, .one (.ptr 3 0)), (8, .one (.slc 11)), (9, aI i71), (10, aI v74), (12, aD (.slice tI) a1), (13, aI (List.length a1 : Int)), (14, aI i71), (26, aB true)]) (L' := [(3, .one (.pair tI (.pair tI (.slice (.slice (.pair tI (.pair tI tI)))))) a0), (11, .map tI tI x72)]) (by kernel_rfl) (by kernel_rfl) ?_
          exact exQ_mk (by kernel_rfl) (by kernel_rfl)
        · replace h := ofF h79 h
          refine WO_run (j := 8) (k := 5) (orcs := [(6, .known false), (8, .known false), (10, .known false), (12, .known false), (15, .val (.dat .bool false))]) (kF := [2, 3, 8, 9, 10, 12, 13, 14, 26]) (kL := [3, 11]) (fr' := [(2, aI a2), (3, .one (.ptr 3 0)), (8, .one (.slc 11)), (9, aI i71), (10, aI v74), (12, aD (.slice tI) a1), (13, aI (List.length a1 : Int)), (14, aI i71), (26, aB (decide (v74 ≥ a0.2.1)))]) (L' := [(3, .one (.pair tI (.pair tI (.slice (.slice (.pair tI (.pair tI tI)))))) a0), (11, .map tI tI x72)]) (obs := [((decide (v74 < (0 : Int))) = false), ((decide (v74 < (0 : Int))) = false), ((decide (v74 < (0 : Int))) = false), ((decide (v74 < (0 : Int))) = false), ((decide (v74 < (0 : Int))) = false)]) rfl (by kernel_rfl) (allP2 h79 (allP2 h79 (allP2 h79 (allP2 h79 (allP1 h79))))) ?_
          obtain rfl := Option.some.inj h
          refine WO_fin [2, 3, 8, 9, 10, 12, 13, 14, 26] [3, 11] (fr' := [(2, aI a2), (3, .one (.ptr 3 0)), (8, .one (.slc 11)), (9, aI i71), (10, aI v74), (12, aD (.slice tI) a1), (13, aI (List.length a1 : Int)), (14, aI i71), (26, aB (decide (v74 ≥ a0.2.1)))]) (L' := [(3, .one (.pair tI (.pair tI (.slice (.slice (.pair tI (.pair tI tI)))))) a0), (11, .map tI tI x72)]) (by kernel_rfl) (by kernel_rfl) ?_
          exact exQ_mk (by kernel_rfl) (by kernel_rfl)
      · intro e fr L hJ
        obtain ⟨rfl, rfl, rfl⟩ := hJ
        refine LT_keep [2, 3, 8, 9, 10, 12, 13, 14, 26] [3, 11] (fr' := [(2, aI a2), (3, .one (.ptr 3 0)), (8, .one (.slc 11)), (9, aI i71), (10, aI v74), (12, aD (.slice tI) a1), (13, aI (List.length a1 : Int)), (14, aI i71), (26, aB v80)]) (L' := [(3, .one (.pair tI (.pair tI (.slice (.slice (.pair tI (.pair tI tI)))))) a0), (11, .map tI tI x72)]) (by kernel_rfl) ?_
        refine seqQ_norm ?_
        refine W_cond (o := .tmp 26) (b := v80) (by kernel_rfl) (by kernel_rfl) (fun h82 => ?_) (fun h82 => ?_)
        · replace h := ofT h82 h
          refine W_seq (by kernel_rfl) ?_
          refine W_run 2 [] [6, 7] [] (fr' := [(6, .one (.nilM)), (7, aB false)]) (L' := []) (obs := []) (by kernel_rfl) (by kernel_rfl) (by kernel_rfl) allP0 ?_
          refine seqQ_norm ?_
          obtain rfl := Option.some.inj h
          refine W_mineM 6 11 tI tI (by kernel_rfl) ?_
          refine W_ret [6, 7] [11] (fr' := [(6, .one (.slc 11)), (7, aB false)]) (L' := [(11, .map tI tI (none : Option (List (Int × Int))))]) (by kernel_rfl) (by kernel_rfl) ?_
          refine seqQ_ret ?_
          refine blockQ_ret ?_
          refine seqQ_ret ?_
          refine round_ret ?_
          refine escQ_ret ?_
          exact exQ_mk (by kernel_rfl) (by kernel_rfl)
        · replace h := ofF h82 h
          refine W_skip [2, 3, 8, 9, 10, 12, 13, 14] [3, 11] (fr' := [(2, aI a2), (3, .one (.ptr 3 0)), (8, .one (.slc 11)), (9, aI i71), (10, aI v74), (12, aD (.slice tI) a1), (13, aI (List.length a1 : Int)), (14, aI i71)]) (L' := [(3, .one (.pair tI (.pair tI (.slice (.slice (.pair tI (.pair tI tI)))))) a0), (11, .map tI tI x72)]) (by kernel_rfl) (by kernel_rfl) ?_
          refine seqQ_norm ?_
          refine W_region (by kernel_rfl) ?_
          refine WO_run (j := 5) (k := 5) (orcs := []) (kF := [2, 3, 8, 12, 13, 14, 27, 30, 31]) (kL := [3, 11]) (fr' := [(2, aI a2), (3, .one (.ptr 3 0)), (8, .one (.slc 11)), (12, aD (.slice tI) a1), (13, aI (List.length a1 : Int)), (14, aI i71), (27, .one (.slc 11)), (30, aI (w64 (a2 + i71))), (31, aI v74)]) (L' := [(3, .one (.pair tI (.pair tI (.slice (.slice (.pair tI (.pair tI tI)))))) a0), (11, .map tI tI x72)]) (obs := []) rfl (by kernel_rfl) allP0 ?_
          obtain ⟨r83, h84, h⟩ := bind_of h
          refine WO_lend [(1000, 11)] (us := [none, none, none]) (d := 32) (p := True) (j := 6) rfl ⟨by kernel_rfl, by kernel_rfl, by kernel_rfl⟩ trivial (tape_Tape_Put_ok h84) (by kernel_rfl) (by kernel_rfl) ?_
          refine WO_fin [2, 3, 8, 12, 13, 14] [3, 11] (fr' := [(2, aI a2), (3, .one (.ptr 3 0)), (8, .one (.slc 11)), (12, aD (.slice tI) a1), (13, aI (List.length a1 : Int)), (14, aI i71)]) (L' := [(3, .one (.pair tI (.pair tI (.slice (.slice (.pair tI (.pair tI tI)))))) a0), (11, .map tI tI r83)]) (by kernel_rfl) (by kernel_rfl) ?_
          refine blockQ_norm ?_
          refine seqQ_norm ?_
          obtain rfl := Option.some.inj h
          refine W_run 2 [] [2, 3, 8, 12, 13, 14] [3, 11] (fr' := [(2, aI a2), (3, .one (.ptr 3 0)), (8, .one (.slc 11)), (12, aD (.slice tI) a1), (13, aI (List.length a1 : Int)), (14, aI (w64 (i71 + (1 : Int))))]) (L' := [(3, .one (.pair tI (.pair tI (.slice (.slice (.pair tI (.pair tI tI)))))) a0), (11, .map tI tI r83)]) (obs := []) (by kernel_rfl) (by kernel_rfl) (by kernel_rfl) allP0 ?_
          exact round_next' (by kernel_rfl) (by kernel_rfl)
    · obtain rfl := stepL_false h76 h
      refine W_exit (id := 0) [8] [11] (fr' := [(8, .one (.slc 11))]) (L' := [(11, .map tI tI x72)]) (by kernel_rfl) (by kernel_rfl) ?_
      refine seqQ_exit ?_
      refine round_exit ?_
      refine escQ_brk ?_
      exact exQ_mk (by kernel_rfl) (by kernel_rfl)
  · intro e fr L hJ
    rcases v86 with v91 | v92
    · obtain ⟨rfl, rfl, rfl⟩ := hJ
      obtain rfl := Option.some.inj h
      refine LT_keep [6, 7] [11] (fr' := [(6, .one (.slc 11)), (7, aB v91.2)]) (L' := [(11, .map tI tI v91.1)]) (by kernel_rfl) ?_
      refine blockQ_ret ?_
      refine seqQ_ret ?_
      exact retQ_mk (by kernel_rfl) (by kernel_rfl) (by kernel_rfl)
    · obtain ⟨rfl, rfl, rfl⟩ := hJ
      refine LT_keep [8] [11] (fr' := [(8, .one (.slc 11))]) (L' := [(11, .map tI tI v92)]) (by kernel_rfl) ?_
      refine blockQ_hit ?_
      refine seqQ_norm ?_
      refine W_seq (by kernel_rfl) ?_
      refine W_run 3 [] [6, 7] [11] (fr' := [(6, .one (.slc 11)), (7, aB true)]) (L' := [(11, .map tI tI v92)]) (obs := []) (by kernel_rfl) (by kernel_rfl) (by kernel_rfl) allP0 ?_
      refine seqQ_norm ?_
      obtain rfl := Option.some.inj h
      refine W_ret [6, 7] [11] (fr' := [(6, .one (.slc 11)), (7, aB true)]) (L' := [(11, .map tI tI v92)]) (by kernel_rfl) (by kernel_rfl) ?_
      exact retQ_mk (by kernel_rfl) (by kernel_rfl) (by kernel_rfl)

noncomputable def tape_Step (a0 : (Int × (Int × (List (List (Int × (Int × Int))))))) (a2 : Int) (a3 : Int) (c0 : (Option (List (Int × Int)))) : Option (Int × Int × (Option (List (Int × Int)))) :=
(idx a0.2.2 a2).bind fun v1 =>
(idx v1 (Option.getD (mGet (deqT tI) (Option.getD c0 []) a3) (0 : Int))).bind fun v3 =>
(tape_Tape_Put a3 v3.1 c0).bind fun r5 =>
some (v3.2.2, w64 (a3 + v3.2.1), r5)
theorem tape_Step_ok {a0 : (Int × (Int × (List (List (Int × (Int × Int))))))} {a2 : Int} {a3 : Int} {c0 : (Option (List (Int × Int)))} {r : (Int × Int × (Option (List (Int × Int))))} (h : tape_Step a0 a2 a3 c0 = some r) : FnC Try.prog 67 [aD (.pair tI (.pair tI (.slice (.slice (.pair tI (.pair tI tI)))))) a0, .one (.slc 1000), aI a2, aI a3] [(1000, .map tI tI c0)] (.tup [.dat tI r.1, .dat tI r.2.1]) [(1000, .map tI tI r.2.2)] := by
  refine fnC_of_W (B := bodyOf Try.f67) (n := 32) Try.func67 (by kernel_rfl) (by kernel_rfl) (by kernel_rfl) (by kernel_rfl) (by kernel_rfl) ?_
  intro K
  refine W_seq (by kernel_rfl) ?_
  refine W_run 3 [] [1, 2, 3, 4] [1000, 4] (fr' := [(1, .one (.slc 1000)), (2, aI a2), (3, aI a3), (4, .one (.ptr 4 0))]) (L' := [(1000, .map tI tI c0), (4, .one (.pair tI (.pair tI (.slice (.slice (.pair tI (.pair tI tI)))))) a0)]) (obs := []) (by kernel_rfl) (by kernel_rfl) (by kernel_rfl) allP0 ?_
  refine seqQ_norm ?_
  refine W_seq (by kernel_rfl) ?_
  obtain ⟨v1, h2, h⟩ := bind_of h
  obtain ⟨v3, h4, h⟩ := bind_of h
  refine W_drawC5 11 [] [(10, 10, .one (.pair tI (.pair tI tI)) ((0 : Int), (0 : Int), (0 : Int)))] [(10, .one (.ptr 10 0))] [(7, .val (.dat (.slice (.pair tI (.pair tI tI))) v1)), (17, .val (.dat (.pair tI (.pair tI tI)) v3))] [] [1, 3, 10, 20] [4, 10, 1000] (out := [(11, .one (.ptr 4 2)), (12, aD (.slice (.slice (.pair tI (.pair tI tI)))) a0.2.2), (13, aI a2), (14, .one (.dptr (.slice (.pair tI (.pair tI tI))) v1)), (15, aD (.slice (.pair tI (.pair tI tI))) v1), (16, .one (.slc 1000)), (17, aI a3), (18, aI (Option.getD (mGet (deqT tI) (Option.getD c0 []) a3) (0 : Int))), (19, .one (.dptr (.pair tI (.pair tI tI)) v3)), (20, aD (.pair tI (.pair tI tI)) v3), (10, .one (.ptr 10 0))]) (obs := [Idx a0.2.2 a2 v1, Idx v1 (Option.getD (mGet (deqT tI) (Option.getD c0 []) a3) (0 : Int)) v3]) (calls := []) (fr' := [(1, .one (.slc 1000)), (3, aI a3), (10, .one (.ptr 10 0)), (20, aD (.pair tI (.pair tI tI)) v3)]) (L' := [(4, .one (.pair tI (.pair tI (.slice (.slice (.pair tI (.pair tI tI)))))) a0), (10, .one (.pair tI (.pair tI tI)) ((0 : Int), (0 : Int), (0 : Int))), (1000, .map tI tI c0)]) (by kernel_rfl) (by kernel_rfl) (by kernel_rfl) (by kernel_rfl) (by kernel_rfl) (allP2 (Idx.of h2) (allP1 (Idx.of h4))) allD0 chNil (mkDo (ty := true) (av := .one (.ptr 10 0)) (p := True) (by kernel_rfl) trivial (by kernel_rfl) mkNil) (by kernel_rfl) ?_
  refine WO_run (j := 12) (k := 1) (orcs := []) (kF := [1, 3, 10]) (kL := [4, 10, 1000]) (fr' := [(1, .one (.slc 1000)), (3, aI a3), (10, .one (.ptr 10 0))]) (L' := [(4, .one (.pair tI (.pair tI (.slice (.slice (.pair tI (.pair tI tI)))))) a0), (10, .one (.pair tI (.pair tI tI)) v3), (1000, .map tI tI c0)]) (obs := [True]) rfl (by kernel_rfl) (allP1 trivial) ?_
  refine WO_fin [1, 3, 10] [1000, 10] (fr' := [(1, .one (.slc 1000)), (3, aI a3), (10, .one (.ptr 10 0))]) (L' := [(1000, .map tI tI c0), (10, .one (.pair tI (.pair tI tI)) v3)]) (by kernel_rfl) (by kernel_rfl) ?_
  refine ⟨rfl, ?_⟩
  refine seqQ_norm ?_
  refine W_seq (by kernel_rfl) ?_
  refine W_region (by kernel_rfl) ?_
  refine WO_run (j := 4) (k := 4) (orcs := []) (kF := [3, 10, 21, 22, 24]) (kL := [10, 1000]) (fr' := [(3, aI a3), (10, .one (.ptr 10 0)), (21, .one (.slc 1000)), (22, aI a3), (24, aI v3.1)]) (L' := [(10, .one (.pair tI (.pair tI tI)) v3), (1000, .map tI tI c0)]) (obs := []) rfl (by kernel_rfl) allP0 ?_
  obtain ⟨r5, h6, h⟩ := bind_of h
  refine WO_lend [(1000, 1000)] (us := [none, none, none]) (d := 25) (p := True) (j := 5) rfl ⟨by kernel_rfl, by kernel_rfl, by kernel_rfl⟩ trivial (tape_Tape_Put_ok h6) (by kernel_rfl) (by kernel_rfl) ?_
  refine WO_fin [3, 10] [10, 1000] (fr' := [(3, aI a3), (10, .one (.ptr 10 0))]) (L' := [(10, .one (.pair tI (.pair tI tI)) v3), (1000, .map tI tI r5)]) (by kernel_rfl) (by kernel_rfl) ?_
  refine seqQ_norm ?_
  refine W_seq (by kernel_rfl) ?_
  refine W_draw2 7 [] [] [8, 9] [1000] (fr' := [(8, aI v3.2.2), (9, aI (w64 (a3 + v3.2.1)))]) (L' := [(1000, .map tI tI r5)]) (out := [(26, .one (.ptr 10 2)), (27, aI v3.2.2), (28, aI a3), (29, .one (.ptr 10 1)), (30, aI v3.2.1), (31, aI (w64 (a3 + v3.2.1))), (8, aI v3.2.2)]) (obs := []) (obs2 := []) (calls := []) (by kernel_rfl) (by kernel_rfl) (by kernel_rfl) (by kernel_rfl) allP0 allC0 (by kernel_rfl) allP0 ?_
  refine seqQ_norm ?_
  obtain rfl := Option.some.inj h
  refine W_ret [8, 9] [1000] (fr' := [(8, aI v3.2.2), (9, aI (w64 (a3 + v3.2.1)))]) (L' := [(1000, .map tI tI r5)]) (by kernel_rfl) (by kernel_rfl) ?_
  exact retQ_mk (by kernel_rfl) (by kernel_rfl) (by kernel_rfl)

noncomputable def tape_now_b1 (p12 : Int × Int) (x14 : (Int × Int)) : Option (Int × Int) :=
some (imin x14.1 p12.1, imax x14.2 p12.1)
@[reducible] noncomputable def tape_now_s2 (a1 : Int) (a2 : Int) (bm3 : Nat) (bi4 : Nat) (ck5 : Nat) (es6 : Array MapEntry) (sn8 : Array Nat) (v : (Int × Int)) : Fr × LL := ([(0, .one (.slc 1000)), (1, aI a1), (2, aI a2), (6, .one (.ptr 6 0)), (7, aI v.1), (8, aI v.2), (15, .one (.ptr 15 0))], [(6, .cells [.dat tI (0 : Int), .dat tI (0 : Int), .dat tI (0 : Int), .nilS]), (1000, .raw bm3 (.map es6 ck5)), (15, .raw bi4 (.mapIter (some bm3) ck5 sn8 ck5))])
@[reducible] noncomputable def tape_now_s3 (a1 : Int) (a2 : Int) (l1 : List (Int × Int)) (v : (Int × Int)) : Fr × LL := ([(0, .one (.slc 1000)), (1, aI a1), (2, aI a2), (6, .one (.ptr 6 0)), (7, aI v.1), (8, aI v.2)], [(6, .cells [.dat tI (0 : Int), .dat tI (0 : Int), .dat tI (0 : Int), .nilS]), (1000, .map tI tI (some l1 : Option (List (Int × Int))))])
noncomputable def tape_now_b4 (l1 : List (Int × Int)) (v15 : (Int × Int)) (x20 : (Int × (List Int))) : Option (Flow (Int × (List Int)) (List Int)) :=
bif decide (x20.1 ≤ v15.2) then
((ck ((List.length x20.2 : Int) + 1 ≤ 4294967296)).bind fun _ =>
some (.next (w64 (x20.1 + (1 : Int)), x20.2 ++ [Option.getD (mGet (deqT tI) (Option.getD (some l1 : Option (List (Int × Int))) []) x20.1) (0 : Int)])))
else
(some (.done x20.2))
@[reducible] noncomputable def tape_now_s5 (a1 : Int) (a2 : Int) (l1 : List (Int × Int)) (v15 : (Int × Int)) (v : (Int × (List Int))) : Fr × LL := ([(0, .one (.slc 1000)), (6, .one (.ptr 6 0)), (8, aI v15.2), (10, .one (.ptr 10 0)), (11, aI v.1)], [(6, .cells [.dat tI (0 : Int), .dat tI (0 : Int), .dat tI (0 : Int), .nilS]), (10, .cells [.dat tI a1, .dat tI a2, .dat tI v15.1, .slc 42]), (1000, .map tI tI (some l1 : Option (List (Int × Int)))), (42, .seq tI v.2)])
@[reducible] noncomputable def tape_now_s6 (a1 : Int) (a2 : Int) (l1 : List (Int × Int)) (v15 : (Int × Int)) (v : (List Int)) : Fr × LL := ([(6, .one (.ptr 6 0)), (10, .one (.ptr 10 0))], [(6, .cells [.dat tI (0 : Int), .dat tI (0 : Int), .dat tI (0 : Int), .nilS]), (10, .cells [.dat tI a1, .dat tI a2, .dat tI v15.1, .slc 42]), (1000, .map tI tI (some l1 : Option (List (Int × Int)))), (42, .seq tI v)])
noncomputable def tape_now (fuel : Nat) (a1 : Int) (a2 : Int) (c0 : (Option (List (Int × Int)))) : Option ((Int × (Int × (Int × (List Int)))) × (Option (List (Int × Int)))) :=
(c0).bind fun l1 =>
(rangeM tape_now_b1 l1 (a2, a2)).bind fun v15 =>
(iter (tape_now_b4 l1 v15) fuel (v15.1, [])).bind fun v25 =>
some ((a1, a2, v15.1, v25), (some l1 : Option (List (Int × Int))))
theorem tape_now_ok {fuel : Nat} {a1 : Int} {a2 : Int} {c0 : (Option (List (Int × Int)))} {r : ((Int × (Int × (Int × (List Int)))) × (Option (List (Int × Int))))} (h : tape_now fuel a1 a2 c0 = some r) : FnC Try.prog 104 [.one (.slc 1000), aI a1, aI a2] [(1000, .map tI tI c0)] (aD (.pair tI (.pair tI (.pair tI (.slice tI)))) r.1) [(1000, .map tI tI r.2)] := by
  refine fnC_of_W (B := bodyOf Try.f104) (n := 45) Try.func104 (by kernel_rfl) (by kernel_rfl) (by kernel_rfl) (by kernel_rfl) (by kernel_rfl) ?_
  intro K
  refine W_seq (by kernel_rfl) ?_
  refine W_run 1 [] [0, 1, 2, 6] [1000, 6] (fr' := [(0, .one (.slc 1000)), (1, aI a1), (2, aI a2), (6, .one (.ptr 6 0))]) (L' := [(1000, .map tI tI c0), (6, .cells [.dat tI (0 : Int), .dat tI (0 : Int), .dat tI (0 : Int), .nilS])]) (obs := []) (by kernel_rfl) (by kernel_rfl) (by kernel_rfl) allP0 ?_
  refine seqQ_norm ?_
  refine W_seq (by kernel_rfl) ?_
  refine W_run 4 [] [0, 1, 2, 6, 7, 8] [1000, 6] (fr' := [(0, .one (.slc 1000)), (1, aI a1), (2, aI a2), (6, .one (.ptr 6 0)), (7, aI a2), (8, aI a2)]) (L' := [(1000, .map tI tI c0), (6, .cells [.dat tI (0 : Int), .dat tI (0 : Int), .dat tI (0 : Int), .nilS])]) (obs := []) (by kernel_rfl) (by kernel_rfl) (by kernel_rfl) allP0 ?_
  refine seqQ_norm ?_
  refine W_seq (by kernel_rfl) ?_
  refine W_seq (by kernel_rfl) ?_
  obtain ⟨l1, h2, h⟩ := bind_of h
  refine W_region (by kernel_rfl) ?_
  refine WO_run (j := 1) (k := 1) (orcs := []) (kF := [0, 1, 2, 6, 7, 8, 14]) (kL := [6, 1000]) (fr' := [(0, .one (.slc 1000)), (1, aI a1), (2, aI a2), (6, .one (.ptr 6 0)), (7, aI a2), (8, aI a2), (14, .one (.slc 1000))]) (L' := [(6, .cells [.dat tI (0 : Int), .dat tI (0 : Int), .dat tI (0 : Int), .nilS]), (1000, .map tI tI c0)]) (obs := []) rfl (by kernel_rfl) allP0 ?_
  refine WO_range (d := 15) (s := 1000) (k := tI) (v := tI) (m := c0) (l := l1) (j := 2) rfl (by kernel_rfl) h2 (fun bm3 bi4 es6 ck5 h7 => ?_)
  refine WO_fin [0, 1, 2, 6, 7, 8, 15] [1000, 6, 15] (fr' := [(0, .one (.slc 1000)), (1, aI a1), (2, aI a2), (6, .one (.ptr 6 0)), (7, aI a2), (8, aI a2), (15, .one (.ptr 15 0))]) (L' := [(1000, .raw bm3 (.map es6 ck5)), (6, .cells [.dat tI (0 : Int), .dat tI (0 : Int), .dat tI (0 : Int), .nilS]), (15, .raw bi4 (.mapIter (some bm3) ck5 #[] ck5))]) (by kernel_rfl) (by kernel_rfl) ?_
  refine seqQ_norm ?_
  refine W_block (id := 0) (by kernel_rfl) ?_
  obtain ⟨v15, h16, h⟩ := bind_of h
  refine W_weaken [0, 1, 2, 6, 7, 8, 15] [6, 1000, 15] (fr' := ((fun v sn8 => (tape_now_s2 a1 a2 bm3 bi4 ck5 es6 sn8) v) (a2, a2) #[]).1) (L' := ((fun v sn8 => (tape_now_s2 a1 a2 bm3 bi4 ck5 es6 sn8) v) (a2, a2) #[]).2) (by kernel_rfl) ?_
  refine W_cutK (W_rloop (k := tI) (v := tI) (bm := bm3) (b := tape_now_b1) (x0 := (a2, a2)) (S := (fun v sn8 => (tape_now_s2 a1 a2 bm3 bi4 ck5 es6 sn8) v)) (J := (exQ (.exit 0) (tape_now_s3 a1 a2 l1)) v15) (t := 15) (it := 15) (s := 1000) (dn := 16) (dx := 17) (id := 0) (bi := bi4) (by kernel_rfl) (by kernel_rfl) (fun _ _ => by kernel_rfl) (fun _ _ => by kernel_rfl) (fun _ _ => by kernel_rfl) h7 h16 ?_ ?_) ?_
  · intro p12 x14 h17 sn8 e9 h10 h11 h
    refine W_block (id := 1) (by kernel_rfl) ?_
    refine W_seq (by kernel_rfl) ?_
    refine W_region (by kernel_rfl) ?_
    refine WO_entry (d := 18) (it := 15) (s := 1000) (bi := bi4) (bm := bm3) (ck := ck5) (es := es6) (sn := sn8) (e := e9) (k := tI) (v := tI) (l := l1) (p := p12) (j := 1) rfl (by kernel_rfl) (by kernel_rfl) (by kernel_rfl) h7 h10 h11 ?_
    refine WO_run (j := 3) (k := 2) (orcs := []) (kF := [0, 1, 2, 6, 7, 8, 9, 15]) (kL := [6, 15, 1000]) (fr' := [(0, .one (.slc 1000)), (1, aI a1), (2, aI a2), (6, .one (.ptr 6 0)), (7, aI x14.1), (8, aI x14.2), (9, aI p12.1), (15, .one (.ptr 15 0))]) (L' := [(6, .cells [.dat tI (0 : Int), .dat tI (0 : Int), .dat tI (0 : Int), .nilS]), (15, .raw bi4 (.mapIter (some bm3) ck5 (Array.push sn8 (MapEntry.born e9)) ck5)), (1000, .raw bm3 (.map es6 ck5))]) (obs := []) rfl (by kernel_rfl) allP0 ?_
    refine WO_fin [0, 1, 2, 6, 7, 8, 9, 15] [1000, 6, 15] (fr' := [(0, .one (.slc 1000)), (1, aI a1), (2, aI a2), (6, .one (.ptr 6 0)), (7, aI x14.1), (8, aI x14.2), (9, aI p12.1), (15, .one (.ptr 15 0))]) (L' := [(1000, .raw bm3 (.map es6 ck5)), (6, .cells [.dat tI (0 : Int), .dat tI (0 : Int), .dat tI (0 : Int), .nilS]), (15, .raw bi4 (.mapIter (some bm3) ck5 (Array.push sn8 (MapEntry.born e9)) ck5))]) (by kernel_rfl) (by kernel_rfl) ?_
    refine seqQ_norm ?_
    obtain rfl := Option.some.inj h
    refine W_run 8 [] [0, 1, 2, 6, 7, 8, 15] [6, 1000, 15] (fr' := [(0, .one (.slc 1000)), (1, aI a1), (2, aI a2), (6, .one (.ptr 6 0)), (7, aI (imin x14.1 p12.1)), (8, aI (imax x14.2 p12.1)), (15, .one (.ptr 15 0))]) (L' := [(6, .cells [.dat tI (0 : Int), .dat tI (0 : Int), .dat tI (0 : Int), .nilS]), (1000, .raw bm3 (.map es6 ck5)), (15, .raw bi4 (.mapIter (some bm3) ck5 (Array.push sn8 (MapEntry.born e9)) ck5))]) (obs := []) (by kernel_rfl) (by kernel_rfl) (by kernel_rfl) allP0 ?_
    refine blockQ_norm ?_
    exact rangeQ_mk (by kernel_rfl) (by kernel_rfl)
  · intro sn8
    refine LT_keep [0, 1, 2, 6, 7, 8] [6, 1000] (fr' := [(0, .one (.slc 1000)), (1, aI a1), (2, aI a2), (6, .one (.ptr 6 0)), (7, aI v15.1), (8, aI v15.2)]) (L' := [(6, .cells [.dat tI (0 : Int), .dat tI (0 : Int), .dat tI (0 : Int), .nilS]), (1000, .map tI tI (some l1 : Option (List (Int × Int))))]) (by kernel_rfl) ?_
    exact exQ_mk (by kernel_rfl) (by kernel_rfl)
  · intro e fr L hJ
    obtain ⟨rfl, rfl, rfl⟩ := hJ
    refine LT_keep [0, 1, 2, 6, 7, 8] [1000, 6] (fr' := [(0, .one (.slc 1000)), (1, aI a1), (2, aI a2), (6, .one (.ptr 6 0)), (7, aI v15.1), (8, aI v15.2)]) (L' := [(1000, .map tI tI (some l1 : Option (List (Int × Int)))), (6, .cells [.dat tI (0 : Int), .dat tI (0 : Int), .dat tI (0 : Int), .nilS])]) (by kernel_rfl) ?_
    refine blockQ_hit ?_
    refine seqQ_norm ?_
    refine W_seq (by kernel_rfl) ?_
    refine W_run 6 [(7, .val .nilP)] [0, 6, 7, 8, 10] [1000, 6, 10] (fr' := [(0, .one (.slc 1000)), (6, .one (.ptr 6 0)), (7, aI v15.1), (8, aI v15.2), (10, .one (.ptr 10 0))]) (L' := [(1000, .map tI tI (some l1 : Option (List (Int × Int)))), (6, .cells [.dat tI (0 : Int), .dat tI (0 : Int), .dat tI (0 : Int), .nilS]), (10, .cells [.dat tI a1, .dat tI a2, .dat tI v15.1, .nilS])]) (obs := [True]) (by kernel_rfl) (by kernel_rfl) (by kernel_rfl) (allP1 trivial) ?_
    refine seqQ_norm ?_
    refine W_seq (by kernel_rfl) ?_
    refine W_seq (by kernel_rfl) ?_
    refine W_run 2 [] [0, 6, 8, 10, 11] [1000, 6, 10] (fr' := [(0, .one (.slc 1000)), (6, .one (.ptr 6 0)), (8, aI v15.2), (10, .one (.ptr 10 0)), (11, aI v15.1)]) (L' := [(1000, .map tI tI (some l1 : Option (List (Int × Int)))), (6, .cells [.dat tI (0 : Int), .dat tI (0 : Int), .dat tI (0 : Int), .nilS]), (10, .cells [.dat tI a1, .dat tI a2, .dat tI v15.1, .nilS])]) (obs := []) (by kernel_rfl) (by kernel_rfl) (by kernel_rfl) allP0 ?_
    refine seqQ_norm ?_
    refine W_block (id := 2) (by kernel_rfl) ?_
    obtain ⟨v25, h26, h⟩ := bind_of h
    refine W_cellown 10 3 42 tI (by kernel_rfl) ?_
    refine W_weaken [0, 6, 8, 10, 11] [6, 10, 1000, 42] (fr' := ((tape_now_s5 a1 a2 l1 v15) (v15.1, [])).1) (L' := ((tape_now_s5 a1 a2 l1 v15) (v15.1, [])).2) (by kernel_rfl) ?_
    refine W_cutK (W_loop (S := (tape_now_s5 a1 a2 l1 v15)) (J := (exQ (.exit 2) (tape_now_s6 a1 a2 l1 v15))) (by kernel_rfl) ?_ fuel _ v25 h26) ?_
    · rintro x20 s h
      refine W_seq (by kernel_rfl) ?_
      refine W_seq (by kernel_rfl) ?_
      refine W_run 3 [] [0, 6, 8, 10, 11, 33] [1000, 6, 10, 42] (fr' := [(0, .one (.slc 1000)), (6, .one (.ptr 6 0)), (8, aI v15.2), (10, .one (.ptr 10 0)), (11, aI x20.1), (33, aB (decide (x20.1 ≤ v15.2)))]) (L' := [(1000, .map tI tI (some l1 : Option (List (Int × Int)))), (6, .cells [.dat tI (0 : Int), .dat tI (0 : Int), .dat tI (0 : Int), .nilS]), (10, .cells [.dat tI a1, .dat tI a2, .dat tI v15.1, .slc 42]), (42, .seq tI x20.2)]) (obs := []) (by kernel_rfl) (by kernel_rfl) (by kernel_rfl) allP0 ?_
      refine seqQ_norm ?_
      refine W_cond (o := .tmp 33) (b := decide (x20.1 ≤ v15.2)) (by kernel_rfl) (by kernel_rfl) (fun h23 => ?_) (fun h23 => ?_)
      · replace h := ofT h23 h
        refine W_skip [0, 6, 8, 10, 11] [1000, 6, 10, 42] (fr' := [(0, .one (.slc 1000)), (6, .one (.ptr 6 0)), (8, aI v15.2), (10, .one (.ptr 10 0)), (11, aI x20.1)]) (L' := [(1000, .map tI tI (some l1 : Option (List (Int × Int)))), (6, .cells [.dat tI (0 : Int), .dat tI (0 : Int), .dat tI (0 : Int), .nilS]), (10, .cells [.dat tI a1, .dat tI a2, .dat tI v15.1, .slc 42]), (42, .seq tI x20.2)]) (by kernel_rfl) (by kernel_rfl) ?_
        refine seqQ_norm ?_
        refine W_seq (by kernel_rfl) ?_
        refine W_block (id := 3) (by kernel_rfl) ?_
        obtain ⟨_, h24, h⟩ := bind_of h
        replace h24 := ck_some h24
        refine W_run 9 [] [0, 6, 8, 10, 11] [1000, 6, 10, 42] (fr' := [(0, .one (.slc 1000)), (6, .one (.ptr 6 0)), (8, aI v15.2), (10, .one (.ptr 10 0)), (11, aI x20.1)]) (L' := [(1000, .map tI tI (some l1 : Option (List (Int × Int)))), (6, .cells [.dat tI (0 : Int), .dat tI (0 : Int), .dat tI (0 : Int), .nilS]), (10, .cells [.dat tI a1, .dat tI a2, .dat tI v15.1, .slc 42]), (42, .seq tI (x20.2 ++ [Option.getD (mGet (deqT tI) (Option.getD (some l1 : Option (List (Int × Int))) []) x20.1) (0 : Int)]))]) (obs := [SmallLen (List.length x20.2 + List.length [Option.getD (mGet (deqT tI) (Option.getD (some l1 : Option (List (Int × Int))) []) x20.1) (0 : Int)]), True]) (by kernel_rfl) (by kernel_rfl) (by kernel_rfl) (allP2 h24 (allP1 trivial)) ?_
        refine blockQ_norm ?_
        refine seqQ_norm ?_
        obtain rfl := Option.some.inj h
        refine W_run 3 [] [0, 6, 8, 10, 11] [6, 10, 1000, 42] (fr' := [(0, .one (.slc 1000)), (6, .one (.ptr 6 0)), (8, aI v15.2), (10, .one (.ptr 10 0)), (11, aI (w64 (x20.1 + (1 : Int))))]) (L' := [(6, .cells [.dat tI (0 : Int), .dat tI (0 : Int), .dat tI (0 : Int), .nilS]), (10, .cells [.dat tI a1, .dat tI a2, .dat tI v15.1, .slc 42]), (1000, .map tI tI (some l1 : Option (List (Int × Int)))), (42, .seq tI (x20.2 ++ [Option.getD (mGet (deqT tI) (Option.getD (some l1 : Option (List (Int × Int))) []) x20.1) (0 : Int)]))]) (obs := []) (by kernel_rfl) (by kernel_rfl) (by kernel_rfl) allP0 ?_
        exact round_next' (by kernel_rfl) (by kernel_rfl)
      · replace h := ofF h23 h
        obtain rfl := Option.some.inj h
        refine W_exit (id := 2) [6, 10] [6, 10, 1000, 42] (fr' := [(6, .one (.ptr 6 0)), (10, .one (.ptr 10 0))]) (L' := [(6, .cells [.dat tI (0 : Int), .dat tI (0 : Int), .dat tI (0 : Int), .nilS]), (10, .cells [.dat tI a1, .dat tI a2, .dat tI v15.1, .slc 42]), (1000, .map tI tI (some l1 : Option (List (Int × Int)))), (42, .seq tI x20.2)]) (by kernel_rfl) (by kernel_rfl) ?_
        refine seqQ_exit ?_
        refine round_exit ?_
        exact exQ_mk (by kernel_rfl) (by kernel_rfl)
    · intro e fr L hJ
      obtain ⟨rfl, rfl, rfl⟩ := hJ
      refine LT_keep [6, 10] [6, 10, 1000, 42] (fr' := [(6, .one (.ptr 6 0)), (10, .one (.ptr 10 0))]) (L' := [(6, .cells [.dat tI (0 : Int), .dat tI (0 : Int), .dat tI (0 : Int), .nilS]), (10, .cells [.dat tI a1, .dat tI a2, .dat tI v15.1, .slc 42]), (1000, .map tI tI (some l1 : Option (List (Int × Int)))), (42, .seq tI v25)]) (by kernel_rfl) ?_
      refine blockQ_hit ?_
      refine seqQ_norm ?_
      refine W_seq (by kernel_rfl) ?_
      refine W_run 2 [] [6] [6, 1000, 42] (fr' := [(6, .one (.ptr 6 0))]) (L' := [(6, .cells [.dat tI a1, .dat tI a2, .dat tI v15.1, .slc 42]), (1000, .map tI tI (some l1 : Option (List (Int × Int)))), (42, .seq tI v25)]) (obs := [True]) (by kernel_rfl) (by kernel_rfl) (by kernel_rfl) (allP1 trivial) ?_
      refine seqQ_norm ?_
      obtain rfl := Option.some.inj h
      refine W_frz 42 (by kernel_rfl) ?_
      refine W_pack 6 (.pair tI (.pair tI (.pair tI (.slice tI)))) (by kernel_rfl) ?_
      refine W_ret [6] [6, 1000] (fr' := [(6, .one (.ptr 6 0))]) (L' := [(6, .one (.pair tI (.pair tI (.pair tI (.slice tI)))) (a1, a2, v15.1, v25)), (1000, .map tI tI (some l1 : Option (List (Int × Int))))]) (by kernel_rfl) (by kernel_rfl) ?_
      exact retQ_mk (by kernel_rfl) (by kernel_rfl) (by kernel_rfl)

@[reducible] noncomputable def tape_run_s3 (a0 : (Int × (Int × (List (List (Int × (Int × Int))))))) (a4 : Int) (x10 : (Int × Int × Int × (Option (List (Int × Int))))) (v : Bool) : Fr × LL := ([(1, .one (.slc 1000)), (2, aI x10.1), (3, aI x10.2.1), (4, aI a4), (5, .one (.ptr 5 0)), (10, .one (.ptr 10 0)), (12, aI x10.2.2.1), (21, aB v)], [(1000, .map tI tI x10.2.2.2), (5, .one (.pair tI (.pair tI (.slice (.slice (.pair tI (.pair tI tI)))))) a0), (10, .one (.pair tI (.pair tI (.pair tI (.slice tI)))) ((0 : Int), (0 : Int), (0 : Int), []))])
noncomputable def tape_run_b4 (a0 : (Int × (Int × (List (List (Int × (Int × Int))))))) (a4 : Int) (x10 : (Int × Int × Int × (Option (List (Int × Int))))) : Option (Flow (Int × Int × Int × (Option (List (Int × Int)))) (Int × Int × Int × (Option (List (Int × Int))))) :=
(bif decide (x10.2.2.1 < a4) then
(some (decide (x10.1 < a0.1)))
else
(some false)).bind fun v22 =>
bif v22 then
((tape_Step a0 x10.1 x10.2.1 x10.2.2.2).bind fun r25 =>
some (.next (r25.1, r25.2.1, w64 (x10.2.2.1 + (1 : Int)), r25.2.2)))
else
(some (.done (x10.1, x10.2.1, x10.2.2.1, x10.2.2.2)))
@[reducible] noncomputable def tape_run_s5 (a0 : (Int × (Int × (List (List (Int × (Int × Int))))))) (a4 : Int) (v : (Int × Int × Int × (Option (List (Int × Int))))) : Fr × LL := ([(1, .one (.slc 1000)), (2, aI v.1), (3, aI v.2.1), (4, aI a4), (5, .one (.ptr 5 0)), (10, .one (.ptr 10 0)), (12, aI v.2.2.1)], [(1000, .map tI tI v.2.2.2), (5, .one (.pair tI (.pair tI (.slice (.slice (.pair tI (.pair tI tI)))))) a0), (10, .one (.pair tI (.pair tI (.pair tI (.slice tI)))) ((0 : Int), (0 : Int), (0 : Int), []))])
@[reducible] noncomputable def tape_run_s6 (v : (Int × Int × Int × (Option (List (Int × Int))))) : Fr × LL := ([(1, .one (.slc 1000)), (2, aI v.1), (3, aI v.2.1), (10, .one (.ptr 10 0)), (12, aI v.2.2.1)], [(1000, .map tI tI v.2.2.2), (10, .one (.pair tI (.pair tI (.pair tI (.slice tI)))) ((0 : Int), (0 : Int), (0 : Int), []))])
noncomputable def tape_run (fuel : Nat) (a0 : (Int × (Int × (List (List (Int × (Int × Int))))))) (a2 : Int) (a3 : Int) (a4 : Int) (c0 : (Option (List (Int × Int)))) : Option ((Int × (Int × (Int × (List Int)))) × Int × (Option (List (Int × Int)))) :=
(iter (tape_run_b4 a0 a4) fuel (a2, a3, (0 : Int), c0)).bind fun v27 =>
(tape_now fuel v27.1 v27.2.1 v27.2.2.2).bind fun r31 =>
some (r31.1, v27.2.2.1, r31.2)
theorem tape_run_ok {fuel : Nat} {a0 : (Int × (Int × (List (List (Int × (Int × Int))))))} {a2 : Int} {a3 : Int} {a4 : Int} {c0 : (Option (List (Int × Int)))} {r : ((Int × (Int × (Int × (List Int)))) × Int × (Option (List (Int × Int))))} (h : tape_run fuel a0 a2 a3 a4 c0 = some r) : FnC Try.prog 96 [aD (.pair tI (.pair tI (.slice (.slice (.pair tI (.pair tI tI)))))) a0, .one (.slc 1000), aI a2, aI a3, aI a4] [(1000, .map tI tI c0)] (.tup [.dat (.pair tI (.pair tI (.pair tI (.slice tI)))) r.1, .dat tI r.2.1]) [(1000, .map tI tI r.2.2)] := by
  refine fnC_of_W (B := bodyOf Try.f96) (n := 37) Try.func96 (by kernel_rfl) (by kernel_rfl) (by kernel_rfl) (by kernel_rfl) (by kernel_rfl) ?_
  intro K
  refine W_seq (by kernel_rfl) ?_
  refine W_run 3 [(3, .typed)] [1, 2, 3, 4, 5, 10] [1000, 5, 10] (fr' := [(1, .one (.slc 1000)), (2, aI a2), (3, aI a3), (4, aI a4), (5, .one (.ptr 5 0)), (10, .one (.ptr 10 0))]) (L' := [(1000, .map tI tI c0), (5, .one (.pair tI (.pair tI (.slice (.slice (.pair tI (.pair tI tI)))))) a0), (10, .one (.pair tI (.pair tI (.pair tI (.slice tI)))) ((0 : Int), (0 : Int), (0 : Int), []))]) (obs := []) (by kernel_rfl) (by kernel_rfl) (by kernel_rfl) allP0 ?_
  refine seqQ_norm ?_
  refine W_seq (by kernel_rfl) ?_
  refine W_run 1 [] [1, 2, 3, 4, 5, 10, 12] [1000, 5, 10] (fr' := [(1, .one (.slc 1000)), (2, aI a2), (3, aI a3), (4, aI a4), (5, .one (.ptr 5 0)), (10, .one (.ptr 10 0)), (12, aI (0 : Int))]) (L' := [(1000, .map tI tI c0), (5, .one (.pair tI (.pair tI (.slice (.slice (.pair tI (.pair tI tI)))))) a0), (10, .one (.pair tI (.pair tI (.pair tI (.slice tI)))) ((0 : Int), (0 : Int), (0 : Int), []))]) (obs := []) (by kernel_rfl) (by kernel_rfl) (by kernel_rfl) allP0 ?_
  refine seqQ_norm ?_
  refine W_seq (by kernel_rfl) ?_
  refine W_block (id := 0) (by kernel_rfl) ?_
  obtain ⟨v27, h28, h⟩ := bind_of h
  refine W_weaken [1, 2, 3, 4, 5, 10, 12] [1000, 5, 10] (fr' := ((tape_run_s5 a0 a4) (a2, a3, (0 : Int), c0)).1) (L' := ((tape_run_s5 a0 a4) (a2, a3, (0 : Int), c0)).2) (by kernel_rfl) ?_
  refine W_cutK (W_loop (S := (tape_run_s5 a0 a4)) (J := (exQ (.exit 0) tape_run_s6)) (by kernel_rfl) ?_ fuel _ v27 h28) ?_
  · rintro x10 s h
    refine W_seq (by kernel_rfl) ?_
    refine W_seq (by kernel_rfl) ?_
    obtain ⟨v22, h23, h⟩ := bind_of h
    refine W_cutK (Q' := (exQ .normal (tape_run_s3 a0 a4 x10)) v22) ?_ ?_
    · replace h := h23
      refine W_region (by kernel_rfl) ?_
      refine WO_run (j := 4) (k := 4) (orcs := []) (kF := [1, 2, 3, 4, 5, 10, 12, 16]) (kL := [5, 10, 1000]) (fr' := [(1, .one (.slc 1000)), (2, aI x10.1), (3, aI x10.2.1), (4, aI a4), (5, .one (.ptr 5 0)), (10, .one (.ptr 10 0)), (12, aI x10.2.2.1), (16, aB (decide (x10.2.2.1 < a4)))]) (L' := [(5, .one (.pair tI (.pair tI (.slice (.slice (.pair tI (.pair tI tI)))))) a0), (10, .one (.pair tI (.pair tI (.pair tI (.slice tI)))) ((0 : Int), (0 : Int), (0 : Int), [])), (1000, .map tI tI x10.2.2.2)]) (obs := []) rfl (by kernel_rfl) allP0 ?_
      rcases Bool.eq_false_or_eq_true (decide (x10.2.2.1 < a4)) with h21 | h21
      · replace h := ofT h21 h
        refine WO_run (j := 9) (k := 5) (orcs := [(8, .known true), (10, .known true), (12, .known true), (14, .known true), (17, .val (.dat .bool true))]) (kF := [1, 2, 3, 4, 5, 10, 12, 21]) (kL := [5, 10, 1000]) (fr' := [(1, .one (.slc 1000)), (2, aI x10.1), (3, aI x10.2.1), (4, aI a4), (5, .one (.ptr 5 0)), (10, .one (.ptr 10 0)), (12, aI x10.2.2.1), (21, aB (decide (x10.1 < a0.1)))]) (L' := [(5, .one (.pair tI (.pair tI (.slice (.slice (.pair tI (.pair tI tI)))))) a0), (10, .one (.pair tI (.pair tI (.pair tI (.slice tI)))) ((0 : Int), (0 : Int), (0 : Int), [])), (1000, .map tI tI x10.2.2.2)]) (obs := [((decide (x10.2.2.1 < a4)) = true), ((decide (x10.2.2.1 < a4)) = true), ((decide (x10.2.2.1 < a4)) = true), ((decide (x10.2.2.1 < a4)) = true), ((decide (x10.2.2.1 < a4)) = true)]) rfl (by kernel_rfl) (allP2 h21 (allP2 h21 (allP2 h21 (allP2 h21 (allP1 h21))))) ?_
        obtain rfl := Option.some.inj h
        refine WO_fin [1, 2, 3, 4, 5, 10, 12, 21] [1000, 5, 10] (fr' := [(1, .one (.slc 1000)), (2, aI x10.1), (3, aI x10.2.1), (4, aI a4), (5, .one (.ptr 5 0)), (10, .one (.ptr 10 0)), (12, aI x10.2.2.1), (21, aB (decide (x10.1 < a0.1)))]) (L' := [(1000, .map tI tI x10.2.2.2), (5, .one (.pair tI (.pair tI (.slice (.slice (.pair tI (.pair tI tI)))))) a0), (10, .one (.pair tI (.pair tI (.pair tI (.slice tI)))) ((0 : Int), (0 : Int), (0 : Int), []))]) (by kernel_rfl) (by kernel_rfl) ?_
        exact exQ_mk (by kernel_rfl) (by kernel_rfl)
      · replace h := ofF h21 h
        refine WO_run (j := 9) (k := 5) (orcs := [(8, .known false), (10, .known false), (12, .known false), (14, .known false), (17, .val (.dat .bool false))]) (kF := [1, 2, 3, 4, 5, 10, 12, 21]) (kL := [5, 10, 1000]) (fr' := [(1, .one (.slc 1000)), (2, aI x10.1), (3, aI x10.2.1), (4, aI a4), (5, .one (.ptr 5 0)), (10, .one (.ptr 10 0)), (12, aI x10.2.2.1), (21, aB false)]) (L' := [(5, .one (.pair tI (.pair tI (.slice (.slice (.pair tI (.pair tI tI)))))) a0), (10, .one (.pair tI (.pair tI (.pair tI (.slice tI)))) ((0 : Int), (0 : Int), (0 : Int), [])), (1000, .map tI tI x10.2.2.2)]) (obs := [((decide (x10.2.2.1 < a4)) = false), ((decide (x10.2.2.1 < a4)) = false), ((decide (x10.2.2.1 < a4)) = false), ((decide (x10.2.2.1 < a4)) = false), ((decide (x10.2.2.1 < a4)) = false)]) rfl (by kernel_rfl) (allP2 h21 (allP2 h21 (allP2 h21 (allP2 h21 (allP1 h21))))) ?_
        obtain rfl := Option.some.inj h
        refine WO_fin [1, 2, 3, 4, 5, 10, 12, 21] [1000, 5, 10] (fr' := [(1, .one (.slc 1000)), (2, aI x10.1), (3, aI x10.2.1), (4, aI a4), (5, .one (.ptr 5 0)), (10, .one (.ptr 10 0)), (12, aI x10.2.2.1), (21, aB false)]) (L' := [(1000, .map tI tI x10.2.2.2), (5, .one (.pair tI (.pair tI (.slice (.slice (.pair tI (.pair tI tI)))))) a0), (10, .one (.pair tI (.pair tI (.pair tI (.slice tI)))) ((0 : Int), (0 : Int), (0 : Int), []))]) (by kernel_rfl) (by kernel_rfl) ?_
        exact exQ_mk (by kernel_rfl) (by kernel_rfl)
    · intro e fr L hJ
      obtain ⟨rfl, rfl, rfl⟩ := hJ
      refine LT_keep [1, 2, 3, 4, 5, 10, 12, 21] [1000, 5, 10] (fr' := [(1, .one (.slc 1000)), (2, aI x10.1), (3, aI x10.2.1), (4, aI a4), (5, .one (.ptr 5 0)), (10, .one (.ptr 10 0)), (12, aI x10.2.2.1), (21, aB v22)]) (L' := [(1000, .map tI tI x10.2.2.2), (5, .one (.pair tI (.pair tI (.slice (.slice (.pair tI (.pair tI tI)))))) a0), (10, .one (.pair tI (.pair tI (.pair tI (.slice tI)))) ((0 : Int), (0 : Int), (0 : Int), []))]) (by kernel_rfl) ?_
      refine seqQ_norm ?_
      refine W_cond (o := .tmp 21) (b := v22) (by kernel_rfl) (by kernel_rfl) (fun h24 => ?_) (fun h24 => ?_)
      · replace h := ofT h24 h
        refine W_skip [1, 2, 3, 4, 5, 10, 12] [1000, 5, 10] (fr' := [(1, .one (.slc 1000)), (2, aI x10.1), (3, aI x10.2.1), (4, aI a4), (5, .one (.ptr 5 0)), (10, .one (.ptr 10 0)), (12, aI x10.2.2.1)]) (L' := [(1000, .map tI tI x10.2.2.2), (5, .one (.pair tI (.pair tI (.slice (.slice (.pair tI (.pair tI tI)))))) a0), (10, .one (.pair tI (.pair tI (.pair tI (.slice tI)))) ((0 : Int), (0 : Int), (0 : Int), []))]) (by kernel_rfl) (by kernel_rfl) ?_
        refine seqQ_norm ?_
        refine W_seq (by kernel_rfl) ?_
        refine W_block (id := 1) (by kernel_rfl) ?_
        refine W_region (by kernel_rfl) ?_
        refine WO_run (j := 4) (k := 4) (orcs := []) (kF := [1, 2, 3, 4, 5, 10, 12, 25, 26, 27, 28]) (kL := [5, 10, 1000]) (fr' := [(1, .one (.slc 1000)), (2, aI x10.1), (3, aI x10.2.1), (4, aI a4), (5, .one (.ptr 5 0)), (10, .one (.ptr 10 0)), (12, aI x10.2.2.1), (25, aD (.pair tI (.pair tI (.slice (.slice (.pair tI (.pair tI tI)))))) a0), (26, .one (.slc 1000)), (27, aI x10.1), (28, aI x10.2.1)]) (L' := [(5, .one (.pair tI (.pair tI (.slice (.slice (.pair tI (.pair tI tI)))))) a0), (10, .one (.pair tI (.pair tI (.pair tI (.slice tI)))) ((0 : Int), (0 : Int), (0 : Int), [])), (1000, .map tI tI x10.2.2.2)]) (obs := []) rfl (by kernel_rfl) allP0 ?_
        obtain ⟨r25, h26, h⟩ := bind_of h
        refine WO_lend [(1000, 1000)] (us := [none, none, none, none]) (d := 29) (p := True) (j := 5) rfl ⟨by kernel_rfl, by kernel_rfl, by kernel_rfl⟩ trivial (tape_Step_ok h26) (by kernel_rfl) (by kernel_rfl) ?_
        refine WO_run (j := 10) (k := 5) (orcs := []) (kF := [1, 2, 3, 4, 5, 10, 12]) (kL := [5, 10, 1000]) (fr' := [(1, .one (.slc 1000)), (2, aI r25.1), (3, aI r25.2.1), (4, aI a4), (5, .one (.ptr 5 0)), (10, .one (.ptr 10 0)), (12, aI x10.2.2.1)]) (L' := [(5, .one (.pair tI (.pair tI (.slice (.slice (.pair tI (.pair tI tI)))))) a0), (10, .one (.pair tI (.pair tI (.pair tI (.slice tI)))) ((0 : Int), (0 : Int), (0 : Int), [])), (1000, .map tI tI r25.2.2)]) (obs := []) rfl (by kernel_rfl) allP0 ?_
        refine WO_fin [1, 2, 3, 4, 5, 10, 12] [1000, 5, 10] (fr' := [(1, .one (.slc 1000)), (2, aI r25.1), (3, aI r25.2.1), (4, aI a4), (5, .one (.ptr 5 0)), (10, .one (.ptr 10 0)), (12, aI x10.2.2.1)]) (L' := [(1000, .map tI tI r25.2.2), (5, .one (.pair tI (.pair tI (.slice (.slice (.pair tI (.pair tI tI)))))) a0), (10, .one (.pair tI (.pair tI (.pair tI (.slice tI)))) ((0 : Int), (0 : Int), (0 : Int), []))]) (by kernel_rfl) (by kernel_rfl) ?_
        refine blockQ_norm ?_
        refine seqQ_norm ?_
        obtain rfl := Option.some.inj h
        refine W_run 3 [] [1, 2, 3, 4, 5, 10, 12] [1000, 5, 10] (fr' := [(1, .one (.slc 1000)), (2, aI r25.1), (3, aI r25.2.1), (4, aI a4), (5, .one (.ptr 5 0)), (10, .one (.ptr 10 0)), (12, aI (w64 (x10.2.2.1 + (1 : Int))))]) (L' := [(1000, .map tI tI r25.2.2), (5, .one (.pair tI (.pair tI (.slice (.slice (.pair tI (.pair tI tI)))))) a0), (10, .one (.pair tI (.pair tI (.pair tI (.slice tI)))) ((0 : Int), (0 : Int), (0 : Int), []))]) (obs := []) (by kernel_rfl) (by kernel_rfl) (by kernel_rfl) allP0 ?_
        exact round_next' (by kernel_rfl) (by kernel_rfl)
      · replace h := ofF h24 h
        obtain rfl := Option.some.inj h
        refine W_exit (id := 0) [1, 2, 3, 10, 12] [1000, 10] (fr' := [(1, .one (.slc 1000)), (2, aI x10.1), (3, aI x10.2.1), (10, .one (.ptr 10 0)), (12, aI x10.2.2.1)]) (L' := [(1000, .map tI tI x10.2.2.2), (10, .one (.pair tI (.pair tI (.pair tI (.slice tI)))) ((0 : Int), (0 : Int), (0 : Int), []))]) (by kernel_rfl) (by kernel_rfl) ?_
        refine seqQ_exit ?_
        refine round_exit ?_
        exact exQ_mk (by kernel_rfl) (by kernel_rfl)
  · intro e fr L hJ
    obtain ⟨rfl, rfl, rfl⟩ := hJ
    refine LT_keep [1, 2, 3, 10, 12] [1000, 10] (fr' := [(1, .one (.slc 1000)), (2, aI v27.1), (3, aI v27.2.1), (10, .one (.ptr 10 0)), (12, aI v27.2.2.1)]) (L' := [(1000, .map tI tI v27.2.2.2), (10, .one (.pair tI (.pair tI (.pair tI (.slice tI)))) ((0 : Int), (0 : Int), (0 : Int), []))]) (by kernel_rfl) ?_
    refine blockQ_hit ?_
    refine seqQ_norm ?_
    refine W_seq (by kernel_rfl) ?_
    refine W_region (by kernel_rfl) ?_
    refine WO_run (j := 3) (k := 3) (orcs := []) (kF := [10, 12, 32, 33, 34]) (kL := [10, 1000]) (fr' := [(10, .one (.ptr 10 0)), (12, aI v27.2.2.1), (32, .one (.slc 1000)), (33, aI v27.1), (34, aI v27.2.1)]) (L' := [(10, .one (.pair tI (.pair tI (.pair tI (.slice tI)))) ((0 : Int), (0 : Int), (0 : Int), [])), (1000, .map tI tI v27.2.2.2)]) (obs := []) rfl (by kernel_rfl) allP0 ?_
    obtain ⟨r31, h32, h⟩ := bind_of h
    refine WO_lend [(1000, 1000)] (us := [none, none, none]) (d := 35) (p := True) (j := 4) rfl ⟨by kernel_rfl, by kernel_rfl, by kernel_rfl⟩ trivial (tape_now_ok h32) (by kernel_rfl) (by kernel_rfl) ?_
    refine WO_run (j := 7) (k := 3) (orcs := []) (kF := [10, 11]) (kL := [10, 1000]) (fr' := [(10, .one (.ptr 10 0)), (11, aI v27.2.2.1)]) (L' := [(10, .one (.pair tI (.pair tI (.pair tI (.slice tI)))) r31.1), (1000, .map tI tI r31.2)]) (obs := [True]) rfl (by kernel_rfl) (allP1 trivial) ?_
    refine WO_fin [10, 11] [10, 1000] (fr' := [(10, .one (.ptr 10 0)), (11, aI v27.2.2.1)]) (L' := [(10, .one (.pair tI (.pair tI (.pair tI (.slice tI)))) r31.1), (1000, .map tI tI r31.2)]) (by kernel_rfl) (by kernel_rfl) ?_
    refine seqQ_norm ?_
    obtain rfl := Option.some.inj h
    refine W_ret [10, 11] [10, 1000] (fr' := [(10, .one (.ptr 10 0)), (11, aI v27.2.2.1)]) (L' := [(10, .one (.pair tI (.pair tI (.pair tI (.slice tI)))) r31.1), (1000, .map tI tI r31.2)]) (by kernel_rfl) (by kernel_rfl) ?_
    exact retQ_mk (by kernel_rfl) (by kernel_rfl) (by kernel_rfl)

noncomputable def tape_Run (fuel : Nat) (a0 : (Int × (Int × (List (List (Int × (Int × Int))))))) (a1 : (List Int)) (a2 : Int) : Option ((Int × (Int × (Int × (List Int)))) × Int × Int) :=
(tape_Check a0).bind fun r1 =>
bif r1 != (0 : Int) then
(some (((0 : Int), (0 : Int), (0 : Int), []), (0 : Int), r1))
else
(bif decide ((List.length a1 : Int) > (8 : Int)) then
(some (((0 : Int), (0 : Int), (0 : Int), []), (0 : Int), (1 : Int)))
else
((tape_lay a0 a1 (0 : Int)).bind fun r5 =>
bif !r5.2 then
(some (((0 : Int), (0 : Int), (0 : Int), []), (0 : Int), (2 : Int)))
else
(bif (decide (a2 < (0 : Int))) || (decide (a2 > (60 : Int))) then
(some (((0 : Int), (0 : Int), (0 : Int), []), (0 : Int), (7 : Int)))
else
((tape_run fuel a0 (0 : Int) (0 : Int) a2 r5.1).bind fun r9 =>
some (r9.1, r9.2.1, (0 : Int))))))
theorem tape_Run_ok {fuel : Nat} {a0 : (Int × (Int × (List (List (Int × (Int × Int))))))} {a1 : (List Int)} {a2 : Int} {r : ((Int × (Int × (Int × (List Int)))) × Int × Int)} (h : tape_Run fuel a0 a1 a2 = some r) : FnC Try.prog 72 [aD (.pair tI (.pair tI (.slice (.slice (.pair tI (.pair tI tI)))))) a0, aD (.slice tI) a1, aI a2] [] (.tup [.dat (.pair tI (.pair tI (.pair tI (.slice tI)))) r.1, .dat tI r.2.1, .dat tI r.2.2]) [] := by
  refine fnC_of_W (B := bodyOf Try.f72) (n := 49) Try.func72 (by kernel_rfl) (by kernel_rfl) (by kernel_rfl) (by kernel_rfl) (by kernel_rfl) ?_
  intro K
  refine W_seq (by kernel_rfl) ?_
  refine W_run 4 [(3, .typed)] [1, 2, 3, 6] [3, 6] (fr' := [(1, aD (.slice tI) a1), (2, aI a2), (3, .one (.ptr 3 0)), (6, .one (.ptr 6 0))]) (L' := [(3, .one (.pair tI (.pair tI (.slice (.slice (.pair tI (.pair tI tI)))))) a0), (6, .one (.pair tI (.pair tI (.pair tI (.slice tI)))) ((0 : Int), (0 : Int), (0 : Int), []))]) (obs := []) (by kernel_rfl) (by kernel_rfl) (by kernel_rfl) allP0 ?_
  refine seqQ_norm ?_
  refine W_seq (by kernel_rfl) ?_
  refine W_seq (by kernel_rfl) ?_
  refine W_region (by kernel_rfl) ?_
  refine WO_run (j := 1) (k := 1) (orcs := []) (kF := [1, 2, 3, 6, 14]) (kL := [3, 6]) (fr' := [(1, aD (.slice tI) a1), (2, aI a2), (3, .one (.ptr 3 0)), (6, .one (.ptr 6 0)), (14, aD (.pair tI (.pair tI (.slice (.slice (.pair tI (.pair tI tI)))))) a0)]) (L' := [(3, .one (.pair tI (.pair tI (.slice (.slice (.pair tI (.pair tI tI)))))) a0), (6, .one (.pair tI (.pair tI (.pair tI (.slice tI)))) ((0 : Int), (0 : Int), (0 : Int), []))]) (obs := []) rfl (by kernel_rfl) allP0 ?_
  obtain ⟨r1, h2, h⟩ := bind_of h
  refine WO_call0 (us := [none]) (d := 15) (p := True) (j := 2) rfl ⟨by kernel_rfl, by kernel_rfl, by kernel_rfl⟩ trivial (tape_Check_ok h2) (by kernel_rfl) ?_
  refine WO_run (j := 3) (k := 1) (orcs := []) (kF := [1, 2, 3, 6, 9]) (kL := [3, 6]) (fr' := [(1, aD (.slice tI) a1), (2, aI a2), (3, .one (.ptr 3 0)), (6, .one (.ptr 6 0)), (9, aI r1)]) (L' := [(3, .one (.pair tI (.pair tI (.slice (.slice (.pair tI (.pair tI tI)))))) a0), (6, .one (.pair tI (.pair tI (.pair tI (.slice tI)))) ((0 : Int), (0 : Int), (0 : Int), []))]) (obs := []) rfl (by kernel_rfl) allP0 ?_
  refine WO_fin [1, 2, 3, 6, 9] [3, 6] (fr' := [(1, aD (.slice tI) a1), (2, aI a2), (3, .one (.ptr 3 0)), (6, .one (.ptr 6 0)), (9, aI r1)]) (L' := [(3, .one (.pair tI (.pair tI (.slice (.slice (.pair tI (.pair tI tI)))))) a0), (6, .one (.pair tI (.pair tI (.pair tI (.slice tI)))) ((0 : Int), (0 : Int), (0 : Int), []))]) (by kernel_rfl) (by kernel_rfl) ?_
  refine seqQ_norm ?_
  refine W_seq (by kernel_rfl) ?_
  refine W_run 2 [] [1, 2, 3, 6, 9, 17] [3, 6] (fr' := [(1, aD (.slice tI) a1), (2, aI a2), (3, .one (.ptr 3 0)), (6, .one (.ptr 6 0)), (9, aI r1), (17, aB (r1 != (0 : Int)))]) (L' := [(3, .one (.pair tI (.pair tI (.slice (.slice (.pair tI (.pair tI tI)))))) a0), (6, .one (.pair tI (.pair tI (.pair tI (.slice tI)))) ((0 : Int), (0 : Int), (0 : Int), []))]) (obs := []) (by kernel_rfl) (by kernel_rfl) (by kernel_rfl) allP0 ?_
  refine seqQ_norm ?_
  refine W_cond (o := .tmp 17) (b := r1 != (0 : Int)) (by kernel_rfl) (by kernel_rfl) (fun h3 => ?_) (fun h3 => ?_)
  · replace h := ofT h3 h
    refine W_seq (by kernel_rfl) ?_
    refine W_run 5 [] [6, 7, 8] [6] (fr' := [(6, .one (.ptr 6 0)), (7, aI (0 : Int)), (8, aI r1)]) (L' := [(6, .one (.pair tI (.pair tI (.pair tI (.slice tI)))) ((0 : Int), (0 : Int), (0 : Int), []))]) (obs := [True]) (by kernel_rfl) (by kernel_rfl) (by kernel_rfl) (allP1 trivial) ?_
    refine seqQ_norm ?_
    obtain rfl := Option.some.inj h
    refine W_ret [6, 7, 8] [6] (fr' := [(6, .one (.ptr 6 0)), (7, aI (0 : Int)), (8, aI r1)]) (L' := [(6, .one (.pair tI (.pair tI (.pair tI (.slice tI)))) ((0 : Int), (0 : Int), (0 : Int), []))]) (by kernel_rfl) (by kernel_rfl) ?_
    refine seqQ_ret ?_
    exact retQ_mk (by kernel_rfl) (by kernel_rfl) (by kernel_rfl)
  · replace h := ofF h3 h
    refine W_skip [1, 2, 3, 6] [3, 6] (fr' := [(1, aD (.slice tI) a1), (2, aI a2), (3, .one (.ptr 3 0)), (6, .one (.ptr 6 0))]) (L' := [(3, .one (.pair tI (.pair tI (.slice (.slice (.pair tI (.pair tI tI)))))) a0), (6, .one (.pair tI (.pair tI (.pair tI (.slice tI)))) ((0 : Int), (0 : Int), (0 : Int), []))]) (by kernel_rfl) (by kernel_rfl) ?_
    refine seqQ_norm ?_
    refine W_seq (by kernel_rfl) ?_
    refine W_seq (by kernel_rfl) ?_
    refine W_run 3 [] [1, 2, 3, 6, 22] [3, 6] (fr' := [(1, aD (.slice tI) a1), (2, aI a2), (3, .one (.ptr 3 0)), (6, .one (.ptr 6 0)), (22, aB (decide ((List.length a1 : Int) > (8 : Int))))]) (L' := [(3, .one (.pair tI (.pair tI (.slice (.slice (.pair tI (.pair tI tI)))))) a0), (6, .one (.pair tI (.pair tI (.pair tI (.slice tI)))) ((0 : Int), (0 : Int), (0 : Int), []))]) (obs := []) (by kernel_rfl) (by kernel_rfl) (by kernel_rfl) allP0 ?_
    refine seqQ_norm ?_
    refine W_cond (o := .tmp 22) (b := decide ((List.length a1 : Int) > (8 : Int))) (by kernel_rfl) (by kernel_rfl) (fun h4 => ?_) (fun h4 => ?_)
    · replace h := ofT h4 h
      refine W_seq (by kernel_rfl) ?_
      refine W_run 4 [] [6, 7, 8] [6] (fr' := [(6, .one (.ptr 6 0)), (7, aI (0 : Int)), (8, aI (1 : Int))]) (L' := [(6, .one (.pair tI (.pair tI (.pair tI (.slice tI)))) ((0 : Int), (0 : Int), (0 : Int), []))]) (obs := [True]) (by kernel_rfl) (by kernel_rfl) (by kernel_rfl) (allP1 trivial) ?_
      refine seqQ_norm ?_
      obtain rfl := Option.some.inj h
      refine W_ret [6, 7, 8] [6] (fr' := [(6, .one (.ptr 6 0)), (7, aI (0 : Int)), (8, aI (1 : Int))]) (L' := [(6, .one (.pair tI (.pair tI (.pair tI (.slice tI)))) ((0 : Int), (0 : Int), (0 : Int), []))]) (by kernel_rfl) (by kernel_rfl) ?_
      refine seqQ_ret ?_
      exact retQ_mk (by kernel_rfl) (by kernel_rfl) (by kernel_rfl)
    · replace h := ofF h4 h
      refine W_skip [1, 2, 3, 6] [3, 6] (fr' := [(1, aD (.slice tI) a1), (2, aI a2), (3, .one (.ptr 3 0)), (6, .one (.ptr 6 0))]) (L' := [(3, .one (.pair tI (.pair tI (.slice (.slice (.pair tI (.pair tI tI)))))) a0), (6, .one (.pair tI (.pair tI (.pair tI (.slice tI)))) ((0 : Int), (0 : Int), (0 : Int), []))]) (by kernel_rfl) (by kernel_rfl) ?_
      refine seqQ_norm ?_
      refine W_seq (by kernel_rfl) ?_
      refine W_region (by kernel_rfl) ?_
      refine WO_run (j := 2) (k := 2) (orcs := []) (kF := [2, 3, 6, 25, 26]) (kL := [3, 6]) (fr' := [(2, aI a2), (3, .one (.ptr 3 0)), (6, .one (.ptr 6 0)), (25, aD (.pair tI (.pair tI (.slice (.slice (.pair tI (.pair tI tI)))))) a0), (26, aD (.slice tI) a1)]) (L' := [(3, .one (.pair tI (.pair tI (.slice (.slice (.pair tI (.pair tI tI)))))) a0), (6, .one (.pair tI (.pair tI (.pair tI (.slice tI)))) ((0 : Int), (0 : Int), (0 : Int), []))]) (obs := []) rfl (by kernel_rfl) allP0 ?_
      obtain ⟨r5, h6, h⟩ := bind_of h
      refine WO_call1 (us := [none, none, none]) (d := 27) (t := 27) (p := True) (j := 3) rfl ⟨by kernel_rfl, by kernel_rfl, by kernel_rfl⟩ trivial (tape_lay_ok h6) (by kernel_rfl) ?_
      refine WO_run (j := 8) (k := 5) (orcs := []) (kF := [2, 3, 6, 10, 11]) (kL := [3, 6, 27]) (fr' := [(2, aI a2), (3, .one (.ptr 3 0)), (6, .one (.ptr 6 0)), (10, .one (.slc 27)), (11, aB r5.2)]) (L' := [(3, .one (.pair tI (.pair tI (.slice (.slice (.pair tI (.pair tI tI)))))) a0), (6, .one (.pair tI (.pair tI (.pair tI (.slice tI)))) ((0 : Int), (0 : Int), (0 : Int), [])), (27, .map tI tI r5.1)]) (obs := []) rfl (by kernel_rfl) allP0 ?_
      refine WO_fin [2, 3, 6, 10, 11] [3, 6, 27] (fr' := [(2, aI a2), (3, .one (.ptr 3 0)), (6, .one (.ptr 6 0)), (10, .one (.slc 27)), (11, aB r5.2)]) (L' := [(3, .one (.pair tI (.pair tI (.slice (.slice (.pair tI (.pair tI tI)))))) a0), (6, .one (.pair tI (.pair tI (.pair tI (.slice tI)))) ((0 : Int), (0 : Int), (0 : Int), [])), (27, .map tI tI r5.1)]) (by kernel_rfl) (by kernel_rfl) ?_
      refine seqQ_norm ?_
      refine W_seq (by kernel_rfl) ?_
      refine W_seq (by kernel_rfl) ?_
      refine W_run 2 [] [2, 3, 6, 10, 31] [3, 6, 27] (fr' := [(2, aI a2), (3, .one (.ptr 3 0)), (6, .one (.ptr 6 0)), (10, .one (.slc 27)), (31, aB (!r5.2))]) (L' := [(3, .one (.pair tI (.pair tI (.slice (.slice (.pair tI (.pair tI tI)))))) a0), (6, .one (.pair tI (.pair tI (.pair tI (.slice tI)))) ((0 : Int), (0 : Int), (0 : Int), [])), (27, .map tI tI r5.1)]) (obs := []) (by kernel_rfl) (by kernel_rfl) (by kernel_rfl) allP0 ?_
      refine seqQ_norm ?_
      refine W_cond (o := .tmp 31) (b := !r5.2) (by kernel_rfl) (by kernel_rfl) (fun h7 => ?_) (fun h7 => ?_)
      · replace h := ofT h7 h
        refine W_seq (by kernel_rfl) ?_
        refine W_run 4 [] [6, 7, 8] [6] (fr' := [(6, .one (.ptr 6 0)), (7, aI (0 : Int)), (8, aI (2 : Int))]) (L' := [(6, .one (.pair tI (.pair tI (.pair tI (.slice tI)))) ((0 : Int), (0 : Int), (0 : Int), []))]) (obs := [True]) (by kernel_rfl) (by kernel_rfl) (by kernel_rfl) (allP1 trivial) ?_
        refine seqQ_norm ?_
        obtain rfl := Option.some.inj h
        refine W_ret [6, 7, 8] [6] (fr' := [(6, .one (.ptr 6 0)), (7, aI (0 : Int)), (8, aI (2 : Int))]) (L' := [(6, .one (.pair tI (.pair tI (.pair tI (.slice tI)))) ((0 : Int), (0 : Int), (0 : Int), []))]) (by kernel_rfl) (by kernel_rfl) ?_
        refine seqQ_ret ?_
        exact retQ_mk (by kernel_rfl) (by kernel_rfl) (by kernel_rfl)
      · replace h := ofF h7 h
        refine W_skip [2, 3, 6, 10] [3, 6, 27] (fr' := [(2, aI a2), (3, .one (.ptr 3 0)), (6, .one (.ptr 6 0)), (10, .one (.slc 27))]) (L' := [(3, .one (.pair tI (.pair tI (.slice (.slice (.pair tI (.pair tI tI)))))) a0), (6, .one (.pair tI (.pair tI (.pair tI (.slice tI)))) ((0 : Int), (0 : Int), (0 : Int), [])), (27, .map tI tI r5.1)]) (by kernel_rfl) (by kernel_rfl) ?_
        refine seqQ_norm ?_
        refine W_seq (by kernel_rfl) ?_
        refine W_seq (by kernel_rfl) ?_
        refine W_run 6 [] [2, 3, 6, 10, 38] [3, 6, 27] (fr' := [(2, aI a2), (3, .one (.ptr 3 0)), (6, .one (.ptr 6 0)), (10, .one (.slc 27)), (38, aB ((decide (a2 < (0 : Int))) || (decide (a2 > (60 : Int)))))]) (L' := [(3, .one (.pair tI (.pair tI (.slice (.slice (.pair tI (.pair tI tI)))))) a0), (6, .one (.pair tI (.pair tI (.pair tI (.slice tI)))) ((0 : Int), (0 : Int), (0 : Int), [])), (27, .map tI tI r5.1)]) (obs := []) (by kernel_rfl) (by kernel_rfl) (by kernel_rfl) allP0 ?_
        refine seqQ_norm ?_
        refine W_cond (o := .tmp 38) (b := (decide (a2 < (0 : Int))) || (decide (a2 > (60 : Int)))) (by kernel_rfl) (by kernel_rfl) (fun h8 => ?_) (fun h8 => ?_)
        · replace h := ofT h8 h
          refine W_seq (by kernel_rfl) ?_
          refine W_run 4 [] [6, 7, 8] [6] (fr' := [(6, .one (.ptr 6 0)), (7, aI (0 : Int)), (8, aI (7 : Int))]) (L' := [(6, .one (.pair tI (.pair tI (.pair tI (.slice tI)))) ((0 : Int), (0 : Int), (0 : Int), []))]) (obs := [True]) (by kernel_rfl) (by kernel_rfl) (by kernel_rfl) (allP1 trivial) ?_
          refine seqQ_norm ?_
          obtain rfl := Option.some.inj h
          refine W_ret [6, 7, 8] [6] (fr' := [(6, .one (.ptr 6 0)), (7, aI (0 : Int)), (8, aI (7 : Int))]) (L' := [(6, .one (.pair tI (.pair tI (.pair tI (.slice tI)))) ((0 : Int), (0 : Int), (0 : Int), []))]) (by kernel_rfl) (by kernel_rfl) ?_
          refine seqQ_ret ?_
          exact retQ_mk (by kernel_rfl) (by kernel_rfl) (by kernel_rfl)
        · replace h := ofF h8 h
          refine W_skip [2, 3, 6, 10] [3, 6, 27] (fr' := [(2, aI a2), (3, .one (.ptr 3 0)), (6, .one (.ptr 6 0)), (10, .one (.slc 27))]) (L' := [(3, .one (.pair tI (.pair tI (.slice (.slice (.pair tI (.pair tI tI)))))) a0), (6, .one (.pair tI (.pair tI (.pair tI (.slice tI)))) ((0 : Int), (0 : Int), (0 : Int), [])), (27, .map tI tI r5.1)]) (by kernel_rfl) (by kernel_rfl) ?_
          refine seqQ_norm ?_
          refine W_seq (by kernel_rfl) ?_
          refine W_region (by kernel_rfl) ?_
          refine WO_run (j := 3) (k := 3) (orcs := []) (kF := [6, 41, 42, 43]) (kL := [3, 6, 27]) (fr' := [(6, .one (.ptr 6 0)), (41, aD (.pair tI (.pair tI (.slice (.slice (.pair tI (.pair tI tI)))))) a0), (42, .one (.slc 27)), (43, aI a2)]) (L' := [(3, .one (.pair tI (.pair tI (.slice (.slice (.pair tI (.pair tI tI)))))) a0), (6, .one (.pair tI (.pair tI (.pair tI (.slice tI)))) ((0 : Int), (0 : Int), (0 : Int), [])), (27, .map tI tI r5.1)]) (obs := []) rfl (by kernel_rfl) allP0 ?_
          obtain ⟨r9, h10, h⟩ := bind_of h
          refine WO_lend [(1000, 27)] (us := [none, none, none, none, none]) (d := 44) (p := True) (j := 4) rfl ⟨by kernel_rfl, by kernel_rfl, by kernel_rfl⟩ trivial (tape_run_ok h10) (by kernel_rfl) (by kernel_rfl) ?_
          refine WO_run (j := 10) (k := 6) (orcs := [(15, .typed)]) (kF := [6, 12, 13]) (kL := [3, 6, 12, 27]) (fr' := [(6, .one (.ptr 6 0)), (12, .one (.ptr 12 0)), (13, aI r9.2.1)]) (L' := [(3, .one (.pair tI (.pair tI (.slice (.slice (.pair tI (.pair tI tI)))))) a0), (6, .one (.pair tI (.pair tI (.pair tI (.slice tI)))) ((0 : Int), (0 : Int), (0 : Int), [])), (12, .one (.pair tI (.pair tI (.pair tI (.slice tI)))) r9.1), (27, .map tI tI r9.2.2)]) (obs := [True]) rfl (by kernel_rfl) (allP1 trivial) ?_
          refine WO_fin [6, 12, 13] [6, 12] (fr' := [(6, .one (.ptr 6 0)), (12, .one (.ptr 12 0)), (13, aI r9.2.1)]) (L' := [(6, .one (.pair tI (.pair tI (.pair tI (.slice tI)))) ((0 : Int), (0 : Int), (0 : Int), [])), (12, .one (.pair tI (.pair tI (.pair tI (.slice tI)))) r9.1)]) (by kernel_rfl) (by kernel_rfl) ?_
          refine seqQ_norm ?_
          refine W_seq (by kernel_rfl) ?_
          refine W_run 5 [] [6, 7, 8] [6] (fr' := [(6, .one (.ptr 6 0)), (7, aI r9.2.1), (8, aI (0 : Int))]) (L' := [(6, .one (.pair tI (.pair tI (.pair tI (.slice tI)))) r9.1)]) (obs := [True]) (by kernel_rfl) (by kernel_rfl) (by kernel_rfl) (allP1 trivial) ?_
          refine seqQ_norm ?_
          obtain rfl := Option.some.inj h
          refine W_ret [6, 7, 8] [6] (fr' := [(6, .one (.ptr 6 0)), (7, aI r9.2.1), (8, aI (0 : Int))]) (L' := [(6, .one (.pair tI (.pair tI (.pair tI (.slice tI)))) r9.1)]) (by kernel_rfl) (by kernel_rfl) ?_
          exact retQ_mk (by kernel_rfl) (by kernel_rfl) (by kernel_rfl)

noncomputable def cross_All_1_i2 (a0 : Int) (a1 : Int) (a2 : Int) (c0 : (List (List Int))) : Option (List (List Int)) :=
bif ((a0 != a1) && (decide ((imax a0 a1) ≥ (0 : Int)))) && (decide ((imax a0 a1) < (List.length c0 : Int))) then
((idx c0 (imax a0 a1)).bind fun v4 =>
(ck ((List.length v4 : Int) + 1 ≤ 4294967296)).bind fun _ =>
some (List.set c0 (Int.toNat (imax a0 a1)) (v4 ++ [a2])))
else
(some c0)
theorem cross_All_1_i2_ok {a0 : Int} {a1 : Int} {a2 : Int} {c0 : (List (List Int))} {r : (List (List Int))} (h : cross_All_1_i2 a0 a1 a2 c0 = some r) : FnC Try.prog 74 [aI a0, aI a1, aI a2, .one (.ptr 1000 0)] [(1000, .cells [.slc 2001]), (2001, .rows 0 (.slice tI) c0 [])] (.tup []) [(1000, .cells [.slc 2001]), (2001, .rows 0 (.slice tI) r [])] := by
  refine fnC_of_W (B := bodyOf Try.f74) (n := 34) Try.func74 (by kernel_rfl) (by kernel_rfl) (by kernel_rfl) (by kernel_rfl) (by kernel_rfl) ?_
  intro K
  refine W_seq (by kernel_rfl) ?_
  refine W_run 4 [] [0, 1, 2, 3, 7] [1000, 2001] (fr' := [(0, aI a0), (1, aI a1), (2, aI a2), (3, .one (.ptr 1000 0)), (7, aI (imax a0 a1))]) (L' := [(1000, .cells [.slc 2001]), (2001, .rows 0 (.slice tI) c0 [])]) (obs := []) (by kernel_rfl) (by kernel_rfl) (by kernel_rfl) allP0 ?_
  refine seqQ_norm ?_
  refine W_seq (by kernel_rfl) ?_
  refine W_run 13 [] [2, 3, 7, 23] [1000, 2001] (fr' := [(2, aI a2), (3, .one (.ptr 1000 0)), (7, aI (imax a0 a1)), (23, aB (((a0 != a1) && (decide ((imax a0 a1) ≥ (0 : Int)))) && (decide ((imax a0 a1) < (List.length c0 : Int)))))]) (L' := [(1000, .cells [.slc 2001]), (2001, .rows 0 (.slice tI) c0 [])]) (obs := []) (by kernel_rfl) (by kernel_rfl) (by kernel_rfl) allP0 ?_
  refine seqQ_norm ?_
  refine W_cond (o := .tmp 23) (b := ((a0 != a1) && (decide ((imax a0 a1) ≥ (0 : Int)))) && (decide ((imax a0 a1) < (List.length c0 : Int)))) (by kernel_rfl) (by kernel_rfl) (fun h1 => ?_) (fun h1 => ?_)
  · replace h := ofT h1 h
    obtain ⟨v4, h5, h⟩ := bind_of h
    refine W_take 2001 2900 (imax a0 a1) (.dat (.slice tI) v4) (p := Idx c0 (imax a0 a1) v4 ∧ True) (by kernel_rfl) ⟨Idx.of h5, trivial⟩ ?_
    obtain ⟨_, h6, h⟩ := bind_of h
    replace h6 := ck_some h6
    refine W_drawC5 9 [(8, [2900], [(2900, .seq tI (v4 ++ [a2]))])] [] [(8, .one (.slc 2900))] [(11, .val (.slc 2900))] [] [24, 25, 32] [1000, 2001, 2900] (out := [(24, .one (.slc 2001)), (25, aI (imax a0 a1)), (26, .one (.slc 2001)), (27, aI (imax a0 a1)), (28, .one (.eptr 2001 1 (imax a0 a1) 0)), (29, .one (.slc 2900)), (30, aI a2), (31, aD (.slice tI) [a2]), (32, .one (.slc 2900))]) (obs := [InR (imax a0 a1) (List.length c0), ((.one (.eptr 2001 1 (imax a0 a1) 0) : AV) = .one (.eptr 2001 1 (imax a0 a1) 0)), InR (imax a0 a1) (List.length c0), ((imax a0 a1) = (imax a0 a1)) ∧ InR (imax a0 a1) (List.length c0), True]) (calls := []) (fr' := [(24, .one (.slc 2001)), (25, aI (imax a0 a1)), (32, .one (.slc 2900))]) (L' := [(1000, .cells [.slc 2001]), (2001, .rows 0 (.slice tI) c0 [(imax a0 a1, true, .any)]), (2900, .seq tI (v4 ++ [a2]))]) (by kernel_rfl) (by kernel_rfl) (by kernel_rfl) (by kernel_rfl) (by kernel_rfl) (allP2 (InR.of h5) (allP2 rfl (allP2 (InR.of h5) (allP2 ⟨rfl, (InR.of h5)⟩ (allP1 trivial))))) allD0 (chDo (ty := false) (d := 32) (nm := 2900) (ob := .seq tI (v4 ++ [a2])) (av := .one (.slc 2900)) (p := SmallLen (List.length v4 + List.length [a2])) (by kernel_rfl) h6 (by kernel_rfl) chNil) mkNil (by kernel_rfl) ?_
    refine WO_run (j := 11) (k := 2) (orcs := []) (kF := []) (kL := [1000, 2001, 2900]) (fr' := []) (L' := [(1000, .cells [.slc 2001]), (2001, .rows 0 (.slice tI) c0 [(imax a0 a1, false, .slc 2900), (imax a0 a1, true, .any)]), (2900, .seq tI (v4 ++ [a2]))]) (obs := [InR (imax a0 a1) (List.length c0), InR (imax a0 a1) (List.length c0)]) rfl (by kernel_rfl) (allP2 (InR.of h5) (allP1 (InR.of h5))) ?_
    refine WO_give 2001 (imax a0 a1) [true, true] (p := InR (imax a0 a1) (List.length c0) ∧ (imax a0 a1) = (imax a0 a1) ∧ (imax a0 a1) = (imax a0 a1)) (by kernel_rfl) ⟨(InR.of h5), ⟨rfl, rfl⟩⟩ ?_
    obtain rfl := Option.some.inj h
    refine WO_fin [] [1000, 2001] (fr' := []) (L' := [(1000, .cells [.slc 2001]), (2001, .rows 0 (.slice tI) (List.set c0 (Int.toNat (imax a0 a1)) (v4 ++ [a2])) [])]) (by kernel_rfl) (by kernel_rfl) ?_
    refine ⟨rfl, ?_⟩
    exact ⟨.inr rfl, by kernel_rfl, by kernel_rfl, by kernel_rfl⟩
  · replace h := ofF h1 h
    obtain rfl := Option.some.inj h
    refine W_skip [] [1000, 2001] (fr' := []) (L' := [(1000, .cells [.slc 2001]), (2001, .rows 0 (.slice tI) c0 [])]) (by kernel_rfl) (by kernel_rfl) ?_
    exact ⟨.inr rfl, by kernel_rfl, by kernel_rfl, by kernel_rfl⟩

noncomputable def cross_walk_with_cross_All_1_i2_b1 (i13 : Int) (v16 : Int) (x14 : (Option (List (Int × Int)))) : Option (Flow (Option (List (Int × Int))) (Option (List (Int × Int)))) :=
(tape_Tape_Put i13 v16 x14).bind fun r19 =>
some (.next r19)
@[reducible] noncomputable def cross_walk_with_cross_All_1_i2_s2 (a0 : (Int × (Int × (List (List (Int × (Int × Int))))))) (a1 : (List Int)) (a2 : Int) (c0 : (List (List Int))) (v : Int × (Option (List (Int × Int)))) : Fr × LL := ([(2, aI a2), (3, .one (.fn 74 [(1000, 0)])), (4, .one (.ptr 4 0)), (8, .one (.slc 15)), (16, aD (.slice tI) a1), (17, aI (List.length a1 : Int)), (18, aI v.1)], [(1000, .cells [.slc 2001]), (4, .one (.pair tI (.pair tI (.slice (.slice (.pair tI (.pair tI tI)))))) a0), (15, .map tI tI v.2), (2001, .rows 0 (.slice tI) c0 [])])
@[reducible] noncomputable def cross_walk_with_cross_All_1_i2_s3 (a0 : (Int × (Int × (List (List (Int × (Int × Int))))))) (a2 : Int) (c0 : (List (List Int))) (v : (Option (List (Int × Int)))) : Fr × LL := ([(2, aI a2), (3, .one (.fn 74 [(1000, 0)])), (4, .one (.ptr 4 0)), (8, .one (.slc 15))], [(1000, .cells [.slc 2001]), (4, .one (.pair tI (.pair tI (.slice (.slice (.pair tI (.pair tI tI)))))) a0), (15, .map tI tI v), (2001, .rows 0 (.slice tI) c0 [])])
@[reducible] noncomputable def cross_walk_with_cross_All_1_i2_s6 (a0 : (Int × (Int × (List (List (Int × (Int × Int))))))) (x38 : (Int × Int × Int × (Option (List (Int × Int))) × (List (List Int)))) (v : Bool) : Fr × LL := ([(2, aI x38.1), (3, .one (.fn 74 [(1000, 0)])), (4, .one (.ptr 4 0)), (8, .one (.slc 15)), (11, aI x38.2.1), (12, aI x38.2.2.1), (35, aB v)], [(1000, .cells [.slc 2001]), (4, .one (.pair tI (.pair tI (.slice (.slice (.pair tI (.pair tI tI)))))) a0), (15, .map tI tI x38.2.2.2.1), (2001, .rows 0 (.slice tI) x38.2.2.2.2 [])])
noncomputable def cross_walk_with_cross_All_1_i2_b7 (a0 : (Int × (Int × (List (List (Int × (Int × Int))))))) (x38 : (Int × Int × Int × (Option (List (Int × Int))) × (List (List Int)))) : Option (Flow (Int × Int × Int × (Option (List (Int × Int))) × (List (List Int))) (List (List Int))) :=
(bif decide (x38.1 > (0 : Int)) then
(some (decide (x38.2.1 < a0.1)))
else
(some false)).bind fun v52 =>
bif v52 then
((tape_Step a0 x38.2.1 x38.2.2.1 x38.2.2.2.1).bind fun r55 =>
(cross_All_1_i2 x38.2.2.1 r55.2.1 r55.1 x38.2.2.2.2).bind fun r57 =>
some (.next (w64 (x38.1 - (1 : Int)), r55.1, r55.2.1, r55.2.2, r57)))
else
(some (.done x38.2.2.2.2))
@[reducible] noncomputable def cross_walk_with_cross_All_1_i2_s8 (a0 : (Int × (Int × (List (List (Int × (Int × Int))))))) (v : (Int × Int × Int × (Option (List (Int × Int))) × (List (List Int)))) : Fr × LL := ([(2, aI v.1), (3, .one (.fn 74 [(1000, 0)])), (4, .one (.ptr 4 0)), (8, .one (.slc 15)), (11, aI v.2.1), (12, aI v.2.2.1)], [(1000, .cells [.slc 2001]), (4, .one (.pair tI (.pair tI (.slice (.slice (.pair tI (.pair tI tI)))))) a0), (15, .map tI tI v.2.2.2.1), (2001, .rows 0 (.slice tI) v.2.2.2.2 [])])
@[reducible] noncomputable def cross_walk_with_cross_All_1_i2_s9 (v : (List (List Int))) : Fr × LL := ([], [(1000, .cells [.slc 2001]), (2001, .rows 0 (.slice tI) v [])])
noncomputable def cross_walk_with_cross_All_1_i2 (fuel : Nat) (a0 : (Int × (Int × (List (List (Int × (Int × Int))))))) (a1 : (List Int)) (a2 : Int) (c0 : (List (List Int))) : Option (List (List Int)) :=
(forL cross_walk_with_cross_All_1_i2_b1 (fun x14 => x14) a1 0 (some [] : Option (List (Int × Int)))).bind fun v22 =>
(iter (cross_walk_with_cross_All_1_i2_b7 a0) fuel (a2, (0 : Int), (0 : Int), v22, c0)).bind fun v59 =>
some v59
theorem cross_walk_with_cross_All_1_i2_ok {fuel : Nat} {a0 : (Int × (Int × (List (List (Int × (Int × Int))))))} {a1 : (List Int)} {a2 : Int} {c0 : (List (List Int))} {r : (List (List Int))} (h : cross_walk_with_cross_All_1_i2 fuel a0 a1 a2 c0 = some r) : FnC Try.prog 73 [aD (.pair tI (.pair tI (.slice (.slice (.pair tI (.pair tI tI)))))) a0, aD (.slice tI) a1, aI a2, .one (.fn 74 [(1000, 0)])] [(1000, .cells [.slc 2001]), (2001, .rows 0 (.slice tI) c0 [])] (.tup []) [(1000, .cells [.slc 2001]), (2001, .rows 0 (.slice tI) r [])] := by
  refine fnC_of_W (B := bodyOf Try.f73) (n := 53) Try.func73 (by kernel_rfl) (by kernel_rfl) (by kernel_rfl) (by kernel_rfl) (by kernel_rfl) ?_
  intro K
  refine W_seq (by kernel_rfl) ?_
  refine W_run 1 [] [1, 2, 3, 4] [1000, 4, 2001] (fr' := [(1, aD (.slice tI) a1), (2, aI a2), (3, .one (.fn 74 [(1000, 0)])), (4, .one (.ptr 4 0))]) (L' := [(1000, .cells [.slc 2001]), (4, .one (.pair tI (.pair tI (.slice (.slice (.pair tI (.pair tI tI)))))) a0), (2001, .rows 0 (.slice tI) c0 [])]) (obs := []) (by kernel_rfl) (by kernel_rfl) (by kernel_rfl) allP0 ?_
  refine seqQ_norm ?_
  refine W_seq (by kernel_rfl) ?_
  refine W_run 2 [] [1, 2, 3, 4, 8] [1000, 4, 15, 2001] (fr' := [(1, aD (.slice tI) a1), (2, aI a2), (3, .one (.fn 74 [(1000, 0)])), (4, .one (.ptr 4 0)), (8, .one (.slc 15))]) (L' := [(1000, .cells [.slc 2001]), (4, .one (.pair tI (.pair tI (.slice (.slice (.pair tI (.pair tI tI)))))) a0), (15, .map tI tI (some [] : Option (List (Int × Int)))), (2001, .rows 0 (.slice tI) c0 [])]) (obs := []) (by kernel_rfl) (by kernel_rfl) (by kernel_rfl) allP0 ?_
  refine seqQ_norm ?_
  refine W_seq (by kernel_rfl) ?_
  refine W_seq (by kernel_rfl) ?_
  refine W_run 3 [] [2, 3, 4, 8, 16, 17, 18] [1000, 4, 15, 2001] (fr' := [(2, aI a2), (3, .one (.fn 74 [(1000, 0)])), (4, .one (.ptr 4 0)), (8, .one (.slc 15)), (16, aD (.slice tI) a1), (17, aI (List.length a1 : Int)), (18, aI (0 : Int))]) (L' := [(1000, .cells [.slc 2001]), (4, .one (.pair tI (.pair tI (.slice (.slice (.pair tI (.pair tI tI)))))) a0), (15, .map tI tI (some [] : Option (List (Int × Int)))), (2001, .rows 0 (.slice tI) c0 [])]) (obs := []) (by kernel_rfl) (by kernel_rfl) (by kernel_rfl) allP0 ?_
  refine seqQ_norm ?_
  refine W_block (id := 0) (by kernel_rfl) ?_
  obtain ⟨v22, h23, h⟩ := bind_of h
  refine W_len (t := 16) (u := tI) (xs := a1) (by kernel_rfl) (fun h26 => ?_)
  obtain ⟨h24, h25⟩ := forL_iter h26 h23
  refine W_weaken [2, 3, 4, 8, 16, 17, 18] [1000, 4, 15, 2001] (fr' := ((cross_walk_with_cross_All_1_i2_s2 a0 a1 a2 c0) ((0 : Int), (some [] : Option (List (Int × Int))))).1) (L' := ((cross_walk_with_cross_All_1_i2_s2 a0 a1 a2 c0) ((0 : Int), (some [] : Option (List (Int × Int))))).2) (by kernel_rfl) ?_
  refine W_cutK (W_loop (S := (cross_walk_with_cross_All_1_i2_s2 a0 a1 a2 c0)) (J := (exQ (.exit 0) (cross_walk_with_cross_All_1_i2_s3 a0 a2 c0))) (by kernel_rfl) ?_ h24 _ v22 h25) ?_
  · rintro ⟨i13, x14⟩ s h
    refine W_seq (by kernel_rfl) ?_
    refine W_run 1 [] [2, 3, 4, 8, 16, 17, 18, 19] [1000, 4, 15, 2001] (fr' := [(2, aI a2), (3, .one (.fn 74 [(1000, 0)])), (4, .one (.ptr 4 0)), (8, .one (.slc 15)), (16, aD (.slice tI) a1), (17, aI (List.length a1 : Int)), (18, aI i13), (19, aB (decide (i13 < (List.length a1 : Int))))]) (L' := [(1000, .cells [.slc 2001]), (4, .one (.pair tI (.pair tI (.slice (.slice (.pair tI (.pair tI tI)))))) a0), (15, .map tI tI x14), (2001, .rows 0 (.slice tI) c0 [])]) (obs := []) (by kernel_rfl) (by kernel_rfl) (by kernel_rfl) allP0 ?_
    refine seqQ_norm ?_
    refine W_seq (by kernel_rfl) ?_
    refine W_cond (o := .tmp 19) (b := decide (i13 < (List.length a1 : Int))) (by kernel_rfl) (by kernel_rfl) (fun h18 => ?_) (fun h18 => ?_)
    · replace h := stepL_true h18 h
      obtain ⟨v16, _, h17, h, rfl⟩ := h
      refine W_skip [2, 3, 4, 8, 16, 17, 18] [1000, 4, 15, 2001] (fr' := [(2, aI a2), (3, .one (.fn 74 [(1000, 0)])), (4, .one (.ptr 4 0)), (8, .one (.slc 15)), (16, aD (.slice tI) a1), (17, aI (List.length a1 : Int)), (18, aI i13)]) (L' := [(1000, .cells [.slc 2001]), (4, .one (.pair tI (.pair tI (.slice (.slice (.pair tI (.pair tI tI)))))) a0), (15, .map tI tI x14), (2001, .rows 0 (.slice tI) c0 [])]) (by kernel_rfl) (by kernel_rfl) ?_
      refine seqQ_norm ?_
      refine W_seq (by kernel_rfl) ?_
      refine W_block (id := 1) (by kernel_rfl) ?_
      refine W_seq (by kernel_rfl) ?_
      refine W_run 5 [(3, .val (.dat tI v16))] [2, 3, 4, 8, 9, 10, 16, 17, 18] [1000, 4, 15, 2001] (fr' := [(2, aI a2), (3, .one (.fn 74 [(1000, 0)])), (4, .one (.ptr 4 0)), (8, .one (.slc 15)), (9, aI i13), (10, aI v16), (16, aD (.slice tI) a1), (17, aI (List.length a1 : Int)), (18, aI i13)]) (L' := [(1000, .cells [.slc 2001]), (4, .one (.pair tI (.pair tI (.slice (.slice (.pair tI (.pair tI tI)))))) a0), (15, .map tI tI x14), (2001, .rows 0 (.slice tI) c0 [])]) (obs := [Idx a1 i13 v16]) (by kernel_rfl) (by kernel_rfl) (by kernel_rfl) (allP1 (Idx.of h17)) ?_
      refine seqQ_norm ?_
      refine W_region (by kernel_rfl) ?_
      refine WO_run (j := 3) (k := 3) (orcs := []) (kF := [2, 3, 4, 8, 16, 17, 18, 23, 24, 25]) (kL := [4, 15, 1000, 2001]) (fr' := [(2, aI a2), (3, .one (.fn 74 [(1000, 0)])), (4, .one (.ptr 4 0)), (8, .one (.slc 15)), (16, aD (.slice tI) a1), (17, aI (List.length a1 : Int)), (18, aI i13), (23, .one (.slc 15)), (24, aI i13), (25, aI v16)]) (L' := [(4, .one (.pair tI (.pair tI (.slice (.slice (.pair tI (.pair tI tI)))))) a0), (15, .map tI tI x14), (1000, .cells [.slc 2001]), (2001, .rows 0 (.slice tI) c0 [])]) (obs := []) rfl (by kernel_rfl) allP0 ?_
      obtain ⟨r19, h20, h⟩ := bind_of h
      refine WO_lend [(1000, 15)] (us := [none, none, none]) (d := 26) (p := True) (j := 4) rfl ⟨by kernel_rfl, by kernel_rfl, by kernel_rfl⟩ trivial (tape_Tape_Put_ok h20) (by kernel_rfl) (by kernel_rfl) ?_
      refine WO_fin [2, 3, 4, 8, 16, 17, 18] [1000, 4, 15, 2001] (fr' := [(2, aI a2), (3, .one (.fn 74 [(1000, 0)])), (4, .one (.ptr 4 0)), (8, .one (.slc 15)), (16, aD (.slice tI) a1), (17, aI (List.length a1 : Int)), (18, aI i13)]) (L' := [(1000, .cells [.slc 2001]), (4, .one (.pair tI (.pair tI (.slice (.slice (.pair tI (.pair tI tI)))))) a0), (15, .map tI tI r19), (2001, .rows 0 (.slice tI) c0 [])]) (by kernel_rfl) (by kernel_rfl) ?_
      refine blockQ_norm ?_
      refine seqQ_norm ?_
      obtain rfl := Option.some.inj h
      refine W_run 2 [] [2, 3, 4, 8, 16, 17, 18] [1000, 4, 15, 2001] (fr' := [(2, aI a2), (3, .one (.fn 74 [(1000, 0)])), (4, .one (.ptr 4 0)), (8, .one (.slc 15)), (16, aD (.slice tI) a1), (17, aI (List.length a1 : Int)), (18, aI (w64 (i13 + (1 : Int))))]) (L' := [(1000, .cells [.slc 2001]), (4, .one (.pair tI (.pair tI (.slice (.slice (.pair tI (.pair tI tI)))))) a0), (15, .map tI tI r19), (2001, .rows 0 (.slice tI) c0 [])]) (obs := []) (by kernel_rfl) (by kernel_rfl) (by kernel_rfl) allP0 ?_
      exact round_next' (by kernel_rfl) (by kernel_rfl)
    · obtain rfl := stepL_false h18 h
      refine W_exit (id := 0) [2, 3, 4, 8] [1000, 4, 15, 2001] (fr' := [(2, aI a2), (3, .one (.fn 74 [(1000, 0)])), (4, .one (.ptr 4 0)), (8, .one (.slc 15))]) (L' := [(1000, .cells [.slc 2001]), (4, .one (.pair tI (.pair tI (.slice (.slice (.pair tI (.pair tI tI)))))) a0), (15, .map tI tI x14), (2001, .rows 0 (.slice tI) c0 [])]) (by kernel_rfl) (by kernel_rfl) ?_
      refine seqQ_exit ?_
      refine round_exit ?_
      exact exQ_mk (by kernel_rfl) (by kernel_rfl)
  · intro e fr L hJ
    obtain ⟨rfl, rfl, rfl⟩ := hJ
    refine LT_keep [2, 3, 4, 8] [1000, 4, 15, 2001] (fr' := [(2, aI a2), (3, .one (.fn 74 [(1000, 0)])), (4, .one (.ptr 4 0)), (8, .one (.slc 15))]) (L' := [(1000, .cells [.slc 2001]), (4, .one (.pair tI (.pair tI (.slice (.slice (.pair tI (.pair tI tI)))))) a0), (15, .map tI tI v22), (2001, .rows 0 (.slice tI) c0 [])]) (by kernel_rfl) ?_
    refine blockQ_hit ?_
    refine seqQ_norm ?_
    refine W_seq (by kernel_rfl) ?_
    refine W_run 2 [] [2, 3, 4, 8, 11, 12] [1000, 4, 15, 2001] (fr' := [(2, aI a2), (3, .one (.fn 74 [(1000, 0)])), (4, .one (.ptr 4 0)), (8, .one (.slc 15)), (11, aI (0 : Int)), (12, aI (0 : Int))]) (L' := [(1000, .cells [.slc 2001]), (4, .one (.pair tI (.pair tI (.slice (.slice (.pair tI (.pair tI tI)))))) a0), (15, .map tI tI v22), (2001, .rows 0 (.slice tI) c0 [])]) (obs := []) (by kernel_rfl) (by kernel_rfl) (by kernel_rfl) allP0 ?_
    refine seqQ_norm ?_
    refine W_block (id := 2) (by kernel_rfl) ?_
    obtain ⟨v59, h60, h⟩ := bind_of h
    refine W_weaken [2, 3, 4, 8, 11, 12] [1000, 4, 15, 2001] (fr' := ((cross_walk_with_cross_All_1_i2_s8 a0) (a2, (0 : Int), (0 : Int), v22, c0)).1) (L' := ((cross_walk_with_cross_All_1_i2_s8 a0) (a2, (0 : Int), (0 : Int), v22, c0)).2) (by kernel_rfl) ?_
    refine W_cutK (W_loop (S := (cross_walk_with_cross_All_1_i2_s8 a0)) (J := (exQ (.exit 2) cross_walk_with_cross_All_1_i2_s9)) (by kernel_rfl) ?_ fuel _ v59 h60) ?_
    · rintro x38 s h
      refine W_seq (by kernel_rfl) ?_
      refine W_seq (by kernel_rfl) ?_
      obtain ⟨v52, h53, h⟩ := bind_of h
      refine W_cutK (Q' := (exQ .normal (cross_walk_with_cross_All_1_i2_s6 a0 x38)) v52) ?_ ?_
      · replace h := h53
        refine W_region (by kernel_rfl) ?_
        refine WO_run (j := 3) (k := 3) (orcs := []) (kF := [2, 3, 4, 8, 11, 12, 30]) (kL := [4, 15, 1000, 2001]) (fr' := [(2, aI x38.1), (3, .one (.fn 74 [(1000, 0)])), (4, .one (.ptr 4 0)), (8, .one (.slc 15)), (11, aI x38.2.1), (12, aI x38.2.2.1), (30, aB (decide (x38.1 > (0 : Int))))]) (L' := [(4, .one (.pair tI (.pair tI (.slice (.slice (.pair tI (.pair tI tI)))))) a0), (15, .map tI tI x38.2.2.2.1), (1000, .cells [.slc 2001]), (2001, .rows 0 (.slice tI) x38.2.2.2.2 [])]) (obs := []) rfl (by kernel_rfl) allP0 ?_
        rcases Bool.eq_false_or_eq_true (decide (x38.1 > (0 : Int))) with h51 | h51
        · replace h := ofT h51 h
          refine WO_run (j := 8) (k := 5) (orcs := [(6, .known true), (8, .known true), (10, .known true), (12, .known true), (15, .val (.dat .bool true))]) (kF := [2, 3, 4, 8, 11, 12, 35]) (kL := [4, 15, 1000, 2001]) (fr' := [(2, aI x38.1), (3, .one (.fn 74 [(1000, 0)])), (4, .one (.ptr 4 0)), (8, .one (.slc 15)), (11, aI x38.2.1), (12, aI x38.2.2.1), (35, aB (decide (x38.2.1 < a0.1)))]) (L' := [(4, .one (.pair tI (.pair tI (.slice (.slice (.pair tI (.pair tI tI)))))) a0), (15, .map tI tI x38.2.2.2.1), (1000, .cells [.slc 2001]), (2001, .rows 0 (.slice tI) x38.2.2.2.2 [])]) (obs := [((decide (x38.1 > (0 : Int))) = true), ((decide (x38.1 > (0 : Int))) = true), ((decide (x38.1 > (0 : Int))) = true), ((decide (x38.1 > (0 : Int))) = true), ((decide (x38.1 > (0 : Int))) = true)]) rfl (by kernel_rfl) (allP2 h51 (allP2 h51 (allP2 h51 (allP2 h51 (allP1 h51))))) ?_
          obtain rfl := Option.some.inj h
          refine WO_fin [2, 3, 4, 8, 11, 12, 35] [1000, 4, 15, 2001] (fr' := [(2, aI x38.1), (3, .one (.fn 74 [(1000, 0)])), (4, .one (.ptr 4 0)), (8, .one (.slc 15)), (11, aI x38.2.1), (12, aI x38.2.2.1), (35, aB (decide (x38.2.1 < a0.1)))]) (L' := [(1000, .cells [.slc 2001]), (4, .one (.pair tI (.pair tI (.slice (.slice (.pair tI (.pair tI tI)))))) a0), (15, .map tI tI x38.2.2.2.1), (2001, .rows 0 (.slice tI) x38.2.2.2.2 [])]) (by kernel_rfl) (by kernel_rfl) ?_
          exact exQ_mk (by kernel_rfl) (by kernel_rfl)
        · replace h := ofF h51 h
          refine WO_run (j := 8) (k := 5) (orcs := [(6, .known false), (8, .known false), (10, .known false), (12, .known false), (15, .val (.dat .bool false))]) (kF := [2, 3, 4, 8, 11, 12, 35]) (kL := [4, 15, 1000, 2001]) (fr' := [(2, aI x38.1), (3, .one (.fn 74 [(1000, 0)])), (4, .one (.ptr 4 0)), (8, .one (.slc 15)), (11, aI x38.2.1), (12, aI x38.2.2.1), (35, aB false)]) (L' := [(4, .one (.pair tI (.pair tI (.slice (.slice (.pair tI (.pair tI tI)))))) a0), (15, .map tI tI x38.2.2.2.1), (1000, .cells [.slc 2001]), (2001, .rows 0 (.slice tI) x38.2.2.2.2 [])]) (obs := [((decide (x38.1 > (0 : Int))) = false), ((decide (x38.1 > (0 : Int))) = false), ((decide (x38.1 > (0 : Int))) = false), ((decide (x38.1 > (0 : Int))) = false), ((decide (x38.1 > (0 : Int))) = false)]) rfl (by kernel_rfl) (allP2 h51 (allP2 h51 (allP2 h51 (allP2 h51 (allP1 h51))))) ?_
          obtain rfl := Option.some.inj h
          refine WO_fin [2, 3, 4, 8, 11, 12, 35] [1000, 4, 15, 2001] (fr' := [(2, aI x38.1), (3, .one (.fn 74 [(1000, 0)])), (4, .one (.ptr 4 0)), (8, .one (.slc 15)), (11, aI x38.2.1), (12, aI x38.2.2.1), (35, aB false)]) (L' := [(1000, .cells [.slc 2001]), (4, .one (.pair tI (.pair tI (.slice (.slice (.pair tI (.pair tI tI)))))) a0), (15, .map tI tI x38.2.2.2.1), (2001, .rows 0 (.slice tI) x38.2.2.2.2 [])]) (by kernel_rfl) (by kernel_rfl) ?_
          exact exQ_mk (by kernel_rfl) (by kernel_rfl)
      · intro e fr L hJ
        obtain ⟨rfl, rfl, rfl⟩ := hJ
        refine LT_keep [2, 3, 4, 8, 11, 12, 35] [1000, 4, 15, 2001] (fr' := [(2, aI x38.1), (3, .one (.fn 74 [(1000, 0)])), (4, .one (.ptr 4 0)), (8, .one (.slc 15)), (11, aI x38.2.1), (12, aI x38.2.2.1), (35, aB v52)]) (L' := [(1000, .cells [.slc 2001]), (4, .one (.pair tI (.pair tI (.slice (.slice (.pair tI (.pair tI tI)))))) a0), (15, .map tI tI x38.2.2.2.1), (2001, .rows 0 (.slice tI) x38.2.2.2.2 [])]) (by kernel_rfl) ?_
        refine seqQ_norm ?_
        refine W_cond (o := .tmp 35) (b := v52) (by kernel_rfl) (by kernel_rfl) (fun h54 => ?_) (fun h54 => ?_)
        · replace h := ofT h54 h
          refine W_skip [2, 3, 4, 8, 11, 12] [1000, 4, 15, 2001] (fr' := [(2, aI x38.1), (3, .one (.fn 74 [(1000, 0)])), (4, .one (.ptr 4 0)), (8, .one (.slc 15)), (11, aI x38.2.1), (12, aI x38.2.2.1)]) (L' := [(1000, .cells [.slc 2001]), (4, .one (.pair tI (.pair tI (.slice (.slice (.pair tI (.pair tI tI)))))) a0), (15, .map tI tI x38.2.2.2.1), (2001, .rows 0 (.slice tI) x38.2.2.2.2 [])]) (by kernel_rfl) (by kernel_rfl) ?_
          refine seqQ_norm ?_
          refine W_seq (by kernel_rfl) ?_
          refine W_block (id := 3) (by kernel_rfl) ?_
          refine W_seq (by kernel_rfl) ?_
          refine W_region (by kernel_rfl) ?_
          refine WO_run (j := 4) (k := 4) (orcs := []) (kF := [2, 3, 4, 8, 12, 39, 40, 41, 42]) (kL := [4, 15, 1000, 2001]) (fr' := [(2, aI x38.1), (3, .one (.fn 74 [(1000, 0)])), (4, .one (.ptr 4 0)), (8, .one (.slc 15)), (12, aI x38.2.2.1), (39, aD (.pair tI (.pair tI (.slice (.slice (.pair tI (.pair tI tI)))))) a0), (40, .one (.slc 15)), (41, aI x38.2.1), (42, aI x38.2.2.1)]) (L' := [(4, .one (.pair tI (.pair tI (.slice (.slice (.pair tI (.pair tI tI)))))) a0), (15, .map tI tI x38.2.2.2.1), (1000, .cells [.slc 2001]), (2001, .rows 0 (.slice tI) x38.2.2.2.2 [])]) (obs := []) rfl (by kernel_rfl) allP0 ?_
          obtain ⟨r55, h56, h⟩ := bind_of h
          refine WO_lend [(1000, 15)] (us := [none, none, none, none]) (d := 43) (p := True) (j := 5) rfl ⟨by kernel_rfl, by kernel_rfl, by kernel_rfl⟩ trivial (tape_Step_ok h56) (by kernel_rfl) (by kernel_rfl) ?_
          refine WO_run (j := 10) (k := 5) (orcs := []) (kF := [2, 3, 4, 8, 12, 13, 14]) (kL := [4, 15, 1000, 2001]) (fr' := [(2, aI x38.1), (3, .one (.fn 74 [(1000, 0)])), (4, .one (.ptr 4 0)), (8, .one (.slc 15)), (12, aI x38.2.2.1), (13, aI r55.1), (14, aI r55.2.1)]) (L' := [(4, .one (.pair tI (.pair tI (.slice (.slice (.pair tI (.pair tI tI)))))) a0), (15, .map tI tI r55.2.2), (1000, .cells [.slc 2001]), (2001, .rows 0 (.slice tI) x38.2.2.2.2 [])]) (obs := []) rfl (by kernel_rfl) allP0 ?_
          refine WO_fin [2, 3, 4, 8, 12, 13, 14] [1000, 4, 15, 2001] (fr' := [(2, aI x38.1), (3, .one (.fn 74 [(1000, 0)])), (4, .one (.ptr 4 0)), (8, .one (.slc 15)), (12, aI x38.2.2.1), (13, aI r55.1), (14, aI r55.2.1)]) (L' := [(1000, .cells [.slc 2001]), (4, .one (.pair tI (.pair tI (.slice (.slice (.pair tI (.pair tI tI)))))) a0), (15, .map tI tI r55.2.2), (2001, .rows 0 (.slice tI) x38.2.2.2.2 [])]) (by kernel_rfl) (by kernel_rfl) ?_
          refine seqQ_norm ?_
          refine W_seq (by kernel_rfl) ?_
          refine W_region (by kernel_rfl) ?_
          refine WO_run (j := 4) (k := 4) (orcs := []) (kF := [2, 3, 4, 8, 13, 14, 46, 47, 48, 49]) (kL := [4, 15, 1000, 2001]) (fr' := [(2, aI x38.1), (3, .one (.fn 74 [(1000, 0)])), (4, .one (.ptr 4 0)), (8, .one (.slc 15)), (13, aI r55.1), (14, aI r55.2.1), (46, .one (.fn 74 [(1000, 0)])), (47, aI x38.2.2.1), (48, aI r55.2.1), (49, aI r55.1)]) (L' := [(4, .one (.pair tI (.pair tI (.slice (.slice (.pair tI (.pair tI tI)))))) a0), (15, .map tI tI r55.2.2), (1000, .cells [.slc 2001]), (2001, .rows 0 (.slice tI) x38.2.2.2.2 [])]) (obs := []) rfl (by kernel_rfl) allP0 ?_
          obtain ⟨r57, h58, h⟩ := bind_of h
          refine WO_lend2 [(1000, 1000), (2001, 2001)] (us := [none, none, none, none]) (d := 50) (p := True) (j := 5) rfl ⟨by kernel_rfl, by kernel_rfl, by kernel_rfl⟩ trivial (cross_All_1_i2_ok h58) (by kernel_rfl) (by kernel_rfl) ?_
          refine WO_fin [2, 3, 4, 8, 13, 14] [1000, 4, 15, 2001] (fr' := [(2, aI x38.1), (3, .one (.fn 74 [(1000, 0)])), (4, .one (.ptr 4 0)), (8, .one (.slc 15)), (13, aI r55.1), (14, aI r55.2.1)]) (L' := [(1000, .cells [.slc 2001]), (4, .one (.pair tI (.pair tI (.slice (.slice (.pair tI (.pair tI tI)))))) a0), (15, .map tI tI r55.2.2), (2001, .rows 0 (.slice tI) r57 [])]) (by kernel_rfl) (by kernel_rfl) ?_
          refine seqQ_norm ?_
          refine W_run 4 [] [2, 3, 4, 8, 11, 12] [1000, 4, 15, 2001] (fr' := [(2, aI x38.1), (3, .one (.fn 74 [(1000, 0)])), (4, .one (.ptr 4 0)), (8, .one (.slc 15)), (11, aI r55.1), (12, aI r55.2.1)]) (L' := [(1000, .cells [.slc 2001]), (4, .one (.pair tI (.pair tI (.slice (.slice (.pair tI (.pair tI tI)))))) a0), (15, .map tI tI r55.2.2), (2001, .rows 0 (.slice tI) r57 [])]) (obs := []) (by kernel_rfl) (by kernel_rfl) (by kernel_rfl) allP0 ?_
          refine blockQ_norm ?_
          refine seqQ_norm ?_
          obtain rfl := Option.some.inj h
          refine W_run 3 [] [2, 3, 4, 8, 11, 12] [1000, 4, 15, 2001] (fr' := [(2, aI (w64 (x38.1 - (1 : Int)))), (3, .one (.fn 74 [(1000, 0)])), (4, .one (.ptr 4 0)), (8, .one (.slc 15)), (11, aI r55.1), (12, aI r55.2.1)]) (L' := [(1000, .cells [.slc 2001]), (4, .one (.pair tI (.pair tI (.slice (.slice (.pair tI (.pair tI tI)))))) a0), (15, .map tI tI r55.2.2), (2001, .rows 0 (.slice tI) r57 [])]) (obs := []) (by kernel_rfl) (by kernel_rfl) (by kernel_rfl) allP0 ?_
          exact round_next' (by kernel_rfl) (by kernel_rfl)
        · replace h := ofF h54 h
          obtain rfl := Option.some.inj h
          refine W_exit (id := 2) [] [1000, 2001] (fr' := []) (L' := [(1000, .cells [.slc 2001]), (2001, .rows 0 (.slice tI) x38.2.2.2.2 [])]) (by kernel_rfl) (by kernel_rfl) ?_
          refine seqQ_exit ?_
          refine round_exit ?_
          exact exQ_mk (by kernel_rfl) (by kernel_rfl)
    · intro e fr L hJ
      obtain ⟨rfl, rfl, rfl⟩ := hJ
      obtain rfl := Option.some.inj h
      refine LT_keep [] [1000, 2001] (fr' := []) (L' := [(1000, .cells [.slc 2001]), (2001, .rows 0 (.slice tI) v59 [])]) (by kernel_rfl) ?_
      refine blockQ_hit ?_
      exact ⟨.inr rfl, by kernel_rfl, by kernel_rfl, by kernel_rfl⟩

noncomputable def cross_All (fuel : Nat) (a0 : (Int × (Int × (List (List (Int × (Int × Int))))))) (a1 : (List Int)) (a2 : Int) : Option ((List (List Int)) × Int) :=
(tape_Run fuel a0 a1 a2).bind fun r1 =>
bif r1.2.2 != (0 : Int) then
(some ([], r1.2.2))
else
((ck (0 ≤ w64 ((List.length a1 : Int) + (1 : Int)) ∧ w64 ((List.length a1 : Int) + (1 : Int)) = w64 ((List.length a1 : Int) + (1 : Int)) ∧ w64 ((List.length a1 : Int) + (1 : Int)) ≤ 4294967296)).bind fun _ =>
(cross_walk_with_cross_All_1_i2 fuel a0 a1 a2 (List.replicate (Int.toNat (w64 ((List.length a1 : Int) + (1 : Int)))) ([] : List Int))).bind fun r5 =>
some (r5, (0 : Int)))
theorem cross_All_ok {fuel : Nat} {a0 : (Int × (Int × (List (List (Int × (Int × Int))))))} {a1 : (List Int)} {a2 : Int} {r : ((List (List Int)) × Int)} (h : cross_All fuel a0 a1 a2 = some r) : FnC Try.prog 38 [aD (.pair tI (.pair tI (.slice (.slice (.pair tI (.pair tI tI)))))) a0, aD (.slice tI) a1, aI a2] [] (.tup [.dat (.slice (.slice tI)) r.1, .dat tI r.2]) [] := by
  refine fnC_of_W (B := bodyOf Try.f38) (n := 33) Try.func38 (by kernel_rfl) (by kernel_rfl) (by kernel_rfl) (by kernel_rfl) (by kernel_rfl) ?_
  intro K
  refine W_seq (by kernel_rfl) ?_
  refine W_run 3 [] [1, 2, 3] [3] (fr' := [(1, aD (.slice tI) a1), (2, aI a2), (3, .one (.ptr 3 0))]) (L' := [(3, .one (.pair tI (.pair tI (.slice (.slice (.pair tI (.pair tI tI)))))) a0)]) (obs := []) (by kernel_rfl) (by kernel_rfl) (by kernel_rfl) allP0 ?_
  refine seqQ_norm ?_
  refine W_seq (by kernel_rfl) ?_
  refine W_seq (by kernel_rfl) ?_
  refine W_region (by kernel_rfl) ?_
  refine WO_run (j := 3) (k := 3) (orcs := []) (kF := [1, 2, 3, 13, 14, 15]) (kL := [3]) (fr' := [(1, aD (.slice tI) a1), (2, aI a2), (3, .one (.ptr 3 0)), (13, aD (.pair tI (.pair tI (.slice (.slice (.pair tI (.pair tI tI)))))) a0), (14, aD (.slice tI) a1), (15, aI a2)]) (L' := [(3, .one (.pair tI (.pair tI (.slice (.slice (.pair tI (.pair tI tI)))))) a0)]) (obs := []) rfl (by kernel_rfl) allP0 ?_
  obtain ⟨r1, h2, h⟩ := bind_of h
  refine WO_call0 (us := [none, none, none]) (d := 16) (p := True) (j := 4) rfl ⟨by kernel_rfl, by kernel_rfl, by kernel_rfl⟩ trivial (tape_Run_ok h2) (by kernel_rfl) ?_
  refine WO_run (j := 12) (k := 8) (orcs := [(17, .typed)]) (kF := [1, 2, 3, 10]) (kL := [3, 8]) (fr' := [(1, aD (.slice tI) a1), (2, aI a2), (3, .one (.ptr 3 0)), (10, aI r1.2.2)]) (L' := [(3, .one (.pair tI (.pair tI (.slice (.slice (.pair tI (.pair tI tI)))))) a0), (8, .one (.pair tI (.pair tI (.pair tI (.slice tI)))) r1.1)]) (obs := [True]) rfl (by kernel_rfl) (allP1 trivial) ?_
  refine WO_fin [1, 2, 3, 10] [3] (fr' := [(1, aD (.slice tI) a1), (2, aI a2), (3, .one (.ptr 3 0)), (10, aI r1.2.2)]) (L' := [(3, .one (.pair tI (.pair tI (.slice (.slice (.pair tI (.pair tI tI)))))) a0)]) (by kernel_rfl) (by kernel_rfl) ?_
  refine seqQ_norm ?_
  refine W_seq (by kernel_rfl) ?_
  refine W_run 2 [] [1, 2, 3, 10, 21] [3] (fr' := [(1, aD (.slice tI) a1), (2, aI a2), (3, .one (.ptr 3 0)), (10, aI r1.2.2), (21, aB (r1.2.2 != (0 : Int)))]) (L' := [(3, .one (.pair tI (.pair tI (.slice (.slice (.pair tI (.pair tI tI)))))) a0)]) (obs := []) (by kernel_rfl) (by kernel_rfl) (by kernel_rfl) allP0 ?_
  refine seqQ_norm ?_
  refine W_cond (o := .tmp 21) (b := r1.2.2 != (0 : Int)) (by kernel_rfl) (by kernel_rfl) (fun h3 => ?_) (fun h3 => ?_)
  · replace h := ofT h3 h
    refine W_seq (by kernel_rfl) ?_
    refine W_run 3 [] [6, 7] [] (fr' := [(6, .one (.nilS)), (7, aI r1.2.2)]) (L' := []) (obs := []) (by kernel_rfl) (by kernel_rfl) (by kernel_rfl) allP0 ?_
    refine seqQ_norm ?_
    obtain rfl := Option.some.inj h
    refine W_cnv 6 (.slice (.slice tI)) (by kernel_rfl) ?_
    refine W_ret [6, 7] [] (fr' := [(6, aD (.slice (.slice tI)) []), (7, aI r1.2.2)]) (L' := []) (by kernel_rfl) (by kernel_rfl) ?_
    refine seqQ_ret ?_
    exact retQ_mk (by kernel_rfl) (by kernel_rfl) (by kernel_rfl)
  · replace h := ofF h3 h
    refine W_skip [1, 2, 3] [3] (fr' := [(1, aD (.slice tI) a1), (2, aI a2), (3, .one (.ptr 3 0))]) (L' := [(3, .one (.pair tI (.pair tI (.slice (.slice (.pair tI (.pair tI tI)))))) a0)]) (by kernel_rfl) (by kernel_rfl) ?_
    refine seqQ_norm ?_
    refine W_seq (by kernel_rfl) ?_
    obtain ⟨_, h4, h⟩ := bind_of h
    replace h4 := ck_some h4
    refine W_run 6 [(7, .typed)] [1, 2, 3, 11] [3, 11, 26] (fr' := [(1, aD (.slice tI) a1), (2, aI a2), (3, .one (.ptr 3 0)), (11, .one (.ptr 11 0))]) (L' := [(3, .one (.pair tI (.pair tI (.slice (.slice (.pair tI (.pair tI tI)))))) a0), (11, .cells [.slc 26]), (26, .rows 0 (.slice tI) (List.replicate (Int.toNat (w64 ((List.length a1 : Int) + (1 : Int)))) ([] : List Int)) [])]) (obs := [0 ≤ w64 ((List.length a1 : Int) + (1 : Int)) ∧ w64 ((List.length a1 : Int) + (1 : Int)) = w64 ((List.length a1 : Int) + (1 : Int)) ∧ SmallLen (w64 ((List.length a1 : Int) + (1 : Int))), True]) (by kernel_rfl) (by kernel_rfl) (by kernel_rfl) (allP2 h4 (allP1 trivial)) ?_
    refine seqQ_norm ?_
    refine W_seq (by kernel_rfl) ?_
    refine W_region (by kernel_rfl) ?_
    refine WO_run (j := 4) (k := 4) (orcs := []) (kF := [11, 27, 28, 29, 30]) (kL := [3, 11, 26]) (fr' := [(11, .one (.ptr 11 0)), (27, aD (.pair tI (.pair tI (.slice (.slice (.pair tI (.pair tI tI)))))) a0), (28, aD (.slice tI) a1), (29, aI a2), (30, .one (.fn 74 [(11, 0)]))]) (L' := [(3, .one (.pair tI (.pair tI (.slice (.slice (.pair tI (.pair tI tI)))))) a0), (11, .cells [.slc 26]), (26, .rows 0 (.slice tI) (List.replicate (Int.toNat (w64 ((List.length a1 : Int) + (1 : Int)))) ([] : List Int)) [])]) (obs := []) rfl (by kernel_rfl) allP0 ?_
    obtain ⟨r5, h6, h⟩ := bind_of h
    refine WO_lend2 [(1000, 11), (2001, 26)] (us := [none, none, none, none]) (d := 31) (p := True) (j := 5) rfl ⟨by kernel_rfl, by kernel_rfl, by kernel_rfl⟩ trivial (cross_walk_with_cross_All_1_i2_ok h6) (by kernel_rfl) (by kernel_rfl) ?_
    refine WO_fin [11] [11, 26] (fr' := [(11, .one (.ptr 11 0))]) (L' := [(11, .cells [.slc 26]), (26, .rows 0 (.slice tI) r5 [])]) (by kernel_rfl) (by kernel_rfl) ?_
    refine seqQ_norm ?_
    refine W_seq (by kernel_rfl) ?_
    refine W_run 3 [] [6, 7] [26] (fr' := [(6, .one (.slc 26)), (7, aI (0 : Int))]) (L' := [(26, .rows 0 (.slice tI) r5 [])]) (obs := []) (by kernel_rfl) (by kernel_rfl) (by kernel_rfl) allP0 ?_
    refine seqQ_norm ?_
    obtain rfl := Option.some.inj h
    refine W_frzR 26 (by kernel_rfl) ?_
    refine W_ret [6, 7] [] (fr' := [(6, aD (.slice (.slice tI)) r5), (7, aI (0 : Int))]) (L' := []) (by kernel_rfl) (by kernel_rfl) ?_
    exact retQ_mk (by kernel_rfl) (by kernel_rfl) (by kernel_rfl)

noncomputable def ref_Within (a0 : Int) (a1 : Int) (a2 : Int) : Option Bool :=
some ((decide (a0 ≤ a1)) && (decide (a1 ≤ a2)))
theorem ref_Within_ok {a0 : Int} {a1 : Int} {a2 : Int} {r : Bool} (h : ref_Within a0 a1 a2 = some r) : FnC Try.prog 16 [aI a0, aI a1, aI a2] [] (aB r) [] := by
  refine fnC_of_W (B := bodyOf Try.f16) (n := 15) Try.func16 (by kernel_rfl) (by kernel_rfl) (by kernel_rfl) (by kernel_rfl) (by kernel_rfl) ?_
  intro K
  refine W_seq (by kernel_rfl) ?_
  refine W_run 1 [] [0, 1, 2] [] (fr' := [(0, aI a0), (1, aI a1), (2, aI a2)]) (L' := []) (obs := []) (by kernel_rfl) (by kernel_rfl) (by kernel_rfl) allP0 ?_
  refine seqQ_norm ?_
  refine W_seq (by kernel_rfl) ?_
  refine W_run 9 [] [6] [] (fr' := [(6, aB ((decide (a0 ≤ a1)) && (decide (a1 ≤ a2))))]) (L' := []) (obs := []) (by kernel_rfl) (by kernel_rfl) (by kernel_rfl) allP0 ?_
  refine seqQ_norm ?_
  obtain rfl := Option.some.inj h
  refine W_ret [6] [] (fr' := [(6, aB ((decide (a0 ≤ a1)) && (decide (a1 ≤ a2))))]) (L' := []) (by kernel_rfl) (by kernel_rfl) ?_
  exact retQ_mk (by kernel_rfl) (by kernel_rfl) (by kernel_rfl)

noncomputable def ref_Inside_b1 (a0 : Int) (i11 : Int) (v14 : Int) (x12 : Unit) : Option (Flow Unit (Esc Bool Unit)) :=
bif (decide (v14 < (0 : Int))) || (decide (v14 ≥ a0)) then
(some (.done (.ret false)))
else
(some (.next ()))
@[reducible] noncomputable def ref_Inside_s2 (a0 : Int) (a1 : (List Int)) (v : Int × Unit) : Fr × LL := ([(0, aI a0), (7, aD (.slice tI) a1), (8, aI (List.length a1 : Int)), (9, aI v.1)], [])
@[reducible] noncomputable def ref_Inside_s3 (v : Bool) : Fr × LL := ([(4, aB v)], [])
@[reducible] noncomputable def ref_Inside_s4 (v : Unit) : Fr × LL := ([], [])
noncomputable def ref_Inside (a0 : Int) (a1 : (List Int)) : Option Bool :=
(forL (ref_Inside_b1 a0) (fun x12 => (.brk ())) a1 0 ()).bind fun v19 =>
match v19 with
| .ret v24 =>
(some v24)
| .brk v25 =>
(some true)
theorem ref_Inside_ok {a0 : Int} {a1 : (List Int)} {r : Bool} (h : ref_Inside a0 a1 = some r) : FnC Try.prog 51 [aI a0, aD (.slice tI) a1] [] (aB r) [] := by
  refine fnC_of_W (B := bodyOf Try.f51) (n := 21) Try.func51 (by kernel_rfl) (by kernel_rfl) (by kernel_rfl) (by kernel_rfl) (by kernel_rfl) ?_
  intro K
  refine W_seq (by kernel_rfl) ?_
  refine W_run 1 [] [0, 1] [] (fr' := [(0, aI a0), (1, aD (.slice tI) a1)]) (L' := []) (obs := []) (by kernel_rfl) (by kernel_rfl) (by kernel_rfl) allP0 ?_
  refine seqQ_norm ?_
  refine W_seq (by kernel_rfl) ?_
  refine W_seq (by kernel_rfl) ?_
  refine W_run 3 [] [0, 7, 8, 9] [] (fr' := [(0, aI a0), (7, aD (.slice tI) a1), (8, aI (List.length a1 : Int)), (9, aI (0 : Int))]) (L' := []) (obs := []) (by kernel_rfl) (by kernel_rfl) (by kernel_rfl) allP0 ?_
  refine seqQ_norm ?_
  refine W_block (id := 0) (by kernel_rfl) ?_
  obtain ⟨v19, h20, h⟩ := bind_of h
  refine W_len (t := 7) (u := tI) (xs := a1) (by kernel_rfl) (fun h23 => ?_)
  obtain ⟨h21, h22⟩ := forL_iter h23 h20
  refine W_weaken [0, 7, 8, 9] [] (fr' := ((ref_Inside_s2 a0 a1) ((0 : Int), ())).1) (L' := ((ref_Inside_s2 a0 a1) ((0 : Int), ())).2) (by kernel_rfl) ?_
  refine W_cutK (W_loop (S := (ref_Inside_s2 a0 a1)) (J := (escQ (exQ .ret ref_Inside_s3) (exQ (.exit 0) ref_Inside_s4))) (by kernel_rfl) ?_ h21 _ v19 h22) ?_
  · rintro ⟨i11, x12⟩ s h
    refine W_seq (by kernel_rfl) ?_
    refine W_run 1 [] [0, 7, 8, 9, 10] [] (fr' := [(0, aI a0), (7, aD (.slice tI) a1), (8, aI (List.length a1 : Int)), (9, aI i11), (10, aB (decide (i11 < (List.length a1 : Int))))]) (L' := []) (obs := []) (by kernel_rfl) (by kernel_rfl) (by kernel_rfl) allP0 ?_
    refine seqQ_norm ?_
    refine W_seq (by kernel_rfl) ?_
    refine W_cond (o := .tmp 10) (b := decide (i11 < (List.length a1 : Int))) (by kernel_rfl) (by kernel_rfl) (fun h16 => ?_) (fun h16 => ?_)
    · replace h := stepL_true h16 h
      obtain ⟨v14, _, h15, h, rfl⟩ := h
      refine W_skip [0, 7, 8, 9] [] (fr' := [(0, aI a0), (7, aD (.slice tI) a1), (8, aI (List.length a1 : Int)), (9, aI i11)]) (L' := []) (by kernel_rfl) (by kernel_rfl) ?_
      refine seqQ_norm ?_
      refine W_seq (by kernel_rfl) ?_
      refine W_block (id := 1) (by kernel_rfl) ?_
      refine W_seq (by kernel_rfl) ?_
      refine W_run 3 [(1, .val (.dat tI v14))] [0, 6, 7, 8, 9] [] (fr' := [(0, aI a0), (6, aI v14), (7, aD (.slice tI) a1), (8, aI (List.length a1 : Int)), (9, aI i11)]) (L' := []) (obs := [Idx a1 i11 v14]) (by kernel_rfl) (by kernel_rfl) (by kernel_rfl) (allP1 (Idx.of h15)) ?_
      refine seqQ_norm ?_
      refine W_seq (by kernel_rfl) ?_
      refine W_run 7 [] [0, 7, 8, 9, 19] [] (fr' := [(0, aI a0), (7, aD (.slice tI) a1), (8, aI (List.length a1 : Int)), (9, aI i11), (19, aB ((decide (v14 < (0 : Int))) || (decide (v14 ≥ a0))))]) (L' := []) (obs := []) (by kernel_rfl) (by kernel_rfl) (by kernel_rfl) allP0 ?_
      refine seqQ_norm ?_
      refine W_cond (o := .tmp 19) (b := (decide (v14 < (0 : Int))) || (decide (v14 ≥ a0))) (by kernel_rfl) (by kernel_rfl) (fun h17 => ?_) (fun h17 => ?_)
      · replace h := ofT h17 h
        refine W_seq (by kernel_rfl) ?_
        refine W_run 1 [] [4] [] (fr' := [(4, aB false)]) (L' := []) (obs := []) (by kernel_rfl) (by kernel_rfl) (by kernel_rfl) allP0 ?_
        refine seqQ_norm ?_
        obtain rfl := Option.some.inj h
        refine W_ret [4] [] (fr' := [(4, aB false)]) (L' := []) (by kernel_rfl) (by kernel_rfl) ?_
        refine blockQ_ret ?_
        refine seqQ_ret ?_
        refine round_ret ?_
        refine escQ_ret ?_
        exact exQ_mk (by kernel_rfl) (by kernel_rfl)
      · replace h := ofF h17 h
        refine W_skip [0, 7, 8, 9] [] (fr' := [(0, aI a0), (7, aD (.slice tI) a1), (8, aI (List.length a1 : Int)), (9, aI i11)]) (L' := []) (by kernel_rfl) (by kernel_rfl) ?_
        refine blockQ_norm ?_
        refine seqQ_norm ?_
        obtain rfl := Option.some.inj h
        refine W_run 2 [] [0, 7, 8, 9] [] (fr' := [(0, aI a0), (7, aD (.slice tI) a1), (8, aI (List.length a1 : Int)), (9, aI (w64 (i11 + (1 : Int))))]) (L' := []) (obs := []) (by kernel_rfl) (by kernel_rfl) (by kernel_rfl) allP0 ?_
        exact round_next' (by kernel_rfl) (by kernel_rfl)
    · obtain rfl := stepL_false h16 h
      refine W_exit (id := 0) [] [] (fr' := []) (L' := []) (by kernel_rfl) (by kernel_rfl) ?_
      refine seqQ_exit ?_
      refine round_exit ?_
      refine escQ_brk ?_
      exact exQ_mk (by kernel_rfl) (by kernel_rfl)
  · intro e fr L hJ
    rcases v19 with v24 | v25
    · obtain ⟨rfl, rfl, rfl⟩ := hJ
      obtain rfl := Option.some.inj h
      refine LT_keep [4] [] (fr' := [(4, aB v24)]) (L' := []) (by kernel_rfl) ?_
      refine blockQ_ret ?_
      refine seqQ_ret ?_
      exact retQ_mk (by kernel_rfl) (by kernel_rfl) (by kernel_rfl)
    · obtain ⟨rfl, rfl, rfl⟩ := hJ
      refine LT_keep [] [] (fr' := []) (L' := []) (by kernel_rfl) ?_
      refine blockQ_hit ?_
      refine seqQ_norm ?_
      refine W_seq (by kernel_rfl) ?_
      refine W_run 1 [] [4] [] (fr' := [(4, aB true)]) (L' := []) (obs := []) (by kernel_rfl) (by kernel_rfl) (by kernel_rfl) allP0 ?_
      refine seqQ_norm ?_
      obtain rfl := Option.some.inj h
      refine W_ret [4] [] (fr' := [(4, aB true)]) (L' := []) (by kernel_rfl) (by kernel_rfl) ?_
      exact retQ_mk (by kernel_rfl) (by kernel_rfl) (by kernel_rfl)

noncomputable def ref_MachineCheck_b1 (a0 : (Int × (Int × (List (List (Int × (Int × Int))))))) (i30 : Int) (v33 : (List (Int × (Int × Int)))) (x31 : Unit) : Option (Flow Unit (Esc Int Unit)) :=
bif (List.length v33 : Int) != a0.2.1 then
(some (.done (.ret (3 : Int))))
else
(some (.next ()))
@[reducible] noncomputable def ref_MachineCheck_s2 (a0 : (Int × (Int × (List (List (Int × (Int × Int))))))) (v : Int × Unit) : Fr × LL := ([(1, .one (.ptr 1 0)), (26, aD (.slice (.slice (.pair tI (.pair tI tI)))) a0.2.2), (27, aI (List.length a0.2.2 : Int)), (28, aI v.1)], [(1, .one (.pair tI (.pair tI (.slice (.slice (.pair tI (.pair tI tI)))))) a0)])
@[reducible] noncomputable def ref_MachineCheck_s3 (v : Int) : Fr × LL := ([(2, aI v)], [])
@[reducible] noncomputable def ref_MachineCheck_s4 (a0 : (Int × (Int × (List (List (Int × (Int × Int))))))) (v : Unit) : Fr × LL := ([(1, .one (.ptr 1 0))], [(1, .one (.pair tI (.pair tI (.slice (.slice (.pair tI (.pair tI tI)))))) a0)])
noncomputable def ref_MachineCheck_b11 (a0 : (Int × (Int × (List (List (Int × (Int × Int))))))) (i183 : Int) (v186 : (Int × (Int × Int))) (x184 : Unit) : Option (Flow Unit (Esc Int Unit)) :=
(ref_Inside a0.2.1 [v186.1]).bind fun r189 =>
bif !r189 then
(some (.done (.ret (2 : Int))))
else
((ref_Within (-1 : Int) v186.2.1 (1 : Int)).bind fun r192 =>
bif !r192 then
(some (.done (.ret (4 : Int))))
else
((ref_Inside (w64 (a0.1 + (1 : Int))) [v186.2.2]).bind fun r195 =>
bif !r195 then
(some (.done (.ret (2 : Int))))
else
(some (.next ()))))
@[reducible] noncomputable def ref_MachineCheck_s12 (a0 : (Int × (Int × (List (List (Int × (Int × Int))))))) (i151 : Int) (v154 : (List (Int × (Int × Int)))) (v : Int × Unit) : Fr × LL := ([(1, .one (.ptr 1 0)), (39, aD (.slice (.slice (.pair tI (.pair tI tI)))) a0.2.2), (40, aI (List.length a0.2.2 : Int)), (41, aI i151), (45, aD (.slice (.pair tI (.pair tI tI))) v154), (46, aI (List.length v154 : Int)), (47, aI v.1)], [(1, .one (.pair tI (.pair tI (.slice (.slice (.pair tI (.pair tI tI)))))) a0)])
@[reducible] noncomputable def ref_MachineCheck_s13 (v : Int) : Fr × LL := ([(2, aI v)], [])
@[reducible] noncomputable def ref_MachineCheck_s14 (a0 : (Int × (Int × (List (List (Int × (Int × Int))))))) (i151 : Int) (v : Unit) : Fr × LL := ([(1, .one (.ptr 1 0)), (39, aD (.slice (.slice (.pair tI (.pair tI tI)))) a0.2.2), (40, aI (List.length a0.2.2 : Int)), (41, aI i151)], [(1, .one (.pair tI (.pair tI (.slice (.slice (.pair tI (.pair tI tI)))))) a0)])
noncomputable def ref_MachineCheck_b15 (a0 : (Int × (Int × (List (List (Int × (Int × Int))))))) (i151 : Int) (v154 : (List (Int × (Int × Int)))) (x152 : Unit) : Option (Flow Unit (Esc Int Unit)) :=
(forL (ref_MachineCheck_b11 a0) (fun x184 => (.brk ())) v154 0 ()).bind fun v199 =>
match v199 with
| .ret v204 =>
(some (.done (.ret v204)))
| .brk v205 =>
(some (.next ()))
@[reducible] noncomputable def ref_MachineCheck_s16 (a0 : (Int × (Int × (List (List (Int × (Int × Int))))))) (v : Int × Unit) : Fr × LL := ([(1, .one (.ptr 1 0)), (39, aD (.slice (.slice (.pair tI (.pair tI tI)))) a0.2.2), (40, aI (List.length a0.2.2 : Int)), (41, aI v.1)], [(1, .one (.pair tI (.pair tI (.slice (.slice (.pair tI (.pair tI tI)))))) a0)])
@[reducible] noncomputable def ref_MachineCheck_s17 (v : Int) : Fr × LL := ([(2, aI v)], [])
@[reducible] noncomputable def ref_MachineCheck_s18 (v : Unit) : Fr × LL := ([], [])
@[reducible] noncomputable def ref_MachineCheck_s19 (a0 : (Int × (Int × (List (List (Int × (Int × Int))))))) (v : Bool) : Fr × LL := ([(1, .one (.ptr 1 0)), (18, aB v)], [(1, .one (.pair tI (.pair tI (.slice (.slice (.pair tI (.pair tI tI)))))) a0)])
noncomputable def ref_MachineCheck (a0 : (Int × (Int × (List (List (Int × (Int × Int))))))) : Option Int :=
((ref_Within (1 : Int) a0.1 (5 : Int)).bind fun r11 =>
bif !r11 then
(some true)
else
((ref_Within (2 : Int) a0.2.1 (4 : Int)).bind fun r14 =>
some (!r14))).bind fun v16 =>
bif v16 then
(some (1 : Int))
else
(bif (List.length a0.2.2 : Int) != a0.1 then
(some (3 : Int))
else
((forL (ref_MachineCheck_b1 a0) (fun x31 => (.brk ())) a0.2.2 0 ()).bind fun v38 =>
match v38 with
| .ret v43 =>
(some v43)
| .brk v44 =>
((forL (ref_MachineCheck_b15 a0) (fun x152 => (.brk ())) a0.2.2 0 ()).bind fun v207 =>
match v207 with
| .ret v212 =>
(some v212)
| .brk v213 =>
(some (0 : Int)))))
theorem ref_MachineCheck_ok {a0 : (Int × (Int × (List (List (Int × (Int × Int))))))} {r : Int} (h : ref_MachineCheck a0 = some r) : FnC Try.prog 18 [aD (.pair tI (.pair tI (.slice (.slice (.pair tI (.pair tI tI)))))) a0] [] (aI r) [] := by
  refine fnC_of_W (B := bodyOf Try.f18) (n := 72) Try.func18 (by kernel_rfl) (by kernel_rfl) (by kernel_rfl) (by kernel_rfl) (by kernel_rfl) ?_
  intro K
  refine W_seq (by kernel_rfl) ?_
  refine W_run 2 [] [1] [1] (fr' := [(1, .one (.ptr 1 0))]) (L' := [(1, .one (.pair tI (.pair tI (.slice (.slice (.pair tI (.pair tI tI)))))) a0)]) (obs := []) (by kernel_rfl) (by kernel_rfl) (by kernel_rfl) allP0 ?_
  refine seqQ_norm ?_
  refine W_seq (by kernel_rfl) ?_
  refine W_seq (by kernel_rfl) ?_
  obtain ⟨v16, h17, h⟩ := bind_of h
  refine W_cutK (Q' := (exQ .normal (ref_MachineCheck_s19 a0)) v16) ?_ ?_
  · replace h := h17
    refine W_region (by kernel_rfl) ?_
    refine WO_run (j := 2) (k := 2) (orcs := []) (kF := [1, 10]) (kL := [1]) (fr' := [(1, .one (.ptr 1 0)), (10, aI a0.1)]) (L' := [(1, .one (.pair tI (.pair tI (.slice (.slice (.pair tI (.pair tI tI)))))) a0)]) (obs := []) rfl (by kernel_rfl) allP0 ?_
    obtain ⟨r11, h12, h⟩ := bind_of h
    refine WO_call0 (us := [none, none, none]) (d := 11) (p := True) (j := 3) rfl ⟨by kernel_rfl, by kernel_rfl, by kernel_rfl⟩ trivial (ref_Within_ok h12) (by kernel_rfl) ?_
    refine WO_run (j := 5) (k := 2) (orcs := []) (kF := [1, 13]) (kL := [1]) (fr' := [(1, .one (.ptr 1 0)), (13, aB (!r11))]) (L' := [(1, .one (.pair tI (.pair tI (.slice (.slice (.pair tI (.pair tI tI)))))) a0)]) (obs := []) rfl (by kernel_rfl) allP0 ?_
    rcases Bool.eq_false_or_eq_true (!r11) with h13 | h13
    · replace h := ofT h13 h
      refine WO_run (j := 10) (k := 5) (orcs := [(10, .known true), (12, .known true), (14, .known true), (16, .known true), (19, .val (.dat .bool true))]) (kF := [1, 18]) (kL := [1]) (fr' := [(1, .one (.ptr 1 0)), (18, aB true)]) (L' := [(1, .one (.pair tI (.pair tI (.slice (.slice (.pair tI (.pair tI tI)))))) a0)]) (obs := [((!r11) = true), ((!r11) = true), ((!r11) = true), ((!r11) = true), ((!r11) = true)]) rfl (by kernel_rfl) (allP2 h13 (allP2 h13 (allP2 h13 (allP2 h13 (allP1 h13))))) ?_
      obtain rfl := Option.some.inj h
      refine WO_fin [1, 18] [1] (fr' := [(1, .one (.ptr 1 0)), (18, aB true)]) (L' := [(1, .one (.pair tI (.pair tI (.slice (.slice (.pair tI (.pair tI tI)))))) a0)]) (by kernel_rfl) (by kernel_rfl) ?_
      exact exQ_mk (by kernel_rfl) (by kernel_rfl)
    · replace h := ofF h13 h
      refine WO_run (j := 7) (k := 2) (orcs := [(10, .known false), (12, .known false)]) (kF := [1, 13, 15]) (kL := [1]) (fr' := [(1, .one (.ptr 1 0)), (13, aB (!r11)), (15, aI a0.2.1)]) (L' := [(1, .one (.pair tI (.pair tI (.slice (.slice (.pair tI (.pair tI tI)))))) a0)]) (obs := [((!r11) = false), ((!r11) = false)]) rfl (by kernel_rfl) (allP2 h13 (allP1 h13)) ?_
      obtain ⟨r14, h15, h⟩ := bind_of h
      refine WO_call0 (us := [none, none, none]) (d := 16) (p := ((!r11) = false)) (j := 8) rfl ⟨by kernel_rfl, by kernel_rfl, by kernel_rfl⟩ h13 (ref_Within_ok h15) (by kernel_rfl) ?_
      refine WO_run (j := 10) (k := 2) (orcs := [(16, .known false), (19, .val (.dat .bool false))]) (kF := [1, 18]) (kL := [1]) (fr' := [(1, .one (.ptr 1 0)), (18, aB (!r14))]) (L' := [(1, .one (.pair tI (.pair tI (.slice (.slice (.pair tI (.pair tI tI)))))) a0)]) (obs := [((!r11) = false), ((!r11) = false)]) rfl (by kernel_rfl) (allP2 h13 (allP1 h13)) ?_
      obtain rfl := Option.some.inj h
      refine WO_fin [1, 18] [1] (fr' := [(1, .one (.ptr 1 0)), (18, aB (!r14))]) (L' := [(1, .one (.pair tI (.pair tI (.slice (.slice (.pair tI (.pair tI tI)))))) a0)]) (by kernel_rfl) (by kernel_rfl) ?_
      exact exQ_mk (by kernel_rfl) (by kernel_rfl)
  · intro e fr L hJ
    obtain ⟨rfl, rfl, rfl⟩ := hJ
    refine LT_keep [1, 18] [1] (fr' := [(1, .one (.ptr 1 0)), (18, aB v16)]) (L' := [(1, .one (.pair tI (.pair tI (.slice (.slice (.pair tI (.pair tI tI)))))) a0)]) (by kernel_rfl) ?_
    refine seqQ_norm ?_
    refine W_cond (o := .tmp 18) (b := v16) (by kernel_rfl) (by kernel_rfl) (fun h18 => ?_) (fun h18 => ?_)
    · replace h := ofT h18 h
      refine W_seq (by kernel_rfl) ?_
      refine W_run 1 [] [2] [] (fr' := [(2, aI (1 : Int))]) (L' := []) (obs := []) (by kernel_rfl) (by kernel_rfl) (by kernel_rfl) allP0 ?_
      refine seqQ_norm ?_
      obtain rfl := Option.some.inj h
      refine W_ret [2] [] (fr' := [(2, aI (1 : Int))]) (L' := []) (by kernel_rfl) (by kernel_rfl) ?_
      refine seqQ_ret ?_
      exact retQ_mk (by kernel_rfl) (by kernel_rfl) (by kernel_rfl)
    · replace h := ofF h18 h
      refine W_skip [1] [1] (fr' := [(1, .one (.ptr 1 0))]) (L' := [(1, .one (.pair tI (.pair tI (.slice (.slice (.pair tI (.pair tI tI)))))) a0)]) (by kernel_rfl) (by kernel_rfl) ?_
      refine seqQ_norm ?_
      refine W_seq (by kernel_rfl) ?_
      refine W_seq (by kernel_rfl) ?_
      refine W_run 6 [] [1, 24] [1] (fr' := [(1, .one (.ptr 1 0)), (24, aB ((List.length a0.2.2 : Int) != a0.1))]) (L' := [(1, .one (.pair tI (.pair tI (.slice (.slice (.pair tI (.pair tI tI)))))) a0)]) (obs := []) (by kernel_rfl) (by kernel_rfl) (by kernel_rfl) allP0 ?_
      refine seqQ_norm ?_
      refine W_cond (o := .tmp 24) (b := (List.length a0.2.2 : Int) != a0.1) (by kernel_rfl) (by kernel_rfl) (fun h19 => ?_) (fun h19 => ?_)
      · replace h := ofT h19 h
        refine W_seq (by kernel_rfl) ?_
        refine W_run 1 [] [2] [] (fr' := [(2, aI (3 : Int))]) (L' := []) (obs := []) (by kernel_rfl) (by kernel_rfl) (by kernel_rfl) allP0 ?_
        refine seqQ_norm ?_
        obtain rfl := Option.some.inj h
        refine W_ret [2] [] (fr' := [(2, aI (3 : Int))]) (L' := []) (by kernel_rfl) (by kernel_rfl) ?_
        refine seqQ_ret ?_
        exact retQ_mk (by kernel_rfl) (by kernel_rfl) (by kernel_rfl)
      · replace h := ofF h19 h
        refine W_skip [1] [1] (fr' := [(1, .one (.ptr 1 0))]) (L' := [(1, .one (.pair tI (.pair tI (.slice (.slice (.pair tI (.pair tI tI)))))) a0)]) (by kernel_rfl) (by kernel_rfl) ?_
        refine seqQ_norm ?_
        refine W_seq (by kernel_rfl) ?_
        refine W_seq (by kernel_rfl) ?_
        refine W_run 4 [] [1, 26, 27, 28] [1] (fr' := [(1, .one (.ptr 1 0)), (26, aD (.slice (.slice (.pair tI (.pair tI tI)))) a0.2.2), (27, aI (List.length a0.2.2 : Int)), (28, aI (0 : Int))]) (L' := [(1, .one (.pair tI (.pair tI (.slice (.slice (.pair tI (.pair tI tI)))))) a0)]) (obs := []) (by kernel_rfl) (by kernel_rfl) (by kernel_rfl) allP0 ?_
        refine seqQ_norm ?_
        refine W_block (id := 0) (by kernel_rfl) ?_
        obtain ⟨v38, h39, h⟩ := bind_of h
        refine W_len (t := 26) (u := (.slice (.pair tI (.pair tI tI)))) (xs := a0.2.2) (by kernel_rfl) (fun h42 => ?_)
        obtain ⟨h40, h41⟩ := forL_iter h42 h39
        refine W_weaken [1, 26, 27, 28] [1] (fr' := ((ref_MachineCheck_s2 a0) ((0 : Int), ())).1) (L' := ((ref_MachineCheck_s2 a0) ((0 : Int), ())).2) (by kernel_rfl) ?_
        refine W_cutK (W_loop (S := (ref_MachineCheck_s2 a0)) (J := (escQ (exQ .ret ref_MachineCheck_s3) (exQ (.exit 0) (ref_MachineCheck_s4 a0)))) (by kernel_rfl) ?_ h40 _ v38 h41) ?_
        · rintro ⟨i30, x31⟩ s h
          refine W_seq (by kernel_rfl) ?_
          refine W_run 1 [] [1, 26, 27, 28, 29] [1] (fr' := [(1, .one (.ptr 1 0)), (26, aD (.slice (.slice (.pair tI (.pair tI tI)))) a0.2.2), (27, aI (List.length a0.2.2 : Int)), (28, aI i30), (29, aB (decide (i30 < (List.length a0.2.2 : Int))))]) (L' := [(1, .one (.pair tI (.pair tI (.slice (.slice (.pair tI (.pair tI tI)))))) a0)]) (obs := []) (by kernel_rfl) (by kernel_rfl) (by kernel_rfl) allP0 ?_
          refine seqQ_norm ?_
          refine W_seq (by kernel_rfl) ?_
          refine W_cond (o := .tmp 29) (b := decide (i30 < (List.length a0.2.2 : Int))) (by kernel_rfl) (by kernel_rfl) (fun h35 => ?_) (fun h35 => ?_)
          · replace h := stepL_true h35 h
            obtain ⟨v33, _, h34, h, rfl⟩ := h
            refine W_skip [1, 26, 27, 28] [1] (fr' := [(1, .one (.ptr 1 0)), (26, aD (.slice (.slice (.pair tI (.pair tI tI)))) a0.2.2), (27, aI (List.length a0.2.2 : Int)), (28, aI i30)]) (L' := [(1, .one (.pair tI (.pair tI (.slice (.slice (.pair tI (.pair tI tI)))))) a0)]) (by kernel_rfl) (by kernel_rfl) ?_
            refine seqQ_norm ?_
            refine W_seq (by kernel_rfl) ?_
            refine W_block (id := 1) (by kernel_rfl) ?_
            refine W_seq (by kernel_rfl) ?_
            refine W_run 3 [(1, .val (.dat (.slice (.pair tI (.pair tI tI))) v33))] [1, 4, 26, 27, 28] [1] (fr' := [(1, .one (.ptr 1 0)), (4, aD (.slice (.pair tI (.pair tI tI))) v33), (26, aD (.slice (.slice (.pair tI (.pair tI tI)))) a0.2.2), (27, aI (List.length a0.2.2 : Int)), (28, aI i30)]) (L' := [(1, .one (.pair tI (.pair tI (.slice (.slice (.pair tI (.pair tI tI)))))) a0)]) (obs := [Idx a0.2.2 i30 v33]) (by kernel_rfl) (by kernel_rfl) (by kernel_rfl) (allP1 (Idx.of h34)) ?_
            refine seqQ_norm ?_
            refine W_seq (by kernel_rfl) ?_
            refine W_run 5 [] [1, 26, 27, 28, 36] [1] (fr' := [(1, .one (.ptr 1 0)), (26, aD (.slice (.slice (.pair tI (.pair tI tI)))) a0.2.2), (27, aI (List.length a0.2.2 : Int)), (28, aI i30), (36, aB ((List.length v33 : Int) != a0.2.1))]) (L' := [(1, .one (.pair tI (.pair tI (.slice (.slice (.pair tI (.pair tI tI)))))) a0)]) (obs := []) (by kernel_rfl) (by kernel_rfl) (by kernel_rfl) allP0 ?_
            refine seqQ_norm ?_
            refine W_cond (o := .tmp 36) (b := (List.length v33 : Int) != a0.2.1) (by kernel_rfl) (by kernel_rfl) (fun h36 => ?_) (fun h36 => ?_)
            · replace h := ofT h36 h
              refine W_seq (by kernel_rfl) ?_
              refine W_run 1 [] [2] [] (fr' := [(2, aI (3 : Int))]) (L' := []) (obs := []) (by kernel_rfl) (by kernel_rfl) (by kernel_rfl) allP0 ?_
              refine seqQ_norm ?_
              obtain rfl := Option.some.inj h
              refine W_ret [2] [] (fr' := [(2, aI (3 : Int))]) (L' := []) (by kernel_rfl) (by kernel_rfl) ?_
              refine blockQ_ret ?_
              refine seqQ_ret ?_
              refine round_ret ?_
              refine escQ_ret ?_
              exact exQ_mk (by kernel_rfl) (by kernel_rfl)
            · replace h := ofF h36 h
              refine W_skip [1, 26, 27, 28] [1] (fr' := [(1, .one (.ptr 1 0)), (26, aD (.slice (.slice (.pair tI (.pair tI tI)))) a0.2.2), (27, aI (List.length a0.2.2 : Int)), (28, aI i30)]) (L' := [(1, .one (.pair tI (.pair tI (.slice (.slice (.pair tI (.pair tI tI)))))) a0)]) (by kernel_rfl) (by kernel_rfl) ?_
              refine blockQ_norm ?_
              refine seqQ_norm ?_
              obtain rfl := Option.some.inj h
              refine W_run 2 [] [1, 26, 27, 28] [1] (fr' := [(1, .one (.ptr 1 0)), (26, aD (.slice (.slice (.pair tI (.pair tI tI)))) a0.2.2), (27, aI (List.length a0.2.2 : Int)), (28, aI (w64 (i30 + (1 : Int))))]) (L' := [(1, .one (.pair tI (.pair tI (.slice (.slice (.pair tI (.pair tI tI)))))) a0)]) (obs := []) (by kernel_rfl) (by kernel_rfl) (by kernel_rfl) allP0 ?_
              exact round_next' (by kernel_rfl) (by kernel_rfl)
          · obtain rfl := stepL_false h35 h
            refine W_exit (id := 0) [1] [1] (fr' := [(1, .one (.ptr 1 0))]) (L' := [(1, .one (.pair tI (.pair tI (.slice (.slice (.pair tI (.pair tI tI)))))) a0)]) (by kernel_rfl) (by kernel_rfl) ?_
            refine seqQ_exit ?_
            refine round_exit ?_
            refine escQ_brk ?_
            exact exQ_mk (by kernel_rfl) (by kernel_rfl)
        · intro e fr L hJ
          rcases v38 with v43 | v44
          · obtain ⟨rfl, rfl, rfl⟩ := hJ
            obtain rfl := Option.some.inj h
            refine LT_keep [2] [] (fr' := [(2, aI v43)]) (L' := []) (by kernel_rfl) ?_
            refine blockQ_ret ?_
            refine seqQ_ret ?_
            exact retQ_mk (by kernel_rfl) (by kernel_rfl) (by kernel_rfl)
          · obtain ⟨rfl, rfl, rfl⟩ := hJ
            refine LT_keep [1] [1] (fr' := [(1, .one (.ptr 1 0))]) (L' := [(1, .one (.pair tI (.pair tI (.slice (.slice (.pair tI (.pair tI tI)))))) a0)]) (by kernel_rfl) ?_
            refine blockQ_hit ?_
            refine seqQ_norm ?_
            refine W_seq (by kernel_rfl) ?_
            refine W_seq (by kernel_rfl) ?_
            refine W_run 4 [] [1, 39, 40, 41] [1] (fr' := [(1, .one (.ptr 1 0)), (39, aD (.slice (.slice (.pair tI (.pair tI tI)))) a0.2.2), (40, aI (List.length a0.2.2 : Int)), (41, aI (0 : Int))]) (L' := [(1, .one (.pair tI (.pair tI (.slice (.slice (.pair tI (.pair tI tI)))))) a0)]) (obs := []) (by kernel_rfl) (by kernel_rfl) (by kernel_rfl) allP0 ?_
            refine seqQ_norm ?_
            refine W_block (id := 2) (by kernel_rfl) ?_
            obtain ⟨v207, h208, h⟩ := bind_of h
            refine W_len (t := 39) (u := (.slice (.pair tI (.pair tI tI)))) (xs := a0.2.2) (by kernel_rfl) (fun h211 => ?_)
            obtain ⟨h209, h210⟩ := forL_iter h211 h208
            refine W_weaken [1, 39, 40, 41] [1] (fr' := ((ref_MachineCheck_s16 a0) ((0 : Int), ())).1) (L' := ((ref_MachineCheck_s16 a0) ((0 : Int), ())).2) (by kernel_rfl) ?_
            refine W_cutK (W_loop (S := (ref_MachineCheck_s16 a0)) (J := (escQ (exQ .ret ref_MachineCheck_s17) (exQ (.exit 2) ref_MachineCheck_s18))) (by kernel_rfl) ?_ h209 _ v207 h210) ?_
            · rintro ⟨i151, x152⟩ s h
              refine W_seq (by kernel_rfl) ?_
              refine W_run 1 [] [1, 39, 40, 41, 42] [1] (fr' := [(1, .one (.ptr 1 0)), (39, aD (.slice (.slice (.pair tI (.pair tI tI)))) a0.2.2), (40, aI (List.length a0.2.2 : Int)), (41, aI i151), (42, aB (decide (i151 < (List.length a0.2.2 : Int))))]) (L' := [(1, .one (.pair tI (.pair tI (.slice (.slice (.pair tI (.pair tI tI)))))) a0)]) (obs := []) (by kernel_rfl) (by kernel_rfl) (by kernel_rfl) allP0 ?_
              refine seqQ_norm ?_
              refine W_seq (by kernel_rfl) ?_
              refine W_cond (o := .tmp 42) (b := decide (i151 < (List.length a0.2.2 : Int))) (by kernel_rfl) (by kernel_rfl) (fun h156 => ?_) (fun h156 => ?_)
              · replace h := stepL_true h156 h
                obtain ⟨v154, _, h155, h, rfl⟩ := h
                refine W_skip [1, 39, 40, 41] [1] (fr' := [(1, .one (.ptr 1 0)), (39, aD (.slice (.slice (.pair tI (.pair tI tI)))) a0.2.2), (40, aI (List.length a0.2.2 : Int)), (41, aI i151)]) (L' := [(1, .one (.pair tI (.pair tI (.slice (.slice (.pair tI (.pair tI tI)))))) a0)]) (by kernel_rfl) (by kernel_rfl) ?_
                refine seqQ_norm ?_
                refine W_seq (by kernel_rfl) ?_
                refine W_block (id := 3) (by kernel_rfl) ?_
                refine W_seq (by kernel_rfl) ?_
                refine W_run 3 [(1, .val (.dat (.slice (.pair tI (.pair tI tI))) v154))] [1, 6, 39, 40, 41] [1] (fr' := [(1, .one (.ptr 1 0)), (6, aD (.slice (.pair tI (.pair tI tI))) v154), (39, aD (.slice (.slice (.pair tI (.pair tI tI)))) a0.2.2), (40, aI (List.length a0.2.2 : Int)), (41, aI i151)]) (L' := [(1, .one (.pair tI (.pair tI (.slice (.slice (.pair tI (.pair tI tI)))))) a0)]) (obs := [Idx a0.2.2 i151 v154]) (by kernel_rfl) (by kernel_rfl) (by kernel_rfl) (allP1 (Idx.of h155)) ?_
                refine seqQ_norm ?_
                refine W_seq (by kernel_rfl) ?_
                refine W_run 3 [] [1, 39, 40, 41, 45, 46, 47] [1] (fr' := [(1, .one (.ptr 1 0)), (39, aD (.slice (.slice (.pair tI (.pair tI tI)))) a0.2.2), (40, aI (List.length a0.2.2 : Int)), (41, aI i151), (45, aD (.slice (.pair tI (.pair tI tI))) v154), (46, aI (List.length v154 : Int)), (47, aI (0 : Int))]) (L' := [(1, .one (.pair tI (.pair tI (.slice (.slice (.pair tI (.pair tI tI)))))) a0)]) (obs := []) (by kernel_rfl) (by kernel_rfl) (by kernel_rfl) allP0 ?_
                refine seqQ_norm ?_
                refine W_block (id := 4) (by kernel_rfl) ?_
                obtain ⟨v199, h200, h⟩ := bind_of h
                refine W_len (t := 45) (u := (.pair tI (.pair tI tI))) (xs := v154) (by kernel_rfl) (fun h203 => ?_)
                obtain ⟨h201, h202⟩ := forL_iter h203 h200
                refine W_weaken [1, 39, 40, 41, 45, 46, 47] [1] (fr' := ((ref_MachineCheck_s12 a0 i151 v154) ((0 : Int), ())).1) (L' := ((ref_MachineCheck_s12 a0 i151 v154) ((0 : Int), ())).2) (by kernel_rfl) ?_
                refine W_cutK (W_loop (S := (ref_MachineCheck_s12 a0 i151 v154)) (J := (escQ (exQ .ret ref_MachineCheck_s13) (exQ (.exit 4) (ref_MachineCheck_s14 a0 i151)))) (by kernel_rfl) ?_ h201 _ v199 h202) ?_
                · rintro ⟨i183, x184⟩ s h
                  refine W_seq (by kernel_rfl) ?_
                  refine W_run 1 [] [1, 39, 40, 41, 45, 46, 47, 48] [1] (fr' := [(1, .one (.ptr 1 0)), (39, aD (.slice (.slice (.pair tI (.pair tI tI)))) a0.2.2), (40, aI (List.length a0.2.2 : Int)), (41, aI i151), (45, aD (.slice (.pair tI (.pair tI tI))) v154), (46, aI (List.length v154 : Int)), (47, aI i183), (48, aB (decide (i183 < (List.length v154 : Int))))]) (L' := [(1, .one (.pair tI (.pair tI (.slice (.slice (.pair tI (.pair tI tI)))))) a0)]) (obs := []) (by kernel_rfl) (by kernel_rfl) (by kernel_rfl) allP0 ?_
                  refine seqQ_norm ?_
                  refine W_seq (by kernel_rfl) ?_
                  refine W_cond (o := .tmp 48) (b := decide (i183 < (List.length v154 : Int))) (by kernel_rfl) (by kernel_rfl) (fun h188 => ?_) (fun h188 => ?_)
                  · replace h := stepL_true h188 h
                    obtain ⟨v186, _, h187, h, rfl⟩ := h
                    refine W_skip [1, 39, 40, 41, 45, 46, 47] [1] (fr' := [(1, .one (.ptr 1 0)), (39, aD (.slice (.slice (.pair tI (.pair tI tI)))) a0.2.2), (40, aI (List.length a0.2.2 : Int)), (41, aI i151), (45, aD (.slice (.pair tI (.pair tI tI))) v154), (46, aI (List.length v154 : Int)), (47, aI i183)]) (L' := [(1, .one (.pair tI (.pair tI (.slice (.slice (.pair tI (.pair tI tI)))))) a0)]) (by kernel_rfl) (by kernel_rfl) ?_
                    refine seqQ_norm ?_
                    refine W_seq (by kernel_rfl) ?_
                    refine W_block (id := 5) (by kernel_rfl) ?_
                    refine W_seq (by kernel_rfl) ?_
                    refine W_run 4 [(1, .val (.dat (.pair tI (.pair tI tI)) v186)), (5, .typed)] [1, 8, 39, 40, 41, 45, 46, 47] [1, 8] (fr' := [(1, .one (.ptr 1 0)), (8, .one (.ptr 8 0)), (39, aD (.slice (.slice (.pair tI (.pair tI tI)))) a0.2.2), (40, aI (List.length a0.2.2 : Int)), (41, aI i151), (45, aD (.slice (.pair tI (.pair tI tI))) v154), (46, aI (List.length v154 : Int)), (47, aI i183)]) (L' := [(1, .one (.pair tI (.pair tI (.slice (.slice (.pair tI (.pair tI tI)))))) a0), (8, .one (.pair tI (.pair tI tI)) v186)]) (obs := [Idx v154 i183 v186, True]) (by kernel_rfl) (by kernel_rfl) (by kernel_rfl) (allP2 (Idx.of h187) (allP1 trivial)) ?_
                    refine seqQ_norm ?_
                    refine W_seq (by kernel_rfl) ?_
                    refine W_seq (by kernel_rfl) ?_
                    refine W_region (by kernel_rfl) ?_
                    refine WO_run (j := 5) (k := 5) (orcs := []) (kF := [1, 8, 39, 40, 41, 45, 46, 47, 52, 55]) (kL := [1, 8, 55]) (fr' := [(1, .one (.ptr 1 0)), (8, .one (.ptr 8 0)), (39, aD (.slice (.slice (.pair tI (.pair tI tI)))) a0.2.2), (40, aI (List.length a0.2.2 : Int)), (41, aI i151), (45, aD (.slice (.pair tI (.pair tI tI))) v154), (46, aI (List.length v154 : Int)), (47, aI i183), (52, aI a0.2.1), (55, .one (.slc 55))]) (L' := [(1, .one (.pair tI (.pair tI (.slice (.slice (.pair tI (.pair tI tI)))))) a0), (8, .one (.pair tI (.pair tI tI)) v186), (55, .seq tI [v186.1])]) (obs := []) rfl (by kernel_rfl) allP0 ?_
                    obtain ⟨r189, h190, h⟩ := bind_of h
                    refine WO_frz 55 (by kernel_rfl) ?_
                    refine WO_call0 (us := [none, none]) (d := 56) (p := True) (j := 6) rfl ⟨by kernel_rfl, by kernel_rfl, by kernel_rfl⟩ trivial (ref_Inside_ok h190) (by kernel_rfl) ?_
                    refine WO_run (j := 7) (k := 1) (orcs := []) (kF := [1, 8, 39, 40, 41, 45, 46, 47, 57]) (kL := [1, 8]) (fr' := [(1, .one (.ptr 1 0)), (8, .one (.ptr 8 0)), (39, aD (.slice (.slice (.pair tI (.pair tI tI)))) a0.2.2), (40, aI (List.length a0.2.2 : Int)), (41, aI i151), (45, aD (.slice (.pair tI (.pair tI tI))) v154), (46, aI (List.length v154 : Int)), (47, aI i183), (57, aB (!r189))]) (L' := [(1, .one (.pair tI (.pair tI (.slice (.slice (.pair tI (.pair tI tI)))))) a0), (8, .one (.pair tI (.pair tI tI)) v186)]) (obs := []) rfl (by kernel_rfl) allP0 ?_
                    refine WO_fin [1, 8, 39, 40, 41, 45, 46, 47, 57] [1, 8] (fr' := [(1, .one (.ptr 1 0)), (8, .one (.ptr 8 0)), (39, aD (.slice (.slice (.pair tI (.pair tI tI)))) a0.2.2), (40, aI (List.length a0.2.2 : Int)), (41, aI i151), (45, aD (.slice (.pair tI (.pair tI tI))) v154), (46, aI (List.length v154 : Int)), (47, aI i183), (57, aB (!r189))]) (L' := [(1, .one (.pair tI (.pair tI (.slice (.slice (.pair tI (.pair tI tI)))))) a0), (8, .one (.pair tI (.pair tI tI)) v186)]) (by kernel_rfl) (by kernel_rfl) ?_
                    refine seqQ_norm ?_
                    refine W_cond (o := .tmp 57) (b := !r189) (by kernel_rfl) (by kernel_rfl) (fun h191 => ?_) (fun h191 => ?_)
                    · replace h := ofT h191 h
                      refine W_seq (by kernel_rfl) ?_
                      refine W_run 1 [] [2] [] (fr' := [(2, aI (2 : Int))]) (L' := []) (obs := []) (by kernel_rfl) (by kernel_rfl) (by kernel_rfl) allP0 ?_
                      refine seqQ_norm ?_
                      obtain rfl := Option.some.inj h
                      refine W_ret [2] [] (fr' := [(2, aI (2 : Int))]) (L' := []) (by kernel_rfl) (by kernel_rfl) ?_
                      refine seqQ_ret ?_
                      refine blockQ_ret ?_
                      refine seqQ_ret ?_
                      refine round_ret ?_
                      refine escQ_ret ?_
                      exact exQ_mk (by kernel_rfl) (by kernel_rfl)
                    · replace h := ofF h191 h
                      refine W_skip [1, 8, 39, 40, 41, 45, 46, 47] [1, 8] (fr' := [(1, .one (.ptr 1 0)), (8, .one (.ptr 8 0)), (39, aD (.slice (.slice (.pair tI (.pair tI tI)))) a0.2.2), (40, aI (List.length a0.2.2 : Int)), (41, aI i151), (45, aD (.slice (.pair tI (.pair tI tI))) v154), (46, aI (List.length v154 : Int)), (47, aI i183)]) (L' := [(1, .one (.pair tI (.pair tI (.slice (.slice (.pair tI (.pair tI tI)))))) a0), (8, .one (.pair tI (.pair tI tI)) v186)]) (by kernel_rfl) (by kernel_rfl) ?_
                      refine seqQ_norm ?_
                      refine W_seq (by kernel_rfl) ?_
                      refine W_seq (by kernel_rfl) ?_
                      refine W_region (by kernel_rfl) ?_
                      refine WO_run (j := 2) (k := 2) (orcs := []) (kF := [1, 8, 39, 40, 41, 45, 46, 47, 59]) (kL := [1, 8]) (fr' := [(1, .one (.ptr 1 0)), (8, .one (.ptr 8 0)), (39, aD (.slice (.slice (.pair tI (.pair tI tI)))) a0.2.2), (40, aI (List.length a0.2.2 : Int)), (41, aI i151), (45, aD (.slice (.pair tI (.pair tI tI))) v154), (46, aI (List.length v154 : Int)), (47, aI i183), (59, aI v186.2.1)]) (L' := [(1, .one (.pair tI (.pair tI (.slice (.slice (.pair tI (.pair tI tI)))))) a0), (8, .one (.pair tI (.pair tI tI)) v186)]) (obs := []) rfl (by kernel_rfl) allP0 ?_
                      obtain ⟨r192, h193, h⟩ := bind_of h
                      refine WO_call0 (us := [none, none, none]) (d := 60) (p := True) (j := 3) rfl ⟨by kernel_rfl, by kernel_rfl, by kernel_rfl⟩ trivial (ref_Within_ok h193) (by kernel_rfl) ?_
                      refine WO_run (j := 4) (k := 1) (orcs := []) (kF := [1, 8, 39, 40, 41, 45, 46, 47, 61]) (kL := [1, 8]) (fr' := [(1, .one (.ptr 1 0)), (8, .one (.ptr 8 0)), (39, aD (.slice (.slice (.pair tI (.pair tI tI)))) a0.2.2), (40, aI (List.length a0.2.2 : Int)), (41, aI i151), (45, aD (.slice (.pair tI (.pair tI tI))) v154), (46, aI (List.length v154 : Int)), (47, aI i183), (61, aB (!r192))]) (L' := [(1, .one (.pair tI (.pair tI (.slice (.slice (.pair tI (.pair tI tI)))))) a0), (8, .one (.pair tI (.pair tI tI)) v186)]) (obs := []) rfl (by kernel_rfl) allP0 ?_
                      refine WO_fin [1, 8, 39, 40, 41, 45, 46, 47, 61] [1, 8] (fr' := [(1, .one (.ptr 1 0)), (8, .one (.ptr 8 0)), (39, aD (.slice (.slice (.pair tI (.pair tI tI)))) a0.2.2), (40, aI (List.length a0.2.2 : Int)), (41, aI i151), (45, aD (.slice (.pair tI (.pair tI tI))) v154), (46, aI (List.length v154 : Int)), (47, aI i183), (61, aB (!r192))]) (L' := [(1, .one (.pair tI (.pair tI (.slice (.slice (.pair tI (.pair tI tI)))))) a0), (8, .one (.pair tI (.pair tI tI)) v186)]) (by kernel_rfl) (by kernel_rfl) ?_
                      refine seqQ_norm ?_
                      refine W_cond (o := .tmp 61) (b := !r192) (by kernel_rfl) (by kernel_rfl) (fun h194 => ?_) (fun h194 => ?_)
                      · replace h := ofT h194 h
                        refine W_seq (by kernel_rfl) ?_
                        refine W_run 1 [] [2] [] (fr' := [(2, aI (4 : Int))]) (L' := []) (obs := []) (by kernel_rfl) (by kernel_rfl) (by kernel_rfl) allP0 ?_
                        refine seqQ_norm ?_
                        obtain rfl := Option.some.inj h
                        refine W_ret [2] [] (fr' := [(2, aI (4 : Int))]) (L' := []) (by kernel_rfl) (by kernel_rfl) ?_
                        refine seqQ_ret ?_
                        refine blockQ_ret ?_
                        refine seqQ_ret ?_
                        refine round_ret ?_
                        refine escQ_ret ?_
                        exact exQ_mk (by kernel_rfl) (by kernel_rfl)
                      · replace h := ofF h194 h
                        refine W_skip [1, 8, 39, 40, 41, 45, 46, 47] [1, 8] (fr' := [(1, .one (.ptr 1 0)), (8, .one (.ptr 8 0)), (39, aD (.slice (.slice (.pair tI (.pair tI tI)))) a0.2.2), (40, aI (List.length a0.2.2 : Int)), (41, aI i151), (45, aD (.slice (.pair tI (.pair tI tI))) v154), (46, aI (List.length v154 : Int)), (47, aI i183)]) (L' := [(1, .one (.pair tI (.pair tI (.slice (.slice (.pair tI (.pair tI tI)))))) a0), (8, .one (.pair tI (.pair tI tI)) v186)]) (by kernel_rfl) (by kernel_rfl) ?_
                        refine seqQ_norm ?_
                        refine W_seq (by kernel_rfl) ?_
                        refine W_region (by kernel_rfl) ?_
                        refine WO_run (j := 6) (k := 6) (orcs := []) (kF := [1, 39, 40, 41, 45, 46, 47, 64, 67]) (kL := [1, 8, 67]) (fr' := [(1, .one (.ptr 1 0)), (39, aD (.slice (.slice (.pair tI (.pair tI tI)))) a0.2.2), (40, aI (List.length a0.2.2 : Int)), (41, aI i151), (45, aD (.slice (.pair tI (.pair tI tI))) v154), (46, aI (List.length v154 : Int)), (47, aI i183), (64, aI (w64 (a0.1 + (1 : Int)))), (67, .one (.slc 67))]) (L' := [(1, .one (.pair tI (.pair tI (.slice (.slice (.pair tI (.pair tI tI)))))) a0), (8, .one (.pair tI (.pair tI tI)) v186), (67, .seq tI [v186.2.2])]) (obs := []) rfl (by kernel_rfl) allP0 ?_
                        obtain ⟨r195, h196, h⟩ := bind_of h
                        refine WO_frz 67 (by kernel_rfl) ?_
                        refine WO_call0 (us := [none, none]) (d := 68) (p := True) (j := 7) rfl ⟨by kernel_rfl, by kernel_rfl, by kernel_rfl⟩ trivial (ref_Inside_ok h196) (by kernel_rfl) ?_
                        refine WO_run (j := 8) (k := 1) (orcs := []) (kF := [1, 39, 40, 41, 45, 46, 47, 69]) (kL := [1, 8]) (fr' := [(1, .one (.ptr 1 0)), (39, aD (.slice (.slice (.pair tI (.pair tI tI)))) a0.2.2), (40, aI (List.length a0.2.2 : Int)), (41, aI i151), (45, aD (.slice (.pair tI (.pair tI tI))) v154), (46, aI (List.length v154 : Int)), (47, aI i183), (69, aB (!r195))]) (L' := [(1, .one (.pair tI (.pair tI (.slice (.slice (.pair tI (.pair tI tI)))))) a0), (8, .one (.pair tI (.pair tI tI)) v186)]) (obs := []) rfl (by kernel_rfl) allP0 ?_
                        refine WO_fin [1, 39, 40, 41, 45, 46, 47, 69] [1] (fr' := [(1, .one (.ptr 1 0)), (39, aD (.slice (.slice (.pair tI (.pair tI tI)))) a0.2.2), (40, aI (List.length a0.2.2 : Int)), (41, aI i151), (45, aD (.slice (.pair tI (.pair tI tI))) v154), (46, aI (List.length v154 : Int)), (47, aI i183), (69, aB (!r195))]) (L' := [(1, .one (.pair tI (.pair tI (.slice (.slice (.pair tI (.pair tI tI)))))) a0)]) (by kernel_rfl) (by kernel_rfl) ?_
                        refine seqQ_norm ?_
                        refine W_cond (o := .tmp 69) (b := !r195) (by kernel_rfl) (by kernel_rfl) (fun h197 => ?_) (fun h197 => ?_)
                        · replace h := ofT h197 h
                          refine W_seq (by kernel_rfl) ?_
                          refine W_run 1 [] [2] [] (fr' := [(2, aI (2 : Int))]) (L' := []) (obs := []) (by kernel_rfl) (by kernel_rfl) (by kernel_rfl) allP0 ?_
                          refine seqQ_norm ?_
                          obtain rfl := Option.some.inj h
                          refine W_ret [2] [] (fr' := [(2, aI (2 : Int))]) (L' := []) (by kernel_rfl) (by kernel_rfl) ?_
                          refine blockQ_ret ?_
                          refine seqQ_ret ?_
                          refine round_ret ?_
                          refine escQ_ret ?_
                          exact exQ_mk (by kernel_rfl) (by kernel_rfl)
                        · replace h := ofF h197 h
                          refine W_skip [1, 39, 40, 41, 45, 46, 47] [1] (fr' := [(1, .one (.ptr 1 0)), (39, aD (.slice (.slice (.pair tI (.pair tI tI)))) a0.2.2), (40, aI (List.length a0.2.2 : Int)), (41, aI i151), (45, aD (.slice (.pair tI (.pair tI tI))) v154), (46, aI (List.length v154 : Int)), (47, aI i183)]) (L' := [(1, .one (.pair tI (.pair tI (.slice (.slice (.pair tI (.pair tI tI)))))) a0)]) (by kernel_rfl) (by kernel_rfl) ?_
                          refine blockQ_norm ?_
                          refine seqQ_norm ?_
                          obtain rfl := Option.some.inj h
                          refine W_run 2 [] [1, 39, 40, 41, 45, 46, 47] [1] (fr' := [(1, .one (.ptr 1 0)), (39, aD (.slice (.slice (.pair tI (.pair tI tI)))) a0.2.2), (40, aI (List.length a0.2.2 : Int)), (41, aI i151), (45, aD (.slice (.pair tI (.pair tI tI))) v154), (46, aI (List.length v154 : Int)), (47, aI (w64 (i183 + (1 : Int))))]) (L' := [(1, .one (.pair tI (.pair tI (.slice (.slice (.pair tI (.pair tI tI)))))) a0)]) (obs := []) (by kernel_rfl) (by kernel_rfl) (by kernel_rfl) allP0 ?_
                          exact round_next' (by kernel_rfl) (by kernel_rfl)
                  · obtain rfl := stepL_false h188 h
                    refine W_exit (id := 4) [1, 39, 40, 41] [1] (fr' := [(1, .one (.ptr 1 0)), (39, aD (.slice (.slice (.pair tI (.pair tI tI)))) a0.2.2), (40, aI (List.length a0.2.2 : Int)), (41, aI i151)]) (L' := [(1, .one (.pair tI (.pair tI (.slice (.slice (.pair tI (.pair tI tI)))))) a0)]) (by kernel_rfl) (by kernel_rfl) ?_
                    refine seqQ_exit ?_
                    refine round_exit ?_
                    refine escQ_brk ?_
                    exact exQ_mk (by kernel_rfl) (by kernel_rfl)
                · intro e fr L hJ
                  rcases v199 with v204 | v205
                  · obtain ⟨rfl, rfl, rfl⟩ := hJ
                    obtain rfl := Option.some.inj h
                    refine LT_keep [2] [] (fr' := [(2, aI v204)]) (L' := []) (by kernel_rfl) ?_
                    refine blockQ_ret ?_
                    refine blockQ_ret ?_
                    refine seqQ_ret ?_
                    refine round_ret ?_
                    refine escQ_ret ?_
                    exact exQ_mk (by kernel_rfl) (by kernel_rfl)
                  · obtain ⟨rfl, rfl, rfl⟩ := hJ
                    refine LT_keep [1, 39, 40, 41] [1] (fr' := [(1, .one (.ptr 1 0)), (39, aD (.slice (.slice (.pair tI (.pair tI tI)))) a0.2.2), (40, aI (List.length a0.2.2 : Int)), (41, aI i151)]) (L' := [(1, .one (.pair tI (.pair tI (.slice (.slice (.pair tI (.pair tI tI)))))) a0)]) (by kernel_rfl) ?_
                    refine blockQ_hit ?_
                    refine blockQ_norm ?_
                    refine seqQ_norm ?_
                    obtain rfl := Option.some.inj h
                    refine W_run 2 [] [1, 39, 40, 41] [1] (fr' := [(1, .one (.ptr 1 0)), (39, aD (.slice (.slice (.pair tI (.pair tI tI)))) a0.2.2), (40, aI (List.length a0.2.2 : Int)), (41, aI (w64 (i151 + (1 : Int))))]) (L' := [(1, .one (.pair tI (.pair tI (.slice (.slice (.pair tI (.pair tI tI)))))) a0)]) (obs := []) (by kernel_rfl) (by kernel_rfl) (by kernel_rfl) allP0 ?_
                    exact round_next' (by kernel_rfl) (by kernel_rfl)
              · obtain rfl := stepL_false h156 h
                refine W_exit (id := 2) [] [] (fr' := []) (L' := []) (by kernel_rfl) (by kernel_rfl) ?_
                refine seqQ_exit ?_
                refine round_exit ?_
                refine escQ_brk ?_
                exact exQ_mk (by kernel_rfl) (by kernel_rfl)
            · intro e fr L hJ
              rcases v207 with v212 | v213
              · obtain ⟨rfl, rfl, rfl⟩ := hJ
                obtain rfl := Option.some.inj h
                refine LT_keep [2] [] (fr' := [(2, aI v212)]) (L' := []) (by kernel_rfl) ?_
                refine blockQ_ret ?_
                refine seqQ_ret ?_
                exact retQ_mk (by kernel_rfl) (by kernel_rfl) (by kernel_rfl)
              · obtain ⟨rfl, rfl, rfl⟩ := hJ
                refine LT_keep [] [] (fr' := []) (L' := []) (by kernel_rfl) ?_
                refine blockQ_hit ?_
                refine seqQ_norm ?_
                refine W_seq (by kernel_rfl) ?_
                refine W_run 1 [] [2] [] (fr' := [(2, aI (0 : Int))]) (L' := []) (obs := []) (by kernel_rfl) (by kernel_rfl) (by kernel_rfl) allP0 ?_
                refine seqQ_norm ?_
                obtain rfl := Option.some.inj h
                refine W_ret [2] [] (fr' := [(2, aI (0 : Int))]) (L' := []) (by kernel_rfl) (by kernel_rfl) ?_
                exact retQ_mk (by kernel_rfl) (by kernel_rfl) (by kernel_rfl)

noncomputable def ref_RunCheck (a0 : (Int × (Int × (List (List (Int × (Int × Int))))))) (a1 : (List Int)) (a2 : Int) : Option Int :=
(ref_MachineCheck a0).bind fun r1 =>
bif r1 != (0 : Int) then
(some r1)
else
(bif decide ((List.length a1 : Int) > (8 : Int)) then
(some (1 : Int))
else
((ref_Inside a0.2.1 a1).bind fun r5 =>
bif !r5 then
(some (2 : Int))
else
((ref_Within (0 : Int) a2 (60 : Int)).bind fun r8 =>
bif !r8 then
(some (7 : Int))
else
(some (0 : Int)))))
theorem ref_RunCheck_ok {a0 : (Int × (Int × (List (List (Int × (Int × Int))))))} {a1 : (List Int)} {a2 : Int} {r : Int} (h : ref_RunCheck a0 a1 a2 = some r) : FnC Try.prog 39 [aD (.pair tI (.pair tI (.slice (.slice (.pair tI (.pair tI tI)))))) a0, aD (.slice tI) a1, aI a2] [] (aI r) [] := by
  refine fnC_of_W (B := bodyOf Try.f39) (n := 24) Try.func39 (by kernel_rfl) (by kernel_rfl) (by kernel_rfl) (by kernel_rfl) (by kernel_rfl) ?_
  intro K
  refine W_seq (by kernel_rfl) ?_
  refine W_run 2 [] [1, 2, 3] [3] (fr' := [(1, aD (.slice tI) a1), (2, aI a2), (3, .one (.ptr 3 0))]) (L' := [(3, .one (.pair tI (.pair tI (.slice (.slice (.pair tI (.pair tI tI)))))) a0)]) (obs := []) (by kernel_rfl) (by kernel_rfl) (by kernel_rfl) allP0 ?_
  refine seqQ_norm ?_
  refine W_seq (by kernel_rfl) ?_
  refine W_region (by kernel_rfl) ?_
  refine WO_run (j := 1) (k := 1) (orcs := []) (kF := [1, 2, 3, 8]) (kL := [3]) (fr' := [(1, aD (.slice tI) a1), (2, aI a2), (3, .one (.ptr 3 0)), (8, aD (.pair tI (.pair tI (.slice (.slice (.pair tI (.pair tI tI)))))) a0)]) (L' := [(3, .one (.pair tI (.pair tI (.slice (.slice (.pair tI (.pair tI tI)))))) a0)]) (obs := []) rfl (by kernel_rfl) allP0 ?_
  obtain ⟨r1, h2, h⟩ := bind_of h
  refine WO_call0 (us := [none]) (d := 9) (p := True) (j := 2) rfl ⟨by kernel_rfl, by kernel_rfl, by kernel_rfl⟩ trivial (ref_MachineCheck_ok h2) (by kernel_rfl) ?_
  refine WO_run (j := 3) (k := 1) (orcs := []) (kF := [1, 2, 3, 7]) (kL := [3]) (fr' := [(1, aD (.slice tI) a1), (2, aI a2), (3, .one (.ptr 3 0)), (7, aI r1)]) (L' := [(3, .one (.pair tI (.pair tI (.slice (.slice (.pair tI (.pair tI tI)))))) a0)]) (obs := []) rfl (by kernel_rfl) allP0 ?_
  refine WO_fin [1, 2, 3, 7] [3] (fr' := [(1, aD (.slice tI) a1), (2, aI a2), (3, .one (.ptr 3 0)), (7, aI r1)]) (L' := [(3, .one (.pair tI (.pair tI (.slice (.slice (.pair tI (.pair tI tI)))))) a0)]) (by kernel_rfl) (by kernel_rfl) ?_
  refine seqQ_norm ?_
  refine W_seq (by kernel_rfl) ?_
  refine W_seq (by kernel_rfl) ?_
  refine W_run 2 [] [1, 2, 3, 7, 11] [3] (fr' := [(1, aD (.slice tI) a1), (2, aI a2), (3, .one (.ptr 3 0)), (7, aI r1), (11, aB (r1 != (0 : Int)))]) (L' := [(3, .one (.pair tI (.pair tI (.slice (.slice (.pair tI (.pair tI tI)))))) a0)]) (obs := []) (by kernel_rfl) (by kernel_rfl) (by kernel_rfl) allP0 ?_
  refine seqQ_norm ?_
  refine W_cond (o := .tmp 11) (b := r1 != (0 : Int)) (by kernel_rfl) (by kernel_rfl) (fun h3 => ?_) (fun h3 => ?_)
  · replace h := ofT h3 h
    refine W_seq (by kernel_rfl) ?_
    refine W_run 2 [] [6] [] (fr' := [(6, aI r1)]) (L' := []) (obs := []) (by kernel_rfl) (by kernel_rfl) (by kernel_rfl) allP0 ?_
    refine seqQ_norm ?_
    obtain rfl := Option.some.inj h
    refine W_ret [6] [] (fr' := [(6, aI r1)]) (L' := []) (by kernel_rfl) (by kernel_rfl) ?_
    refine seqQ_ret ?_
    exact retQ_mk (by kernel_rfl) (by kernel_rfl) (by kernel_rfl)
  · replace h := ofF h3 h
    refine W_skip [1, 2, 3] [3] (fr' := [(1, aD (.slice tI) a1), (2, aI a2), (3, .one (.ptr 3 0))]) (L' := [(3, .one (.pair tI (.pair tI (.slice (.slice (.pair tI (.pair tI tI)))))) a0)]) (by kernel_rfl) (by kernel_rfl) ?_
    refine seqQ_norm ?_
    refine W_seq (by kernel_rfl) ?_
    refine W_seq (by kernel_rfl) ?_
    refine W_run 3 [] [1, 2, 3, 15] [3] (fr' := [(1, aD (.slice tI) a1), (2, aI a2), (3, .one (.ptr 3 0)), (15, aB (decide ((List.length a1 : Int) > (8 : Int))))]) (L' := [(3, .one (.pair tI (.pair tI (.slice (.slice (.pair tI (.pair tI tI)))))) a0)]) (obs := []) (by kernel_rfl) (by kernel_rfl) (by kernel_rfl) allP0 ?_
    refine seqQ_norm ?_
    refine W_cond (o := .tmp 15) (b := decide ((List.length a1 : Int) > (8 : Int))) (by kernel_rfl) (by kernel_rfl) (fun h4 => ?_) (fun h4 => ?_)
    · replace h := ofT h4 h
      refine W_seq (by kernel_rfl) ?_
      refine W_run 1 [] [6] [] (fr' := [(6, aI (1 : Int))]) (L' := []) (obs := []) (by kernel_rfl) (by kernel_rfl) (by kernel_rfl) allP0 ?_
      refine seqQ_norm ?_
      obtain rfl := Option.some.inj h
      refine W_ret [6] [] (fr' := [(6, aI (1 : Int))]) (L' := []) (by kernel_rfl) (by kernel_rfl) ?_
      refine seqQ_ret ?_
      exact retQ_mk (by kernel_rfl) (by kernel_rfl) (by kernel_rfl)
    · replace h := ofF h4 h
      refine W_skip [1, 2, 3] [3] (fr' := [(1, aD (.slice tI) a1), (2, aI a2), (3, .one (.ptr 3 0))]) (L' := [(3, .one (.pair tI (.pair tI (.slice (.slice (.pair tI (.pair tI tI)))))) a0)]) (by kernel_rfl) (by kernel_rfl) ?_
      refine seqQ_norm ?_
      refine W_seq (by kernel_rfl) ?_
      refine W_seq (by kernel_rfl) ?_
      refine W_region (by kernel_rfl) ?_
      refine WO_run (j := 3) (k := 3) (orcs := []) (kF := [2, 17, 18]) (kL := [3]) (fr' := [(2, aI a2), (17, aI a0.2.1), (18, aD (.slice tI) a1)]) (L' := [(3, .one (.pair tI (.pair tI (.slice (.slice (.pair tI (.pair tI tI)))))) a0)]) (obs := []) rfl (by kernel_rfl) allP0 ?_
      obtain ⟨r5, h6, h⟩ := bind_of h
      refine WO_call0 (us := [none, none]) (d := 19) (p := True) (j := 4) rfl ⟨by kernel_rfl, by kernel_rfl, by kernel_rfl⟩ trivial (ref_Inside_ok h6) (by kernel_rfl) ?_
      refine WO_run (j := 5) (k := 1) (orcs := []) (kF := [2, 20]) (kL := [3]) (fr' := [(2, aI a2), (20, aB (!r5))]) (L' := [(3, .one (.pair tI (.pair tI (.slice (.slice (.pair tI (.pair tI tI)))))) a0)]) (obs := []) rfl (by kernel_rfl) allP0 ?_
      refine WO_fin [2, 20] [] (fr' := [(2, aI a2), (20, aB (!r5))]) (L' := []) (by kernel_rfl) (by kernel_rfl) ?_
      refine seqQ_norm ?_
      refine W_cond (o := .tmp 20) (b := !r5) (by kernel_rfl) (by kernel_rfl) (fun h7 => ?_) (fun h7 => ?_)
      · replace h := ofT h7 h
        refine W_seq (by kernel_rfl) ?_
        refine W_run 1 [] [6] [] (fr' := [(6, aI (2 : Int))]) (L' := []) (obs := []) (by kernel_rfl) (by kernel_rfl) (by kernel_rfl) allP0 ?_
        refine seqQ_norm ?_
        obtain rfl := Option.some.inj h
        refine W_ret [6] [] (fr' := [(6, aI (2 : Int))]) (L' := []) (by kernel_rfl) (by kernel_rfl) ?_
        refine seqQ_ret ?_
        exact retQ_mk (by kernel_rfl) (by kernel_rfl) (by kernel_rfl)
      · replace h := ofF h7 h
        refine W_skip [2] [] (fr' := [(2, aI a2)]) (L' := []) (by kernel_rfl) (by kernel_rfl) ?_
        refine seqQ_norm ?_
        refine W_seq (by kernel_rfl) ?_
        refine W_seq (by kernel_rfl) ?_
        refine W_region (by kernel_rfl) ?_
        refine WO_run (j := 1) (k := 1) (orcs := []) (kF := [21]) (kL := []) (fr' := [(21, aI a2)]) (L' := []) (obs := []) rfl (by kernel_rfl) allP0 ?_
        obtain ⟨r8, h9, h⟩ := bind_of h
        refine WO_call0 (us := [none, none, none]) (d := 22) (p := True) (j := 2) rfl ⟨by kernel_rfl, by kernel_rfl, by kernel_rfl⟩ trivial (ref_Within_ok h9) (by kernel_rfl) ?_
        refine WO_run (j := 3) (k := 1) (orcs := []) (kF := [23]) (kL := []) (fr' := [(23, aB (!r8))]) (L' := []) (obs := []) rfl (by kernel_rfl) allP0 ?_
        refine WO_fin [23] [] (fr' := [(23, aB (!r8))]) (L' := []) (by kernel_rfl) (by kernel_rfl) ?_
        refine seqQ_norm ?_
        refine W_cond (o := .tmp 23) (b := !r8) (by kernel_rfl) (by kernel_rfl) (fun h10 => ?_) (fun h10 => ?_)
        · replace h := ofT h10 h
          refine W_seq (by kernel_rfl) ?_
          refine W_run 1 [] [6] [] (fr' := [(6, aI (7 : Int))]) (L' := []) (obs := []) (by kernel_rfl) (by kernel_rfl) (by kernel_rfl) allP0 ?_
          refine seqQ_norm ?_
          obtain rfl := Option.some.inj h
          refine W_ret [6] [] (fr' := [(6, aI (7 : Int))]) (L' := []) (by kernel_rfl) (by kernel_rfl) ?_
          refine seqQ_ret ?_
          exact retQ_mk (by kernel_rfl) (by kernel_rfl) (by kernel_rfl)
        · replace h := ofF h10 h
          refine W_skip [] [] (fr' := []) (L' := []) (by kernel_rfl) (by kernel_rfl) ?_
          refine seqQ_norm ?_
          refine W_seq (by kernel_rfl) ?_
          refine W_run 1 [] [6] [] (fr' := [(6, aI (0 : Int))]) (L' := []) (obs := []) (by kernel_rfl) (by kernel_rfl) (by kernel_rfl) allP0 ?_
          refine seqQ_norm ?_
          obtain rfl := Option.some.inj h
          refine W_ret [6] [] (fr' := [(6, aI (0 : Int))]) (L' := []) (by kernel_rfl) (by kernel_rfl) ?_
          exact retQ_mk (by kernel_rfl) (by kernel_rfl) (by kernel_rfl)

noncomputable def ref_Start_b4 (a1 : Int) (i32 : Int) (v35 : Int) (x33 : (List (Int × Int))) : Option (Flow (List (Int × Int)) (List (Int × Int))) :=
(ck ((List.length x33 : Int) + 1 ≤ 4294967296)).bind fun _ =>
some (.next (x33 ++ [(w64 (a1 + i32), v35)]))
@[reducible] noncomputable def ref_Start_s5 (a0 : (List Int)) (a1 : Int) (a2 : Int) (a3 : Int) (v : Int × (List (Int × Int))) : Fr × LL := ([(1, aI a1), (8, .one (.ptr 8 0)), (9, .one (.ptr 9 0)), (15, aD (.slice tI) a0), (16, aI (List.length a0 : Int)), (17, aI v.1)], [(8, .cells [.nilS, .dat tI (0 : Int), .dat tI (0 : Int), .dat tI (0 : Int), .nilS, .nilS]), (9, .cells [.slc 30, .dat tI a3, .dat tI a2, .dat tI (0 : Int), .nilS, .nilS]), (30, .seq (.pair tI tI) v.2)])
@[reducible] noncomputable def ref_Start_s6 (a2 : Int) (a3 : Int) (v : (List (Int × Int))) : Fr × LL := ([(8, .one (.ptr 8 0)), (9, .one (.ptr 9 0))], [(8, .cells [.nilS, .dat tI (0 : Int), .dat tI (0 : Int), .dat tI (0 : Int), .nilS, .nilS]), (9, .cells [.slc 30, .dat tI a3, .dat tI a2, .dat tI (0 : Int), .nilS, .nilS]), (30, .seq (.pair tI tI) v)])
noncomputable def ref_Start (a0 : (List Int)) (a1 : Int) (a2 : Int) (a3 : Int) : Option (Int × Int × (List (Int × Int))) :=
(forL (ref_Start_b4 a1) (fun x33 => x33) a0 0 []).bind fun v40 =>
some (a3, a2, v40)
theorem ref_Start_ok {a0 : (List Int)} {a1 : Int} {a2 : Int} {a3 : Int} {r : (Int × Int × (List (Int × Int)))} (h : ref_Start a0 a1 a2 a3 = some r) : FnC Try.prog 41 [aD (.slice tI) a0, aI a1, aI a2, aI a3] [] (.agg [.slc 30, .dat tI r.1, .dat tI r.2.1, .dat tI (0 : Int), .nilS, .nilS]) [(30, .seq (.pair tI tI) r.2.2)] := by
  refine fnC_of_W (B := bodyOf Try.f41) (n := 34) Try.func41 (by kernel_rfl) (by kernel_rfl) (by kernel_rfl) (by kernel_rfl) (by kernel_rfl) ?_
  intro K
  refine W_seq (by kernel_rfl) ?_
  refine W_run 1 [] [0, 1, 2, 3, 8] [8] (fr' := [(0, aD (.slice tI) a0), (1, aI a1), (2, aI a2), (3, aI a3), (8, .one (.ptr 8 0))]) (L' := [(8, .cells [.nilS, .dat tI (0 : Int), .dat tI (0 : Int), .dat tI (0 : Int), .nilS, .nilS])]) (obs := []) (by kernel_rfl) (by kernel_rfl) (by kernel_rfl) allP0 ?_
  refine seqQ_norm ?_
  refine W_seq (by kernel_rfl) ?_
  refine W_run 5 [(5, .val .nilP)] [0, 1, 8, 9] [8, 9] (fr' := [(0, aD (.slice tI) a0), (1, aI a1), (8, .one (.ptr 8 0)), (9, .one (.ptr 9 0))]) (L' := [(8, .cells [.nilS, .dat tI (0 : Int), .dat tI (0 : Int), .dat tI (0 : Int), .nilS, .nilS]), (9, .cells [.nilS, .dat tI a3, .dat tI a2, .dat tI (0 : Int), .nilS, .nilS])]) (obs := [True]) (by kernel_rfl) (by kernel_rfl) (by kernel_rfl) (allP1 trivial) ?_
  refine seqQ_norm ?_
  refine W_seq (by kernel_rfl) ?_
  refine W_seq (by kernel_rfl) ?_
  refine W_run 3 [] [1, 8, 9, 15, 16, 17] [8, 9] (fr' := [(1, aI a1), (8, .one (.ptr 8 0)), (9, .one (.ptr 9 0)), (15, aD (.slice tI) a0), (16, aI (List.length a0 : Int)), (17, aI (0 : Int))]) (L' := [(8, .cells [.nilS, .dat tI (0 : Int), .dat tI (0 : Int), .dat tI (0 : Int), .nilS, .nilS]), (9, .cells [.nilS, .dat tI a3, .dat tI a2, .dat tI (0 : Int), .nilS, .nilS])]) (obs := []) (by kernel_rfl) (by kernel_rfl) (by kernel_rfl) allP0 ?_
  refine seqQ_norm ?_
  refine W_block (id := 0) (by kernel_rfl) ?_
  obtain ⟨v40, h41, h⟩ := bind_of h
  refine W_len (t := 15) (u := tI) (xs := a0) (by kernel_rfl) (fun h44 => ?_)
  obtain ⟨h42, h43⟩ := forL_iter h44 h41
  refine W_cellown 9 0 30 (.pair tI tI) (by kernel_rfl) ?_
  refine W_weaken [1, 8, 9, 15, 16, 17] [8, 9, 30] (fr' := ((ref_Start_s5 a0 a1 a2 a3) ((0 : Int), [])).1) (L' := ((ref_Start_s5 a0 a1 a2 a3) ((0 : Int), [])).2) (by kernel_rfl) ?_
  refine W_cutK (W_loop (S := (ref_Start_s5 a0 a1 a2 a3)) (J := (exQ (.exit 0) (ref_Start_s6 a2 a3))) (by kernel_rfl) ?_ h42 _ v40 h43) ?_
  · rintro ⟨i32, x33⟩ s h
    refine W_seq (by kernel_rfl) ?_
    refine W_run 1 [] [1, 8, 9, 15, 16, 17, 18] [8, 9, 30] (fr' := [(1, aI a1), (8, .one (.ptr 8 0)), (9, .one (.ptr 9 0)), (15, aD (.slice tI) a0), (16, aI (List.length a0 : Int)), (17, aI i32), (18, aB (decide (i32 < (List.length a0 : Int))))]) (L' := [(8, .cells [.nilS, .dat tI (0 : Int), .dat tI (0 : Int), .dat tI (0 : Int), .nilS, .nilS]), (9, .cells [.slc 30, .dat tI a3, .dat tI a2, .dat tI (0 : Int), .nilS, .nilS]), (30, .seq (.pair tI tI) x33)]) (obs := []) (by kernel_rfl) (by kernel_rfl) (by kernel_rfl) allP0 ?_
    refine seqQ_norm ?_
    refine W_seq (by kernel_rfl) ?_
    refine W_cond (o := .tmp 18) (b := decide (i32 < (List.length a0 : Int))) (by kernel_rfl) (by kernel_rfl) (fun h37 => ?_) (fun h37 => ?_)
    · replace h := stepL_true h37 h
      obtain ⟨v35, _, h36, h, rfl⟩ := h
      refine W_skip [1, 8, 9, 15, 16, 17] [8, 9, 30] (fr' := [(1, aI a1), (8, .one (.ptr 8 0)), (9, .one (.ptr 9 0)), (15, aD (.slice tI) a0), (16, aI (List.length a0 : Int)), (17, aI i32)]) (L' := [(8, .cells [.nilS, .dat tI (0 : Int), .dat tI (0 : Int), .dat tI (0 : Int), .nilS, .nilS]), (9, .cells [.slc 30, .dat tI a3, .dat tI a2, .dat tI (0 : Int), .nilS, .nilS]), (30, .seq (.pair tI tI) x33)]) (by kernel_rfl) (by kernel_rfl) ?_
      refine seqQ_norm ?_
      refine W_seq (by kernel_rfl) ?_
      refine W_block (id := 1) (by kernel_rfl) ?_
      refine W_seq (by kernel_rfl) ?_
      refine W_run 5 [(3, .val (.dat tI v35))] [1, 8, 9, 10, 11, 15, 16, 17] [8, 9, 30] (fr' := [(1, aI a1), (8, .one (.ptr 8 0)), (9, .one (.ptr 9 0)), (10, aI i32), (11, aI v35), (15, aD (.slice tI) a0), (16, aI (List.length a0 : Int)), (17, aI i32)]) (L' := [(8, .cells [.nilS, .dat tI (0 : Int), .dat tI (0 : Int), .dat tI (0 : Int), .nilS, .nilS]), (9, .cells [.slc 30, .dat tI a3, .dat tI a2, .dat tI (0 : Int), .nilS, .nilS]), (30, .seq (.pair tI tI) x33)]) (obs := [Idx a0 i32 v35]) (by kernel_rfl) (by kernel_rfl) (by kernel_rfl) (allP1 (Idx.of h36)) ?_
      refine seqQ_norm ?_
      obtain ⟨_, h38, h⟩ := bind_of h
      replace h38 := ck_some h38
      refine W_run 11 [] [1, 8, 9, 15, 16, 17] [8, 9, 30] (fr' := [(1, aI a1), (8, .one (.ptr 8 0)), (9, .one (.ptr 9 0)), (15, aD (.slice tI) a0), (16, aI (List.length a0 : Int)), (17, aI i32)]) (L' := [(8, .cells [.nilS, .dat tI (0 : Int), .dat tI (0 : Int), .dat tI (0 : Int), .nilS, .nilS]), (9, .cells [.slc 30, .dat tI a3, .dat tI a2, .dat tI (0 : Int), .nilS, .nilS]), (30, .seq (.pair tI tI) (x33 ++ [(w64 (a1 + i32), v35)]))]) (obs := [SmallLen (List.length x33 + List.length [(w64 (a1 + i32), v35)]), True]) (by kernel_rfl) (by kernel_rfl) (by kernel_rfl) (allP2 h38 (allP1 trivial)) ?_
      refine blockQ_norm ?_
      refine seqQ_norm ?_
      obtain rfl := Option.some.inj h
      refine W_run 2 [] [1, 8, 9, 15, 16, 17] [8, 9, 30] (fr' := [(1, aI a1), (8, .one (.ptr 8 0)), (9, .one (.ptr 9 0)), (15, aD (.slice tI) a0), (16, aI (List.length a0 : Int)), (17, aI (w64 (i32 + (1 : Int))))]) (L' := [(8, .cells [.nilS, .dat tI (0 : Int), .dat tI (0 : Int), .dat tI (0 : Int), .nilS, .nilS]), (9, .cells [.slc 30, .dat tI a3, .dat tI a2, .dat tI (0 : Int), .nilS, .nilS]), (30, .seq (.pair tI tI) (x33 ++ [(w64 (a1 + i32), v35)]))]) (obs := []) (by kernel_rfl) (by kernel_rfl) (by kernel_rfl) allP0 ?_
      exact round_next' (by kernel_rfl) (by kernel_rfl)
    · obtain rfl := stepL_false h37 h
      refine W_exit (id := 0) [8, 9] [8, 9, 30] (fr' := [(8, .one (.ptr 8 0)), (9, .one (.ptr 9 0))]) (L' := [(8, .cells [.nilS, .dat tI (0 : Int), .dat tI (0 : Int), .dat tI (0 : Int), .nilS, .nilS]), (9, .cells [.slc 30, .dat tI a3, .dat tI a2, .dat tI (0 : Int), .nilS, .nilS]), (30, .seq (.pair tI tI) x33)]) (by kernel_rfl) (by kernel_rfl) ?_
      refine seqQ_exit ?_
      refine round_exit ?_
      exact exQ_mk (by kernel_rfl) (by kernel_rfl)
  · intro e fr L hJ
    obtain ⟨rfl, rfl, rfl⟩ := hJ
    refine LT_keep [8, 9] [8, 9, 30] (fr' := [(8, .one (.ptr 8 0)), (9, .one (.ptr 9 0))]) (L' := [(8, .cells [.nilS, .dat tI (0 : Int), .dat tI (0 : Int), .dat tI (0 : Int), .nilS, .nilS]), (9, .cells [.slc 30, .dat tI a3, .dat tI a2, .dat tI (0 : Int), .nilS, .nilS]), (30, .seq (.pair tI tI) v40)]) (by kernel_rfl) ?_
    refine blockQ_hit ?_
    refine seqQ_norm ?_
    refine W_seq (by kernel_rfl) ?_
    refine W_run 2 [] [8] [8, 30] (fr' := [(8, .one (.ptr 8 0))]) (L' := [(8, .cells [.slc 30, .dat tI a3, .dat tI a2, .dat tI (0 : Int), .nilS, .nilS]), (30, .seq (.pair tI tI) v40)]) (obs := [True]) (by kernel_rfl) (by kernel_rfl) (by kernel_rfl) (allP1 trivial) ?_
    refine seqQ_norm ?_
    obtain rfl := Option.some.inj h
    refine W_ret [8] [8, 30] (fr' := [(8, .one (.ptr 8 0))]) (L' := [(8, .cells [.slc 30, .dat tI a3, .dat tI a2, .dat tI (0 : Int), .nilS, .nilS]), (30, .seq (.pair tI tI) v40)]) (by kernel_rfl) (by kernel_rfl) ?_
    exact retQ_mk (by kernel_rfl) (by kernel_rfl) (by kernel_rfl)

@[reducible] noncomputable def ref_Sign_s3 (a1 : Int) (c0 : (List (Int × Int))) (i27 : Int) (v : Int) : Fr × LL := ([(1, aI a1), (5, aI v), (8, .one (.slc 1000)), (9, aI (List.length c0 : Int)), (10, aI i27)], [(1000, .seq (.pair tI tI) c0)])
noncomputable def ref_Sign_b4 (a1 : Int) (i27 : Int) (v30 : (Int × Int)) (x28 : Int) : Option (Flow Int Int) :=
(bif v30.1 == a1 then
(some v30.2)
else
(some x28)).bind fun v36 =>
some (.next v36)
@[reducible] noncomputable def ref_Sign_s5 (a1 : Int) (c0 : (List (Int × Int))) (v : Int × Int) : Fr × LL := ([(1, aI a1), (5, aI v.2), (8, .one (.slc 1000)), (9, aI (List.length c0 : Int)), (10, aI v.1)], [(1000, .seq (.pair tI tI) c0)])
@[reducible] noncomputable def ref_Sign_s6 (c0 : (List (Int × Int))) (v : Int) : Fr × LL := ([(5, aI v)], [(1000, .seq (.pair tI tI) c0)])
noncomputable def ref_Sign (a1 : Int) (c0 : (List (Int × Int))) : Option Int :=
(forL (ref_Sign_b4 a1) (fun x28 => x28) c0 0 (0 : Int)).bind fun v39 =>
some v39
theorem ref_Sign_ok {a1 : Int} {c0 : (List (Int × Int))} {r : Int} (h : ref_Sign a1 c0 = some r) : FnC Try.prog 75 [.one (.slc 1000), aI a1] [(1000, .seq (.pair tI tI) c0)] (aI r) [(1000, .seq (.pair tI tI) c0)] := by
  refine fnC_of_W (B := bodyOf Try.f75) (n := 22) Try.func75 (by kernel_rfl) (by kernel_rfl) (by kernel_rfl) (by kernel_rfl) (by kernel_rfl) ?_
  intro K
  refine W_seq (by kernel_rfl) ?_
  refine W_run 1 [] [0, 1] [1000] (fr' := [(0, .one (.slc 1000)), (1, aI a1)]) (L' := [(1000, .seq (.pair tI tI) c0)]) (obs := []) (by kernel_rfl) (by kernel_rfl) (by kernel_rfl) allP0 ?_
  refine seqQ_norm ?_
  refine W_seq (by kernel_rfl) ?_
  refine W_run 1 [] [0, 1, 5] [1000] (fr' := [(0, .one (.slc 1000)), (1, aI a1), (5, aI (0 : Int))]) (L' := [(1000, .seq (.pair tI tI) c0)]) (obs := []) (by kernel_rfl) (by kernel_rfl) (by kernel_rfl) allP0 ?_
  refine seqQ_norm ?_
  refine W_seq (by kernel_rfl) ?_
  refine W_seq (by kernel_rfl) ?_
  refine W_run 3 [] [1, 5, 8, 9, 10] [1000] (fr' := [(1, aI a1), (5, aI (0 : Int)), (8, .one (.slc 1000)), (9, aI (List.length c0 : Int)), (10, aI (0 : Int))]) (L' := [(1000, .seq (.pair tI tI) c0)]) (obs := []) (by kernel_rfl) (by kernel_rfl) (by kernel_rfl) allP0 ?_
  refine seqQ_norm ?_
  refine W_block (id := 0) (by kernel_rfl) ?_
  obtain ⟨v39, h40, h⟩ := bind_of h
  refine W_lenS (s := 1000) (u := (.pair tI tI)) (xs := c0) (by kernel_rfl) (fun h43 => ?_)
  obtain ⟨h41, h42⟩ := forL_iter h43 h40
  refine W_weaken [1, 5, 8, 9, 10] [1000] (fr' := ((ref_Sign_s5 a1 c0) ((0 : Int), (0 : Int))).1) (L' := ((ref_Sign_s5 a1 c0) ((0 : Int), (0 : Int))).2) (by kernel_rfl) ?_
  refine W_cutK (W_loop (S := (ref_Sign_s5 a1 c0)) (J := (exQ (.exit 0) (ref_Sign_s6 c0))) (by kernel_rfl) ?_ h41 _ v39 h42) ?_
  · rintro ⟨i27, x28⟩ s h
    refine W_seq (by kernel_rfl) ?_
    refine W_run 1 [] [1, 5, 8, 9, 10, 11] [1000] (fr' := [(1, aI a1), (5, aI x28), (8, .one (.slc 1000)), (9, aI (List.length c0 : Int)), (10, aI i27), (11, aB (decide (i27 < (List.length c0 : Int))))]) (L' := [(1000, .seq (.pair tI tI) c0)]) (obs := []) (by kernel_rfl) (by kernel_rfl) (by kernel_rfl) allP0 ?_
    refine seqQ_norm ?_
    refine W_seq (by kernel_rfl) ?_
    refine W_cond (o := .tmp 11) (b := decide (i27 < (List.length c0 : Int))) (by kernel_rfl) (by kernel_rfl) (fun h32 => ?_) (fun h32 => ?_)
    · replace h := stepL_true h32 h
      obtain ⟨v30, _, h31, h, rfl⟩ := h
      refine W_skip [1, 5, 8, 9, 10] [1000] (fr' := [(1, aI a1), (5, aI x28), (8, .one (.slc 1000)), (9, aI (List.length c0 : Int)), (10, aI i27)]) (L' := [(1000, .seq (.pair tI tI) c0)]) (by kernel_rfl) (by kernel_rfl) ?_
      refine seqQ_norm ?_
      refine W_seq (by kernel_rfl) ?_
      obtain ⟨v36, h37, h⟩ := bind_of h
      refine W_cutK (Q' := (exQ .normal (ref_Sign_s3 a1 c0 i27)) v36) ?_ ?_
      · replace h := h37
        refine W_block (id := 1) (by kernel_rfl) ?_
        refine W_seq (by kernel_rfl) ?_
        refine W_run 4 [(3, .val (.dat (.pair tI tI) v30)), (5, .typed)] [1, 5, 7, 8, 9, 10] [7, 1000] (fr' := [(1, aI a1), (5, aI x28), (7, .one (.ptr 7 0)), (8, .one (.slc 1000)), (9, aI (List.length c0 : Int)), (10, aI i27)]) (L' := [(7, .one (.pair tI tI) v30), (1000, .seq (.pair tI tI) c0)]) (obs := [InR i27 (List.length c0), Idx c0 i27 v30, True]) (by kernel_rfl) (by kernel_rfl) (by kernel_rfl) (allP2 (InR.of h31) (allP2 (Idx.of h31) (allP1 trivial))) ?_
        refine seqQ_norm ?_
        refine W_seq (by kernel_rfl) ?_
        refine W_run 4 [] [1, 5, 7, 8, 9, 10, 17] [7, 1000] (fr' := [(1, aI a1), (5, aI x28), (7, .one (.ptr 7 0)), (8, .one (.slc 1000)), (9, aI (List.length c0 : Int)), (10, aI i27), (17, aB (v30.1 == a1))]) (L' := [(7, .one (.pair tI tI) v30), (1000, .seq (.pair tI tI) c0)]) (obs := []) (by kernel_rfl) (by kernel_rfl) (by kernel_rfl) allP0 ?_
        refine seqQ_norm ?_
        refine W_cond (o := .tmp 17) (b := v30.1 == a1) (by kernel_rfl) (by kernel_rfl) (fun h35 => ?_) (fun h35 => ?_)
        · replace h := ofT h35 h
          obtain rfl := Option.some.inj h
          refine W_run 3 [] [1, 5, 8, 9, 10] [1000] (fr' := [(1, aI a1), (5, aI v30.2), (8, .one (.slc 1000)), (9, aI (List.length c0 : Int)), (10, aI i27)]) (L' := [(1000, .seq (.pair tI tI) c0)]) (obs := []) (by kernel_rfl) (by kernel_rfl) (by kernel_rfl) allP0 ?_
          refine blockQ_norm ?_
          exact exQ_mk (by kernel_rfl) (by kernel_rfl)
        · replace h := ofF h35 h
          obtain rfl := Option.some.inj h
          refine W_skip [1, 5, 8, 9, 10] [1000] (fr' := [(1, aI a1), (5, aI x28), (8, .one (.slc 1000)), (9, aI (List.length c0 : Int)), (10, aI i27)]) (L' := [(1000, .seq (.pair tI tI) c0)]) (by kernel_rfl) (by kernel_rfl) ?_
          refine blockQ_norm ?_
          exact exQ_mk (by kernel_rfl) (by kernel_rfl)
      · intro e fr L hJ
        obtain ⟨rfl, rfl, rfl⟩ := hJ
        refine LT_keep [1, 5, 8, 9, 10] [1000] (fr' := [(1, aI a1), (5, aI v36), (8, .one (.slc 1000)), (9, aI (List.length c0 : Int)), (10, aI i27)]) (L' := [(1000, .seq (.pair tI tI) c0)]) (by kernel_rfl) ?_
        refine seqQ_norm ?_
        obtain rfl := Option.some.inj h
        refine W_run 2 [] [1, 5, 8, 9, 10] [1000] (fr' := [(1, aI a1), (5, aI v36), (8, .one (.slc 1000)), (9, aI (List.length c0 : Int)), (10, aI (w64 (i27 + (1 : Int))))]) (L' := [(1000, .seq (.pair tI tI) c0)]) (obs := []) (by kernel_rfl) (by kernel_rfl) (by kernel_rfl) allP0 ?_
        exact round_next' (by kernel_rfl) (by kernel_rfl)
    · obtain rfl := stepL_false h32 h
      refine W_exit (id := 0) [5] [1000] (fr' := [(5, aI x28)]) (L' := [(1000, .seq (.pair tI tI) c0)]) (by kernel_rfl) (by kernel_rfl) ?_
      refine seqQ_exit ?_
      refine round_exit ?_
      exact exQ_mk (by kernel_rfl) (by kernel_rfl)
  · intro e fr L hJ
    obtain ⟨rfl, rfl, rfl⟩ := hJ
    refine LT_keep [5] [1000] (fr' := [(5, aI v39)]) (L' := [(1000, .seq (.pair tI tI) c0)]) (by kernel_rfl) ?_
    refine blockQ_hit ?_
    refine seqQ_norm ?_
    refine W_seq (by kernel_rfl) ?_
    refine W_run 2 [] [4] [1000] (fr' := [(4, aI v39)]) (L' := [(1000, .seq (.pair tI tI) c0)]) (obs := []) (by kernel_rfl) (by kernel_rfl) (by kernel_rfl) allP0 ?_
    refine seqQ_norm ?_
    obtain rfl := Option.some.inj h
    refine W_ret [4] [1000] (fr' := [(4, aI v39)]) (L' := [(1000, .seq (.pair tI tI) c0)]) (by kernel_rfl) (by kernel_rfl) ?_
    exact retQ_mk (by kernel_rfl) (by kernel_rfl) (by kernel_rfl)
end Go.Proofs.Ytnblafiefaalgaa.crossAlls
