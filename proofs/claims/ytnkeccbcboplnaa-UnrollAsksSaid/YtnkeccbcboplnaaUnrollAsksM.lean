/- What the functions that UnrollAsks calls compute, as models, and that they compute it: written by a program of mine. -/
import Derived.Test.YtnkeccbcboplnaaProg
import Derived.Test.YtnkeccbcboplnaaSl5
set_option linter.all false
set_option maxRecDepth 100000
namespace Go.Proofs.Ytnkeccbcboplnaa.unrollAsks
open Go Go.Sl
def tape_Check_1 (a0 : (List (Int × (Int × Int)))) (c0 : (Int × (Int × (List (List (Int × (Int × Int))))))) : Option Bool :=
some ((List.length a0 : Int) != c0.2.1)
theorem tape_Check_1_ok {a0 : (List (Int × (Int × Int)))} {c0 : (Int × (Int × (List (List (Int × (Int × Int))))))} {r : Bool} (h : tape_Check_1 a0 c0 = some r) : FnC Try.prog 42 [aD (.slice (.pair tI (.pair tI tI))) a0, .one (.ptr 1000 0)] [(1000, .one (.pair tI (.pair tI (.slice (.slice (.pair tI (.pair tI tI)))))) c0)] (aB r) [(1000, .one (.pair tI (.pair tI (.slice (.slice (.pair tI (.pair tI tI)))))) c0)] := by
  refine fnC_of_W (B := bodyOf Try.f42) (n := 9) Try.func42 (by kernel_rfl) (by kernel_rfl) (by kernel_rfl) (by kernel_rfl) (by kernel_rfl) ?_
  intro K
  refine W_seq (by kernel_rfl) ?_
  refine W_run 1 [] [0, 1] [1000] (fr' := [(0, aD (.slice (.pair tI (.pair tI tI))) a0), (1, .one (.ptr 1000 0))]) (L' := [(1000, .one (.pair tI (.pair tI (.slice (.slice (.pair tI (.pair tI tI)))))) c0)]) (obs := []) (by kernel_rfl) (by kernel_rfl) (by kernel_rfl) allP0 ?_
  refine seqQ_norm ?_
  refine W_seq (by kernel_rfl) ?_
  refine W_run 6 [] [3] [1000] (fr' := [(3, aB ((List.length a0 : Int) != c0.2.1))]) (L' := [(1000, .one (.pair tI (.pair tI (.slice (.slice (.pair tI (.pair tI tI)))))) c0)]) (obs := []) (by kernel_rfl) (by kernel_rfl) (by kernel_rfl) allP0 ?_
  refine seqQ_norm ?_
  obtain rfl := Option.some.inj h
  refine W_ret [3] [1000] (fr' := [(3, aB ((List.length a0 : Int) != c0.2.1))]) (L' := [(1000, .one (.pair tI (.pair tI (.slice (.slice (.pair tI (.pair tI tI)))))) c0)]) (by kernel_rfl) (by kernel_rfl) ?_
  exact retQ_mk (by kernel_rfl) (by kernel_rfl) (by kernel_rfl)

def slices_IndexFunc_LLapiRuleLapiRule_with_tape_Check_1_b1 (c0 : (Int × (Int × (List (List (Int × (Int × Int))))))) (i15 : Int) (v18 : (List (Int × (Int × Int)))) (x16 : Unit) : Option (Flow Unit (Esc Int Unit)) :=
(tape_Check_1 v18 c0).bind fun r21 =>
bif r21 then
(some (.done (.ret i15)))
else
(some (.next ()))
@[reducible] def slices_IndexFunc_LLapiRuleLapiRule_with_tape_Check_1_s2 (a0 : (List (List (Int × (Int × Int))))) (c0 : (Int × (Int × (List (List (Int × (Int × Int))))))) (v : Int × Unit) : Fr × LL := ([(0, aD (.slice (.slice (.pair tI (.pair tI tI)))) a0), (1, .one (.fn 42 [(1000, 0)])), (7, aI (List.length a0 : Int)), (8, aI v.1)], [(1000, .one (.pair tI (.pair tI (.slice (.slice (.pair tI (.pair tI tI)))))) c0)])
@[reducible] def slices_IndexFunc_LLapiRuleLapiRule_with_tape_Check_1_s3 (c0 : (Int × (Int × (List (List (Int × (Int × Int))))))) (v : Int) : Fr × LL := ([(4, aI v)], [(1000, .one (.pair tI (.pair tI (.slice (.slice (.pair tI (.pair tI tI)))))) c0)])
@[reducible] def slices_IndexFunc_LLapiRuleLapiRule_with_tape_Check_1_s4 (c0 : (Int × (Int × (List (List (Int × (Int × Int))))))) (v : Unit) : Fr × LL := ([], [(1000, .one (.pair tI (.pair tI (.slice (.slice (.pair tI (.pair tI tI)))))) c0)])
def slices_IndexFunc_LLapiRuleLapiRule_with_tape_Check_1 (a0 : (List (List (Int × (Int × Int))))) (c0 : (Int × (Int × (List (List (Int × (Int × Int))))))) : Option Int :=
(forL (slices_IndexFunc_LLapiRuleLapiRule_with_tape_Check_1_b1 c0) (fun x16 => (.brk ())) a0 0 ()).bind fun v25 =>
match v25 with
| .ret v30 =>
(some v30)
| .brk v31 =>
(some (-1 : Int))
theorem slices_IndexFunc_LLapiRuleLapiRule_with_tape_Check_1_ok {a0 : (List (List (Int × (Int × Int))))} {c0 : (Int × (Int × (List (List (Int × (Int × Int))))))} {r : Int} (h : slices_IndexFunc_LLapiRuleLapiRule_with_tape_Check_1 a0 c0 = some r) : FnC Try.prog 45 [aD (.slice (.slice (.pair tI (.pair tI tI)))) a0, .one (.fn 42 [(1000, 0)])] [(1000, .one (.pair tI (.pair tI (.slice (.slice (.pair tI (.pair tI tI)))))) c0)] (aI r) [(1000, .one (.pair tI (.pair tI (.slice (.slice (.pair tI (.pair tI tI)))))) c0)] := by
  refine fnC_of_W (B := bodyOf Try.f45) (n := 19) Try.func45 (by kernel_rfl) (by kernel_rfl) (by kernel_rfl) (by kernel_rfl) (by kernel_rfl) ?_
  intro K
  refine W_seq (by kernel_rfl) ?_
  refine W_run 1 [] [0, 1] [1000] (fr' := [(0, aD (.slice (.slice (.pair tI (.pair tI tI)))) a0), (1, .one (.fn 42 [(1000, 0)]))]) (L' := [(1000, .one (.pair tI (.pair tI (.slice (.slice (.pair tI (.pair tI tI)))))) c0)]) (obs := []) (by kernel_rfl) (by kernel_rfl) (by kernel_rfl) allP0 ?_
  refine seqQ_norm ?_
  refine W_seq (by kernel_rfl) ?_
  refine W_seq (by kernel_rfl) ?_
  refine W_run 3 [] [0, 1, 7, 8] [1000] (fr' := [(0, aD (.slice (.slice (.pair tI (.pair tI tI)))) a0), (1, .one (.fn 42 [(1000, 0)])), (7, aI (List.length a0 : Int)), (8, aI (0 : Int))]) (L' := [(1000, .one (.pair tI (.pair tI (.slice (.slice (.pair tI (.pair tI tI)))))) c0)]) (obs := []) (by kernel_rfl) (by kernel_rfl) (by kernel_rfl) allP0 ?_
  refine seqQ_norm ?_
  refine W_block (id := 0) (by kernel_rfl) ?_
  obtain ⟨v25, h26, h⟩ := bind_of h
  refine W_len (t := 0) (u := (.slice (.pair tI (.pair tI tI)))) (xs := a0) (by kernel_rfl) (fun h29 => ?_)
  obtain ⟨h27, h28⟩ := forL_iter h29 h26
  refine W_weaken [0, 1, 7, 8] [1000] (fr' := ((slices_IndexFunc_LLapiRuleLapiRule_with_tape_Check_1_s2 a0 c0) ((0 : Int), ())).1) (L' := ((slices_IndexFunc_LLapiRuleLapiRule_with_tape_Check_1_s2 a0 c0) ((0 : Int), ())).2) (by kernel_rfl) ?_
  refine W_cutK (W_loop (S := (slices_IndexFunc_LLapiRuleLapiRule_with_tape_Check_1_s2 a0 c0)) (J := (escQ (exQ .ret (slices_IndexFunc_LLapiRuleLapiRule_with_tape_Check_1_s3 c0)) (exQ (.exit 0) (slices_IndexFunc_LLapiRuleLapiRule_with_tape_Check_1_s4 c0)))) (by kernel_rfl) ?_ h27 _ v25 h28) ?_
  · rintro ⟨i15, x16⟩ s h
    refine W_seq (by kernel_rfl) ?_
    refine W_run 1 [] [0, 1, 7, 8, 9] [1000] (fr' := [(0, aD (.slice (.slice (.pair tI (.pair tI tI)))) a0), (1, .one (.fn 42 [(1000, 0)])), (7, aI (List.length a0 : Int)), (8, aI i15), (9, aB (decide (i15 < (List.length a0 : Int))))]) (L' := [(1000, .one (.pair tI (.pair tI (.slice (.slice (.pair tI (.pair tI tI)))))) c0)]) (obs := []) (by kernel_rfl) (by kernel_rfl) (by kernel_rfl) allP0 ?_
    refine seqQ_norm ?_
    refine W_seq (by kernel_rfl) ?_
    refine W_cond (o := .tmp 9) (b := decide (i15 < (List.length a0 : Int))) (by kernel_rfl) (by kernel_rfl) (fun h20 => ?_) (fun h20 => ?_)
    · replace h := stepL_true h20 h
      obtain ⟨v18, _, h19, h, rfl⟩ := h
      refine W_skip [0, 1, 7, 8] [1000] (fr' := [(0, aD (.slice (.slice (.pair tI (.pair tI tI)))) a0), (1, .one (.fn 42 [(1000, 0)])), (7, aI (List.length a0 : Int)), (8, aI i15)]) (L' := [(1000, .one (.pair tI (.pair tI (.slice (.slice (.pair tI (.pair tI tI)))))) c0)]) (by kernel_rfl) (by kernel_rfl) ?_
      refine seqQ_norm ?_
      refine W_seq (by kernel_rfl) ?_
      refine W_block (id := 1) (by kernel_rfl) ?_
      refine W_seq (by kernel_rfl) ?_
      refine W_run 2 [] [0, 1, 5, 7, 8] [1000] (fr' := [(0, aD (.slice (.slice (.pair tI (.pair tI tI)))) a0), (1, .one (.fn 42 [(1000, 0)])), (5, aI i15), (7, aI (List.length a0 : Int)), (8, aI i15)]) (L' := [(1000, .one (.pair tI (.pair tI (.slice (.slice (.pair tI (.pair tI tI)))))) c0)]) (obs := []) (by kernel_rfl) (by kernel_rfl) (by kernel_rfl) allP0 ?_
      refine seqQ_norm ?_
      refine W_seq (by kernel_rfl) ?_
      refine W_region (by kernel_rfl) ?_
      refine WO_run (j := 5) (k := 5) (orcs := [(7, .val (.dat (.slice (.pair tI (.pair tI tI))) v18))]) (kF := [0, 1, 5, 7, 8, 11, 15]) (kL := [1000]) (fr' := [(0, aD (.slice (.slice (.pair tI (.pair tI tI)))) a0), (1, .one (.fn 42 [(1000, 0)])), (5, aI i15), (7, aI (List.length a0 : Int)), (8, aI i15), (11, .one (.fn 42 [(1000, 0)])), (15, aD (.slice (.pair tI (.pair tI tI))) v18)]) (L' := [(1000, .one (.pair tI (.pair tI (.slice (.slice (.pair tI (.pair tI tI)))))) c0)]) (obs := [Idx a0 i15 v18]) rfl (by kernel_rfl) (allP1 (Idx.of h19)) ?_
      obtain ⟨r21, h22, h⟩ := bind_of h
      refine WO_lend [(1000, 1000)] (us := [none, none]) (d := 16) (p := True) (j := 6) rfl ⟨by kernel_rfl, by kernel_rfl, by kernel_rfl⟩ trivial (tape_Check_1_ok h22) (by kernel_rfl) (by kernel_rfl) ?_
      refine WO_fin [0, 1, 5, 7, 8, 16] [1000] (fr' := [(0, aD (.slice (.slice (.pair tI (.pair tI tI)))) a0), (1, .one (.fn 42 [(1000, 0)])), (5, aI i15), (7, aI (List.length a0 : Int)), (8, aI i15), (16, aB r21)]) (L' := [(1000, .one (.pair tI (.pair tI (.slice (.slice (.pair tI (.pair tI tI)))))) c0)]) (by kernel_rfl) (by kernel_rfl) ?_
      refine seqQ_norm ?_
      refine W_cond (o := .tmp 16) (b := r21) (by kernel_rfl) (by kernel_rfl) (fun h23 => ?_) (fun h23 => ?_)
      · replace h := ofT h23 h
        refine W_seq (by kernel_rfl) ?_
        refine W_run 2 [] [4] [1000] (fr' := [(4, aI i15)]) (L' := [(1000, .one (.pair tI (.pair tI (.slice (.slice (.pair tI (.pair tI tI)))))) c0)]) (obs := []) (by kernel_rfl) (by kernel_rfl) (by kernel_rfl) allP0 ?_
        refine seqQ_norm ?_
        obtain rfl := Option.some.inj h
        refine W_ret [4] [1000] (fr' := [(4, aI i15)]) (L' := [(1000, .one (.pair tI (.pair tI (.slice (.slice (.pair tI (.pair tI tI)))))) c0)]) (by kernel_rfl) (by kernel_rfl) ?_
        refine blockQ_ret ?_
        refine seqQ_ret ?_
        refine round_ret ?_
        refine escQ_ret ?_
        exact exQ_mk (by kernel_rfl) (by kernel_rfl)
      · replace h := ofF h23 h
        refine W_skip [0, 1, 7, 8] [1000] (fr' := [(0, aD (.slice (.slice (.pair tI (.pair tI tI)))) a0), (1, .one (.fn 42 [(1000, 0)])), (7, aI (List.length a0 : Int)), (8, aI i15)]) (L' := [(1000, .one (.pair tI (.pair tI (.slice (.slice (.pair tI (.pair tI tI)))))) c0)]) (by kernel_rfl) (by kernel_rfl) ?_
        refine blockQ_norm ?_
        refine seqQ_norm ?_
        obtain rfl := Option.some.inj h
        refine W_run 2 [] [0, 1, 7, 8] [1000] (fr' := [(0, aD (.slice (.slice (.pair tI (.pair tI tI)))) a0), (1, .one (.fn 42 [(1000, 0)])), (7, aI (List.length a0 : Int)), (8, aI (w64 (i15 + (1 : Int))))]) (L' := [(1000, .one (.pair tI (.pair tI (.slice (.slice (.pair tI (.pair tI tI)))))) c0)]) (obs := []) (by kernel_rfl) (by kernel_rfl) (by kernel_rfl) allP0 ?_
        exact round_next' (by kernel_rfl) (by kernel_rfl)
    · obtain rfl := stepL_false h20 h
      refine W_exit (id := 0) [] [1000] (fr' := []) (L' := [(1000, .one (.pair tI (.pair tI (.slice (.slice (.pair tI (.pair tI tI)))))) c0)]) (by kernel_rfl) (by kernel_rfl) ?_
      refine seqQ_exit ?_
      refine round_exit ?_
      refine escQ_brk ?_
      exact exQ_mk (by kernel_rfl) (by kernel_rfl)
  · intro e fr L hJ
    rcases v25 with v30 | v31
    · obtain ⟨rfl, rfl, rfl⟩ := hJ
      obtain rfl := Option.some.inj h
      refine LT_keep [4] [1000] (fr' := [(4, aI v30)]) (L' := [(1000, .one (.pair tI (.pair tI (.slice (.slice (.pair tI (.pair tI tI)))))) c0)]) (by kernel_rfl) ?_
      refine blockQ_ret ?_
      refine seqQ_ret ?_
      exact retQ_mk (by kernel_rfl) (by kernel_rfl) (by kernel_rfl)
    · obtain ⟨rfl, rfl, rfl⟩ := hJ
      refine LT_keep [] [1000] (fr' := []) (L' := [(1000, .one (.pair tI (.pair tI (.slice (.slice (.pair tI (.pair tI tI)))))) c0)]) (by kernel_rfl) ?_
      refine blockQ_hit ?_
      refine seqQ_norm ?_
      refine W_seq (by kernel_rfl) ?_
      refine W_run 1 [] [4] [1000] (fr' := [(4, aI (-1 : Int))]) (L' := [(1000, .one (.pair tI (.pair tI (.slice (.slice (.pair tI (.pair tI tI)))))) c0)]) (obs := []) (by kernel_rfl) (by kernel_rfl) (by kernel_rfl) allP0 ?_
      refine seqQ_norm ?_
      obtain rfl := Option.some.inj h
      refine W_ret [4] [1000] (fr' := [(4, aI (-1 : Int))]) (L' := [(1000, .one (.pair tI (.pair tI (.slice (.slice (.pair tI (.pair tI tI)))))) c0)]) (by kernel_rfl) (by kernel_rfl) ?_
      exact retQ_mk (by kernel_rfl) (by kernel_rfl) (by kernel_rfl)

def slices_ContainsFunc_LLapiRuleLapiRule_with_tape_Check_1 (a0 : (List (List (Int × (Int × Int))))) (c0 : (Int × (Int × (List (List (Int × (Int × Int))))))) : Option Bool :=
(slices_IndexFunc_LLapiRuleLapiRule_with_tape_Check_1 a0 c0).bind fun r1 =>
some (decide (r1 ≥ (0 : Int)))
theorem slices_ContainsFunc_LLapiRuleLapiRule_with_tape_Check_1_ok {a0 : (List (List (Int × (Int × Int))))} {c0 : (Int × (Int × (List (List (Int × (Int × Int))))))} {r : Bool} (h : slices_ContainsFunc_LLapiRuleLapiRule_with_tape_Check_1 a0 c0 = some r) : FnC Try.prog 41 [aD (.slice (.slice (.pair tI (.pair tI tI)))) a0, .one (.fn 42 [(1000, 0)])] [(1000, .one (.pair tI (.pair tI (.slice (.slice (.pair tI (.pair tI tI)))))) c0)] (aB r) [(1000, .one (.pair tI (.pair tI (.slice (.slice (.pair tI (.pair tI tI)))))) c0)] := by
  refine fnC_of_W (B := bodyOf Try.f41) (n := 9) Try.func41 (by kernel_rfl) (by kernel_rfl) (by kernel_rfl) (by kernel_rfl) (by kernel_rfl) ?_
  intro K
  refine W_seq (by kernel_rfl) ?_
  refine W_run 1 [] [0, 1] [1000] (fr' := [(0, aD (.slice (.slice (.pair tI (.pair tI tI)))) a0), (1, .one (.fn 42 [(1000, 0)]))]) (L' := [(1000, .one (.pair tI (.pair tI (.slice (.slice (.pair tI (.pair tI tI)))))) c0)]) (obs := []) (by kernel_rfl) (by kernel_rfl) (by kernel_rfl) allP0 ?_
  refine seqQ_norm ?_
  refine W_seq (by kernel_rfl) ?_
  refine W_region (by kernel_rfl) ?_
  refine WO_run (j := 2) (k := 2) (orcs := []) (kF := [5, 6]) (kL := [1000]) (fr' := [(5, aD (.slice (.slice (.pair tI (.pair tI tI)))) a0), (6, .one (.fn 42 [(1000, 0)]))]) (L' := [(1000, .one (.pair tI (.pair tI (.slice (.slice (.pair tI (.pair tI tI)))))) c0)]) (obs := []) rfl (by kernel_rfl) allP0 ?_
  obtain ⟨r1, h2, h⟩ := bind_of h
  refine WO_lend [(1000, 1000)] (us := [none, none]) (d := 7) (p := True) (j := 3) rfl ⟨by kernel_rfl, by kernel_rfl, by kernel_rfl⟩ trivial (slices_IndexFunc_LLapiRuleLapiRule_with_tape_Check_1_ok h2) (by kernel_rfl) (by kernel_rfl) ?_
  refine WO_run (j := 5) (k := 2) (orcs := []) (kF := [4]) (kL := [1000]) (fr' := [(4, aB (decide (r1 ≥ (0 : Int))))]) (L' := [(1000, .one (.pair tI (.pair tI (.slice (.slice (.pair tI (.pair tI tI)))))) c0)]) (obs := []) rfl (by kernel_rfl) allP0 ?_
  refine WO_fin [4] [1000] (fr' := [(4, aB (decide (r1 ≥ (0 : Int))))]) (L' := [(1000, .one (.pair tI (.pair tI (.slice (.slice (.pair tI (.pair tI tI)))))) c0)]) (by kernel_rfl) (by kernel_rfl) ?_
  refine seqQ_norm ?_
  obtain rfl := Option.some.inj h
  refine W_ret [4] [1000] (fr' := [(4, aB (decide (r1 ≥ (0 : Int))))]) (L' := [(1000, .one (.pair tI (.pair tI (.slice (.slice (.pair tI (.pair tI tI)))))) c0)]) (by kernel_rfl) (by kernel_rfl) ?_
  exact retQ_mk (by kernel_rfl) (by kernel_rfl) (by kernel_rfl)

def tape_Check_g1 (a0 : (Int × (Int × (List (List (Int × (Int × Int))))))) : Option Bool :=
bif decide (a0.1 < (1 : Int)) then
(some true)
else
(bif decide (a0.1 > (5 : Int)) then
(some true)
else
(bif decide (a0.2.1 < (2 : Int)) then
(some true)
else
(some (decide (a0.2.1 > (4 : Int))))))
@[reducible] def tape_Check_s33 (a0 : (Int × (Int × (List (List (Int × (Int × Int))))))) (i185 : Int) (v188 : (List (Int × (Int × Int)))) (i235 : Int) (v : Bool) : Fr × LL := ([(1, .one (.ptr 1 0)), (38, aD (.slice (.slice (.pair tI (.pair tI tI)))) a0.2.2), (39, aI (List.length a0.2.2 : Int)), (40, aI i185), (44, aD (.slice (.pair tI (.pair tI tI))) v188), (45, aI (List.length v188 : Int)), (46, aI i235), (70, aB v)], [(1, .one (.pair tI (.pair tI (.slice (.slice (.pair tI (.pair tI tI)))))) a0)])
@[reducible] def tape_Check_s34 (a0 : (Int × (Int × (List (List (Int × (Int × Int))))))) (i185 : Int) (v188 : (List (Int × (Int × Int)))) (i235 : Int) (v238 : (Int × (Int × Int))) (v : Bool) : Fr × LL := ([(1, .one (.ptr 1 0)), (6, .one (.ptr 6 0)), (38, aD (.slice (.slice (.pair tI (.pair tI tI)))) a0.2.2), (39, aI (List.length a0.2.2 : Int)), (40, aI i185), (44, aD (.slice (.pair tI (.pair tI tI))) v188), (45, aI (List.length v188 : Int)), (46, aI i235), (61, aB v)], [(1, .one (.pair tI (.pair tI (.slice (.slice (.pair tI (.pair tI tI)))))) a0), (6, .one (.pair tI (.pair tI tI)) v238)])
@[reducible] def tape_Check_s35 (a0 : (Int × (Int × (List (List (Int × (Int × Int))))))) (i185 : Int) (v188 : (List (Int × (Int × Int)))) (i235 : Int) (v238 : (Int × (Int × Int))) (v : Bool) : Fr × LL := ([(1, .one (.ptr 1 0)), (6, .one (.ptr 6 0)), (38, aD (.slice (.slice (.pair tI (.pair tI tI)))) a0.2.2), (39, aI (List.length a0.2.2 : Int)), (40, aI i185), (44, aD (.slice (.pair tI (.pair tI tI))) v188), (45, aI (List.length v188 : Int)), (46, aI i235), (50, aB v)], [(1, .one (.pair tI (.pair tI (.slice (.slice (.pair tI (.pair tI tI)))))) a0), (6, .one (.pair tI (.pair tI tI)) v238)])
def tape_Check_b36 (a0 : (Int × (Int × (List (List (Int × (Int × Int))))))) (i235 : Int) (v238 : (Int × (Int × Int))) (x236 : Unit) : Option (Flow Unit (Esc Int Unit)) :=
(bif decide (v238.1 < (0 : Int)) then
(some true)
else
(some (decide (v238.1 ≥ a0.2.1)))).bind fun v244 =>
bif v244 then
(some (.done (.ret (2 : Int))))
else
((bif decide (v238.2.1 < (-1 : Int)) then
(some true)
else
(some (decide (v238.2.1 > (1 : Int))))).bind fun v250 =>
bif v250 then
(some (.done (.ret (4 : Int))))
else
((bif decide (v238.2.2 < (0 : Int)) then
(some true)
else
(some (decide (v238.2.2 > a0.1)))).bind fun v256 =>
bif v256 then
(some (.done (.ret (2 : Int))))
else
(some (.next ()))))
@[reducible] def tape_Check_s37 (a0 : (Int × (Int × (List (List (Int × (Int × Int))))))) (i185 : Int) (v188 : (List (Int × (Int × Int)))) (v : Int × Unit) : Fr × LL := ([(1, .one (.ptr 1 0)), (38, aD (.slice (.slice (.pair tI (.pair tI tI)))) a0.2.2), (39, aI (List.length a0.2.2 : Int)), (40, aI i185), (44, aD (.slice (.pair tI (.pair tI tI))) v188), (45, aI (List.length v188 : Int)), (46, aI v.1)], [(1, .one (.pair tI (.pair tI (.slice (.slice (.pair tI (.pair tI tI)))))) a0)])
@[reducible] def tape_Check_s38 (v : Int) : Fr × LL := ([(2, aI v)], [])
@[reducible] def tape_Check_s39 (a0 : (Int × (Int × (List (List (Int × (Int × Int))))))) (i185 : Int) (v : Unit) : Fr × LL := ([(1, .one (.ptr 1 0)), (38, aD (.slice (.slice (.pair tI (.pair tI tI)))) a0.2.2), (39, aI (List.length a0.2.2 : Int)), (40, aI i185)], [(1, .one (.pair tI (.pair tI (.slice (.slice (.pair tI (.pair tI tI)))))) a0)])
def tape_Check_b40 (a0 : (Int × (Int × (List (List (Int × (Int × Int))))))) (i185 : Int) (v188 : (List (Int × (Int × Int)))) (x186 : Unit) : Option (Flow Unit (Esc Int Unit)) :=
(forL (tape_Check_b36 a0) (fun x236 => (.brk ())) v188 0 ()).bind fun v260 =>
match v260 with
| .ret v265 =>
(some (.done (.ret v265)))
| .brk v266 =>
(some (.next ()))
@[reducible] def tape_Check_s41 (a0 : (Int × (Int × (List (List (Int × (Int × Int))))))) (v : Int × Unit) : Fr × LL := ([(1, .one (.ptr 1 0)), (38, aD (.slice (.slice (.pair tI (.pair tI tI)))) a0.2.2), (39, aI (List.length a0.2.2 : Int)), (40, aI v.1)], [(1, .one (.pair tI (.pair tI (.slice (.slice (.pair tI (.pair tI tI)))))) a0)])
@[reducible] def tape_Check_s42 (v : Int) : Fr × LL := ([(2, aI v)], [])
@[reducible] def tape_Check_s43 (v : Unit) : Fr × LL := ([], [])
@[reducible] def tape_Check_s44 (a0 : (Int × (Int × (List (List (Int × (Int × Int))))))) (v : Bool) : Fr × LL := ([(1, .one (.ptr 1 0)), (36, aB v)], [(1, .one (.pair tI (.pair tI (.slice (.slice (.pair tI (.pair tI tI)))))) a0)])
@[reducible] def tape_Check_s45 (a0 : (Int × (Int × (List (List (Int × (Int × Int))))))) (v : Bool) : Fr × LL := ([(1, .one (.ptr 1 0)), (24, aB v)], [(1, .one (.pair tI (.pair tI (.slice (.slice (.pair tI (.pair tI tI)))))) a0)])
def tape_Check (a0 : (Int × (Int × (List (List (Int × (Int × Int))))))) : Option Int :=
(tape_Check_g1 a0).bind fun v10 =>
bif v10 then
(some (1 : Int))
else
((bif (List.length a0.2.2 : Int) != a0.1 then
(some true)
else
((slices_ContainsFunc_LLapiRuleLapiRule_with_tape_Check_1 a0.2.2 a0).bind fun r20 =>
some r20)).bind fun v22 =>
bif v22 then
(some (3 : Int))
else
((forL (tape_Check_b40 a0) (fun x186 => (.brk ())) a0.2.2 0 ()).bind fun v268 =>
match v268 with
| .ret v273 =>
(some v273)
| .brk v274 =>
(some (0 : Int))))
theorem tape_Check_ok {a0 : (Int × (Int × (List (List (Int × (Int × Int))))))} {r : Int} (h : tape_Check a0 = some r) : FnC Try.prog 38 [aD (.pair tI (.pair tI (.slice (.slice (.pair tI (.pair tI tI)))))) a0] [] (aI r) [] := by
  refine fnC_of_W (B := bodyOf Try.f38) (n := 83) Try.func38 (by kernel_rfl) (by kernel_rfl) (by kernel_rfl) (by kernel_rfl) (by kernel_rfl) ?_
  intro K
  refine W_seq (by kernel_rfl) ?_
  refine W_run 2 [] [1] [1] (fr' := [(1, .one (.ptr 1 0))]) (L' := [(1, .one (.pair tI (.pair tI (.slice (.slice (.pair tI (.pair tI tI)))))) a0)]) (obs := []) (by kernel_rfl) (by kernel_rfl) (by kernel_rfl) allP0 ?_
  refine seqQ_norm ?_
  refine W_seq (by kernel_rfl) ?_
  refine W_seq (by kernel_rfl) ?_
  obtain ⟨v10, h11, h⟩ := bind_of h
  refine W_cutK (Q' := (exQ .normal (tape_Check_s45 a0)) v10) ?_ ?_
  · replace h := h11
    refine W_region (by kernel_rfl) ?_
    refine WO_run (j := 4) (k := 4) (orcs := []) (kF := [1, 10]) (kL := [1]) (fr' := [(1, .one (.ptr 1 0)), (10, aB (decide (a0.1 < (1 : Int))))]) (L' := [(1, .one (.pair tI (.pair tI (.slice (.slice (.pair tI (.pair tI tI)))))) a0)]) (obs := []) rfl (by kernel_rfl) allP0 ?_
    rcases Bool.eq_false_or_eq_true (decide (a0.1 < (1 : Int))) with h7 | h7
    · replace h := ofT h7 h
      refine WO_run (j := 18) (k := 14) (orcs := [(8, .known true), (10, .known true), (12, .known true), (15, .val (.dat .bool true)), (18, .known true), (20, .known true), (22, .known true), (25, .val (.dat .bool true)), (28, .known true), (30, .known true), (32, .known true), (35, .val (.dat .bool true))]) (kF := [1, 24]) (kL := [1]) (fr' := [(1, .one (.ptr 1 0)), (24, aB true)]) (L' := [(1, .one (.pair tI (.pair tI (.slice (.slice (.pair tI (.pair tI tI)))))) a0)]) (obs := [((decide (a0.1 < (1 : Int))) = true), ((decide (a0.1 < (1 : Int))) = true), ((decide (a0.1 < (1 : Int))) = true), ((decide (a0.1 < (1 : Int))) = true), (true = true), (true = true), (true = true), (true = true), (true = true), (true = true), (true = true), (true = true)]) rfl (by kernel_rfl) (allP2 h7 (allP2 h7 (allP2 h7 (allP2 h7 (allP2 rfl (allP2 rfl (allP2 rfl (allP2 rfl (allP2 rfl (allP2 rfl (allP2 rfl (allP1 rfl)))))))))))) ?_
      obtain rfl := Option.some.inj h
      refine WO_fin [1, 24] [1] (fr' := [(1, .one (.ptr 1 0)), (24, aB true)]) (L' := [(1, .one (.pair tI (.pair tI (.slice (.slice (.pair tI (.pair tI tI)))))) a0)]) (by kernel_rfl) (by kernel_rfl) ?_
      exact exQ_mk (by kernel_rfl) (by kernel_rfl)
    · replace h := ofF h7 h
      refine WO_run (j := 9) (k := 5) (orcs := [(8, .known false), (10, .known false), (12, .known false), (15, .val (.dat .bool false))]) (kF := [1, 15]) (kL := [1]) (fr' := [(1, .one (.ptr 1 0)), (15, aB (decide (a0.1 > (5 : Int))))]) (L' := [(1, .one (.pair tI (.pair tI (.slice (.slice (.pair tI (.pair tI tI)))))) a0)]) (obs := [((decide (a0.1 < (1 : Int))) = false), ((decide (a0.1 < (1 : Int))) = false), ((decide (a0.1 < (1 : Int))) = false), ((decide (a0.1 < (1 : Int))) = false)]) rfl (by kernel_rfl) (allP2 h7 (allP2 h7 (allP2 h7 (allP1 h7)))) ?_
      rcases Bool.eq_false_or_eq_true (decide (a0.1 > (5 : Int))) with h8 | h8
      · replace h := ofT h8 h
        refine WO_run (j := 18) (k := 9) (orcs := [(18, .known true), (20, .known true), (22, .known true), (25, .val (.dat .bool true)), (28, .known true), (30, .known true), (32, .known true), (35, .val (.dat .bool true))]) (kF := [1, 24]) (kL := [1]) (fr' := [(1, .one (.ptr 1 0)), (24, aB true)]) (L' := [(1, .one (.pair tI (.pair tI (.slice (.slice (.pair tI (.pair tI tI)))))) a0)]) (obs := [((decide (a0.1 > (5 : Int))) = true), ((decide (a0.1 > (5 : Int))) = true), ((decide (a0.1 > (5 : Int))) = true), ((decide (a0.1 > (5 : Int))) = true), (true = true), (true = true), (true = true), (true = true)]) rfl (by kernel_rfl) (allP2 h8 (allP2 h8 (allP2 h8 (allP2 h8 (allP2 rfl (allP2 rfl (allP2 rfl (allP1 rfl)))))))) ?_
        obtain rfl := Option.some.inj h
        refine WO_fin [1, 24] [1] (fr' := [(1, .one (.ptr 1 0)), (24, aB true)]) (L' := [(1, .one (.pair tI (.pair tI (.slice (.slice (.pair tI (.pair tI tI)))))) a0)]) (by kernel_rfl) (by kernel_rfl) ?_
        exact exQ_mk (by kernel_rfl) (by kernel_rfl)
      · replace h := ofF h8 h
        refine WO_run (j := 14) (k := 5) (orcs := [(18, .known false), (20, .known false), (22, .known false), (25, .val (.dat .bool false))]) (kF := [1, 20]) (kL := [1]) (fr' := [(1, .one (.ptr 1 0)), (20, aB (decide (a0.2.1 < (2 : Int))))]) (L' := [(1, .one (.pair tI (.pair tI (.slice (.slice (.pair tI (.pair tI tI)))))) a0)]) (obs := [((decide (a0.1 > (5 : Int))) = false), ((decide (a0.1 > (5 : Int))) = false), ((decide (a0.1 > (5 : Int))) = false), ((decide (a0.1 > (5 : Int))) = false)]) rfl (by kernel_rfl) (allP2 h8 (allP2 h8 (allP2 h8 (allP1 h8)))) ?_
        rcases Bool.eq_false_or_eq_true (decide (a0.2.1 < (2 : Int))) with h9 | h9
        · replace h := ofT h9 h
          refine WO_run (j := 18) (k := 4) (orcs := [(28, .known true), (30, .known true), (32, .known true), (35, .val (.dat .bool true))]) (kF := [1, 24]) (kL := [1]) (fr' := [(1, .one (.ptr 1 0)), (24, aB true)]) (L' := [(1, .one (.pair tI (.pair tI (.slice (.slice (.pair tI (.pair tI tI)))))) a0)]) (obs := [((decide (a0.2.1 < (2 : Int))) = true), ((decide (a0.2.1 < (2 : Int))) = true), ((decide (a0.2.1 < (2 : Int))) = true), ((decide (a0.2.1 < (2 : Int))) = true)]) rfl (by kernel_rfl) (allP2 h9 (allP2 h9 (allP2 h9 (allP1 h9)))) ?_
          obtain rfl := Option.some.inj h
          refine WO_fin [1, 24] [1] (fr' := [(1, .one (.ptr 1 0)), (24, aB true)]) (L' := [(1, .one (.pair tI (.pair tI (.slice (.slice (.pair tI (.pair tI tI)))))) a0)]) (by kernel_rfl) (by kernel_rfl) ?_
          exact exQ_mk (by kernel_rfl) (by kernel_rfl)
        · replace h := ofF h9 h
          refine WO_run (j := 18) (k := 4) (orcs := [(28, .known false), (30, .known false), (32, .known false), (35, .val (.dat .bool false))]) (kF := [1, 24]) (kL := [1]) (fr' := [(1, .one (.ptr 1 0)), (24, aB (decide (a0.2.1 > (4 : Int))))]) (L' := [(1, .one (.pair tI (.pair tI (.slice (.slice (.pair tI (.pair tI tI)))))) a0)]) (obs := [((decide (a0.2.1 < (2 : Int))) = false), ((decide (a0.2.1 < (2 : Int))) = false), ((decide (a0.2.1 < (2 : Int))) = false), ((decide (a0.2.1 < (2 : Int))) = false)]) rfl (by kernel_rfl) (allP2 h9 (allP2 h9 (allP2 h9 (allP1 h9)))) ?_
          obtain rfl := Option.some.inj h
          refine WO_fin [1, 24] [1] (fr' := [(1, .one (.ptr 1 0)), (24, aB (decide (a0.2.1 > (4 : Int))))]) (L' := [(1, .one (.pair tI (.pair tI (.slice (.slice (.pair tI (.pair tI tI)))))) a0)]) (by kernel_rfl) (by kernel_rfl) ?_
          exact exQ_mk (by kernel_rfl) (by kernel_rfl)
  · intro e fr L hJ
    obtain ⟨rfl, rfl, rfl⟩ := hJ
    refine LT_keep [1, 24] [1] (fr' := [(1, .one (.ptr 1 0)), (24, aB v10)]) (L' := [(1, .one (.pair tI (.pair tI (.slice (.slice (.pair tI (.pair tI tI)))))) a0)]) (by kernel_rfl) ?_
    refine seqQ_norm ?_
    refine W_cond (o := .tmp 24) (b := v10) (by kernel_rfl) (by kernel_rfl) (fun h12 => ?_) (fun h12 => ?_)
    · replace h := ofT h12 h
      refine W_seq (by kernel_rfl) ?_
      refine W_run 1 [] [2] [] (fr' := [(2, aI (1 : Int))]) (L' := []) (obs := []) (by kernel_rfl) (by kernel_rfl) (by kernel_rfl) allP0 ?_
      refine seqQ_norm ?_
      obtain rfl := Option.some.inj h
      refine W_ret [2] [] (fr' := [(2, aI (1 : Int))]) (L' := []) (by kernel_rfl) (by kernel_rfl) ?_
      refine seqQ_ret ?_
      exact retQ_mk (by kernel_rfl) (by kernel_rfl) (by kernel_rfl)
    · replace h := ofF h12 h
      refine W_skip [1] [1] (fr' := [(1, .one (.ptr 1 0))]) (L' := [(1, .one (.pair tI (.pair tI (.slice (.slice (.pair tI (.pair tI tI)))))) a0)]) (by kernel_rfl) (by kernel_rfl) ?_
      refine seqQ_norm ?_
      refine W_seq (by kernel_rfl) ?_
      refine W_seq (by kernel_rfl) ?_
      obtain ⟨v22, h23, h⟩ := bind_of h
      refine W_cutK (Q' := (exQ .normal (tape_Check_s44 a0)) v22) ?_ ?_
      · replace h := h23
        refine W_region (by kernel_rfl) ?_
        refine WO_run (j := 7) (k := 7) (orcs := []) (kF := [1, 31]) (kL := [1]) (fr' := [(1, .one (.ptr 1 0)), (31, aB ((List.length a0.2.2 : Int) != a0.1))]) (L' := [(1, .one (.pair tI (.pair tI (.slice (.slice (.pair tI (.pair tI tI)))))) a0)]) (obs := []) rfl (by kernel_rfl) allP0 ?_
        rcases Bool.eq_false_or_eq_true ((List.length a0.2.2 : Int) != a0.1) with h19 | h19
        · replace h := ofT h19 h
          refine WO_run (j := 12) (k := 5) (orcs := [(14, .known true), (16, .known true), (18, .known true), (20, .known true), (23, .val (.dat .bool true))]) (kF := [1, 36]) (kL := [1]) (fr' := [(1, .one (.ptr 1 0)), (36, aB true)]) (L' := [(1, .one (.pair tI (.pair tI (.slice (.slice (.pair tI (.pair tI tI)))))) a0)]) (obs := [(((List.length a0.2.2 : Int) != a0.1) = true), (((List.length a0.2.2 : Int) != a0.1) = true), (((List.length a0.2.2 : Int) != a0.1) = true), (((List.length a0.2.2 : Int) != a0.1) = true), (((List.length a0.2.2 : Int) != a0.1) = true)]) rfl (by kernel_rfl) (allP2 h19 (allP2 h19 (allP2 h19 (allP2 h19 (allP1 h19))))) ?_
          obtain rfl := Option.some.inj h
          refine WO_fin [1, 36] [1] (fr' := [(1, .one (.ptr 1 0)), (36, aB true)]) (L' := [(1, .one (.pair tI (.pair tI (.slice (.slice (.pair tI (.pair tI tI)))))) a0)]) (by kernel_rfl) (by kernel_rfl) ?_
          exact exQ_mk (by kernel_rfl) (by kernel_rfl)
        · replace h := ofF h19 h
          refine WO_run (j := 10) (k := 3) (orcs := [(14, .known false), (16, .known false), (18, .known false)]) (kF := [1, 31, 33, 34]) (kL := [1]) (fr' := [(1, .one (.ptr 1 0)), (31, aB ((List.length a0.2.2 : Int) != a0.1)), (33, aD (.slice (.slice (.pair tI (.pair tI tI)))) a0.2.2), (34, .one (.fn 42 [(1, 0)]))]) (L' := [(1, .one (.pair tI (.pair tI (.slice (.slice (.pair tI (.pair tI tI)))))) a0)]) (obs := [(((List.length a0.2.2 : Int) != a0.1) = false), (((List.length a0.2.2 : Int) != a0.1) = false), (((List.length a0.2.2 : Int) != a0.1) = false)]) rfl (by kernel_rfl) (allP2 h19 (allP2 h19 (allP1 h19))) ?_
          obtain ⟨r20, h21, h⟩ := bind_of h
          refine WO_lend [(1000, 1)] (us := [none, none]) (d := 35) (p := (((List.length a0.2.2 : Int) != a0.1) = false)) (j := 11) rfl ⟨by kernel_rfl, by kernel_rfl, by kernel_rfl⟩ h19 (slices_ContainsFunc_LLapiRuleLapiRule_with_tape_Check_1_ok h21) (by kernel_rfl) (by kernel_rfl) ?_
          refine WO_run (j := 12) (k := 1) (orcs := [(23, .val (.dat .bool false))]) (kF := [1, 36]) (kL := [1]) (fr' := [(1, .one (.ptr 1 0)), (36, aB r20)]) (L' := [(1, .one (.pair tI (.pair tI (.slice (.slice (.pair tI (.pair tI tI)))))) a0)]) (obs := [(((List.length a0.2.2 : Int) != a0.1) = false)]) rfl (by kernel_rfl) (allP1 h19) ?_
          obtain rfl := Option.some.inj h
          refine WO_fin [1, 36] [1] (fr' := [(1, .one (.ptr 1 0)), (36, aB r20)]) (L' := [(1, .one (.pair tI (.pair tI (.slice (.slice (.pair tI (.pair tI tI)))))) a0)]) (by kernel_rfl) (by kernel_rfl) ?_
          exact exQ_mk (by kernel_rfl) (by kernel_rfl)
      · intro e fr L hJ
        obtain ⟨rfl, rfl, rfl⟩ := hJ
        refine LT_keep [1, 36] [1] (fr' := [(1, .one (.ptr 1 0)), (36, aB v22)]) (L' := [(1, .one (.pair tI (.pair tI (.slice (.slice (.pair tI (.pair tI tI)))))) a0)]) (by kernel_rfl) ?_
        refine seqQ_norm ?_
        refine W_cond (o := .tmp 36) (b := v22) (by kernel_rfl) (by kernel_rfl) (fun h24 => ?_) (fun h24 => ?_)
        · replace h := ofT h24 h
          refine W_seq (by kernel_rfl) ?_
          refine W_run 1 [] [2] [] (fr' := [(2, aI (3 : Int))]) (L' := []) (obs := []) (by kernel_rfl) (by kernel_rfl) (by kernel_rfl) allP0 ?_
          refine seqQ_norm ?_
          obtain rfl := Option.some.inj h
          refine W_ret [2] [] (fr' := [(2, aI (3 : Int))]) (L' := []) (by kernel_rfl) (by kernel_rfl) ?_
          refine seqQ_ret ?_
          exact retQ_mk (by kernel_rfl) (by kernel_rfl) (by kernel_rfl)
        · replace h := ofF h24 h
          refine W_skip [1] [1] (fr' := [(1, .one (.ptr 1 0))]) (L' := [(1, .one (.pair tI (.pair tI (.slice (.slice (.pair tI (.pair tI tI)))))) a0)]) (by kernel_rfl) (by kernel_rfl) ?_
          refine seqQ_norm ?_
          refine W_seq (by kernel_rfl) ?_
          refine W_seq (by kernel_rfl) ?_
          refine W_run 4 [] [1, 38, 39, 40] [1] (fr' := [(1, .one (.ptr 1 0)), (38, aD (.slice (.slice (.pair tI (.pair tI tI)))) a0.2.2), (39, aI (List.length a0.2.2 : Int)), (40, aI (0 : Int))]) (L' := [(1, .one (.pair tI (.pair tI (.slice (.slice (.pair tI (.pair tI tI)))))) a0)]) (obs := []) (by kernel_rfl) (by kernel_rfl) (by kernel_rfl) allP0 ?_
          refine seqQ_norm ?_
          refine W_block (id := 0) (by kernel_rfl) ?_
          obtain ⟨v268, h269, h⟩ := bind_of h
          refine W_len (t := 38) (u := (.slice (.pair tI (.pair tI tI)))) (xs := a0.2.2) (by kernel_rfl) (fun h272 => ?_)
          obtain ⟨h270, h271⟩ := forL_iter h272 h269
          refine W_weaken [1, 38, 39, 40] [1] (fr' := ((tape_Check_s41 a0) ((0 : Int), ())).1) (L' := ((tape_Check_s41 a0) ((0 : Int), ())).2) (by kernel_rfl) ?_
          refine W_cutK (W_loop (S := (tape_Check_s41 a0)) (J := (escQ (exQ .ret tape_Check_s42) (exQ (.exit 0) tape_Check_s43))) (by kernel_rfl) ?_ h270 _ v268 h271) ?_
          · rintro ⟨i185, x186⟩ s h
            refine W_seq (by kernel_rfl) ?_
            refine W_run 1 [] [1, 38, 39, 40, 41] [1] (fr' := [(1, .one (.ptr 1 0)), (38, aD (.slice (.slice (.pair tI (.pair tI tI)))) a0.2.2), (39, aI (List.length a0.2.2 : Int)), (40, aI i185), (41, aB (decide (i185 < (List.length a0.2.2 : Int))))]) (L' := [(1, .one (.pair tI (.pair tI (.slice (.slice (.pair tI (.pair tI tI)))))) a0)]) (obs := []) (by kernel_rfl) (by kernel_rfl) (by kernel_rfl) allP0 ?_
            refine seqQ_norm ?_
            refine W_seq (by kernel_rfl) ?_
            refine W_cond (o := .tmp 41) (b := decide (i185 < (List.length a0.2.2 : Int))) (by kernel_rfl) (by kernel_rfl) (fun h190 => ?_) (fun h190 => ?_)
            · replace h := stepL_true h190 h
              obtain ⟨v188, _, h189, h, rfl⟩ := h
              refine W_skip [1, 38, 39, 40] [1] (fr' := [(1, .one (.ptr 1 0)), (38, aD (.slice (.slice (.pair tI (.pair tI tI)))) a0.2.2), (39, aI (List.length a0.2.2 : Int)), (40, aI i185)]) (L' := [(1, .one (.pair tI (.pair tI (.slice (.slice (.pair tI (.pair tI tI)))))) a0)]) (by kernel_rfl) (by kernel_rfl) ?_
              refine seqQ_norm ?_
              refine W_seq (by kernel_rfl) ?_
              refine W_block (id := 1) (by kernel_rfl) ?_
              refine W_seq (by kernel_rfl) ?_
              refine W_run 3 [(1, .val (.dat (.slice (.pair tI (.pair tI tI))) v188))] [1, 4, 38, 39, 40] [1] (fr' := [(1, .one (.ptr 1 0)), (4, aD (.slice (.pair tI (.pair tI tI))) v188), (38, aD (.slice (.slice (.pair tI (.pair tI tI)))) a0.2.2), (39, aI (List.length a0.2.2 : Int)), (40, aI i185)]) (L' := [(1, .one (.pair tI (.pair tI (.slice (.slice (.pair tI (.pair tI tI)))))) a0)]) (obs := [Idx a0.2.2 i185 v188]) (by kernel_rfl) (by kernel_rfl) (by kernel_rfl) (allP1 (Idx.of h189)) ?_
              refine seqQ_norm ?_
              refine W_seq (by kernel_rfl) ?_
              refine W_run 3 [] [1, 38, 39, 40, 44, 45, 46] [1] (fr' := [(1, .one (.ptr 1 0)), (38, aD (.slice (.slice (.pair tI (.pair tI tI)))) a0.2.2), (39, aI (List.length a0.2.2 : Int)), (40, aI i185), (44, aD (.slice (.pair tI (.pair tI tI))) v188), (45, aI (List.length v188 : Int)), (46, aI (0 : Int))]) (L' := [(1, .one (.pair tI (.pair tI (.slice (.slice (.pair tI (.pair tI tI)))))) a0)]) (obs := []) (by kernel_rfl) (by kernel_rfl) (by kernel_rfl) allP0 ?_
              refine seqQ_norm ?_
              refine W_block (id := 2) (by kernel_rfl) ?_
              obtain ⟨v260, h261, h⟩ := bind_of h
              refine W_len (t := 44) (u := (.pair tI (.pair tI tI))) (xs := v188) (by kernel_rfl) (fun h264 => ?_)
              obtain ⟨h262, h263⟩ := forL_iter h264 h261
              refine W_weaken [1, 38, 39, 40, 44, 45, 46] [1] (fr' := ((tape_Check_s37 a0 i185 v188) ((0 : Int), ())).1) (L' := ((tape_Check_s37 a0 i185 v188) ((0 : Int), ())).2) (by kernel_rfl) ?_
              refine W_cutK (W_loop (S := (tape_Check_s37 a0 i185 v188)) (J := (escQ (exQ .ret tape_Check_s38) (exQ (.exit 2) (tape_Check_s39 a0 i185)))) (by kernel_rfl) ?_ h262 _ v260 h263) ?_
              · rintro ⟨i235, x236⟩ s h
                refine W_seq (by kernel_rfl) ?_
                refine W_run 1 [] [1, 38, 39, 40, 44, 45, 46, 47] [1] (fr' := [(1, .one (.ptr 1 0)), (38, aD (.slice (.slice (.pair tI (.pair tI tI)))) a0.2.2), (39, aI (List.length a0.2.2 : Int)), (40, aI i185), (44, aD (.slice (.pair tI (.pair tI tI))) v188), (45, aI (List.length v188 : Int)), (46, aI i235), (47, aB (decide (i235 < (List.length v188 : Int))))]) (L' := [(1, .one (.pair tI (.pair tI (.slice (.slice (.pair tI (.pair tI tI)))))) a0)]) (obs := []) (by kernel_rfl) (by kernel_rfl) (by kernel_rfl) allP0 ?_
                refine seqQ_norm ?_
                refine W_seq (by kernel_rfl) ?_
                refine W_cond (o := .tmp 47) (b := decide (i235 < (List.length v188 : Int))) (by kernel_rfl) (by kernel_rfl) (fun h240 => ?_) (fun h240 => ?_)
                · replace h := stepL_true h240 h
                  obtain ⟨v238, _, h239, h, rfl⟩ := h
                  refine W_skip [1, 38, 39, 40, 44, 45, 46] [1] (fr' := [(1, .one (.ptr 1 0)), (38, aD (.slice (.slice (.pair tI (.pair tI tI)))) a0.2.2), (39, aI (List.length a0.2.2 : Int)), (40, aI i185), (44, aD (.slice (.pair tI (.pair tI tI))) v188), (45, aI (List.length v188 : Int)), (46, aI i235)]) (L' := [(1, .one (.pair tI (.pair tI (.slice (.slice (.pair tI (.pair tI tI)))))) a0)]) (by kernel_rfl) (by kernel_rfl) ?_
                  refine seqQ_norm ?_
                  refine W_seq (by kernel_rfl) ?_
                  refine W_block (id := 3) (by kernel_rfl) ?_
                  refine W_seq (by kernel_rfl) ?_
                  refine W_run 4 [(1, .val (.dat (.pair tI (.pair tI tI)) v238)), (5, .typed)] [1, 6, 38, 39, 40, 44, 45, 46] [1, 6] (fr' := [(1, .one (.ptr 1 0)), (6, .one (.ptr 6 0)), (38, aD (.slice (.slice (.pair tI (.pair tI tI)))) a0.2.2), (39, aI (List.length a0.2.2 : Int)), (40, aI i185), (44, aD (.slice (.pair tI (.pair tI tI))) v188), (45, aI (List.length v188 : Int)), (46, aI i235)]) (L' := [(1, .one (.pair tI (.pair tI (.slice (.slice (.pair tI (.pair tI tI)))))) a0), (6, .one (.pair tI (.pair tI tI)) v238)]) (obs := [Idx v188 i235 v238, True]) (by kernel_rfl) (by kernel_rfl) (by kernel_rfl) (allP2 (Idx.of h239) (allP1 trivial)) ?_
                  refine seqQ_norm ?_
                  refine W_block (id := 4) (by kernel_rfl) ?_
                  refine W_seq (by kernel_rfl) ?_
                  obtain ⟨v244, h245, h⟩ := bind_of h
                  refine W_cutK (Q' := (exQ .normal (tape_Check_s35 a0 i185 v188 i235 v238)) v244) ?_ ?_
                  · replace h := h245
                    refine W_region (by kernel_rfl) ?_
                    refine WO_run (j := 4) (k := 4) (orcs := []) (kF := [1, 6, 38, 39, 40, 44, 45, 46, 54]) (kL := [1, 6]) (fr' := [(1, .one (.ptr 1 0)), (6, .one (.ptr 6 0)), (38, aD (.slice (.slice (.pair tI (.pair tI tI)))) a0.2.2), (39, aI (List.length a0.2.2 : Int)), (40, aI i185), (44, aD (.slice (.pair tI (.pair tI tI))) v188), (45, aI (List.length v188 : Int)), (46, aI i235), (54, aB (decide (v238.1 < (0 : Int))))]) (L' := [(1, .one (.pair tI (.pair tI (.slice (.slice (.pair tI (.pair tI tI)))))) a0), (6, .one (.pair tI (.pair tI tI)) v238)]) (obs := []) rfl (by kernel_rfl) allP0 ?_
                    rcases Bool.eq_false_or_eq_true (decide (v238.1 < (0 : Int))) with h243 | h243
                    · replace h := ofT h243 h
                      refine WO_run (j := 11) (k := 7) (orcs := [(8, .known true), (10, .known true), (12, .known true), (14, .known true), (16, .known true), (19, .val (.dat .bool true))]) (kF := [1, 6, 38, 39, 40, 44, 45, 46, 50]) (kL := [1, 6]) (fr' := [(1, .one (.ptr 1 0)), (6, .one (.ptr 6 0)), (38, aD (.slice (.slice (.pair tI (.pair tI tI)))) a0.2.2), (39, aI (List.length a0.2.2 : Int)), (40, aI i185), (44, aD (.slice (.pair tI (.pair tI tI))) v188), (45, aI (List.length v188 : Int)), (46, aI i235), (50, aB true)]) (L' := [(1, .one (.pair tI (.pair tI (.slice (.slice (.pair tI (.pair tI tI)))))) a0), (6, .one (.pair tI (.pair tI tI)) v238)]) (obs := [((decide (v238.1 < (0 : Int))) = true), ((decide (v238.1 < (0 : Int))) = true), ((decide (v238.1 < (0 : Int))) = true), ((decide (v238.1 < (0 : Int))) = true), ((decide (v238.1 < (0 : Int))) = true), ((decide (v238.1 < (0 : Int))) = true)]) rfl (by kernel_rfl) (allP2 h243 (allP2 h243 (allP2 h243 (allP2 h243 (allP2 h243 (allP1 h243)))))) ?_
                      obtain rfl := Option.some.inj h
                      refine WO_fin [1, 6, 38, 39, 40, 44, 45, 46, 50] [1, 6] (fr' := [(1, .one (.ptr 1 0)), (6, .one (.ptr 6 0)), (38, aD (.slice (.slice (.pair tI (.pair tI tI)))) a0.2.2), (39, aI (List.length a0.2.2 : Int)), (40, aI i185), (44, aD (.slice (.pair tI (.pair tI tI))) v188), (45, aI (List.length v188 : Int)), (46, aI i235), (50, aB true)]) (L' := [(1, .one (.pair tI (.pair tI (.slice (.slice (.pair tI (.pair tI tI)))))) a0), (6, .one (.pair tI (.pair tI tI)) v238)]) (by kernel_rfl) (by kernel_rfl) ?_
                      exact exQ_mk (by kernel_rfl) (by kernel_rfl)
                    · replace h := ofF h243 h
                      refine WO_run (j := 11) (k := 7) (orcs := [(8, .known false), (10, .known false), (12, .known false), (14, .known false), (16, .known false), (19, .val (.dat .bool false))]) (kF := [1, 6, 38, 39, 40, 44, 45, 46, 50]) (kL := [1, 6]) (fr' := [(1, .one (.ptr 1 0)), (6, .one (.ptr 6 0)), (38, aD (.slice (.slice (.pair tI (.pair tI tI)))) a0.2.2), (39, aI (List.length a0.2.2 : Int)), (40, aI i185), (44, aD (.slice (.pair tI (.pair tI tI))) v188), (45, aI (List.length v188 : Int)), (46, aI i235), (50, aB (decide (v238.1 ≥ a0.2.1)))]) (L' := [(1, .one (.pair tI (.pair tI (.slice (.slice (.pair tI (.pair tI tI)))))) a0), (6, .one (.pair tI (.pair tI tI)) v238)]) (obs := [((decide (v238.1 < (0 : Int))) = false), ((decide (v238.1 < (0 : Int))) = false), ((decide (v238.1 < (0 : Int))) = false), ((decide (v238.1 < (0 : Int))) = false), ((decide (v238.1 < (0 : Int))) = false), ((decide (v238.1 < (0 : Int))) = false)]) rfl (by kernel_rfl) (allP2 h243 (allP2 h243 (allP2 h243 (allP2 h243 (allP2 h243 (allP1 h243)))))) ?_
                      obtain rfl := Option.some.inj h
                      refine WO_fin [1, 6, 38, 39, 40, 44, 45, 46, 50] [1, 6] (fr' := [(1, .one (.ptr 1 0)), (6, .one (.ptr 6 0)), (38, aD (.slice (.slice (.pair tI (.pair tI tI)))) a0.2.2), (39, aI (List.length a0.2.2 : Int)), (40, aI i185), (44, aD (.slice (.pair tI (.pair tI tI))) v188), (45, aI (List.length v188 : Int)), (46, aI i235), (50, aB (decide (v238.1 ≥ a0.2.1)))]) (L' := [(1, .one (.pair tI (.pair tI (.slice (.slice (.pair tI (.pair tI tI)))))) a0), (6, .one (.pair tI (.pair tI tI)) v238)]) (by kernel_rfl) (by kernel_rfl) ?_
                      exact exQ_mk (by kernel_rfl) (by kernel_rfl)
                  · intro e fr L hJ
                    obtain ⟨rfl, rfl, rfl⟩ := hJ
                    refine LT_keep [1, 6, 38, 39, 40, 44, 45, 46, 50] [1, 6] (fr' := [(1, .one (.ptr 1 0)), (6, .one (.ptr 6 0)), (38, aD (.slice (.slice (.pair tI (.pair tI tI)))) a0.2.2), (39, aI (List.length a0.2.2 : Int)), (40, aI i185), (44, aD (.slice (.pair tI (.pair tI tI))) v188), (45, aI (List.length v188 : Int)), (46, aI i235), (50, aB v244)]) (L' := [(1, .one (.pair tI (.pair tI (.slice (.slice (.pair tI (.pair tI tI)))))) a0), (6, .one (.pair tI (.pair tI tI)) v238)]) (by kernel_rfl) ?_
                    refine seqQ_norm ?_
                    refine W_cond (o := .tmp 50) (b := v244) (by kernel_rfl) (by kernel_rfl) (fun h246 => ?_) (fun h246 => ?_)
                    · replace h := ofT h246 h
                      refine W_seq (by kernel_rfl) ?_
                      refine W_run 1 [] [2] [] (fr' := [(2, aI (2 : Int))]) (L' := []) (obs := []) (by kernel_rfl) (by kernel_rfl) (by kernel_rfl) allP0 ?_
                      refine seqQ_norm ?_
                      obtain rfl := Option.some.inj h
                      refine W_ret [2] [] (fr' := [(2, aI (2 : Int))]) (L' := []) (by kernel_rfl) (by kernel_rfl) ?_
                      refine blockQ_ret ?_
                      refine blockQ_ret ?_
                      refine seqQ_ret ?_
                      refine round_ret ?_
                      refine escQ_ret ?_
                      exact exQ_mk (by kernel_rfl) (by kernel_rfl)
                    · replace h := ofF h246 h
                      refine W_seq (by kernel_rfl) ?_
                      obtain ⟨v250, h251, h⟩ := bind_of h
                      refine W_cutK (Q' := (exQ .normal (tape_Check_s34 a0 i185 v188 i235 v238)) v250) ?_ ?_
                      · replace h := h251
                        refine W_region (by kernel_rfl) ?_
                        refine WO_run (j := 4) (k := 4) (orcs := []) (kF := [1, 6, 38, 39, 40, 44, 45, 46, 65]) (kL := [1, 6]) (fr' := [(1, .one (.ptr 1 0)), (6, .one (.ptr 6 0)), (38, aD (.slice (.slice (.pair tI (.pair tI tI)))) a0.2.2), (39, aI (List.length a0.2.2 : Int)), (40, aI i185), (44, aD (.slice (.pair tI (.pair tI tI))) v188), (45, aI (List.length v188 : Int)), (46, aI i235), (65, aB (decide (v238.2.1 < (-1 : Int))))]) (L' := [(1, .one (.pair tI (.pair tI (.slice (.slice (.pair tI (.pair tI tI)))))) a0), (6, .one (.pair tI (.pair tI tI)) v238)]) (obs := []) rfl (by kernel_rfl) allP0 ?_
                        rcases Bool.eq_false_or_eq_true (decide (v238.2.1 < (-1 : Int))) with h249 | h249
                        · replace h := ofT h249 h
                          refine WO_run (j := 9) (k := 5) (orcs := [(8, .known true), (10, .known true), (12, .known true), (15, .val (.dat .bool true))]) (kF := [1, 6, 38, 39, 40, 44, 45, 46, 61]) (kL := [1, 6]) (fr' := [(1, .one (.ptr 1 0)), (6, .one (.ptr 6 0)), (38, aD (.slice (.slice (.pair tI (.pair tI tI)))) a0.2.2), (39, aI (List.length a0.2.2 : Int)), (40, aI i185), (44, aD (.slice (.pair tI (.pair tI tI))) v188), (45, aI (List.length v188 : Int)), (46, aI i235), (61, aB true)]) (L' := [(1, .one (.pair tI (.pair tI (.slice (.slice (.pair tI (.pair tI tI)))))) a0), (6, .one (.pair tI (.pair tI tI)) v238)]) (obs := [((decide (v238.2.1 < (-1 : Int))) = true), ((decide (v238.2.1 < (-1 : Int))) = true), ((decide (v238.2.1 < (-1 : Int))) = true), ((decide (v238.2.1 < (-1 : Int))) = true)]) rfl (by kernel_rfl) (allP2 h249 (allP2 h249 (allP2 h249 (allP1 h249)))) ?_
                          obtain rfl := Option.some.inj h
                          refine WO_fin [1, 6, 38, 39, 40, 44, 45, 46, 61] [1, 6] (fr' := [(1, .one (.ptr 1 0)), (6, .one (.ptr 6 0)), (38, aD (.slice (.slice (.pair tI (.pair tI tI)))) a0.2.2), (39, aI (List.length a0.2.2 : Int)), (40, aI i185), (44, aD (.slice (.pair tI (.pair tI tI))) v188), (45, aI (List.length v188 : Int)), (46, aI i235), (61, aB true)]) (L' := [(1, .one (.pair tI (.pair tI (.slice (.slice (.pair tI (.pair tI tI)))))) a0), (6, .one (.pair tI (.pair tI tI)) v238)]) (by kernel_rfl) (by kernel_rfl) ?_
                          exact exQ_mk (by kernel_rfl) (by kernel_rfl)
                        · replace h := ofF h249 h
                          refine WO_run (j := 9) (k := 5) (orcs := [(8, .known false), (10, .known false), (12, .known false), (15, .val (.dat .bool false))]) (kF := [1, 6, 38, 39, 40, 44, 45, 46, 61]) (kL := [1, 6]) (fr' := [(1, .one (.ptr 1 0)), (6, .one (.ptr 6 0)), (38, aD (.slice (.slice (.pair tI (.pair tI tI)))) a0.2.2), (39, aI (List.length a0.2.2 : Int)), (40, aI i185), (44, aD (.slice (.pair tI (.pair tI tI))) v188), (45, aI (List.length v188 : Int)), (46, aI i235), (61, aB (decide (v238.2.1 > (1 : Int))))]) (L' := [(1, .one (.pair tI (.pair tI (.slice (.slice (.pair tI (.pair tI tI)))))) a0), (6, .one (.pair tI (.pair tI tI)) v238)]) (obs := [((decide (v238.2.1 < (-1 : Int))) = false), ((decide (v238.2.1 < (-1 : Int))) = false), ((decide (v238.2.1 < (-1 : Int))) = false), ((decide (v238.2.1 < (-1 : Int))) = false)]) rfl (by kernel_rfl) (allP2 h249 (allP2 h249 (allP2 h249 (allP1 h249)))) ?_
                          obtain rfl := Option.some.inj h
                          refine WO_fin [1, 6, 38, 39, 40, 44, 45, 46, 61] [1, 6] (fr' := [(1, .one (.ptr 1 0)), (6, .one (.ptr 6 0)), (38, aD (.slice (.slice (.pair tI (.pair tI tI)))) a0.2.2), (39, aI (List.length a0.2.2 : Int)), (40, aI i185), (44, aD (.slice (.pair tI (.pair tI tI))) v188), (45, aI (List.length v188 : Int)), (46, aI i235), (61, aB (decide (v238.2.1 > (1 : Int))))]) (L' := [(1, .one (.pair tI (.pair tI (.slice (.slice (.pair tI (.pair tI tI)))))) a0), (6, .one (.pair tI (.pair tI tI)) v238)]) (by kernel_rfl) (by kernel_rfl) ?_
                          exact exQ_mk (by kernel_rfl) (by kernel_rfl)
                      · intro e fr L hJ
                        obtain ⟨rfl, rfl, rfl⟩ := hJ
                        refine LT_keep [1, 6, 38, 39, 40, 44, 45, 46, 61] [1, 6] (fr' := [(1, .one (.ptr 1 0)), (6, .one (.ptr 6 0)), (38, aD (.slice (.slice (.pair tI (.pair tI tI)))) a0.2.2), (39, aI (List.length a0.2.2 : Int)), (40, aI i185), (44, aD (.slice (.pair tI (.pair tI tI))) v188), (45, aI (List.length v188 : Int)), (46, aI i235), (61, aB v250)]) (L' := [(1, .one (.pair tI (.pair tI (.slice (.slice (.pair tI (.pair tI tI)))))) a0), (6, .one (.pair tI (.pair tI tI)) v238)]) (by kernel_rfl) ?_
                        refine seqQ_norm ?_
                        refine W_cond (o := .tmp 61) (b := v250) (by kernel_rfl) (by kernel_rfl) (fun h252 => ?_) (fun h252 => ?_)
                        · replace h := ofT h252 h
                          refine W_seq (by kernel_rfl) ?_
                          refine W_run 1 [] [2] [] (fr' := [(2, aI (4 : Int))]) (L' := []) (obs := []) (by kernel_rfl) (by kernel_rfl) (by kernel_rfl) allP0 ?_
                          refine seqQ_norm ?_
                          obtain rfl := Option.some.inj h
                          refine W_ret [2] [] (fr' := [(2, aI (4 : Int))]) (L' := []) (by kernel_rfl) (by kernel_rfl) ?_
                          refine blockQ_ret ?_
                          refine blockQ_ret ?_
                          refine seqQ_ret ?_
                          refine round_ret ?_
                          refine escQ_ret ?_
                          exact exQ_mk (by kernel_rfl) (by kernel_rfl)
                        · replace h := ofF h252 h
                          refine W_seq (by kernel_rfl) ?_
                          obtain ⟨v256, h257, h⟩ := bind_of h
                          refine W_cutK (Q' := (exQ .normal (tape_Check_s33 a0 i185 v188 i235)) v256) ?_ ?_
                          · replace h := h257
                            refine W_region (by kernel_rfl) ?_
                            refine WO_run (j := 4) (k := 4) (orcs := []) (kF := [1, 6, 38, 39, 40, 44, 45, 46, 74]) (kL := [1, 6]) (fr' := [(1, .one (.ptr 1 0)), (6, .one (.ptr 6 0)), (38, aD (.slice (.slice (.pair tI (.pair tI tI)))) a0.2.2), (39, aI (List.length a0.2.2 : Int)), (40, aI i185), (44, aD (.slice (.pair tI (.pair tI tI))) v188), (45, aI (List.length v188 : Int)), (46, aI i235), (74, aB (decide (v238.2.2 < (0 : Int))))]) (L' := [(1, .one (.pair tI (.pair tI (.slice (.slice (.pair tI (.pair tI tI)))))) a0), (6, .one (.pair tI (.pair tI tI)) v238)]) (obs := []) rfl (by kernel_rfl) allP0 ?_
                            rcases Bool.eq_false_or_eq_true (decide (v238.2.2 < (0 : Int))) with h255 | h255
                            · replace h := ofT h255 h
                              refine WO_run (j := 11) (k := 7) (orcs := [(8, .known true), (10, .known true), (12, .known true), (14, .known true), (16, .known true), (19, .val (.dat .bool true))]) (kF := [1, 38, 39, 40, 44, 45, 46, 70]) (kL := [1, 6]) (fr' := [(1, .one (.ptr 1 0)), (38, aD (.slice (.slice (.pair tI (.pair tI tI)))) a0.2.2), (39, aI (List.length a0.2.2 : Int)), (40, aI i185), (44, aD (.slice (.pair tI (.pair tI tI))) v188), (45, aI (List.length v188 : Int)), (46, aI i235), (70, aB true)]) (L' := [(1, .one (.pair tI (.pair tI (.slice (.slice (.pair tI (.pair tI tI)))))) a0), (6, .one (.pair tI (.pair tI tI)) v238)]) (obs := [((decide (v238.2.2 < (0 : Int))) = true), ((decide (v238.2.2 < (0 : Int))) = true), ((decide (v238.2.2 < (0 : Int))) = true), ((decide (v238.2.2 < (0 : Int))) = true), ((decide (v238.2.2 < (0 : Int))) = true), ((decide (v238.2.2 < (0 : Int))) = true)]) rfl (by kernel_rfl) (allP2 h255 (allP2 h255 (allP2 h255 (allP2 h255 (allP2 h255 (allP1 h255)))))) ?_
                              obtain rfl := Option.some.inj h
                              refine WO_fin [1, 38, 39, 40, 44, 45, 46, 70] [1] (fr' := [(1, .one (.ptr 1 0)), (38, aD (.slice (.slice (.pair tI (.pair tI tI)))) a0.2.2), (39, aI (List.length a0.2.2 : Int)), (40, aI i185), (44, aD (.slice (.pair tI (.pair tI tI))) v188), (45, aI (List.length v188 : Int)), (46, aI i235), (70, aB true)]) (L' := [(1, .one (.pair tI (.pair tI (.slice (.slice (.pair tI (.pair tI tI)))))) a0)]) (by kernel_rfl) (by kernel_rfl) ?_
                              exact exQ_mk (by kernel_rfl) (by kernel_rfl)
                            · replace h := ofF h255 h
                              refine WO_run (j := 11) (k := 7) (orcs := [(8, .known false), (10, .known false), (12, .known false), (14, .known false), (16, .known false), (19, .val (.dat .bool false))]) (kF := [1, 38, 39, 40, 44, 45, 46, 70]) (kL := [1, 6]) (fr' := [(1, .one (.ptr 1 0)), (38, aD (.slice (.slice (.pair tI (.pair tI tI)))) a0.2.2), (39, aI (List.length a0.2.2 : Int)), (40, aI i185), (44, aD (.slice (.pair tI (.pair tI tI))) v188), (45, aI (List.length v188 : Int)), (46, aI i235), (70, aB (decide (v238.2.2 > a0.1)))]) (L' := [(1, .one (.pair tI (.pair tI (.slice (.slice (.pair tI (.pair tI tI)))))) a0), (6, .one (.pair tI (.pair tI tI)) v238)]) (obs := [((decide (v238.2.2 < (0 : Int))) = false), ((decide (v238.2.2 < (0 : Int))) = false), ((decide (v238.2.2 < (0 : Int))) = false), ((decide (v238.2.2 < (0 : Int))) = false), ((decide (v238.2.2 < (0 : Int))) = false), ((decide (v238.2.2 < (0 : Int))) = false)]) rfl (by kernel_rfl) (allP2 h255 (allP2 h255 (allP2 h255 (allP2 h255 (allP2 h255 (allP1 h255)))))) ?_
                              obtain rfl := Option.some.inj h
                              refine WO_fin [1, 38, 39, 40, 44, 45, 46, 70] [1] (fr' := [(1, .one (.ptr 1 0)), (38, aD (.slice (.slice (.pair tI (.pair tI tI)))) a0.2.2), (39, aI (List.length a0.2.2 : Int)), (40, aI i185), (44, aD (.slice (.pair tI (.pair tI tI))) v188), (45, aI (List.length v188 : Int)), (46, aI i235), (70, aB (decide (v238.2.2 > a0.1)))]) (L' := [(1, .one (.pair tI (.pair tI (.slice (.slice (.pair tI (.pair tI tI)))))) a0)]) (by kernel_rfl) (by kernel_rfl) ?_
                              exact exQ_mk (by kernel_rfl) (by kernel_rfl)
                          · intro e fr L hJ
                            obtain ⟨rfl, rfl, rfl⟩ := hJ
                            refine LT_keep [1, 38, 39, 40, 44, 45, 46, 70] [1] (fr' := [(1, .one (.ptr 1 0)), (38, aD (.slice (.slice (.pair tI (.pair tI tI)))) a0.2.2), (39, aI (List.length a0.2.2 : Int)), (40, aI i185), (44, aD (.slice (.pair tI (.pair tI tI))) v188), (45, aI (List.length v188 : Int)), (46, aI i235), (70, aB v256)]) (L' := [(1, .one (.pair tI (.pair tI (.slice (.slice (.pair tI (.pair tI tI)))))) a0)]) (by kernel_rfl) ?_
                            refine seqQ_norm ?_
                            refine W_cond (o := .tmp 70) (b := v256) (by kernel_rfl) (by kernel_rfl) (fun h258 => ?_) (fun h258 => ?_)
                            · replace h := ofT h258 h
                              refine W_seq (by kernel_rfl) ?_
                              refine W_run 1 [] [2] [] (fr' := [(2, aI (2 : Int))]) (L' := []) (obs := []) (by kernel_rfl) (by kernel_rfl) (by kernel_rfl) allP0 ?_
                              refine seqQ_norm ?_
                              obtain rfl := Option.some.inj h
                              refine W_ret [2] [] (fr' := [(2, aI (2 : Int))]) (L' := []) (by kernel_rfl) (by kernel_rfl) ?_
                              refine blockQ_ret ?_
                              refine blockQ_ret ?_
                              refine seqQ_ret ?_
                              refine round_ret ?_
                              refine escQ_ret ?_
                              exact exQ_mk (by kernel_rfl) (by kernel_rfl)
                            · replace h := ofF h258 h
                              refine W_skip [1, 38, 39, 40, 44, 45, 46] [1] (fr' := [(1, .one (.ptr 1 0)), (38, aD (.slice (.slice (.pair tI (.pair tI tI)))) a0.2.2), (39, aI (List.length a0.2.2 : Int)), (40, aI i185), (44, aD (.slice (.pair tI (.pair tI tI))) v188), (45, aI (List.length v188 : Int)), (46, aI i235)]) (L' := [(1, .one (.pair tI (.pair tI (.slice (.slice (.pair tI (.pair tI tI)))))) a0)]) (by kernel_rfl) (by kernel_rfl) ?_
                              refine blockQ_norm ?_
                              refine blockQ_norm ?_
                              refine seqQ_norm ?_
                              obtain rfl := Option.some.inj h
                              refine W_run 2 [] [1, 38, 39, 40, 44, 45, 46] [1] (fr' := [(1, .one (.ptr 1 0)), (38, aD (.slice (.slice (.pair tI (.pair tI tI)))) a0.2.2), (39, aI (List.length a0.2.2 : Int)), (40, aI i185), (44, aD (.slice (.pair tI (.pair tI tI))) v188), (45, aI (List.length v188 : Int)), (46, aI (w64 (i235 + (1 : Int))))]) (L' := [(1, .one (.pair tI (.pair tI (.slice (.slice (.pair tI (.pair tI tI)))))) a0)]) (obs := []) (by kernel_rfl) (by kernel_rfl) (by kernel_rfl) allP0 ?_
                              exact round_next' (by kernel_rfl) (by kernel_rfl)
                · obtain rfl := stepL_false h240 h
                  refine W_exit (id := 2) [1, 38, 39, 40] [1] (fr' := [(1, .one (.ptr 1 0)), (38, aD (.slice (.slice (.pair tI (.pair tI tI)))) a0.2.2), (39, aI (List.length a0.2.2 : Int)), (40, aI i185)]) (L' := [(1, .one (.pair tI (.pair tI (.slice (.slice (.pair tI (.pair tI tI)))))) a0)]) (by kernel_rfl) (by kernel_rfl) ?_
                  refine seqQ_exit ?_
                  refine round_exit ?_
                  refine escQ_brk ?_
                  exact exQ_mk (by kernel_rfl) (by kernel_rfl)
              · intro e fr L hJ
                rcases v260 with v265 | v266
                · obtain ⟨rfl, rfl, rfl⟩ := hJ
                  obtain rfl := Option.some.inj h
                  refine LT_keep [2] [] (fr' := [(2, aI v265)]) (L' := []) (by kernel_rfl) ?_
                  refine blockQ_ret ?_
                  refine blockQ_ret ?_
                  refine seqQ_ret ?_
                  refine round_ret ?_
                  refine escQ_ret ?_
                  exact exQ_mk (by kernel_rfl) (by kernel_rfl)
                · obtain ⟨rfl, rfl, rfl⟩ := hJ
                  refine LT_keep [1, 38, 39, 40] [1] (fr' := [(1, .one (.ptr 1 0)), (38, aD (.slice (.slice (.pair tI (.pair tI tI)))) a0.2.2), (39, aI (List.length a0.2.2 : Int)), (40, aI i185)]) (L' := [(1, .one (.pair tI (.pair tI (.slice (.slice (.pair tI (.pair tI tI)))))) a0)]) (by kernel_rfl) ?_
                  refine blockQ_hit ?_
                  refine blockQ_norm ?_
                  refine seqQ_norm ?_
                  obtain rfl := Option.some.inj h
                  refine W_run 2 [] [1, 38, 39, 40] [1] (fr' := [(1, .one (.ptr 1 0)), (38, aD (.slice (.slice (.pair tI (.pair tI tI)))) a0.2.2), (39, aI (List.length a0.2.2 : Int)), (40, aI (w64 (i185 + (1 : Int))))]) (L' := [(1, .one (.pair tI (.pair tI (.slice (.slice (.pair tI (.pair tI tI)))))) a0)]) (obs := []) (by kernel_rfl) (by kernel_rfl) (by kernel_rfl) allP0 ?_
                  exact round_next' (by kernel_rfl) (by kernel_rfl)
            · obtain rfl := stepL_false h190 h
              refine W_exit (id := 0) [] [] (fr' := []) (L' := []) (by kernel_rfl) (by kernel_rfl) ?_
              refine seqQ_exit ?_
              refine round_exit ?_
              refine escQ_brk ?_
              exact exQ_mk (by kernel_rfl) (by kernel_rfl)
          · intro e fr L hJ
            rcases v268 with v273 | v274
            · obtain ⟨rfl, rfl, rfl⟩ := hJ
              obtain rfl := Option.some.inj h
              refine LT_keep [2] [] (fr' := [(2, aI v273)]) (L' := []) (by kernel_rfl) ?_
              refine blockQ_ret ?_
              refine seqQ_ret ?_
              exact retQ_mk (by kernel_rfl) (by kernel_rfl) (by kernel_rfl)
            · obtain ⟨rfl, rfl, rfl⟩ := hJ
              refine LT_keep [] [] (fr' := []) (L' := []) (by kernel_rfl) ?_
              refine blockQ_hit ?_
              refine seqQ_norm ?_
              refine W_seq (by kernel_rfl) ?_
              refine W_run 1 [] [2] [] (fr' := [(2, aI (0 : Int))]) (L' := []) (obs := []) (by kernel_rfl) (by kernel_rfl) (by kernel_rfl) allP0 ?_
              refine seqQ_norm ?_
              obtain rfl := Option.some.inj h
              refine W_ret [2] [] (fr' := [(2, aI (0 : Int))]) (L' := []) (by kernel_rfl) (by kernel_rfl) ?_
              exact retQ_mk (by kernel_rfl) (by kernel_rfl) (by kernel_rfl)

@[reducible] def unroll_wrong_s1 (a1 : Int) (a2 : Int) (v : Bool) : Fr × LL := ([(1, aI a1), (2, aI a2), (13, aB v)], [])
def unroll_wrong (a0 : (Int × (Int × (List (List (Int × (Int × Int))))))) (a1 : Int) (a2 : Int) : Option Int :=
(tape_Check a0).bind fun r1 =>
bif r1 != (0 : Int) then
(some r1)
else
((bif decide (a0.2.1 > (2 : Int)) then
(some true)
else
(some (decide (a0.1 > (2 : Int))))).bind fun v7 =>
bif v7 then
(some (3 : Int))
else
(bif (decide (a1 < (1 : Int))) || (decide (a1 > (5 : Int))) then
(some (1 : Int))
else
(bif (decide (a2 < (0 : Int))) || (decide (a2 > (6 : Int))) then
(some (7 : Int))
else
(some (0 : Int)))))
theorem unroll_wrong_ok {a0 : (Int × (Int × (List (List (Int × (Int × Int))))))} {a1 : Int} {a2 : Int} {r : Int} (h : unroll_wrong a0 a1 a2 = some r) : FnC Try.prog 23 [aD (.pair tI (.pair tI (.slice (.slice (.pair tI (.pair tI tI)))))) a0, aI a1, aI a2] [] (aI r) [] := by
  refine fnC_of_W (B := bodyOf Try.f23) (n := 36) Try.func23 (by kernel_rfl) (by kernel_rfl) (by kernel_rfl) (by kernel_rfl) (by kernel_rfl) ?_
  intro K
  refine W_seq (by kernel_rfl) ?_
  refine W_run 2 [] [1, 2, 3] [3] (fr' := [(1, aI a1), (2, aI a2), (3, .one (.ptr 3 0))]) (L' := [(3, .one (.pair tI (.pair tI (.slice (.slice (.pair tI (.pair tI tI)))))) a0)]) (obs := []) (by kernel_rfl) (by kernel_rfl) (by kernel_rfl) allP0 ?_
  refine seqQ_norm ?_
  refine W_seq (by kernel_rfl) ?_
  refine W_seq (by kernel_rfl) ?_
  refine W_region (by kernel_rfl) ?_
  refine WO_run (j := 1) (k := 1) (orcs := []) (kF := [1, 2, 3, 8]) (kL := [3]) (fr' := [(1, aI a1), (2, aI a2), (3, .one (.ptr 3 0)), (8, aD (.pair tI (.pair tI (.slice (.slice (.pair tI (.pair tI tI)))))) a0)]) (L' := [(3, .one (.pair tI (.pair tI (.slice (.slice (.pair tI (.pair tI tI)))))) a0)]) (obs := []) rfl (by kernel_rfl) allP0 ?_
  obtain ⟨r1, h2, h⟩ := bind_of h
  refine WO_call0 (us := [none]) (d := 9) (p := True) (j := 2) rfl ⟨by kernel_rfl, by kernel_rfl, by kernel_rfl⟩ trivial (tape_Check_ok h2) (by kernel_rfl) ?_
  refine WO_run (j := 3) (k := 1) (orcs := []) (kF := [1, 2, 3, 7]) (kL := [3]) (fr' := [(1, aI a1), (2, aI a2), (3, .one (.ptr 3 0)), (7, aI r1)]) (L' := [(3, .one (.pair tI (.pair tI (.slice (.slice (.pair tI (.pair tI tI)))))) a0)]) (obs := []) rfl (by kernel_rfl) allP0 ?_
  refine WO_fin [1, 2, 3, 7] [3] (fr' := [(1, aI a1), (2, aI a2), (3, .one (.ptr 3 0)), (7, aI r1)]) (L' := [(3, .one (.pair tI (.pair tI (.slice (.slice (.pair tI (.pair tI tI)))))) a0)]) (by kernel_rfl) (by kernel_rfl) ?_
  refine seqQ_norm ?_
  refine W_seq (by kernel_rfl) ?_
  refine W_run 2 [] [1, 2, 3, 7, 11] [3] (fr' := [(1, aI a1), (2, aI a2), (3, .one (.ptr 3 0)), (7, aI r1), (11, aB (r1 != (0 : Int)))]) (L' := [(3, .one (.pair tI (.pair tI (.slice (.slice (.pair tI (.pair tI tI)))))) a0)]) (obs := []) (by kernel_rfl) (by kernel_rfl) (by kernel_rfl) allP0 ?_
  refine seqQ_norm ?_
  refine W_cond (o := .tmp 11) (b := r1 != (0 : Int)) (by kernel_rfl) (by kernel_rfl) (fun h3 => ?_) (fun h3 => ?_)
  · replace h := ofT h3 h
    refine W_seq (by kernel_rfl) ?_
    refine W_run 2 [] [6] [] (fr' := [(6, aI r1)]) (L' := []) (obs := []) (by kernel_rfl) (by kernel_rfl) (by kernel_rfl) allP0 ?_
    refine seqQ_norm ?_
    obtain rfl := Option.some.inj h
    refine W_ret [6] [] (fr' := [(6, aI r1)]) (L' := []) (by kernel_rfl) (by kernel_rfl) ?_
    refine seqQ_ret ?_
    exact retQ_mk (by kernel_rfl) (by kernel_rfl) (by kernel_rfl)
  · replace h := ofF h3 h
    refine W_skip [1, 2, 3] [3] (fr' := [(1, aI a1), (2, aI a2), (3, .one (.ptr 3 0))]) (L' := [(3, .one (.pair tI (.pair tI (.slice (.slice (.pair tI (.pair tI tI)))))) a0)]) (by kernel_rfl) (by kernel_rfl) ?_
    refine seqQ_norm ?_
    refine W_seq (by kernel_rfl) ?_
    refine W_block (id := 0) (by kernel_rfl) ?_
    refine W_seq (by kernel_rfl) ?_
    obtain ⟨v7, h8, h⟩ := bind_of h
    refine W_cutK (Q' := (exQ .normal (unroll_wrong_s1 a1 a2)) v7) ?_ ?_
    · replace h := h8
      refine W_region (by kernel_rfl) ?_
      refine WO_run (j := 4) (k := 4) (orcs := []) (kF := [1, 2, 3, 17]) (kL := [3]) (fr' := [(1, aI a1), (2, aI a2), (3, .one (.ptr 3 0)), (17, aB (decide (a0.2.1 > (2 : Int))))]) (L' := [(3, .one (.pair tI (.pair tI (.slice (.slice (.pair tI (.pair tI tI)))))) a0)]) (obs := []) rfl (by kernel_rfl) allP0 ?_
      rcases Bool.eq_false_or_eq_true (decide (a0.2.1 > (2 : Int))) with h6 | h6
      · replace h := ofT h6 h
        refine WO_run (j := 9) (k := 5) (orcs := [(8, .known true), (10, .known true), (12, .known true), (15, .val (.dat .bool true))]) (kF := [1, 2, 13]) (kL := [3]) (fr' := [(1, aI a1), (2, aI a2), (13, aB true)]) (L' := [(3, .one (.pair tI (.pair tI (.slice (.slice (.pair tI (.pair tI tI)))))) a0)]) (obs := [((decide (a0.2.1 > (2 : Int))) = true), ((decide (a0.2.1 > (2 : Int))) = true), ((decide (a0.2.1 > (2 : Int))) = true), ((decide (a0.2.1 > (2 : Int))) = true)]) rfl (by kernel_rfl) (allP2 h6 (allP2 h6 (allP2 h6 (allP1 h6)))) ?_
        obtain rfl := Option.some.inj h
        refine WO_fin [1, 2, 13] [] (fr' := [(1, aI a1), (2, aI a2), (13, aB true)]) (L' := []) (by kernel_rfl) (by kernel_rfl) ?_
        exact exQ_mk (by kernel_rfl) (by kernel_rfl)
      · replace h := ofF h6 h
        refine WO_run (j := 9) (k := 5) (orcs := [(8, .known false), (10, .known false), (12, .known false), (15, .val (.dat .bool false))]) (kF := [1, 2, 13]) (kL := [3]) (fr' := [(1, aI a1), (2, aI a2), (13, aB (decide (a0.1 > (2 : Int))))]) (L' := [(3, .one (.pair tI (.pair tI (.slice (.slice (.pair tI (.pair tI tI)))))) a0)]) (obs := [((decide (a0.2.1 > (2 : Int))) = false), ((decide (a0.2.1 > (2 : Int))) = false), ((decide (a0.2.1 > (2 : Int))) = false), ((decide (a0.2.1 > (2 : Int))) = false)]) rfl (by kernel_rfl) (allP2 h6 (allP2 h6 (allP2 h6 (allP1 h6)))) ?_
        obtain rfl := Option.some.inj h
        refine WO_fin [1, 2, 13] [] (fr' := [(1, aI a1), (2, aI a2), (13, aB (decide (a0.1 > (2 : Int))))]) (L' := []) (by kernel_rfl) (by kernel_rfl) ?_
        exact exQ_mk (by kernel_rfl) (by kernel_rfl)
    · intro e fr L hJ
      obtain ⟨rfl, rfl, rfl⟩ := hJ
      refine LT_keep [1, 2, 13] [] (fr' := [(1, aI a1), (2, aI a2), (13, aB v7)]) (L' := []) (by kernel_rfl) ?_
      refine seqQ_norm ?_
      refine W_cond (o := .tmp 13) (b := v7) (by kernel_rfl) (by kernel_rfl) (fun h9 => ?_) (fun h9 => ?_)
      · replace h := ofT h9 h
        refine W_seq (by kernel_rfl) ?_
        refine W_run 1 [] [6] [] (fr' := [(6, aI (3 : Int))]) (L' := []) (obs := []) (by kernel_rfl) (by kernel_rfl) (by kernel_rfl) allP0 ?_
        refine seqQ_norm ?_
        obtain rfl := Option.some.inj h
        refine W_ret [6] [] (fr' := [(6, aI (3 : Int))]) (L' := []) (by kernel_rfl) (by kernel_rfl) ?_
        refine blockQ_ret ?_
        refine seqQ_ret ?_
        exact retQ_mk (by kernel_rfl) (by kernel_rfl) (by kernel_rfl)
      · replace h := ofF h9 h
        refine W_seq (by kernel_rfl) ?_
        refine W_run 7 [] [2, 22] [] (fr' := [(2, aI a2), (22, aB ((decide (a1 < (1 : Int))) || (decide (a1 > (5 : Int)))))]) (L' := []) (obs := []) (by kernel_rfl) (by kernel_rfl) (by kernel_rfl) allP0 ?_
        refine seqQ_norm ?_
        refine W_cond (o := .tmp 22) (b := (decide (a1 < (1 : Int))) || (decide (a1 > (5 : Int)))) (by kernel_rfl) (by kernel_rfl) (fun h10 => ?_) (fun h10 => ?_)
        · replace h := ofT h10 h
          refine W_seq (by kernel_rfl) ?_
          refine W_run 1 [] [6] [] (fr' := [(6, aI (1 : Int))]) (L' := []) (obs := []) (by kernel_rfl) (by kernel_rfl) (by kernel_rfl) allP0 ?_
          refine seqQ_norm ?_
          obtain rfl := Option.some.inj h
          refine W_ret [6] [] (fr' := [(6, aI (1 : Int))]) (L' := []) (by kernel_rfl) (by kernel_rfl) ?_
          refine blockQ_ret ?_
          refine seqQ_ret ?_
          exact retQ_mk (by kernel_rfl) (by kernel_rfl) (by kernel_rfl)
        · replace h := ofF h10 h
          refine W_seq (by kernel_rfl) ?_
          refine W_run 7 [] [29] [] (fr' := [(29, aB ((decide (a2 < (0 : Int))) || (decide (a2 > (6 : Int)))))]) (L' := []) (obs := []) (by kernel_rfl) (by kernel_rfl) (by kernel_rfl) allP0 ?_
          refine seqQ_norm ?_
          refine W_cond (o := .tmp 29) (b := (decide (a2 < (0 : Int))) || (decide (a2 > (6 : Int)))) (by kernel_rfl) (by kernel_rfl) (fun h11 => ?_) (fun h11 => ?_)
          · replace h := ofT h11 h
            refine W_seq (by kernel_rfl) ?_
            refine W_run 1 [] [6] [] (fr' := [(6, aI (7 : Int))]) (L' := []) (obs := []) (by kernel_rfl) (by kernel_rfl) (by kernel_rfl) allP0 ?_
            refine seqQ_norm ?_
            obtain rfl := Option.some.inj h
            refine W_ret [6] [] (fr' := [(6, aI (7 : Int))]) (L' := []) (by kernel_rfl) (by kernel_rfl) ?_
            refine blockQ_ret ?_
            refine seqQ_ret ?_
            exact retQ_mk (by kernel_rfl) (by kernel_rfl) (by kernel_rfl)
          · replace h := ofF h11 h
            refine W_skip [] [] (fr' := []) (L' := []) (by kernel_rfl) (by kernel_rfl) ?_
            refine blockQ_norm ?_
            refine seqQ_norm ?_
            refine W_seq (by kernel_rfl) ?_
            refine W_run 1 [] [6] [] (fr' := [(6, aI (0 : Int))]) (L' := []) (obs := []) (by kernel_rfl) (by kernel_rfl) (by kernel_rfl) allP0 ?_
            refine seqQ_norm ?_
            obtain rfl := Option.some.inj h
            refine W_ret [6] [] (fr' := [(6, aI (0 : Int))]) (L' := []) (by kernel_rfl) (by kernel_rfl) ?_
            exact retQ_mk (by kernel_rfl) (by kernel_rfl) (by kernel_rfl)

def tape_Tape_Put (a1 : Int) (a2 : Int) (c0 : (Option (List (Int × Int)))) : Option (Option (List (Int × Int))) :=
bif a2 == (0 : Int) then
(some (Option.map (fun l => mDel (deqT tI) l a1) c0))
else
((ck (Option.isSome c0 = true)).bind fun _ =>
some (Option.map (fun l => mPut (deqT tI) l a1 a2) c0))
theorem tape_Tape_Put_ok {a1 : Int} {a2 : Int} {c0 : (Option (List (Int × Int)))} {r : (Option (List (Int × Int)))} (h : tape_Tape_Put a1 a2 c0 = some r) : FnC Try.prog 24 [.one (.slc 1000), aI a1, aI a2] [(1000, .map tI tI c0)] (.tup []) [(1000, .map tI tI r)] := by
  refine fnC_of_W (B := bodyOf Try.f24) (n := 13) Try.func24 (by kernel_rfl) (by kernel_rfl) (by kernel_rfl) (by kernel_rfl) (by kernel_rfl) ?_
  intro K
  refine W_seq (by kernel_rfl) ?_
  refine W_seq (by kernel_rfl) ?_
  refine W_run 2 [] [0, 1, 2, 7] [1000] (fr' := [(0, .one (.slc 1000)), (1, aI a1), (2, aI a2), (7, aB (a2 == (0 : Int)))]) (L' := [(1000, .map tI tI c0)]) (obs := []) (by kernel_rfl) (by kernel_rfl) (by kernel_rfl) allP0 ?_
  refine seqQ_norm ?_
  refine W_cond (o := .tmp 7) (b := a2 == (0 : Int)) (by kernel_rfl) (by kernel_rfl) (fun h1 => ?_) (fun h1 => ?_)
  · replace h := ofT h1 h
    refine W_seq (by kernel_rfl) ?_
    refine W_run 3 [] [] [1000] (fr' := []) (L' := [(1000, .map tI tI (Option.map (fun l => mDel (deqT tI) l a1) c0))]) (obs := []) (by kernel_rfl) (by kernel_rfl) (by kernel_rfl) allP0 ?_
    refine seqQ_norm ?_
    obtain rfl := Option.some.inj h
    refine W_ret [] [1000] (fr' := []) (L' := [(1000, .map tI tI (Option.map (fun l => mDel (deqT tI) l a1) c0))]) (by kernel_rfl) (by kernel_rfl) ?_
    refine seqQ_ret ?_
    exact retQ_mk (by kernel_rfl) (by kernel_rfl) (by kernel_rfl)
  · replace h := ofF h1 h
    refine W_skip [0, 1, 2] [1000] (fr' := [(0, .one (.slc 1000)), (1, aI a1), (2, aI a2)]) (L' := [(1000, .map tI tI c0)]) (by kernel_rfl) (by kernel_rfl) ?_
    refine seqQ_norm ?_
    obtain ⟨_, h2, h⟩ := bind_of h
    replace h2 := ck_some h2
    obtain rfl := Option.some.inj h
    refine W_run 4 [] [] [1000] (fr' := []) (L' := [(1000, .map tI tI (Option.map (fun l => mPut (deqT tI) l a1 a2) c0))]) (obs := [Option.isSome c0 = true]) (by kernel_rfl) (by kernel_rfl) (by kernel_rfl) (allP1 h2) ?_
    exact ⟨.inr rfl, by kernel_rfl, by kernel_rfl, by kernel_rfl⟩

def tape_Step (a0 : (Int × (Int × (List (List (Int × (Int × Int))))))) (a2 : Int) (a3 : Int) (c0 : (Option (List (Int × Int)))) : Option (Int × Int × (Option (List (Int × Int)))) :=
(idx a0.2.2 a2).bind fun v1 =>
(idx v1 (Option.getD (mGet (deqT tI) (Option.getD c0 []) a3) (0 : Int))).bind fun v3 =>
(tape_Tape_Put a3 v3.1 c0).bind fun r5 =>
some (v3.2.2, w64 (a3 + v3.2.1), r5)
theorem tape_Step_ok {a0 : (Int × (Int × (List (List (Int × (Int × Int))))))} {a2 : Int} {a3 : Int} {c0 : (Option (List (Int × Int)))} {r : (Int × Int × (Option (List (Int × Int))))} (h : tape_Step a0 a2 a3 c0 = some r) : FnC Try.prog 25 [aD (.pair tI (.pair tI (.slice (.slice (.pair tI (.pair tI tI)))))) a0, .one (.slc 1000), aI a2, aI a3] [(1000, .map tI tI c0)] (.tup [.dat tI r.1, .dat tI r.2.1]) [(1000, .map tI tI r.2.2)] := by
  refine fnC_of_W (B := bodyOf Try.f25) (n := 32) Try.func25 (by kernel_rfl) (by kernel_rfl) (by kernel_rfl) (by kernel_rfl) (by kernel_rfl) ?_
  intro K
  refine W_seq (by kernel_rfl) ?_
  refine W_run 3 [] [1, 2, 3, 4] [1000, 4] (fr' := [(1, .one (.slc 1000)), (2, aI a2), (3, aI a3), (4, .one (.ptr 4 0))]) (L' := [(1000, .map tI tI c0), (4, .one (.pair tI (.pair tI (.slice (.slice (.pair tI (.pair tI tI)))))) a0)]) (obs := []) (by kernel_rfl) (by kernel_rfl) (by kernel_rfl) allP0 ?_
  refine seqQ_norm ?_
  refine W_seq (by kernel_rfl) ?_
  obtain ⟨v1, h2, h⟩ := bind_of h
  obtain ⟨v3, h4, h⟩ := bind_of h
  refine W_drawC5 11 [] [(10, 10, .one (.pair tI (.pair tI tI)) ((0 : Int), (0 : Int), (0 : Int)))] [(10, .one (.ptr 10 0))] [(7, .val (.dat (.slice (.pair tI (.pair tI tI))) v1)), (17, .val (.dat (.pair tI (.pair tI tI)) v3))] [] [1, 3, 10, 20] [4, 10, 1000] (out := [(11, .one (.ptr 4 2)), (12, aD (.slice (.slice (.pair tI (.pair tI tI)))) a0.2.2), (13, aI a2), (14, .one (.dptr (.slice (.pair tI (.pair tI tI))) v1)), (15, aD (.slice (.pair tI (.pair tI tI))) v1), (16, .one (.slc 1000)), (17, aI a3), (18, aI (Option.getD (mGet (deqT tI) (Option.getD c0 []) a3) (0 : Int))), (19, .one (.dptr (.pair tI (.pair tI tI)) v3)), (20, aD (.pair tI (.pair tI tI)) v3), (10, .one (.ptr 10 0))]) (obs := [Idx a0.2.2 a2 v1, Idx v1 (Option.getD (mGet (deqT tI) (Option.getD c0 []) a3) (0 : Int)) v3]) (calls := []) (fr' := [(1, .one (.slc 1000)), (3, aI a3), (10, .one (.ptr 10 0)), (20, aD (.pair tI (.pair tI tI)) v3)]) (L' := [(4, .one (.pair tI (.pair tI (.slice (.slice (.pair tI (.pair tI tI)))))) a0), (10, .one (.pair tI (.pair tI tI)) ((0 : Int), (0 : Int), (0 : Int))), (1000, .map tI tI c0)]) (by kernel_rfl) (by kernel_rfl) (by kernel_rfl) (by kernel_rfl) (by kernel_rfl) (allP2 (Idx.of h2) (allP1 (Idx.of h4))) allD0 chNil (mkDo (ty := true) (av := .one (.ptr 10 0)) (p := True) (by kernel_rfl) trivial (by kernel_rfl) mkNil) (by kernel_rfl) ?_
  refine WO_run (j := 12) (k := 1) (orcs := []) (kF := [1, 3, 10]) (kL := [4, 10, 1000]) (fr' := [(1, .one (.slc 1000)), (3, aI a3), (10, .one (.ptr 10 0))]) (L' := [(4, .one (.pair tI (.pair tI (.slice (.slice (.pair tI (.pair tI tI)))))) a0), (10, .one (.pair tI (.pair tI tI)) v3), (1000, .map tI tI c0)]) (obs := [True]) rfl (by kernel_rfl) (allP1 trivial) ?_
  refine WO_fin [1, 3, 10] [1000, 10] (fr' := [(1, .one (.slc 1000)), (3, aI a3), (10, .one (.ptr 10 0))]) (L' := [(1000, .map tI tI c0), (10, .one (.pair tI (.pair tI tI)) v3)]) (by kernel_rfl) (by kernel_rfl) ?_
  refine ⟨rfl, ?_⟩
  refine seqQ_norm ?_
  refine W_seq (by kernel_rfl) ?_
  refine W_region (by kernel_rfl) ?_
  refine WO_run (j := 4) (k := 4) (orcs := []) (kF := [3, 10, 21, 22, 24]) (kL := [10, 1000]) (fr' := [(3, aI a3), (10, .one (.ptr 10 0)), (21, .one (.slc 1000)), (22, aI a3), (24, aI v3.1)]) (L' := [(10, .one (.pair tI (.pair tI tI)) v3), (1000, .map tI tI c0)]) (obs := []) rfl (by kernel_rfl) allP0 ?_
  obtain ⟨r5, h6, h⟩ := bind_of h
  refine WO_lend [(1000, 1000)] (us := [none, none, none]) (d := 25) (p := True) (j := 5) rfl ⟨by kernel_rfl, by kernel_rfl, by kernel_rfl⟩ trivial (tape_Tape_Put_ok h6) (by kernel_rfl) (by kernel_rfl) ?_
  refine WO_fin [3, 10] [10, 1000] (fr' := [(3, aI a3), (10, .one (.ptr 10 0))]) (L' := [(10, .one (.pair tI (.pair tI tI)) v3), (1000, .map tI tI r5)]) (by kernel_rfl) (by kernel_rfl) ?_
  refine seqQ_norm ?_
  refine W_seq (by kernel_rfl) ?_
  refine W_draw2 7 [] [] [8, 9] [1000] (fr' := [(8, aI v3.2.2), (9, aI (w64 (a3 + v3.2.1)))]) (L' := [(1000, .map tI tI r5)]) (out := [(26, .one (.ptr 10 2)), (27, aI v3.2.2), (28, aI a3), (29, .one (.ptr 10 1)), (30, aI v3.2.1), (31, aI (w64 (a3 + v3.2.1))), (8, aI v3.2.2)]) (obs := []) (obs2 := []) (calls := []) (by kernel_rfl) (by kernel_rfl) (by kernel_rfl) (by kernel_rfl) allP0 allC0 (by kernel_rfl) allP0 ?_
  refine seqQ_norm ?_
  obtain rfl := Option.some.inj h
  refine W_ret [8, 9] [1000] (fr' := [(8, aI v3.2.2), (9, aI (w64 (a3 + v3.2.1)))]) (L' := [(1000, .map tI tI r5)]) (by kernel_rfl) (by kernel_rfl) ?_
  exact retQ_mk (by kernel_rfl) (by kernel_rfl) (by kernel_rfl)

@[reducible] def unroll_Ask_s4 (a0 : (Int × (Int × (List (List (Int × (Int × Int))))))) (a1 : Int) (a2 : Int) (a3 : (List Bool)) (i43 : Int) (v : (Option (List (Int × Int)))) : Fr × LL := ([(1, aI a1), (2, aI a2), (4, .one (.ptr 4 0)), (11, .one (.slc 27)), (28, aD (.slice .bool) a3), (29, aI (List.length a3 : Int)), (30, aI i43)], [(4, .one (.pair tI (.pair tI (.slice (.slice (.pair tI (.pair tI tI)))))) a0), (27, .map tI tI v)])
def unroll_Ask_b5 (i43 : Int) (v46 : Bool) (x44 : (Option (List (Int × Int)))) : Option (Flow (Option (List (Int × Int))) (Option (List (Int × Int)))) :=
(bif v46 then
((tape_Tape_Put i43 (1 : Int) x44).bind fun r56 =>
some r56)
else
(some x44)).bind fun v58 =>
some (.next v58)
@[reducible] def unroll_Ask_s6 (a0 : (Int × (Int × (List (List (Int × (Int × Int))))))) (a1 : Int) (a2 : Int) (a3 : (List Bool)) (v : Int × (Option (List (Int × Int)))) : Fr × LL := ([(1, aI a1), (2, aI a2), (4, .one (.ptr 4 0)), (11, .one (.slc 27)), (28, aD (.slice .bool) a3), (29, aI (List.length a3 : Int)), (30, aI v.1)], [(4, .one (.pair tI (.pair tI (.slice (.slice (.pair tI (.pair tI tI)))))) a0), (27, .map tI tI v.2)])
@[reducible] def unroll_Ask_s7 (a0 : (Int × (Int × (List (List (Int × (Int × Int))))))) (a1 : Int) (a2 : Int) (v : (Option (List (Int × Int)))) : Fr × LL := ([(1, aI a1), (2, aI a2), (4, .one (.ptr 4 0)), (11, .one (.slc 27))], [(4, .one (.pair tI (.pair tI (.slice (.slice (.pair tI (.pair tI tI)))))) a0), (27, .map tI tI v)])
@[reducible] def unroll_Ask_s10 (a0 : (Int × (Int × (List (List (Int × (Int × Int))))))) (a1 : Int) (x75 : (Int × Int × Int × (Option (List (Int × Int))))) (v : Bool) : Fr × LL := ([(1, aI a1), (2, aI x75.1), (4, .one (.ptr 4 0)), (11, .one (.slc 27)), (14, aI x75.2.1), (15, aI x75.2.2.1), (47, aB v)], [(4, .one (.pair tI (.pair tI (.slice (.slice (.pair tI (.pair tI tI)))))) a0), (27, .map tI tI x75.2.2.2)])
def unroll_Ask_b11 (a0 : (Int × (Int × (List (List (Int × (Int × Int))))))) (a1 : Int) (x75 : (Int × Int × Int × (Option (List (Int × Int))))) : Option (Flow (Int × Int × Int × (Option (List (Int × Int)))) (Int × Int × (Option (List (Int × Int))))) :=
(bif decide (x75.1 > (0 : Int)) then
(some (decide (x75.2.1 < a0.1)))
else
(some false)).bind fun v87 =>
bif v87 then
((tape_Step a0 x75.2.1 x75.2.2.1 x75.2.2.2).bind fun r90 =>
some (.next (w64 (x75.1 - (1 : Int)), r90.1, imin (imax r90.2.1 (0 : Int)) (w64 (a1 - (1 : Int))), r90.2.2)))
else
(some (.done (x75.2.1, x75.2.2.1, x75.2.2.2)))
@[reducible] def unroll_Ask_s12 (a0 : (Int × (Int × (List (List (Int × (Int × Int))))))) (a1 : Int) (v : (Int × Int × Int × (Option (List (Int × Int))))) : Fr × LL := ([(1, aI a1), (2, aI v.1), (4, .one (.ptr 4 0)), (11, .one (.slc 27)), (14, aI v.2.1), (15, aI v.2.2.1)], [(4, .one (.pair tI (.pair tI (.slice (.slice (.pair tI (.pair tI tI)))))) a0), (27, .map tI tI v.2.2.2)])
@[reducible] def unroll_Ask_s13 (a0 : (Int × (Int × (List (List (Int × (Int × Int))))))) (v : (Int × Int × (Option (List (Int × Int))))) : Fr × LL := ([(4, .one (.ptr 4 0)), (11, .one (.slc 27)), (14, aI v.1), (15, aI v.2.1)], [(4, .one (.pair tI (.pair tI (.slice (.slice (.pair tI (.pair tI tI)))))) a0), (27, .map tI tI v.2.2)])
def unroll_Ask (fuel : Nat) (a0 : (Int × (Int × (List (List (Int × (Int × Int))))))) (a1 : Int) (a2 : Int) (a3 : (List Bool)) : Option (Bool × Int) :=
(unroll_wrong a0 a1 a2).bind fun r1 =>
bif r1 != (0 : Int) then
(some (false, r1))
else
(bif (List.length a3 : Int) != a1 then
(some (false, (2 : Int)))
else
((forL unroll_Ask_b5 (fun x44 => x44) a3 0 (some [] : Option (List (Int × Int)))).bind fun v61 =>
(iter (unroll_Ask_b11 a0 a1) fuel (a2, (0 : Int), (0 : Int), v61)).bind fun v92 =>
some ((v92.1 == a0.1) && ((Option.getD (mGet (deqT tI) (Option.getD v92.2.2 []) v92.2.1) (0 : Int)) == (1 : Int)), (0 : Int))))
theorem unroll_Ask_ok {fuel : Nat} {a0 : (Int × (Int × (List (List (Int × (Int × Int))))))} {a1 : Int} {a2 : Int} {a3 : (List Bool)} {r : (Bool × Int)} (h : unroll_Ask fuel a0 a1 a2 a3 = some r) : FnC Try.prog 9 [aD (.pair tI (.pair tI (.slice (.slice (.pair tI (.pair tI tI)))))) a0, aI a1, aI a2, aD (.slice .bool) a3] [] (.tup [.dat .bool r.1, .dat tI r.2]) [] := by
  refine fnC_of_W (B := bodyOf Try.f9) (n := 73) Try.func9 (by kernel_rfl) (by kernel_rfl) (by kernel_rfl) (by kernel_rfl) (by kernel_rfl) ?_
  intro K
  refine W_seq (by kernel_rfl) ?_
  refine W_run 3 [] [1, 2, 3, 4] [4] (fr' := [(1, aI a1), (2, aI a2), (3, aD (.slice .bool) a3), (4, .one (.ptr 4 0))]) (L' := [(4, .one (.pair tI (.pair tI (.slice (.slice (.pair tI (.pair tI tI)))))) a0)]) (obs := []) (by kernel_rfl) (by kernel_rfl) (by kernel_rfl) allP0 ?_
  refine seqQ_norm ?_
  refine W_seq (by kernel_rfl) ?_
  refine W_seq (by kernel_rfl) ?_
  refine W_region (by kernel_rfl) ?_
  refine WO_run (j := 3) (k := 3) (orcs := []) (kF := [1, 2, 3, 4, 16, 17, 18]) (kL := [4]) (fr' := [(1, aI a1), (2, aI a2), (3, aD (.slice .bool) a3), (4, .one (.ptr 4 0)), (16, aD (.pair tI (.pair tI (.slice (.slice (.pair tI (.pair tI tI)))))) a0), (17, aI a1), (18, aI a2)]) (L' := [(4, .one (.pair tI (.pair tI (.slice (.slice (.pair tI (.pair tI tI)))))) a0)]) (obs := []) rfl (by kernel_rfl) allP0 ?_
  obtain ⟨r1, h2, h⟩ := bind_of h
  refine WO_call0 (us := [none, none, none]) (d := 19) (p := True) (j := 4) rfl ⟨by kernel_rfl, by kernel_rfl, by kernel_rfl⟩ trivial (unroll_wrong_ok h2) (by kernel_rfl) ?_
  refine WO_run (j := 5) (k := 1) (orcs := []) (kF := [1, 2, 3, 4, 10]) (kL := [4]) (fr' := [(1, aI a1), (2, aI a2), (3, aD (.slice .bool) a3), (4, .one (.ptr 4 0)), (10, aI r1)]) (L' := [(4, .one (.pair tI (.pair tI (.slice (.slice (.pair tI (.pair tI tI)))))) a0)]) (obs := []) rfl (by kernel_rfl) allP0 ?_
  refine WO_fin [1, 2, 3, 4, 10] [4] (fr' := [(1, aI a1), (2, aI a2), (3, aD (.slice .bool) a3), (4, .one (.ptr 4 0)), (10, aI r1)]) (L' := [(4, .one (.pair tI (.pair tI (.slice (.slice (.pair tI (.pair tI tI)))))) a0)]) (by kernel_rfl) (by kernel_rfl) ?_
  refine seqQ_norm ?_
  refine W_seq (by kernel_rfl) ?_
  refine W_run 2 [] [1, 2, 3, 4, 10, 21] [4] (fr' := [(1, aI a1), (2, aI a2), (3, aD (.slice .bool) a3), (4, .one (.ptr 4 0)), (10, aI r1), (21, aB (r1 != (0 : Int)))]) (L' := [(4, .one (.pair tI (.pair tI (.slice (.slice (.pair tI (.pair tI tI)))))) a0)]) (obs := []) (by kernel_rfl) (by kernel_rfl) (by kernel_rfl) allP0 ?_
  refine seqQ_norm ?_
  refine W_cond (o := .tmp 21) (b := r1 != (0 : Int)) (by kernel_rfl) (by kernel_rfl) (fun h3 => ?_) (fun h3 => ?_)
  · replace h := ofT h3 h
    refine W_seq (by kernel_rfl) ?_
    refine W_run 3 [] [8, 9] [] (fr' := [(8, aB false), (9, aI r1)]) (L' := []) (obs := []) (by kernel_rfl) (by kernel_rfl) (by kernel_rfl) allP0 ?_
    refine seqQ_norm ?_
    obtain rfl := Option.some.inj h
    refine W_ret [8, 9] [] (fr' := [(8, aB false), (9, aI r1)]) (L' := []) (by kernel_rfl) (by kernel_rfl) ?_
    refine seqQ_ret ?_
    exact retQ_mk (by kernel_rfl) (by kernel_rfl) (by kernel_rfl)
  · replace h := ofF h3 h
    refine W_skip [1, 2, 3, 4] [4] (fr' := [(1, aI a1), (2, aI a2), (3, aD (.slice .bool) a3), (4, .one (.ptr 4 0))]) (L' := [(4, .one (.pair tI (.pair tI (.slice (.slice (.pair tI (.pair tI tI)))))) a0)]) (by kernel_rfl) (by kernel_rfl) ?_
    refine seqQ_norm ?_
    refine W_seq (by kernel_rfl) ?_
    refine W_seq (by kernel_rfl) ?_
    refine W_run 4 [] [1, 2, 3, 4, 26] [4] (fr' := [(1, aI a1), (2, aI a2), (3, aD (.slice .bool) a3), (4, .one (.ptr 4 0)), (26, aB ((List.length a3 : Int) != a1))]) (L' := [(4, .one (.pair tI (.pair tI (.slice (.slice (.pair tI (.pair tI tI)))))) a0)]) (obs := []) (by kernel_rfl) (by kernel_rfl) (by kernel_rfl) allP0 ?_
    refine seqQ_norm ?_
    refine W_cond (o := .tmp 26) (b := (List.length a3 : Int) != a1) (by kernel_rfl) (by kernel_rfl) (fun h4 => ?_) (fun h4 => ?_)
    · replace h := ofT h4 h
      refine W_seq (by kernel_rfl) ?_
      refine W_run 2 [] [8, 9] [] (fr' := [(8, aB false), (9, aI (2 : Int))]) (L' := []) (obs := []) (by kernel_rfl) (by kernel_rfl) (by kernel_rfl) allP0 ?_
      refine seqQ_norm ?_
      obtain rfl := Option.some.inj h
      refine W_ret [8, 9] [] (fr' := [(8, aB false), (9, aI (2 : Int))]) (L' := []) (by kernel_rfl) (by kernel_rfl) ?_
      refine seqQ_ret ?_
      exact retQ_mk (by kernel_rfl) (by kernel_rfl) (by kernel_rfl)
    · replace h := ofF h4 h
      refine W_skip [1, 2, 3, 4] [4] (fr' := [(1, aI a1), (2, aI a2), (3, aD (.slice .bool) a3), (4, .one (.ptr 4 0))]) (L' := [(4, .one (.pair tI (.pair tI (.slice (.slice (.pair tI (.pair tI tI)))))) a0)]) (by kernel_rfl) (by kernel_rfl) ?_
      refine seqQ_norm ?_
      refine W_seq (by kernel_rfl) ?_
      refine W_run 2 [] [1, 2, 3, 4, 11] [4, 27] (fr' := [(1, aI a1), (2, aI a2), (3, aD (.slice .bool) a3), (4, .one (.ptr 4 0)), (11, .one (.slc 27))]) (L' := [(4, .one (.pair tI (.pair tI (.slice (.slice (.pair tI (.pair tI tI)))))) a0), (27, .map tI tI (some [] : Option (List (Int × Int))))]) (obs := []) (by kernel_rfl) (by kernel_rfl) (by kernel_rfl) allP0 ?_
      refine seqQ_norm ?_
      refine W_seq (by kernel_rfl) ?_
      refine W_seq (by kernel_rfl) ?_
      refine W_run 3 [] [1, 2, 4, 11, 28, 29, 30] [4, 27] (fr' := [(1, aI a1), (2, aI a2), (4, .one (.ptr 4 0)), (11, .one (.slc 27)), (28, aD (.slice .bool) a3), (29, aI (List.length a3 : Int)), (30, aI (0 : Int))]) (L' := [(4, .one (.pair tI (.pair tI (.slice (.slice (.pair tI (.pair tI tI)))))) a0), (27, .map tI tI (some [] : Option (List (Int × Int))))]) (obs := []) (by kernel_rfl) (by kernel_rfl) (by kernel_rfl) allP0 ?_
      refine seqQ_norm ?_
      refine W_block (id := 0) (by kernel_rfl) ?_
      obtain ⟨v61, h62, h⟩ := bind_of h
      refine W_len (t := 28) (u := .bool) (xs := a3) (by kernel_rfl) (fun h65 => ?_)
      obtain ⟨h63, h64⟩ := forL_iter h65 h62
      refine W_weaken [1, 2, 4, 11, 28, 29, 30] [4, 27] (fr' := ((unroll_Ask_s6 a0 a1 a2 a3) ((0 : Int), (some [] : Option (List (Int × Int))))).1) (L' := ((unroll_Ask_s6 a0 a1 a2 a3) ((0 : Int), (some [] : Option (List (Int × Int))))).2) (by kernel_rfl) ?_
      refine W_cutK (W_loop (S := (unroll_Ask_s6 a0 a1 a2 a3)) (J := (exQ (.exit 0) (unroll_Ask_s7 a0 a1 a2))) (by kernel_rfl) ?_ h63 _ v61 h64) ?_
      · rintro ⟨i43, x44⟩ s h
        refine W_seq (by kernel_rfl) ?_
        refine W_run 1 [] [1, 2, 4, 11, 28, 29, 30, 31] [4, 27] (fr' := [(1, aI a1), (2, aI a2), (4, .one (.ptr 4 0)), (11, .one (.slc 27)), (28, aD (.slice .bool) a3), (29, aI (List.length a3 : Int)), (30, aI i43), (31, aB (decide (i43 < (List.length a3 : Int))))]) (L' := [(4, .one (.pair tI (.pair tI (.slice (.slice (.pair tI (.pair tI tI)))))) a0), (27, .map tI tI x44)]) (obs := []) (by kernel_rfl) (by kernel_rfl) (by kernel_rfl) allP0 ?_
        refine seqQ_norm ?_
        refine W_seq (by kernel_rfl) ?_
        refine W_cond (o := .tmp 31) (b := decide (i43 < (List.length a3 : Int))) (by kernel_rfl) (by kernel_rfl) (fun h48 => ?_) (fun h48 => ?_)
        · replace h := stepL_true h48 h
          obtain ⟨v46, _, h47, h, rfl⟩ := h
          refine W_skip [1, 2, 4, 11, 28, 29, 30] [4, 27] (fr' := [(1, aI a1), (2, aI a2), (4, .one (.ptr 4 0)), (11, .one (.slc 27)), (28, aD (.slice .bool) a3), (29, aI (List.length a3 : Int)), (30, aI i43)]) (L' := [(4, .one (.pair tI (.pair tI (.slice (.slice (.pair tI (.pair tI tI)))))) a0), (27, .map tI tI x44)]) (by kernel_rfl) (by kernel_rfl) ?_
          refine seqQ_norm ?_
          refine W_seq (by kernel_rfl) ?_
          obtain ⟨v58, h59, h⟩ := bind_of h
          refine W_cutK (Q' := (exQ .normal (unroll_Ask_s4 a0 a1 a2 a3 i43)) v58) ?_ ?_
          · replace h := h59
            refine W_block (id := 1) (by kernel_rfl) ?_
            refine W_seq (by kernel_rfl) ?_
            refine W_run 5 [(3, .val (.dat .bool v46))] [1, 2, 4, 11, 12, 13, 28, 29, 30] [4, 27] (fr' := [(1, aI a1), (2, aI a2), (4, .one (.ptr 4 0)), (11, .one (.slc 27)), (12, aI i43), (13, aB v46), (28, aD (.slice .bool) a3), (29, aI (List.length a3 : Int)), (30, aI i43)]) (L' := [(4, .one (.pair tI (.pair tI (.slice (.slice (.pair tI (.pair tI tI)))))) a0), (27, .map tI tI x44)]) (obs := [Idx a3 i43 v46]) (by kernel_rfl) (by kernel_rfl) (by kernel_rfl) (allP1 (Idx.of h47)) ?_
            refine seqQ_norm ?_
            refine W_seq (by kernel_rfl) ?_
            refine W_run 1 [] [1, 2, 4, 11, 12, 28, 29, 30, 35] [4, 27] (fr' := [(1, aI a1), (2, aI a2), (4, .one (.ptr 4 0)), (11, .one (.slc 27)), (12, aI i43), (28, aD (.slice .bool) a3), (29, aI (List.length a3 : Int)), (30, aI i43), (35, aB v46)]) (L' := [(4, .one (.pair tI (.pair tI (.slice (.slice (.pair tI (.pair tI tI)))))) a0), (27, .map tI tI x44)]) (obs := []) (by kernel_rfl) (by kernel_rfl) (by kernel_rfl) allP0 ?_
            refine seqQ_norm ?_
            refine W_cond (o := .tmp 35) (b := v46) (by kernel_rfl) (by kernel_rfl) (fun h55 => ?_) (fun h55 => ?_)
            · replace h := ofT h55 h
              refine W_region (by kernel_rfl) ?_
              refine WO_run (j := 2) (k := 2) (orcs := []) (kF := [1, 2, 4, 11, 28, 29, 30, 36, 37]) (kL := [4, 27]) (fr' := [(1, aI a1), (2, aI a2), (4, .one (.ptr 4 0)), (11, .one (.slc 27)), (28, aD (.slice .bool) a3), (29, aI (List.length a3 : Int)), (30, aI i43), (36, .one (.slc 27)), (37, aI i43)]) (L' := [(4, .one (.pair tI (.pair tI (.slice (.slice (.pair tI (.pair tI tI)))))) a0), (27, .map tI tI x44)]) (obs := []) rfl (by kernel_rfl) allP0 ?_
              obtain ⟨r56, h57, h⟩ := bind_of h
              refine WO_lend [(1000, 27)] (us := [none, none, none]) (d := 38) (p := True) (j := 3) rfl ⟨by kernel_rfl, by kernel_rfl, by kernel_rfl⟩ trivial (tape_Tape_Put_ok h57) (by kernel_rfl) (by kernel_rfl) ?_
              obtain rfl := Option.some.inj h
              refine WO_fin [1, 2, 4, 11, 28, 29, 30] [4, 27] (fr' := [(1, aI a1), (2, aI a2), (4, .one (.ptr 4 0)), (11, .one (.slc 27)), (28, aD (.slice .bool) a3), (29, aI (List.length a3 : Int)), (30, aI i43)]) (L' := [(4, .one (.pair tI (.pair tI (.slice (.slice (.pair tI (.pair tI tI)))))) a0), (27, .map tI tI r56)]) (by kernel_rfl) (by kernel_rfl) ?_
              refine blockQ_norm ?_
              exact exQ_mk (by kernel_rfl) (by kernel_rfl)
            · replace h := ofF h55 h
              obtain rfl := Option.some.inj h
              refine W_skip [1, 2, 4, 11, 28, 29, 30] [4, 27] (fr' := [(1, aI a1), (2, aI a2), (4, .one (.ptr 4 0)), (11, .one (.slc 27)), (28, aD (.slice .bool) a3), (29, aI (List.length a3 : Int)), (30, aI i43)]) (L' := [(4, .one (.pair tI (.pair tI (.slice (.slice (.pair tI (.pair tI tI)))))) a0), (27, .map tI tI x44)]) (by kernel_rfl) (by kernel_rfl) ?_
              refine blockQ_norm ?_
              exact exQ_mk (by kernel_rfl) (by kernel_rfl)
          · intro e fr L hJ
            obtain ⟨rfl, rfl, rfl⟩ := hJ
            refine LT_keep [1, 2, 4, 11, 28, 29, 30] [4, 27] (fr' := [(1, aI a1), (2, aI a2), (4, .one (.ptr 4 0)), (11, .one (.slc 27)), (28, aD (.slice .bool) a3), (29, aI (List.length a3 : Int)), (30, aI i43)]) (L' := [(4, .one (.pair tI (.pair tI (.slice (.slice (.pair tI (.pair tI tI)))))) a0), (27, .map tI tI v58)]) (by kernel_rfl) ?_
            refine seqQ_norm ?_
            obtain rfl := Option.some.inj h
            refine W_run 2 [] [1, 2, 4, 11, 28, 29, 30] [4, 27] (fr' := [(1, aI a1), (2, aI a2), (4, .one (.ptr 4 0)), (11, .one (.slc 27)), (28, aD (.slice .bool) a3), (29, aI (List.length a3 : Int)), (30, aI (w64 (i43 + (1 : Int))))]) (L' := [(4, .one (.pair tI (.pair tI (.slice (.slice (.pair tI (.pair tI tI)))))) a0), (27, .map tI tI v58)]) (obs := []) (by kernel_rfl) (by kernel_rfl) (by kernel_rfl) allP0 ?_
            exact round_next' (by kernel_rfl) (by kernel_rfl)
        · obtain rfl := stepL_false h48 h
          refine W_exit (id := 0) [1, 2, 4, 11] [4, 27] (fr' := [(1, aI a1), (2, aI a2), (4, .one (.ptr 4 0)), (11, .one (.slc 27))]) (L' := [(4, .one (.pair tI (.pair tI (.slice (.slice (.pair tI (.pair tI tI)))))) a0), (27, .map tI tI x44)]) (by kernel_rfl) (by kernel_rfl) ?_
          refine seqQ_exit ?_
          refine round_exit ?_
          exact exQ_mk (by kernel_rfl) (by kernel_rfl)
      · intro e fr L hJ
        obtain ⟨rfl, rfl, rfl⟩ := hJ
        refine LT_keep [1, 2, 4, 11] [4, 27] (fr' := [(1, aI a1), (2, aI a2), (4, .one (.ptr 4 0)), (11, .one (.slc 27))]) (L' := [(4, .one (.pair tI (.pair tI (.slice (.slice (.pair tI (.pair tI tI)))))) a0), (27, .map tI tI v61)]) (by kernel_rfl) ?_
        refine blockQ_hit ?_
        refine seqQ_norm ?_
        refine W_seq (by kernel_rfl) ?_
        refine W_run 2 [] [1, 2, 4, 11, 14, 15] [4, 27] (fr' := [(1, aI a1), (2, aI a2), (4, .one (.ptr 4 0)), (11, .one (.slc 27)), (14, aI (0 : Int)), (15, aI (0 : Int))]) (L' := [(4, .one (.pair tI (.pair tI (.slice (.slice (.pair tI (.pair tI tI)))))) a0), (27, .map tI tI v61)]) (obs := []) (by kernel_rfl) (by kernel_rfl) (by kernel_rfl) allP0 ?_
        refine seqQ_norm ?_
        refine W_seq (by kernel_rfl) ?_
        refine W_block (id := 2) (by kernel_rfl) ?_
        obtain ⟨v92, h93, h⟩ := bind_of h
        refine W_weaken [1, 2, 4, 11, 14, 15] [4, 27] (fr' := ((unroll_Ask_s12 a0 a1) (a2, (0 : Int), (0 : Int), v61)).1) (L' := ((unroll_Ask_s12 a0 a1) (a2, (0 : Int), (0 : Int), v61)).2) (by kernel_rfl) ?_
        refine W_cutK (W_loop (S := (unroll_Ask_s12 a0 a1)) (J := (exQ (.exit 2) (unroll_Ask_s13 a0))) (by kernel_rfl) ?_ fuel _ v92 h93) ?_
        · rintro x75 s h
          refine W_seq (by kernel_rfl) ?_
          refine W_seq (by kernel_rfl) ?_
          obtain ⟨v87, h88, h⟩ := bind_of h
          refine W_cutK (Q' := (exQ .normal (unroll_Ask_s10 a0 a1 x75)) v87) ?_ ?_
          · replace h := h88
            refine W_region (by kernel_rfl) ?_
            refine WO_run (j := 3) (k := 3) (orcs := []) (kF := [1, 2, 4, 11, 14, 15, 42]) (kL := [4, 27]) (fr' := [(1, aI a1), (2, aI x75.1), (4, .one (.ptr 4 0)), (11, .one (.slc 27)), (14, aI x75.2.1), (15, aI x75.2.2.1), (42, aB (decide (x75.1 > (0 : Int))))]) (L' := [(4, .one (.pair tI (.pair tI (.slice (.slice (.pair tI (.pair tI tI)))))) a0), (27, .map tI tI x75.2.2.2)]) (obs := []) rfl (by kernel_rfl) allP0 ?_
            rcases Bool.eq_false_or_eq_true (decide (x75.1 > (0 : Int))) with h86 | h86
            · replace h := ofT h86 h
              refine WO_run (j := 8) (k := 5) (orcs := [(6, .known true), (8, .known true), (10, .known true), (12, .known true), (15, .val (.dat .bool true))]) (kF := [1, 2, 4, 11, 14, 15, 47]) (kL := [4, 27]) (fr' := [(1, aI a1), (2, aI x75.1), (4, .one (.ptr 4 0)), (11, .one (.slc 27)), (14, aI x75.2.1), (15, aI x75.2.2.1), (47, aB (decide (x75.2.1 < a0.1)))]) (L' := [(4, .one (.pair tI (.pair tI (.slice (.slice (.pair tI (.pair tI tI)))))) a0), (27, .map tI tI x75.2.2.2)]) (obs := [((decide (x75.1 > (0 : Int))) = true), ((decide (x75.1 > (0 : Int))) = true), ((decide (x75.1 > (0 : Int))) = true), ((decide (x75.1 > (0 : Int))) = true), ((decide (x75.1 > (0 : Int))) = true)]) rfl (by kernel_rfl) (allP2 h86 (allP2 h86 (allP2 h86 (allP2 h86 (allP1 h86))))) ?_
              obtain rfl := Option.some.inj h
              refine WO_fin [1, 2, 4, 11, 14, 15, 47] [4, 27] (fr' := [(1, aI a1), (2, aI x75.1), (4, .one (.ptr 4 0)), (11, .one (.slc 27)), (14, aI x75.2.1), (15, aI x75.2.2.1), (47, aB (decide (x75.2.1 < a0.1)))]) (L' := [(4, .one (.pair tI (.pair tI (.slice (.slice (.pair tI (.pair tI tI)))))) a0), (27, .map tI tI x75.2.2.2)]) (by kernel_rfl) (by kernel_rfl) ?_
              exact exQ_mk (by kernel_rfl) (by kernel_rfl)
            · replace h := ofF h86 h
              refine WO_run (j := 8) (k := 5) (orcs := [(6, .known false), (8, .known false), (10, .known false), (12, .known false), (15, .val (.dat .bool false))]) (kF := [1, 2, 4, 11, 14, 15, 47]) (kL := [4, 27]) (fr' := [(1, aI a1), (2, aI x75.1), (4, .one (.ptr 4 0)), (11, .one (.slc 27)), (14, aI x75.2.1), (15, aI x75.2.2.1), (47, aB false)]) (L' := [(4, .one (.pair tI (.pair tI (.slice (.slice (.pair tI (.pair tI tI)))))) a0), (27, .map tI tI x75.2.2.2)]) (obs := [((decide (x75.1 > (0 : Int))) = false), ((decide (x75.1 > (0 : Int))) = false), ((decide (x75.1 > (0 : Int))) = false), ((decide (x75.1 > (0 : Int))) = false), ((decide (x75.1 > (0 : Int))) = false)]) rfl (by kernel_rfl) (allP2 h86 (allP2 h86 (allP2 h86 (allP2 h86 (allP1 h86))))) ?_
              obtain rfl := Option.some.inj h
              refine WO_fin [1, 2, 4, 11, 14, 15, 47] [4, 27] (fr' := [(1, aI a1), (2, aI x75.1), (4, .one (.ptr 4 0)), (11, .one (.slc 27)), (14, aI x75.2.1), (15, aI x75.2.2.1), (47, aB false)]) (L' := [(4, .one (.pair tI (.pair tI (.slice (.slice (.pair tI (.pair tI tI)))))) a0), (27, .map tI tI x75.2.2.2)]) (by kernel_rfl) (by kernel_rfl) ?_
              exact exQ_mk (by kernel_rfl) (by kernel_rfl)
          · intro e fr L hJ
            obtain ⟨rfl, rfl, rfl⟩ := hJ
            refine LT_keep [1, 2, 4, 11, 14, 15, 47] [4, 27] (fr' := [(1, aI a1), (2, aI x75.1), (4, .one (.ptr 4 0)), (11, .one (.slc 27)), (14, aI x75.2.1), (15, aI x75.2.2.1), (47, aB v87)]) (L' := [(4, .one (.pair tI (.pair tI (.slice (.slice (.pair tI (.pair tI tI)))))) a0), (27, .map tI tI x75.2.2.2)]) (by kernel_rfl) ?_
            refine seqQ_norm ?_
            refine W_cond (o := .tmp 47) (b := v87) (by kernel_rfl) (by kernel_rfl) (fun h89 => ?_) (fun h89 => ?_)
            · replace h := ofT h89 h
              refine W_skip [1, 2, 4, 11, 14, 15] [4, 27] (fr' := [(1, aI a1), (2, aI x75.1), (4, .one (.ptr 4 0)), (11, .one (.slc 27)), (14, aI x75.2.1), (15, aI x75.2.2.1)]) (L' := [(4, .one (.pair tI (.pair tI (.slice (.slice (.pair tI (.pair tI tI)))))) a0), (27, .map tI tI x75.2.2.2)]) (by kernel_rfl) (by kernel_rfl) ?_
              refine seqQ_norm ?_
              refine W_seq (by kernel_rfl) ?_
              refine W_block (id := 3) (by kernel_rfl) ?_
              refine W_seq (by kernel_rfl) ?_
              refine W_region (by kernel_rfl) ?_
              refine WO_run (j := 4) (k := 4) (orcs := []) (kF := [1, 2, 4, 11, 14, 15, 51, 52, 53, 54]) (kL := [4, 27]) (fr' := [(1, aI a1), (2, aI x75.1), (4, .one (.ptr 4 0)), (11, .one (.slc 27)), (14, aI x75.2.1), (15, aI x75.2.2.1), (51, aD (.pair tI (.pair tI (.slice (.slice (.pair tI (.pair tI tI)))))) a0), (52, .one (.slc 27)), (53, aI x75.2.1), (54, aI x75.2.2.1)]) (L' := [(4, .one (.pair tI (.pair tI (.slice (.slice (.pair tI (.pair tI tI)))))) a0), (27, .map tI tI x75.2.2.2)]) (obs := []) rfl (by kernel_rfl) allP0 ?_
              obtain ⟨r90, h91, h⟩ := bind_of h
              refine WO_lend [(1000, 27)] (us := [none, none, none, none]) (d := 55) (p := True) (j := 5) rfl ⟨by kernel_rfl, by kernel_rfl, by kernel_rfl⟩ trivial (tape_Step_ok h91) (by kernel_rfl) (by kernel_rfl) ?_
              refine WO_run (j := 10) (k := 5) (orcs := []) (kF := [1, 2, 4, 11, 14, 15]) (kL := [4, 27]) (fr' := [(1, aI a1), (2, aI x75.1), (4, .one (.ptr 4 0)), (11, .one (.slc 27)), (14, aI r90.1), (15, aI r90.2.1)]) (L' := [(4, .one (.pair tI (.pair tI (.slice (.slice (.pair tI (.pair tI tI)))))) a0), (27, .map tI tI r90.2.2)]) (obs := []) rfl (by kernel_rfl) allP0 ?_
              refine WO_fin [1, 2, 4, 11, 14, 15] [4, 27] (fr' := [(1, aI a1), (2, aI x75.1), (4, .one (.ptr 4 0)), (11, .one (.slc 27)), (14, aI r90.1), (15, aI r90.2.1)]) (L' := [(4, .one (.pair tI (.pair tI (.slice (.slice (.pair tI (.pair tI tI)))))) a0), (27, .map tI tI r90.2.2)]) (by kernel_rfl) (by kernel_rfl) ?_
              refine seqQ_norm ?_
              refine W_run 6 [] [1, 2, 4, 11, 14, 15] [4, 27] (fr' := [(1, aI a1), (2, aI x75.1), (4, .one (.ptr 4 0)), (11, .one (.slc 27)), (14, aI r90.1), (15, aI (imin (imax r90.2.1 (0 : Int)) (w64 (a1 - (1 : Int)))))]) (L' := [(4, .one (.pair tI (.pair tI (.slice (.slice (.pair tI (.pair tI tI)))))) a0), (27, .map tI tI r90.2.2)]) (obs := []) (by kernel_rfl) (by kernel_rfl) (by kernel_rfl) allP0 ?_
              refine blockQ_norm ?_
              refine seqQ_norm ?_
              obtain rfl := Option.some.inj h
              refine W_run 3 [] [1, 2, 4, 11, 14, 15] [4, 27] (fr' := [(1, aI a1), (2, aI (w64 (x75.1 - (1 : Int)))), (4, .one (.ptr 4 0)), (11, .one (.slc 27)), (14, aI r90.1), (15, aI (imin (imax r90.2.1 (0 : Int)) (w64 (a1 - (1 : Int)))))]) (L' := [(4, .one (.pair tI (.pair tI (.slice (.slice (.pair tI (.pair tI tI)))))) a0), (27, .map tI tI r90.2.2)]) (obs := []) (by kernel_rfl) (by kernel_rfl) (by kernel_rfl) allP0 ?_
              exact round_next' (by kernel_rfl) (by kernel_rfl)
            · replace h := ofF h89 h
              obtain rfl := Option.some.inj h
              refine W_exit (id := 2) [4, 11, 14, 15] [4, 27] (fr' := [(4, .one (.ptr 4 0)), (11, .one (.slc 27)), (14, aI x75.2.1), (15, aI x75.2.2.1)]) (L' := [(4, .one (.pair tI (.pair tI (.slice (.slice (.pair tI (.pair tI tI)))))) a0), (27, .map tI tI x75.2.2.2)]) (by kernel_rfl) (by kernel_rfl) ?_
              refine seqQ_exit ?_
              refine round_exit ?_
              exact exQ_mk (by kernel_rfl) (by kernel_rfl)
        · intro e fr L hJ
          obtain ⟨rfl, rfl, rfl⟩ := hJ
          refine LT_keep [4, 11, 14, 15] [4, 27] (fr' := [(4, .one (.ptr 4 0)), (11, .one (.slc 27)), (14, aI v92.1), (15, aI v92.2.1)]) (L' := [(4, .one (.pair tI (.pair tI (.slice (.slice (.pair tI (.pair tI tI)))))) a0), (27, .map tI tI v92.2.2)]) (by kernel_rfl) ?_
          refine blockQ_hit ?_
          refine seqQ_norm ?_
          refine W_seq (by kernel_rfl) ?_
          refine W_run 12 [] [8, 9] [] (fr' := [(8, aB ((v92.1 == a0.1) && ((Option.getD (mGet (deqT tI) (Option.getD v92.2.2 []) v92.2.1) (0 : Int)) == (1 : Int)))), (9, aI (0 : Int))]) (L' := []) (obs := []) (by kernel_rfl) (by kernel_rfl) (by kernel_rfl) allP0 ?_
          refine seqQ_norm ?_
          obtain rfl := Option.some.inj h
          refine W_ret [8, 9] [] (fr' := [(8, aB ((v92.1 == a0.1) && ((Option.getD (mGet (deqT tI) (Option.getD v92.2.2 []) v92.2.1) (0 : Int)) == (1 : Int)))), (9, aI (0 : Int))]) (L' := []) (by kernel_rfl) (by kernel_rfl) ?_
          exact retQ_mk (by kernel_rfl) (by kernel_rfl) (by kernel_rfl)

def ref_Within (a0 : Int) (a1 : Int) (a2 : Int) : Option Bool :=
some ((decide (a0 ≤ a1)) && (decide (a1 ≤ a2)))
theorem ref_Within_ok {a0 : Int} {a1 : Int} {a2 : Int} {r : Bool} (h : ref_Within a0 a1 a2 = some r) : FnC Try.prog 27 [aI a0, aI a1, aI a2] [] (aB r) [] := by
  refine fnC_of_W (B := bodyOf Try.f27) (n := 15) Try.func27 (by kernel_rfl) (by kernel_rfl) (by kernel_rfl) (by kernel_rfl) (by kernel_rfl) ?_
  intro K
  refine W_seq (by kernel_rfl) ?_
  refine W_run 1 [] [0, 1, 2] [] (fr' := [(0, aI a0), (1, aI a1), (2, aI a2)]) (L' := []) (obs := []) (by kernel_rfl) (by kernel_rfl) (by kernel_rfl) allP0 ?_
  refine seqQ_norm ?_
  refine W_seq (by kernel_rfl) ?_
  refine W_run 9 [] [6] [] (fr' := [(6, aB ((decide (a0 ≤ a1)) && (decide (a1 ≤ a2))))]) (L' := []) (obs := []) (by kernel_rfl) (by kernel_rfl) (by kernel_rfl) allP0 ?_
  refine seqQ_norm ?_
  obtain rfl := Option.some.inj h
  refine W_ret [6] [] (fr' := [(6, aB ((decide (a0 ≤ a1)) && (decide (a1 ≤ a2))))]) (L' := []) (by kernel_rfl) (by kernel_rfl) ?_
  exact retQ_mk (by kernel_rfl) (by kernel_rfl) (by kernel_rfl)

def ref_Inside_b1 (a0 : Int) (i11 : Int) (v14 : Int) (x12 : Unit) : Option (Flow Unit (Esc Bool Unit)) :=
bif (decide (v14 < (0 : Int))) || (decide (v14 ≥ a0)) then
(some (.done (.ret false)))
else
(some (.next ()))
@[reducible] def ref_Inside_s2 (a0 : Int) (a1 : (List Int)) (v : Int × Unit) : Fr × LL := ([(0, aI a0), (7, aD (.slice tI) a1), (8, aI (List.length a1 : Int)), (9, aI v.1)], [])
@[reducible] def ref_Inside_s3 (v : Bool) : Fr × LL := ([(4, aB v)], [])
@[reducible] def ref_Inside_s4 (v : Unit) : Fr × LL := ([], [])
def ref_Inside (a0 : Int) (a1 : (List Int)) : Option Bool :=
(forL (ref_Inside_b1 a0) (fun x12 => (.brk ())) a1 0 ()).bind fun v19 =>
match v19 with
| .ret v24 =>
(some v24)
| .brk v25 =>
(some true)
theorem ref_Inside_ok {a0 : Int} {a1 : (List Int)} {r : Bool} (h : ref_Inside a0 a1 = some r) : FnC Try.prog 17 [aI a0, aD (.slice tI) a1] [] (aB r) [] := by
  refine fnC_of_W (B := bodyOf Try.f17) (n := 21) Try.func17 (by kernel_rfl) (by kernel_rfl) (by kernel_rfl) (by kernel_rfl) (by kernel_rfl) ?_
  intro K
  refine W_seq (by kernel_rfl) ?_
  refine W_run 1 [] [0, 1] [] (fr' := [(0, aI a0), (1, aD (.slice tI) a1)]) (L' := []) (obs := []) (by kernel_rfl) (by kernel_rfl) (by kernel_rfl) allP0 ?_
  refine seqQ_norm ?_
  refine W_seq (by kernel_rfl) ?_
  refine W_seq (by kernel_rfl) ?_
  refine W_run 3 [] [0, 7, 8, 9] [] (fr' := [(0, aI a0), (7, aD (.slice tI) a1), (8, aI (List.length a1 : Int)), (9, aI (0 : Int))]) (L' := []) (obs := []) (by kernel_rfl) (by kernel_rfl) (by kernel_rfl) allP0 ?_
  refine seqQ_norm ?_
  refine W_block (id := 0) (by kernel_rfl) ?_
  obtain ⟨v19, h20, h⟩ := bind_of h
  refine W_len (t := 7) (u := tI) (xs := a1) (by kernel_rfl) (fun h23 => ?_)
  obtain ⟨h21, h22⟩ := forL_iter h23 h20
  refine W_weaken [0, 7, 8, 9] [] (fr' := ((ref_Inside_s2 a0 a1) ((0 : Int), ())).1) (L' := ((ref_Inside_s2 a0 a1) ((0 : Int), ())).2) (by kernel_rfl) ?_
  refine W_cutK (W_loop (S := (ref_Inside_s2 a0 a1)) (J := (escQ (exQ .ret ref_Inside_s3) (exQ (.exit 0) ref_Inside_s4))) (by kernel_rfl) ?_ h21 _ v19 h22) ?_
  · rintro ⟨i11, x12⟩ s h
    refine W_seq (by kernel_rfl) ?_
    refine W_run 1 [] [0, 7, 8, 9, 10] [] (fr' := [(0, aI a0), (7, aD (.slice tI) a1), (8, aI (List.length a1 : Int)), (9, aI i11), (10, aB (decide (i11 < (List.length a1 : Int))))]) (L' := []) (obs := []) (by kernel_rfl) (by kernel_rfl) (by kernel_rfl) allP0 ?_
    refine seqQ_norm ?_
    refine W_seq (by kernel_rfl) ?_
    refine W_cond (o := .tmp 10) (b := decide (i11 < (List.length a1 : Int))) (by kernel_rfl) (by kernel_rfl) (fun h16 => ?_) (fun h16 => ?_)
    · replace h := stepL_true h16 h
      obtain ⟨v14, _, h15, h, rfl⟩ := h
      refine W_skip [0, 7, 8, 9] [] (fr' := [(0, aI a0), (7, aD (.slice tI) a1), (8, aI (List.length a1 : Int)), (9, aI i11)]) (L' := []) (by kernel_rfl) (by kernel_rfl) ?_
      refine seqQ_norm ?_
      refine W_seq (by kernel_rfl) ?_
      refine W_block (id := 1) (by kernel_rfl) ?_
      refine W_seq (by kernel_rfl) ?_
      refine W_run 3 [(1, .val (.dat tI v14))] [0, 6, 7, 8, 9] [] (fr' := [(0, aI a0), (6, aI v14), (7, aD (.slice tI) a1), (8, aI (List.length a1 : Int)), (9, aI i11)]) (L' := []) (obs := [Idx a1 i11 v14]) (by kernel_rfl) (by kernel_rfl) (by kernel_rfl) (allP1 (Idx.of h15)) ?_
      refine seqQ_norm ?_
      refine W_seq (by kernel_rfl) ?_
      refine W_run 7 [] [0, 7, 8, 9, 19] [] (fr' := [(0, aI a0), (7, aD (.slice tI) a1), (8, aI (List.length a1 : Int)), (9, aI i11), (19, aB ((decide (v14 < (0 : Int))) || (decide (v14 ≥ a0))))]) (L' := []) (obs := []) (by kernel_rfl) (by kernel_rfl) (by kernel_rfl) allP0 ?_
      refine seqQ_norm ?_
      refine W_cond (o := .tmp 19) (b := (decide (v14 < (0 : Int))) || (decide (v14 ≥ a0))) (by kernel_rfl) (by kernel_rfl) (fun h17 => ?_) (fun h17 => ?_)
      · replace h := ofT h17 h
        refine W_seq (by kernel_rfl) ?_
        refine W_run 1 [] [4] [] (fr' := [(4, aB false)]) (L' := []) (obs := []) (by kernel_rfl) (by kernel_rfl) (by kernel_rfl) allP0 ?_
        refine seqQ_norm ?_
        obtain rfl := Option.some.inj h
        refine W_ret [4] [] (fr' := [(4, aB false)]) (L' := []) (by kernel_rfl) (by kernel_rfl) ?_
        refine blockQ_ret ?_
        refine seqQ_ret ?_
        refine round_ret ?_
        refine escQ_ret ?_
        exact exQ_mk (by kernel_rfl) (by kernel_rfl)
      · replace h := ofF h17 h
        refine W_skip [0, 7, 8, 9] [] (fr' := [(0, aI a0), (7, aD (.slice tI) a1), (8, aI (List.length a1 : Int)), (9, aI i11)]) (L' := []) (by kernel_rfl) (by kernel_rfl) ?_
        refine blockQ_norm ?_
        refine seqQ_norm ?_
        obtain rfl := Option.some.inj h
        refine W_run 2 [] [0, 7, 8, 9] [] (fr' := [(0, aI a0), (7, aD (.slice tI) a1), (8, aI (List.length a1 : Int)), (9, aI (w64 (i11 + (1 : Int))))]) (L' := []) (obs := []) (by kernel_rfl) (by kernel_rfl) (by kernel_rfl) allP0 ?_
        exact round_next' (by kernel_rfl) (by kernel_rfl)
    · obtain rfl := stepL_false h16 h
      refine W_exit (id := 0) [] [] (fr' := []) (L' := []) (by kernel_rfl) (by kernel_rfl) ?_
      refine seqQ_exit ?_
      refine round_exit ?_
      refine escQ_brk ?_
      exact exQ_mk (by kernel_rfl) (by kernel_rfl)
  · intro e fr L hJ
    rcases v19 with v24 | v25
    · obtain ⟨rfl, rfl, rfl⟩ := hJ
      obtain rfl := Option.some.inj h
      refine LT_keep [4] [] (fr' := [(4, aB v24)]) (L' := []) (by kernel_rfl) ?_
      refine blockQ_ret ?_
      refine seqQ_ret ?_
      exact retQ_mk (by kernel_rfl) (by kernel_rfl) (by kernel_rfl)
    · obtain ⟨rfl, rfl, rfl⟩ := hJ
      refine LT_keep [] [] (fr' := []) (L' := []) (by kernel_rfl) ?_
      refine blockQ_hit ?_
      refine seqQ_norm ?_
      refine W_seq (by kernel_rfl) ?_
      refine W_run 1 [] [4] [] (fr' := [(4, aB true)]) (L' := []) (obs := []) (by kernel_rfl) (by kernel_rfl) (by kernel_rfl) allP0 ?_
      refine seqQ_norm ?_
      obtain rfl := Option.some.inj h
      refine W_ret [4] [] (fr' := [(4, aB true)]) (L' := []) (by kernel_rfl) (by kernel_rfl) ?_
      exact retQ_mk (by kernel_rfl) (by kernel_rfl) (by kernel_rfl)

def ref_MachineCheck_b1 (a0 : (Int × (Int × (List (List (Int × (Int × Int))))))) (i30 : Int) (v33 : (List (Int × (Int × Int)))) (x31 : Unit) : Option (Flow Unit (Esc Int Unit)) :=
bif (List.length v33 : Int) != a0.2.1 then
(some (.done (.ret (3 : Int))))
else
(some (.next ()))
@[reducible] def ref_MachineCheck_s2 (a0 : (Int × (Int × (List (List (Int × (Int × Int))))))) (v : Int × Unit) : Fr × LL := ([(1, .one (.ptr 1 0)), (26, aD (.slice (.slice (.pair tI (.pair tI tI)))) a0.2.2), (27, aI (List.length a0.2.2 : Int)), (28, aI v.1)], [(1, .one (.pair tI (.pair tI (.slice (.slice (.pair tI (.pair tI tI)))))) a0)])
@[reducible] def ref_MachineCheck_s3 (v : Int) : Fr × LL := ([(2, aI v)], [])
@[reducible] def ref_MachineCheck_s4 (a0 : (Int × (Int × (List (List (Int × (Int × Int))))))) (v : Unit) : Fr × LL := ([(1, .one (.ptr 1 0))], [(1, .one (.pair tI (.pair tI (.slice (.slice (.pair tI (.pair tI tI)))))) a0)])
def ref_MachineCheck_b11 (a0 : (Int × (Int × (List (List (Int × (Int × Int))))))) (i183 : Int) (v186 : (Int × (Int × Int))) (x184 : Unit) : Option (Flow Unit (Esc Int Unit)) :=
(ref_Inside a0.2.1 [v186.1]).bind fun r189 =>
bif !r189 then
(some (.done (.ret (2 : Int))))
else
((ref_Within (-1 : Int) v186.2.1 (1 : Int)).bind fun r192 =>
bif !r192 then
(some (.done (.ret (4 : Int))))
else
((ref_Inside (w64 (a0.1 + (1 : Int))) [v186.2.2]).bind fun r195 =>
bif !r195 then
(some (.done (.ret (2 : Int))))
else
(some (.next ()))))
@[reducible] def ref_MachineCheck_s12 (a0 : (Int × (Int × (List (List (Int × (Int × Int))))))) (i151 : Int) (v154 : (List (Int × (Int × Int)))) (v : Int × Unit) : Fr × LL := ([(1, .one (.ptr 1 0)), (39, aD (.slice (.slice (.pair tI (.pair tI tI)))) a0.2.2), (40, aI (List.length a0.2.2 : Int)), (41, aI i151), (45, aD (.slice (.pair tI (.pair tI tI))) v154), (46, aI (List.length v154 : Int)), (47, aI v.1)], [(1, .one (.pair tI (.pair tI (.slice (.slice (.pair tI (.pair tI tI)))))) a0)])
@[reducible] def ref_MachineCheck_s13 (v : Int) : Fr × LL := ([(2, aI v)], [])
@[reducible] def ref_MachineCheck_s14 (a0 : (Int × (Int × (List (List (Int × (Int × Int))))))) (i151 : Int) (v : Unit) : Fr × LL := ([(1, .one (.ptr 1 0)), (39, aD (.slice (.slice (.pair tI (.pair tI tI)))) a0.2.2), (40, aI (List.length a0.2.2 : Int)), (41, aI i151)], [(1, .one (.pair tI (.pair tI (.slice (.slice (.pair tI (.pair tI tI)))))) a0)])
def ref_MachineCheck_b15 (a0 : (Int × (Int × (List (List (Int × (Int × Int))))))) (i151 : Int) (v154 : (List (Int × (Int × Int)))) (x152 : Unit) : Option (Flow Unit (Esc Int Unit)) :=
(forL (ref_MachineCheck_b11 a0) (fun x184 => (.brk ())) v154 0 ()).bind fun v199 =>
match v199 with
| .ret v204 =>
(some (.done (.ret v204)))
| .brk v205 =>
(some (.next ()))
@[reducible] def ref_MachineCheck_s16 (a0 : (Int × (Int × (List (List (Int × (Int × Int))))))) (v : Int × Unit) : Fr × LL := ([(1, .one (.ptr 1 0)), (39, aD (.slice (.slice (.pair tI (.pair tI tI)))) a0.2.2), (40, aI (List.length a0.2.2 : Int)), (41, aI v.1)], [(1, .one (.pair tI (.pair tI (.slice (.slice (.pair tI (.pair tI tI)))))) a0)])
@[reducible] def ref_MachineCheck_s17 (v : Int) : Fr × LL := ([(2, aI v)], [])
@[reducible] def ref_MachineCheck_s18 (v : Unit) : Fr × LL := ([], [])
@[reducible] def ref_MachineCheck_s19 (a0 : (Int × (Int × (List (List (Int × (Int × Int))))))) (v : Bool) : Fr × LL := ([(1, .one (.ptr 1 0)), (18, aB v)], [(1, .one (.pair tI (.pair tI (.slice (.slice (.pair tI (.pair tI tI)))))) a0)])
def ref_MachineCheck (a0 : (Int × (Int × (List (List (Int × (Int × Int))))))) : Option Int :=
((ref_Within (1 : Int) a0.1 (5 : Int)).bind fun r11 =>
bif !r11 then
(some true)
else
((ref_Within (2 : Int) a0.2.1 (4 : Int)).bind fun r14 =>
some (!r14))).bind fun v16 =>
bif v16 then
(some (1 : Int))
else
(bif (List.length a0.2.2 : Int) != a0.1 then
(some (3 : Int))
else
((forL (ref_MachineCheck_b1 a0) (fun x31 => (.brk ())) a0.2.2 0 ()).bind fun v38 =>
match v38 with
| .ret v43 =>
(some v43)
| .brk v44 =>
((forL (ref_MachineCheck_b15 a0) (fun x152 => (.brk ())) a0.2.2 0 ()).bind fun v207 =>
match v207 with
| .ret v212 =>
(some v212)
| .brk v213 =>
(some (0 : Int)))))
theorem ref_MachineCheck_ok {a0 : (Int × (Int × (List (List (Int × (Int × Int))))))} {r : Int} (h : ref_MachineCheck a0 = some r) : FnC Try.prog 26 [aD (.pair tI (.pair tI (.slice (.slice (.pair tI (.pair tI tI)))))) a0] [] (aI r) [] := by
  refine fnC_of_W (B := bodyOf Try.f26) (n := 72) Try.func26 (by kernel_rfl) (by kernel_rfl) (by kernel_rfl) (by kernel_rfl) (by kernel_rfl) ?_
  intro K
  refine W_seq (by kernel_rfl) ?_
  refine W_run 2 [] [1] [1] (fr' := [(1, .one (.ptr 1 0))]) (L' := [(1, .one (.pair tI (.pair tI (.slice (.slice (.pair tI (.pair tI tI)))))) a0)]) (obs := []) (by kernel_rfl) (by kernel_rfl) (by kernel_rfl) allP0 ?_
  refine seqQ_norm ?_
  refine W_seq (by kernel_rfl) ?_
  refine W_seq (by kernel_rfl) ?_
  obtain ⟨v16, h17, h⟩ := bind_of h
  refine W_cutK (Q' := (exQ .normal (ref_MachineCheck_s19 a0)) v16) ?_ ?_
  · replace h := h17
    refine W_region (by kernel_rfl) ?_
    refine WO_run (j := 2) (k := 2) (orcs := []) (kF := [1, 10]) (kL := [1]) (fr' := [(1, .one (.ptr 1 0)), (10, aI a0.1)]) (L' := [(1, .one (.pair tI (.pair tI (.slice (.slice (.pair tI (.pair tI tI)))))) a0)]) (obs := []) rfl (by kernel_rfl) allP0 ?_
    obtain ⟨r11, h12, h⟩ := bind_of h
    refine WO_call0 (us := [none, none, none]) (d := 11) (p := True) (j := 3) rfl ⟨by kernel_rfl, by kernel_rfl, by kernel_rfl⟩ trivial (ref_Within_ok h12) (by kernel_rfl) ?_
    refine WO_run (j := 5) (k := 2) (orcs := []) (kF := [1, 13]) (kL := [1]) (fr' := [(1, .one (.ptr 1 0)), (13, aB (!r11))]) (L' := [(1, .one (.pair tI (.pair tI (.slice (.slice (.pair tI (.pair tI tI)))))) a0)]) (obs := []) rfl (by kernel_rfl) allP0 ?_
    rcases Bool.eq_false_or_eq_true (!r11) with h13 | h13
    · replace h := ofT h13 h
      refine WO_run (j := 10) (k := 5) (orcs := [(10, .known true), (12, .known true), (14, .known true), (16, .known true), (19, .val (.dat .bool true))]) (kF := [1, 18]) (kL := [1]) (fr' := [(1, .one (.ptr 1 0)), (18, aB true)]) (L' := [(1, .one (.pair tI (.pair tI (.slice (.slice (.pair tI (.pair tI tI)))))) a0)]) (obs := [((!r11) = true), ((!r11) = true), ((!r11) = true), ((!r11) = true), ((!r11) = true)]) rfl (by kernel_rfl) (allP2 h13 (allP2 h13 (allP2 h13 (allP2 h13 (allP1 h13))))) ?_
      obtain rfl := Option.some.inj h
      refine WO_fin [1, 18] [1] (fr' := [(1, .one (.ptr 1 0)), (18, aB true)]) (L' := [(1, .one (.pair tI (.pair tI (.slice (.slice (.pair tI (.pair tI tI)))))) a0)]) (by kernel_rfl) (by kernel_rfl) ?_
      exact exQ_mk (by kernel_rfl) (by kernel_rfl)
    · replace h := ofF h13 h
      refine WO_run (j := 7) (k := 2) (orcs := [(10, .known false), (12, .known false)]) (kF := [1, 13, 15]) (kL := [1]) (fr' := [(1, .one (.ptr 1 0)), (13, aB (!r11)), (15, aI a0.2.1)]) (L' := [(1, .one (.pair tI (.pair tI (.slice (.slice (.pair tI (.pair tI tI)))))) a0)]) (obs := [((!r11) = false), ((!r11) = false)]) rfl (by kernel_rfl) (allP2 h13 (allP1 h13)) ?_
      obtain ⟨r14, h15, h⟩ := bind_of h
      refine WO_call0 (us := [none, none, none]) (d := 16) (p := ((!r11) = false)) (j := 8) rfl ⟨by kernel_rfl, by kernel_rfl, by kernel_rfl⟩ h13 (ref_Within_ok h15) (by kernel_rfl) ?_
      refine WO_run (j := 10) (k := 2) (orcs := [(16, .known false), (19, .val (.dat .bool false))]) (kF := [1, 18]) (kL := [1]) (fr' := [(1, .one (.ptr 1 0)), (18, aB (!r14))]) (L' := [(1, .one (.pair tI (.pair tI (.slice (.slice (.pair tI (.pair tI tI)))))) a0)]) (obs := [((!r11) = false), ((!r11) = false)]) rfl (by kernel_rfl) (allP2 h13 (allP1 h13)) ?_
      obtain rfl := Option.some.inj h
      refine WO_fin [1, 18] [1] (fr' := [(1, .one (.ptr 1 0)), (18, aB (!r14))]) (L' := [(1, .one (.pair tI (.pair tI (.slice (.slice (.pair tI (.pair tI tI)))))) a0)]) (by kernel_rfl) (by kernel_rfl) ?_
      exact exQ_mk (by kernel_rfl) (by kernel_rfl)
  · intro e fr L hJ
    obtain ⟨rfl, rfl, rfl⟩ := hJ
    refine LT_keep [1, 18] [1] (fr' := [(1, .one (.ptr 1 0)), (18, aB v16)]) (L' := [(1, .one (.pair tI (.pair tI (.slice (.slice (.pair tI (.pair tI tI)))))) a0)]) (by kernel_rfl) ?_
    refine seqQ_norm ?_
    refine W_cond (o := .tmp 18) (b := v16) (by kernel_rfl) (by kernel_rfl) (fun h18 => ?_) (fun h18 => ?_)
    · replace h := ofT h18 h
      refine W_seq (by kernel_rfl) ?_
      refine W_run 1 [] [2] [] (fr' := [(2, aI (1 : Int))]) (L' := []) (obs := []) (by kernel_rfl) (by kernel_rfl) (by kernel_rfl) allP0 ?_
      refine seqQ_norm ?_
      obtain rfl := Option.some.inj h
      refine W_ret [2] [] (fr' := [(2, aI (1 : Int))]) (L' := []) (by kernel_rfl) (by kernel_rfl) ?_
      refine seqQ_ret ?_
      exact retQ_mk (by kernel_rfl) (by kernel_rfl) (by kernel_rfl)
    · replace h := ofF h18 h
      refine W_skip [1] [1] (fr' := [(1, .one (.ptr 1 0))]) (L' := [(1, .one (.pair tI (.pair tI (.slice (.slice (.pair tI (.pair tI tI)))))) a0)]) (by kernel_rfl) (by kernel_rfl) ?_
      refine seqQ_norm ?_
      refine W_seq (by kernel_rfl) ?_
      refine W_seq (by kernel_rfl) ?_
      refine W_run 6 [] [1, 24] [1] (fr' := [(1, .one (.ptr 1 0)), (24, aB ((List.length a0.2.2 : Int) != a0.1))]) (L' := [(1, .one (.pair tI (.pair tI (.slice (.slice (.pair tI (.pair tI tI)))))) a0)]) (obs := []) (by kernel_rfl) (by kernel_rfl) (by kernel_rfl) allP0 ?_
      refine seqQ_norm ?_
      refine W_cond (o := .tmp 24) (b := (List.length a0.2.2 : Int) != a0.1) (by kernel_rfl) (by kernel_rfl) (fun h19 => ?_) (fun h19 => ?_)
      · replace h := ofT h19 h
        refine W_seq (by kernel_rfl) ?_
        refine W_run 1 [] [2] [] (fr' := [(2, aI (3 : Int))]) (L' := []) (obs := []) (by kernel_rfl) (by kernel_rfl) (by kernel_rfl) allP0 ?_
        refine seqQ_norm ?_
        obtain rfl := Option.some.inj h
        refine W_ret [2] [] (fr' := [(2, aI (3 : Int))]) (L' := []) (by kernel_rfl) (by kernel_rfl) ?_
        refine seqQ_ret ?_
        exact retQ_mk (by kernel_rfl) (by kernel_rfl) (by kernel_rfl)
      · replace h := ofF h19 h
        refine W_skip [1] [1] (fr' := [(1, .one (.ptr 1 0))]) (L' := [(1, .one (.pair tI (.pair tI (.slice (.slice (.pair tI (.pair tI tI)))))) a0)]) (by kernel_rfl) (by kernel_rfl) ?_
        refine seqQ_norm ?_
        refine W_seq (by kernel_rfl) ?_
        refine W_seq (by kernel_rfl) ?_
        refine W_run 4 [] [1, 26, 27, 28] [1] (fr' := [(1, .one (.ptr 1 0)), (26, aD (.slice (.slice (.pair tI (.pair tI tI)))) a0.2.2), (27, aI (List.length a0.2.2 : Int)), (28, aI (0 : Int))]) (L' := [(1, .one (.pair tI (.pair tI (.slice (.slice (.pair tI (.pair tI tI)))))) a0)]) (obs := []) (by kernel_rfl) (by kernel_rfl) (by kernel_rfl) allP0 ?_
        refine seqQ_norm ?_
        refine W_block (id := 0) (by kernel_rfl) ?_
        obtain ⟨v38, h39, h⟩ := bind_of h
        refine W_len (t := 26) (u := (.slice (.pair tI (.pair tI tI)))) (xs := a0.2.2) (by kernel_rfl) (fun h42 => ?_)
        obtain ⟨h40, h41⟩ := forL_iter h42 h39
        refine W_weaken [1, 26, 27, 28] [1] (fr' := ((ref_MachineCheck_s2 a0) ((0 : Int), ())).1) (L' := ((ref_MachineCheck_s2 a0) ((0 : Int), ())).2) (by kernel_rfl) ?_
        refine W_cutK (W_loop (S := (ref_MachineCheck_s2 a0)) (J := (escQ (exQ .ret ref_MachineCheck_s3) (exQ (.exit 0) (ref_MachineCheck_s4 a0)))) (by kernel_rfl) ?_ h40 _ v38 h41) ?_
        · rintro ⟨i30, x31⟩ s h
          refine W_seq (by kernel_rfl) ?_
          refine W_run 1 [] [1, 26, 27, 28, 29] [1] (fr' := [(1, .one (.ptr 1 0)), (26, aD (.slice (.slice (.pair tI (.pair tI tI)))) a0.2.2), (27, aI (List.length a0.2.2 : Int)), (28, aI i30), (29, aB (decide (i30 < (List.length a0.2.2 : Int))))]) (L' := [(1, .one (.pair tI (.pair tI (.slice (.slice (.pair tI (.pair tI tI)))))) a0)]) (obs := []) (by kernel_rfl) (by kernel_rfl) (by kernel_rfl) allP0 ?_
          refine seqQ_norm ?_
          refine W_seq (by kernel_rfl) ?_
          refine W_cond (o := .tmp 29) (b := decide (i30 < (List.length a0.2.2 : Int))) (by kernel_rfl) (by kernel_rfl) (fun h35 => ?_) (fun h35 => ?_)
          · replace h := stepL_true h35 h
            obtain ⟨v33, _, h34, h, rfl⟩ := h
            refine W_skip [1, 26, 27, 28] [1] (fr' := [(1, .one (.ptr 1 0)), (26, aD (.slice (.slice (.pair tI (.pair tI tI)))) a0.2.2), (27, aI (List.length a0.2.2 : Int)), (28, aI i30)]) (L' := [(1, .one (.pair tI (.pair tI (.slice (.slice (.pair tI (.pair tI tI)))))) a0)]) (by kernel_rfl) (by kernel_rfl) ?_
            refine seqQ_norm ?_
            refine W_seq (by kernel_rfl) ?_
            refine W_block (id := 1) (by kernel_rfl) ?_
            refine W_seq (by kernel_rfl) ?_
            refine W_run 3 [(1, .val (.dat (.slice (.pair tI (.pair tI tI))) v33))] [1, 4, 26, 27, 28] [1] (fr' := [(1, .one (.ptr 1 0)), (4, aD (.slice (.pair tI (.pair tI tI))) v33), (26, aD (.slice (.slice (.pair tI (.pair tI tI)))) a0.2.2), (27, aI (List.length a0.2.2 : Int)), (28, aI i30)]) (L' := [(1, .one (.pair tI (.pair tI (.slice (.slice (.pair tI (.pair tI tI)))))) a0)]) (obs := [Idx a0.2.2 i30 v33]) (by kernel_rfl) (by kernel_rfl) (by kernel_rfl) (allP1 (Idx.of h34)) ?_
            refine seqQ_norm ?_
            refine W_seq (by kernel_rfl) ?_
            refine W_run 5 [] [1, 26, 27, 28, 36] [1] (fr' := [(1, .one (.ptr 1 0)), (26, aD (.slice (.slice (.pair tI (.pair tI tI)))) a0.2.2), (27, aI (List.length a0.2.2 : Int)), (28, aI i30), (36, aB ((List.length v33 : Int) != a0.2.1))]) (L' := [(1, .one (.pair tI (.pair tI (.slice (.slice (.pair tI (.pair tI tI)))))) a0)]) (obs := []) (by kernel_rfl) (by kernel_rfl) (by kernel_rfl) allP0 ?_
            refine seqQ_norm ?_
            refine W_cond (o := .tmp 36) (b := (List.length v33 : Int) != a0.2.1) (by kernel_rfl) (by kernel_rfl) (fun h36 => ?_) (fun h36 => ?_)
            · replace h := ofT h36 h
              refine W_seq (by kernel_rfl) ?_
              refine W_run 1 [] [2] [] (fr' := [(2, aI (3 : Int))]) (L' := []) (obs := []) (by kernel_rfl) (by kernel_rfl) (by kernel_rfl) allP0 ?_
              refine seqQ_norm ?_
              obtain rfl := Option.some.inj h
              refine W_ret [2] [] (fr' := [(2, aI (3 : Int))]) (L' := []) (by kernel_rfl) (by kernel_rfl) ?_
              refine blockQ_ret ?_
              refine seqQ_ret ?_
              refine round_ret ?_
              refine escQ_ret ?_
              exact exQ_mk (by kernel_rfl) (by kernel_rfl)
            · replace h := ofF h36 h
              refine W_skip [1, 26, 27, 28] [1] (fr' := [(1, .one (.ptr 1 0)), (26, aD (.slice (.slice (.pair tI (.pair tI tI)))) a0.2.2), (27, aI (List.length a0.2.2 : Int)), (28, aI i30)]) (L' := [(1, .one (.pair tI (.pair tI (.slice (.slice (.pair tI (.pair tI tI)))))) a0)]) (by kernel_rfl) (by kernel_rfl) ?_
              refine blockQ_norm ?_
              refine seqQ_norm ?_
              obtain rfl := Option.some.inj h
              refine W_run 2 [] [1, 26, 27, 28] [1] (fr' := [(1, .one (.ptr 1 0)), (26, aD (.slice (.slice (.pair tI (.pair tI tI)))) a0.2.2), (27, aI (List.length a0.2.2 : Int)), (28, aI (w64 (i30 + (1 : Int))))]) (L' := [(1, .one (.pair tI (.pair tI (.slice (.slice (.pair tI (.pair tI tI)))))) a0)]) (obs := []) (by kernel_rfl) (by kernel_rfl) (by kernel_rfl) allP0 ?_
              exact round_next' (by kernel_rfl) (by kernel_rfl)
          · obtain rfl := stepL_false h35 h
            refine W_exit (id := 0) [1] [1] (fr' := [(1, .one (.ptr 1 0))]) (L' := [(1, .one (.pair tI (.pair tI (.slice (.slice (.pair tI (.pair tI tI)))))) a0)]) (by kernel_rfl) (by kernel_rfl) ?_
            refine seqQ_exit ?_
            refine round_exit ?_
            refine escQ_brk ?_
            exact exQ_mk (by kernel_rfl) (by kernel_rfl)
        · intro e fr L hJ
          rcases v38 with v43 | v44
          · obtain ⟨rfl, rfl, rfl⟩ := hJ
            obtain rfl := Option.some.inj h
            refine LT_keep [2] [] (fr' := [(2, aI v43)]) (L' := []) (by kernel_rfl) ?_
            refine blockQ_ret ?_
            refine seqQ_ret ?_
            exact retQ_mk (by kernel_rfl) (by kernel_rfl) (by kernel_rfl)
          · obtain ⟨rfl, rfl, rfl⟩ := hJ
            refine LT_keep [1] [1] (fr' := [(1, .one (.ptr 1 0))]) (L' := [(1, .one (.pair tI (.pair tI (.slice (.slice (.pair tI (.pair tI tI)))))) a0)]) (by kernel_rfl) ?_
            refine blockQ_hit ?_
            refine seqQ_norm ?_
            refine W_seq (by kernel_rfl) ?_
            refine W_seq (by kernel_rfl) ?_
            refine W_run 4 [] [1, 39, 40, 41] [1] (fr' := [(1, .one (.ptr 1 0)), (39, aD (.slice (.slice (.pair tI (.pair tI tI)))) a0.2.2), (40, aI (List.length a0.2.2 : Int)), (41, aI (0 : Int))]) (L' := [(1, .one (.pair tI (.pair tI (.slice (.slice (.pair tI (.pair tI tI)))))) a0)]) (obs := []) (by kernel_rfl) (by kernel_rfl) (by kernel_rfl) allP0 ?_
            refine seqQ_norm ?_
            refine W_block (id := 2) (by kernel_rfl) ?_
            obtain ⟨v207, h208, h⟩ := bind_of h
            refine W_len (t := 39) (u := (.slice (.pair tI (.pair tI tI)))) (xs := a0.2.2) (by kernel_rfl) (fun h211 => ?_)
            obtain ⟨h209, h210⟩ := forL_iter h211 h208
            refine W_weaken [1, 39, 40, 41] [1] (fr' := ((ref_MachineCheck_s16 a0) ((0 : Int), ())).1) (L' := ((ref_MachineCheck_s16 a0) ((0 : Int), ())).2) (by kernel_rfl) ?_
            refine W_cutK (W_loop (S := (ref_MachineCheck_s16 a0)) (J := (escQ (exQ .ret ref_MachineCheck_s17) (exQ (.exit 2) ref_MachineCheck_s18))) (by kernel_rfl) ?_ h209 _ v207 h210) ?_
            · rintro ⟨i151, x152⟩ s h
              refine W_seq (by kernel_rfl) ?_
              refine W_run 1 [] [1, 39, 40, 41, 42] [1] (fr' := [(1, .one (.ptr 1 0)), (39, aD (.slice (.slice (.pair tI (.pair tI tI)))) a0.2.2), (40, aI (List.length a0.2.2 : Int)), (41, aI i151), (42, aB (decide (i151 < (List.length a0.2.2 : Int))))]) (L' := [(1, .one (.pair tI (.pair tI (.slice (.slice (.pair tI (.pair tI tI)))))) a0)]) (obs := []) (by kernel_rfl) (by kernel_rfl) (by kernel_rfl) allP0 ?_
              refine seqQ_norm ?_
              refine W_seq (by kernel_rfl) ?_
              refine W_cond (o := .tmp 42) (b := decide (i151 < (List.length a0.2.2 : Int))) (by kernel_rfl) (by kernel_rfl) (fun h156 => ?_) (fun h156 => ?_)
              · replace h := stepL_true h156 h
                obtain ⟨v154, _, h155, h, rfl⟩ := h
                refine W_skip [1, 39, 40, 41] [1] (fr' := [(1, .one (.ptr 1 0)), (39, aD (.slice (.slice (.pair tI (.pair tI tI)))) a0.2.2), (40, aI (List.length a0.2.2 : Int)), (41, aI i151)]) (L' := [(1, .one (.pair tI (.pair tI (.slice (.slice (.pair tI (.pair tI tI)))))) a0)]) (by kernel_rfl) (by kernel_rfl) ?_
                refine seqQ_norm ?_
                refine W_seq (by kernel_rfl) ?_
                refine W_block (id := 3) (by kernel_rfl) ?_
                refine W_seq (by kernel_rfl) ?_
                refine W_run 3 [(1, .val (.dat (.slice (.pair tI (.pair tI tI))) v154))] [1, 6, 39, 40, 41] [1] (fr' := [(1, .one (.ptr 1 0)), (6, aD (.slice (.pair tI (.pair tI tI))) v154), (39, aD (.slice (.slice (.pair tI (.pair tI tI)))) a0.2.2), (40, aI (List.length a0.2.2 : Int)), (41, aI i151)]) (L' := [(1, .one (.pair tI (.pair tI (.slice (.slice (.pair tI (.pair tI tI)))))) a0)]) (obs := [Idx a0.2.2 i151 v154]) (by kernel_rfl) (by kernel_rfl) (by kernel_rfl) (allP1 (Idx.of h155)) ?_
                refine seqQ_norm ?_
                refine W_seq (by kernel_rfl) ?_
                refine W_run 3 [] [1, 39, 40, 41, 45, 46, 47] [1] (fr' := [(1, .one (.ptr 1 0)), (39, aD (.slice (.slice (.pair tI (.pair tI tI)))) a0.2.2), (40, aI (List.length a0.2.2 : Int)), (41, aI i151), (45, aD (.slice (.pair tI (.pair tI tI))) v154), (46, aI (List.length v154 : Int)), (47, aI (0 : Int))]) (L' := [(1, .one (.pair tI (.pair tI (.slice (.slice (.pair tI (.pair tI tI)))))) a0)]) (obs := []) (by kernel_rfl) (by kernel_rfl) (by kernel_rfl) allP0 ?_
                refine seqQ_norm ?_
                refine W_block (id := 4) (by kernel_rfl) ?_
                obtain ⟨v199, h200, h⟩ := bind_of h
                refine W_len (t := 45) (u := (.pair tI (.pair tI tI))) (xs := v154) (by kernel_rfl) (fun h203 => ?_)
                obtain ⟨h201, h202⟩ := forL_iter h203 h200
                refine W_weaken [1, 39, 40, 41, 45, 46, 47] [1] (fr' := ((ref_MachineCheck_s12 a0 i151 v154) ((0 : Int), ())).1) (L' := ((ref_MachineCheck_s12 a0 i151 v154) ((0 : Int), ())).2) (by kernel_rfl) ?_
                refine W_cutK (W_loop (S := (ref_MachineCheck_s12 a0 i151 v154)) (J := (escQ (exQ .ret ref_MachineCheck_s13) (exQ (.exit 4) (ref_MachineCheck_s14 a0 i151)))) (by kernel_rfl) ?_ h201 _ v199 h202) ?_
                · rintro ⟨i183, x184⟩ s h
                  refine W_seq (by kernel_rfl) ?_
                  refine W_run 1 [] [1, 39, 40, 41, 45, 46, 47, 48] [1] (fr' := [(1, .one (.ptr 1 0)), (39, aD (.slice (.slice (.pair tI (.pair tI tI)))) a0.2.2), (40, aI (List.length a0.2.2 : Int)), (41, aI i151), (45, aD (.slice (.pair tI (.pair tI tI))) v154), (46, aI (List.length v154 : Int)), (47, aI i183), (48, aB (decide (i183 < (List.length v154 : Int))))]) (L' := [(1, .one (.pair tI (.pair tI (.slice (.slice (.pair tI (.pair tI tI)))))) a0)]) (obs := []) (by kernel_rfl) (by kernel_rfl) (by kernel_rfl) allP0 ?_
                  refine seqQ_norm ?_
                  refine W_seq (by kernel_rfl) ?_
                  refine W_cond (o := .tmp 48) (b := decide (i183 < (List.length v154 : Int))) (by kernel_rfl) (by kernel_rfl) (fun h188 => ?_) (fun h188 => ?_)
                  · replace h := stepL_true h188 h
                    obtain ⟨v186, _, h187, h, rfl⟩ := h
                    refine W_skip [1, 39, 40, 41, 45, 46, 47] [1] (fr' := [(1, .one (.ptr 1 0)), (39, aD (.slice (.slice (.pair tI (.pair tI tI)))) a0.2.2), (40, aI (List.length a0.2.2 : Int)), (41, aI i151), (45, aD (.slice (.pair tI (.pair tI tI))) v154), (46, aI (List.length v154 : Int)), (47, aI i183)]) (L' := [(1, .one (.pair tI (.pair tI (.slice (.slice (.pair tI (.pair tI tI)))))) a0)]) (by kernel_rfl) (by kernel_rfl) ?_
                    refine seqQ_norm ?_
                    refine W_seq (by kernel_rfl) ?_
                    refine W_block (id := 5) (by kernel_rfl) ?_
                    refine W_seq (by kernel_rfl) ?_
                    refine W_run 4 [(1, .val (.dat (.pair tI (.pair tI tI)) v186)), (5, .typed)] [1, 8, 39, 40, 41, 45, 46, 47] [1, 8] (fr' := [(1, .one (.ptr 1 0)), (8, .one (.ptr 8 0)), (39, aD (.slice (.slice (.pair tI (.pair tI tI)))) a0.2.2), (40, aI (List.length a0.2.2 : Int)), (41, aI i151), (45, aD (.slice (.pair tI (.pair tI tI))) v154), (46, aI (List.length v154 : Int)), (47, aI i183)]) (L' := [(1, .one (.pair tI (.pair tI (.slice (.slice (.pair tI (.pair tI tI)))))) a0), (8, .one (.pair tI (.pair tI tI)) v186)]) (obs := [Idx v154 i183 v186, True]) (by kernel_rfl) (by kernel_rfl) (by kernel_rfl) (allP2 (Idx.of h187) (allP1 trivial)) ?_
                    refine seqQ_norm ?_
                    refine W_seq (by kernel_rfl) ?_
                    refine W_seq (by kernel_rfl) ?_
                    refine W_region (by kernel_rfl) ?_
                    refine WO_run (j := 5) (k := 5) (orcs := []) (kF := [1, 8, 39, 40, 41, 45, 46, 47, 52, 55]) (kL := [1, 8, 55]) (fr' := [(1, .one (.ptr 1 0)), (8, .one (.ptr 8 0)), (39, aD (.slice (.slice (.pair tI (.pair tI tI)))) a0.2.2), (40, aI (List.length a0.2.2 : Int)), (41, aI i151), (45, aD (.slice (.pair tI (.pair tI tI))) v154), (46, aI (List.length v154 : Int)), (47, aI i183), (52, aI a0.2.1), (55, .one (.slc 55))]) (L' := [(1, .one (.pair tI (.pair tI (.slice (.slice (.pair tI (.pair tI tI)))))) a0), (8, .one (.pair tI (.pair tI tI)) v186), (55, .seq tI [v186.1])]) (obs := []) rfl (by kernel_rfl) allP0 ?_
                    obtain ⟨r189, h190, h⟩ := bind_of h
                    refine WO_frz 55 (by kernel_rfl) ?_
                    refine WO_call0 (us := [none, none]) (d := 56) (p := True) (j := 6) rfl ⟨by kernel_rfl, by kernel_rfl, by kernel_rfl⟩ trivial (ref_Inside_ok h190) (by kernel_rfl) ?_
                    refine WO_run (j := 7) (k := 1) (orcs := []) (kF := [1, 8, 39, 40, 41, 45, 46, 47, 57]) (kL := [1, 8]) (fr' := [(1, .one (.ptr 1 0)), (8, .one (.ptr 8 0)), (39, aD (.slice (.slice (.pair tI (.pair tI tI)))) a0.2.2), (40, aI (List.length a0.2.2 : Int)), (41, aI i151), (45, aD (.slice (.pair tI (.pair tI tI))) v154), (46, aI (List.length v154 : Int)), (47, aI i183), (57, aB (!r189))]) (L' := [(1, .one (.pair tI (.pair tI (.slice (.slice (.pair tI (.pair tI tI)))))) a0), (8, .one (.pair tI (.pair tI tI)) v186)]) (obs := []) rfl (by kernel_rfl) allP0 ?_
                    refine WO_fin [1, 8, 39, 40, 41, 45, 46, 47, 57] [1, 8] (fr' := [(1, .one (.ptr 1 0)), (8, .one (.ptr 8 0)), (39, aD (.slice (.slice (.pair tI (.pair tI tI)))) a0.2.2), (40, aI (List.length a0.2.2 : Int)), (41, aI i151), (45, aD (.slice (.pair tI (.pair tI tI))) v154), (46, aI (List.length v154 : Int)), (47, aI i183), (57, aB (!r189))]) (L' := [(1, .one (.pair tI (.pair tI (.slice (.slice (.pair tI (.pair tI tI)))))) a0), (8, .one (.pair tI (.pair tI tI)) v186)]) (by kernel_rfl) (by kernel_rfl) ?_
                    refine seqQ_norm ?_
                    refine W_cond (o := .tmp 57) (b := !r189) (by kernel_rfl) (by kernel_rfl) (fun h191 => ?_) (fun h191 => ?_)
                    · replace h := ofT h191 h
                      refine W_seq (by kernel_rfl) ?_
                      refine W_run 1 [] [2] [] (fr' := [(2, aI (2 : Int))]) (L' := []) (obs := []) (by kernel_rfl) (by kernel_rfl) (by kernel_rfl) allP0 ?_
                      refine seqQ_norm ?_
                      obtain rfl := Option.some.inj h
                      refine W_ret [2] [] (fr' := [(2, aI (2 : Int))]) (L' := []) (by kernel_rfl) (by kernel_rfl) ?_
                      refine seqQ_ret ?_
                      refine blockQ_ret ?_
                      refine seqQ_ret ?_
                      refine round_ret ?_
                      refine escQ_ret ?_
                      exact exQ_mk (by kernel_rfl) (by kernel_rfl)
                    · replace h := ofF h191 h
                      refine W_skip [1, 8, 39, 40, 41, 45, 46, 47] [1, 8] (fr' := [(1, .one (.ptr 1 0)), (8, .one (.ptr 8 0)), (39, aD (.slice (.slice (.pair tI (.pair tI tI)))) a0.2.2), (40, aI (List.length a0.2.2 : Int)), (41, aI i151), (45, aD (.slice (.pair tI (.pair tI tI))) v154), (46, aI (List.length v154 : Int)), (47, aI i183)]) (L' := [(1, .one (.pair tI (.pair tI (.slice (.slice (.pair tI (.pair tI tI)))))) a0), (8, .one (.pair tI (.pair tI tI)) v186)]) (by kernel_rfl) (by kernel_rfl) ?_
                      refine seqQ_norm ?_
                      refine W_seq (by kernel_rfl) ?_
                      refine W_seq (by kernel_rfl) ?_
                      refine W_region (by kernel_rfl) ?_
                      refine WO_run (j := 2) (k := 2) (orcs := []) (kF := [1, 8, 39, 40, 41, 45, 46, 47, 59]) (kL := [1, 8]) (fr' := [(1, .one (.ptr 1 0)), (8, .one (.ptr 8 0)), (39, aD (.slice (.slice (.pair tI (.pair tI tI)))) a0.2.2), (40, aI (List.length a0.2.2 : Int)), (41, aI i151), (45, aD (.slice (.pair tI (.pair tI tI))) v154), (46, aI (List.length v154 : Int)), (47, aI i183), (59, aI v186.2.1)]) (L' := [(1, .one (.pair tI (.pair tI (.slice (.slice (.pair tI (.pair tI tI)))))) a0), (8, .one (.pair tI (.pair tI tI)) v186)]) (obs := []) rfl (by kernel_rfl) allP0 ?_
                      obtain ⟨r192, h193, h⟩ := bind_of h
                      refine WO_call0 (us := [none, none, none]) (d := 60) (p := True) (j := 3) rfl ⟨by kernel_rfl, by kernel_rfl, by kernel_rfl⟩ trivial (ref_Within_ok h193) (by kernel_rfl) ?_
                      refine WO_run (j := 4) (k := 1) (orcs := []) (kF := [1, 8, 39, 40, 41, 45, 46, 47, 61]) (kL := [1, 8]) (fr' := [(1, .one (.ptr 1 0)), (8, .one (.ptr 8 0)), (39, aD (.slice (.slice (.pair tI (.pair tI tI)))) a0.2.2), (40, aI (List.length a0.2.2 : Int)), (41, aI i151), (45, aD (.slice (.pair tI (.pair tI tI))) v154), (46, aI (List.length v154 : Int)), (47, aI i183), (61, aB (!r192))]) (L' := [(1, .one (.pair tI (.pair tI (.slice (.slice (.pair tI (.pair tI tI)))))) a0), (8, .one (.pair tI (.pair tI tI)) v186)]) (obs := []) rfl (by kernel_rfl) allP0 ?_
                      refine WO_fin [1, 8, 39, 40, 41, 45, 46, 47, 61] [1, 8] (fr' := [(1, .one (.ptr 1 0)), (8, .one (.ptr 8 0)), (39, aD (.slice (.slice (.pair tI (.pair tI tI)))) a0.2.2), (40, aI (List.length a0.2.2 : Int)), (41, aI i151), (45, aD (.slice (.pair tI (.pair tI tI))) v154), (46, aI (List.length v154 : Int)), (47, aI i183), (61, aB (!r192))]) (L' := [(1, .one (.pair tI (.pair tI (.slice (.slice (.pair tI (.pair tI tI)))))) a0), (8, .one (.pair tI (.pair tI tI)) v186)]) (by kernel_rfl) (by kernel_rfl) ?_
                      refine seqQ_norm ?_
                      refine W_cond (o := .tmp 61) (b := !r192) (by kernel_rfl) (by kernel_rfl) (fun h194 => ?_) (fun h194 => ?_)
                      · replace h := ofT h194 h
                        refine W_seq (by kernel_rfl) ?_
                        refine W_run 1 [] [2] [] (fr' := [(2, aI (4 : Int))]) (L' := []) (obs := []) (by kernel_rfl) (by kernel_rfl) (by kernel_rfl) allP0 ?_
                        refine seqQ_norm ?_
                        obtain rfl := Option.some.inj h
                        refine W_ret [2] [] (fr' := [(2, aI (4 : Int))]) (L' := []) (by kernel_rfl) (by kernel_rfl) ?_
                        refine seqQ_ret ?_
                        refine blockQ_ret ?_
                        refine seqQ_ret ?_
                        refine round_ret ?_
                        refine escQ_ret ?_
                        exact exQ_mk (by kernel_rfl) (by kernel_rfl)
                      · replace h := ofF h194 h
                        refine W_skip [1, 8, 39, 40, 41, 45, 46, 47] [1, 8] (fr' := [(1, .one (.ptr 1 0)), (8, .one (.ptr 8 0)), (39, aD (.slice (.slice (.pair tI (.pair tI tI)))) a0.2.2), (40, aI (List.length a0.2.2 : Int)), (41, aI i151), (45, aD (.slice (.pair tI (.pair tI tI))) v154), (46, aI (List.length v154 : Int)), (47, aI i183)]) (L' := [(1, .one (.pair tI (.pair tI (.slice (.slice (.pair tI (.pair tI tI)))))) a0), (8, .one (.pair tI (.pair tI tI)) v186)]) (by kernel_rfl) (by kernel_rfl) ?_
                        refine seqQ_norm ?_
                        refine W_seq (by kernel_rfl) ?_
                        refine W_region (by kernel_rfl) ?_
                        refine WO_run (j := 6) (k := 6) (orcs := []) (kF := [1, 39, 40, 41, 45, 46, 47, 64, 67]) (kL := [1, 8, 67]) (fr' := [(1, .one (.ptr 1 0)), (39, aD (.slice (.slice (.pair tI (.pair tI tI)))) a0.2.2), (40, aI (List.length a0.2.2 : Int)), (41, aI i151), (45, aD (.slice (.pair tI (.pair tI tI))) v154), (46, aI (List.length v154 : Int)), (47, aI i183), (64, aI (w64 (a0.1 + (1 : Int)))), (67, .one (.slc 67))]) (L' := [(1, .one (.pair tI (.pair tI (.slice (.slice (.pair tI (.pair tI tI)))))) a0), (8, .one (.pair tI (.pair tI tI)) v186), (67, .seq tI [v186.2.2])]) (obs := []) rfl (by kernel_rfl) allP0 ?_
                        obtain ⟨r195, h196, h⟩ := bind_of h
                        refine WO_frz 67 (by kernel_rfl) ?_
                        refine WO_call0 (us := [none, none]) (d := 68) (p := True) (j := 7) rfl ⟨by kernel_rfl, by kernel_rfl, by kernel_rfl⟩ trivial (ref_Inside_ok h196) (by kernel_rfl) ?_
                        refine WO_run (j := 8) (k := 1) (orcs := []) (kF := [1, 39, 40, 41, 45, 46, 47, 69]) (kL := [1, 8]) (fr' := [(1, .one (.ptr 1 0)), (39, aD (.slice (.slice (.pair tI (.pair tI tI)))) a0.2.2), (40, aI (List.length a0.2.2 : Int)), (41, aI i151), (45, aD (.slice (.pair tI (.pair tI tI))) v154), (46, aI (List.length v154 : Int)), (47, aI i183), (69, aB (!r195))]) (L' := [(1, .one (.pair tI (.pair tI (.slice (.slice (.pair tI (.pair tI tI)))))) a0), (8, .one (.pair tI (.pair tI tI)) v186)]) (obs := []) rfl (by kernel_rfl) allP0 ?_
                        refine WO_fin [1, 39, 40, 41, 45, 46, 47, 69] [1] (fr' := [(1, .one (.ptr 1 0)), (39, aD (.slice (.slice (.pair tI (.pair tI tI)))) a0.2.2), (40, aI (List.length a0.2.2 : Int)), (41, aI i151), (45, aD (.slice (.pair tI (.pair tI tI))) v154), (46, aI (List.length v154 : Int)), (47, aI i183), (69, aB (!r195))]) (L' := [(1, .one (.pair tI (.pair tI (.slice (.slice (.pair tI (.pair tI tI)))))) a0)]) (by kernel_rfl) (by kernel_rfl) ?_
                        refine seqQ_norm ?_
                        refine W_cond (o := .tmp 69) (b := !r195) (by kernel_rfl) (by kernel_rfl) (fun h197 => ?_) (fun h197 => ?_)
                        · replace h := ofT h197 h
                          refine W_seq (by kernel_rfl) ?_
                          refine W_run 1 [] [2] [] (fr' := [(2, aI (2 : Int))]) (L' := []) (obs := []) (by kernel_rfl) (by kernel_rfl) (by kernel_rfl) allP0 ?_
                          refine seqQ_norm ?_
                          obtain rfl := Option.some.inj h
                          refine W_ret [2] [] (fr' := [(2, aI (2 : Int))]) (L' := []) (by kernel_rfl) (by kernel_rfl) ?_
                          refine blockQ_ret ?_
                          refine seqQ_ret ?_
                          refine round_ret ?_
                          refine escQ_ret ?_
                          exact exQ_mk (by kernel_rfl) (by kernel_rfl)
                        · replace h := ofF h197 h
                          refine W_skip [1, 39, 40, 41, 45, 46, 47] [1] (fr' := [(1, .one (.ptr 1 0)), (39, aD (.slice (.slice (.pair tI (.pair tI tI)))) a0.2.2), (40, aI (List.length a0.2.2 : Int)), (41, aI i151), (45, aD (.slice (.pair tI (.pair tI tI))) v154), (46, aI (List.length v154 : Int)), (47, aI i183)]) (L' := [(1, .one (.pair tI (.pair tI (.slice (.slice (.pair tI (.pair tI tI)))))) a0)]) (by kernel_rfl) (by kernel_rfl) ?_
                          refine blockQ_norm ?_
                          refine seqQ_norm ?_
                          obtain rfl := Option.some.inj h
                          refine W_run 2 [] [1, 39, 40, 41, 45, 46, 47] [1] (fr' := [(1, .one (.ptr 1 0)), (39, aD (.slice (.slice (.pair tI (.pair tI tI)))) a0.2.2), (40, aI (List.length a0.2.2 : Int)), (41, aI i151), (45, aD (.slice (.pair tI (.pair tI tI))) v154), (46, aI (List.length v154 : Int)), (47, aI (w64 (i183 + (1 : Int))))]) (L' := [(1, .one (.pair tI (.pair tI (.slice (.slice (.pair tI (.pair tI tI)))))) a0)]) (obs := []) (by kernel_rfl) (by kernel_rfl) (by kernel_rfl) allP0 ?_
                          exact round_next' (by kernel_rfl) (by kernel_rfl)
                  · obtain rfl := stepL_false h188 h
                    refine W_exit (id := 4) [1, 39, 40, 41] [1] (fr' := [(1, .one (.ptr 1 0)), (39, aD (.slice (.slice (.pair tI (.pair tI tI)))) a0.2.2), (40, aI (List.length a0.2.2 : Int)), (41, aI i151)]) (L' := [(1, .one (.pair tI (.pair tI (.slice (.slice (.pair tI (.pair tI tI)))))) a0)]) (by kernel_rfl) (by kernel_rfl) ?_
                    refine seqQ_exit ?_
                    refine round_exit ?_
                    refine escQ_brk ?_
                    exact exQ_mk (by kernel_rfl) (by kernel_rfl)
                · intro e fr L hJ
                  rcases v199 with v204 | v205
                  · obtain ⟨rfl, rfl, rfl⟩ := hJ
                    obtain rfl := Option.some.inj h
                    refine LT_keep [2] [] (fr' := [(2, aI v204)]) (L' := []) (by kernel_rfl) ?_
                    refine blockQ_ret ?_
                    refine blockQ_ret ?_
                    refine seqQ_ret ?_
                    refine round_ret ?_
                    refine escQ_ret ?_
                    exact exQ_mk (by kernel_rfl) (by kernel_rfl)
                  · obtain ⟨rfl, rfl, rfl⟩ := hJ
                    refine LT_keep [1, 39, 40, 41] [1] (fr' := [(1, .one (.ptr 1 0)), (39, aD (.slice (.slice (.pair tI (.pair tI tI)))) a0.2.2), (40, aI (List.length a0.2.2 : Int)), (41, aI i151)]) (L' := [(1, .one (.pair tI (.pair tI (.slice (.slice (.pair tI (.pair tI tI)))))) a0)]) (by kernel_rfl) ?_
                    refine blockQ_hit ?_
                    refine blockQ_norm ?_
                    refine seqQ_norm ?_
                    obtain rfl := Option.some.inj h
                    refine W_run 2 [] [1, 39, 40, 41] [1] (fr' := [(1, .one (.ptr 1 0)), (39, aD (.slice (.slice (.pair tI (.pair tI tI)))) a0.2.2), (40, aI (List.length a0.2.2 : Int)), (41, aI (w64 (i151 + (1 : Int))))]) (L' := [(1, .one (.pair tI (.pair tI (.slice (.slice (.pair tI (.pair tI tI)))))) a0)]) (obs := []) (by kernel_rfl) (by kernel_rfl) (by kernel_rfl) allP0 ?_
                    exact round_next' (by kernel_rfl) (by kernel_rfl)
              · obtain rfl := stepL_false h156 h
                refine W_exit (id := 2) [] [] (fr' := []) (L' := []) (by kernel_rfl) (by kernel_rfl) ?_
                refine seqQ_exit ?_
                refine round_exit ?_
                refine escQ_brk ?_
                exact exQ_mk (by kernel_rfl) (by kernel_rfl)
            · intro e fr L hJ
              rcases v207 with v212 | v213
              · obtain ⟨rfl, rfl, rfl⟩ := hJ
                obtain rfl := Option.some.inj h
                refine LT_keep [2] [] (fr' := [(2, aI v212)]) (L' := []) (by kernel_rfl) ?_
                refine blockQ_ret ?_
                refine seqQ_ret ?_
                exact retQ_mk (by kernel_rfl) (by kernel_rfl) (by kernel_rfl)
              · obtain ⟨rfl, rfl, rfl⟩ := hJ
                refine LT_keep [] [] (fr' := []) (L' := []) (by kernel_rfl) ?_
                refine blockQ_hit ?_
                refine seqQ_norm ?_
                refine W_seq (by kernel_rfl) ?_
                refine W_run 1 [] [2] [] (fr' := [(2, aI (0 : Int))]) (L' := []) (obs := []) (by kernel_rfl) (by kernel_rfl) (by kernel_rfl) allP0 ?_
                refine seqQ_norm ?_
                obtain rfl := Option.some.inj h
                refine W_ret [2] [] (fr' := [(2, aI (0 : Int))]) (L' := []) (by kernel_rfl) (by kernel_rfl) ?_
                exact retQ_mk (by kernel_rfl) (by kernel_rfl) (by kernel_rfl)

@[reducible] def ref_UnrollCheck_s1 (a1 : Int) (a2 : Int) (v : Bool) : Fr × LL := ([(1, aI a1), (2, aI a2), (20, aB v)], [])
def ref_UnrollCheck (a0 : (Int × (Int × (List (List (Int × (Int × Int))))))) (a1 : Int) (a2 : Int) : Option Int :=
(ref_MachineCheck a0).bind fun r1 =>
bif r1 != (0 : Int) then
(some r1)
else
((bif a0.2.1 != (2 : Int) then
(some true)
else
(some (decide (a0.1 > (2 : Int))))).bind fun v7 =>
bif v7 then
(some (3 : Int))
else
((ref_Within (1 : Int) a1 (5 : Int)).bind fun r10 =>
bif !r10 then
(some (1 : Int))
else
((ref_Within (0 : Int) a2 (6 : Int)).bind fun r13 =>
bif !r13 then
(some (7 : Int))
else
(some (0 : Int)))))
theorem ref_UnrollCheck_ok {a0 : (Int × (Int × (List (List (Int × (Int × Int))))))} {a1 : Int} {a2 : Int} {r : Int} (h : ref_UnrollCheck a0 a1 a2 = some r) : FnC Try.prog 10 [aD (.pair tI (.pair tI (.slice (.slice (.pair tI (.pair tI tI)))))) a0, aI a1, aI a2] [] (aI r) [] := by
  refine fnC_of_W (B := bodyOf Try.f10) (n := 27) Try.func10 (by kernel_rfl) (by kernel_rfl) (by kernel_rfl) (by kernel_rfl) (by kernel_rfl) ?_
  intro K
  refine W_seq (by kernel_rfl) ?_
  refine W_run 2 [] [1, 2, 3] [3] (fr' := [(1, aI a1), (2, aI a2), (3, .one (.ptr 3 0))]) (L' := [(3, .one (.pair tI (.pair tI (.slice (.slice (.pair tI (.pair tI tI)))))) a0)]) (obs := []) (by kernel_rfl) (by kernel_rfl) (by kernel_rfl) allP0 ?_
  refine seqQ_norm ?_
  refine W_seq (by kernel_rfl) ?_
  refine W_region (by kernel_rfl) ?_
  refine WO_run (j := 1) (k := 1) (orcs := []) (kF := [1, 2, 3, 8]) (kL := [3]) (fr' := [(1, aI a1), (2, aI a2), (3, .one (.ptr 3 0)), (8, aD (.pair tI (.pair tI (.slice (.slice (.pair tI (.pair tI tI)))))) a0)]) (L' := [(3, .one (.pair tI (.pair tI (.slice (.slice (.pair tI (.pair tI tI)))))) a0)]) (obs := []) rfl (by kernel_rfl) allP0 ?_
  obtain ⟨r1, h2, h⟩ := bind_of h
  refine WO_call0 (us := [none]) (d := 9) (p := True) (j := 2) rfl ⟨by kernel_rfl, by kernel_rfl, by kernel_rfl⟩ trivial (ref_MachineCheck_ok h2) (by kernel_rfl) ?_
  refine WO_run (j := 3) (k := 1) (orcs := []) (kF := [1, 2, 3, 7]) (kL := [3]) (fr' := [(1, aI a1), (2, aI a2), (3, .one (.ptr 3 0)), (7, aI r1)]) (L' := [(3, .one (.pair tI (.pair tI (.slice (.slice (.pair tI (.pair tI tI)))))) a0)]) (obs := []) rfl (by kernel_rfl) allP0 ?_
  refine WO_fin [1, 2, 3, 7] [3] (fr' := [(1, aI a1), (2, aI a2), (3, .one (.ptr 3 0)), (7, aI r1)]) (L' := [(3, .one (.pair tI (.pair tI (.slice (.slice (.pair tI (.pair tI tI)))))) a0)]) (by kernel_rfl) (by kernel_rfl) ?_
  refine seqQ_norm ?_
  refine W_seq (by kernel_rfl) ?_
  refine W_seq (by kernel_rfl) ?_
  refine W_run 2 [] [1, 2, 3, 7, 11] [3] (fr' := [(1, aI a1), (2, aI a2), (3, .one (.ptr 3 0)), (7, aI r1), (11, aB (r1 != (0 : Int)))]) (L' := [(3, .one (.pair tI (.pair tI (.slice (.slice (.pair tI (.pair tI tI)))))) a0)]) (obs := []) (by kernel_rfl) (by kernel_rfl) (by kernel_rfl) allP0 ?_
  refine seqQ_norm ?_
  refine W_cond (o := .tmp 11) (b := r1 != (0 : Int)) (by kernel_rfl) (by kernel_rfl) (fun h3 => ?_) (fun h3 => ?_)
  · replace h := ofT h3 h
    refine W_seq (by kernel_rfl) ?_
    refine W_run 2 [] [6] [] (fr' := [(6, aI r1)]) (L' := []) (obs := []) (by kernel_rfl) (by kernel_rfl) (by kernel_rfl) allP0 ?_
    refine seqQ_norm ?_
    obtain rfl := Option.some.inj h
    refine W_ret [6] [] (fr' := [(6, aI r1)]) (L' := []) (by kernel_rfl) (by kernel_rfl) ?_
    refine seqQ_ret ?_
    exact retQ_mk (by kernel_rfl) (by kernel_rfl) (by kernel_rfl)
  · replace h := ofF h3 h
    refine W_skip [1, 2, 3] [3] (fr' := [(1, aI a1), (2, aI a2), (3, .one (.ptr 3 0))]) (L' := [(3, .one (.pair tI (.pair tI (.slice (.slice (.pair tI (.pair tI tI)))))) a0)]) (by kernel_rfl) (by kernel_rfl) ?_
    refine seqQ_norm ?_
    refine W_seq (by kernel_rfl) ?_
    refine W_seq (by kernel_rfl) ?_
    obtain ⟨v7, h8, h⟩ := bind_of h
    refine W_cutK (Q' := (exQ .normal (ref_UnrollCheck_s1 a1 a2)) v7) ?_ ?_
    · replace h := h8
      refine W_region (by kernel_rfl) ?_
      refine WO_run (j := 4) (k := 4) (orcs := []) (kF := [1, 2, 3, 16]) (kL := [3]) (fr' := [(1, aI a1), (2, aI a2), (3, .one (.ptr 3 0)), (16, aB (a0.2.1 != (2 : Int)))]) (L' := [(3, .one (.pair tI (.pair tI (.slice (.slice (.pair tI (.pair tI tI)))))) a0)]) (obs := []) rfl (by kernel_rfl) allP0 ?_
      rcases Bool.eq_false_or_eq_true (a0.2.1 != (2 : Int)) with h6 | h6
      · replace h := ofT h6 h
        refine WO_run (j := 8) (k := 4) (orcs := [(8, .known true), (10, .known true), (12, .known true), (15, .val (.dat .bool true))]) (kF := [1, 2, 20]) (kL := [3]) (fr' := [(1, aI a1), (2, aI a2), (20, aB true)]) (L' := [(3, .one (.pair tI (.pair tI (.slice (.slice (.pair tI (.pair tI tI)))))) a0)]) (obs := [((a0.2.1 != (2 : Int)) = true), ((a0.2.1 != (2 : Int)) = true), ((a0.2.1 != (2 : Int)) = true), ((a0.2.1 != (2 : Int)) = true)]) rfl (by kernel_rfl) (allP2 h6 (allP2 h6 (allP2 h6 (allP1 h6)))) ?_
        obtain rfl := Option.some.inj h
        refine WO_fin [1, 2, 20] [] (fr' := [(1, aI a1), (2, aI a2), (20, aB true)]) (L' := []) (by kernel_rfl) (by kernel_rfl) ?_
        exact exQ_mk (by kernel_rfl) (by kernel_rfl)
      · replace h := ofF h6 h
        refine WO_run (j := 8) (k := 4) (orcs := [(8, .known false), (10, .known false), (12, .known false), (15, .val (.dat .bool false))]) (kF := [1, 2, 20]) (kL := [3]) (fr' := [(1, aI a1), (2, aI a2), (20, aB (decide (a0.1 > (2 : Int))))]) (L' := [(3, .one (.pair tI (.pair tI (.slice (.slice (.pair tI (.pair tI tI)))))) a0)]) (obs := [((a0.2.1 != (2 : Int)) = false), ((a0.2.1 != (2 : Int)) = false), ((a0.2.1 != (2 : Int)) = false), ((a0.2.1 != (2 : Int)) = false)]) rfl (by kernel_rfl) (allP2 h6 (allP2 h6 (allP2 h6 (allP1 h6)))) ?_
        obtain rfl := Option.some.inj h
        refine WO_fin [1, 2, 20] [] (fr' := [(1, aI a1), (2, aI a2), (20, aB (decide (a0.1 > (2 : Int))))]) (L' := []) (by kernel_rfl) (by kernel_rfl) ?_
        exact exQ_mk (by kernel_rfl) (by kernel_rfl)
    · intro e fr L hJ
      obtain ⟨rfl, rfl, rfl⟩ := hJ
      refine LT_keep [1, 2, 20] [] (fr' := [(1, aI a1), (2, aI a2), (20, aB v7)]) (L' := []) (by kernel_rfl) ?_
      refine seqQ_norm ?_
      refine W_cond (o := .tmp 20) (b := v7) (by kernel_rfl) (by kernel_rfl) (fun h9 => ?_) (fun h9 => ?_)
      · replace h := ofT h9 h
        refine W_seq (by kernel_rfl) ?_
        refine W_run 1 [] [6] [] (fr' := [(6, aI (3 : Int))]) (L' := []) (obs := []) (by kernel_rfl) (by kernel_rfl) (by kernel_rfl) allP0 ?_
        refine seqQ_norm ?_
        obtain rfl := Option.some.inj h
        refine W_ret [6] [] (fr' := [(6, aI (3 : Int))]) (L' := []) (by kernel_rfl) (by kernel_rfl) ?_
        refine seqQ_ret ?_
        exact retQ_mk (by kernel_rfl) (by kernel_rfl) (by kernel_rfl)
      · replace h := ofF h9 h
        refine W_skip [1, 2] [] (fr' := [(1, aI a1), (2, aI a2)]) (L' := []) (by kernel_rfl) (by kernel_rfl) ?_
        refine seqQ_norm ?_
        refine W_seq (by kernel_rfl) ?_
        refine W_seq (by kernel_rfl) ?_
        refine W_region (by kernel_rfl) ?_
        refine WO_run (j := 1) (k := 1) (orcs := []) (kF := [2, 21]) (kL := []) (fr' := [(2, aI a2), (21, aI a1)]) (L' := []) (obs := []) rfl (by kernel_rfl) allP0 ?_
        obtain ⟨r10, h11, h⟩ := bind_of h
        refine WO_call0 (us := [none, none, none]) (d := 22) (p := True) (j := 2) rfl ⟨by kernel_rfl, by kernel_rfl, by kernel_rfl⟩ trivial (ref_Within_ok h11) (by kernel_rfl) ?_
        refine WO_run (j := 3) (k := 1) (orcs := []) (kF := [2, 23]) (kL := []) (fr' := [(2, aI a2), (23, aB (!r10))]) (L' := []) (obs := []) rfl (by kernel_rfl) allP0 ?_
        refine WO_fin [2, 23] [] (fr' := [(2, aI a2), (23, aB (!r10))]) (L' := []) (by kernel_rfl) (by kernel_rfl) ?_
        refine seqQ_norm ?_
        refine W_cond (o := .tmp 23) (b := !r10) (by kernel_rfl) (by kernel_rfl) (fun h12 => ?_) (fun h12 => ?_)
        · replace h := ofT h12 h
          refine W_seq (by kernel_rfl) ?_
          refine W_run 1 [] [6] [] (fr' := [(6, aI (1 : Int))]) (L' := []) (obs := []) (by kernel_rfl) (by kernel_rfl) (by kernel_rfl) allP0 ?_
          refine seqQ_norm ?_
          obtain rfl := Option.some.inj h
          refine W_ret [6] [] (fr' := [(6, aI (1 : Int))]) (L' := []) (by kernel_rfl) (by kernel_rfl) ?_
          refine seqQ_ret ?_
          exact retQ_mk (by kernel_rfl) (by kernel_rfl) (by kernel_rfl)
        · replace h := ofF h12 h
          refine W_skip [2] [] (fr' := [(2, aI a2)]) (L' := []) (by kernel_rfl) (by kernel_rfl) ?_
          refine seqQ_norm ?_
          refine W_seq (by kernel_rfl) ?_
          refine W_seq (by kernel_rfl) ?_
          refine W_region (by kernel_rfl) ?_
          refine WO_run (j := 1) (k := 1) (orcs := []) (kF := [24]) (kL := []) (fr' := [(24, aI a2)]) (L' := []) (obs := []) rfl (by kernel_rfl) allP0 ?_
          obtain ⟨r13, h14, h⟩ := bind_of h
          refine WO_call0 (us := [none, none, none]) (d := 25) (p := True) (j := 2) rfl ⟨by kernel_rfl, by kernel_rfl, by kernel_rfl⟩ trivial (ref_Within_ok h14) (by kernel_rfl) ?_
          refine WO_run (j := 3) (k := 1) (orcs := []) (kF := [26]) (kL := []) (fr' := [(26, aB (!r13))]) (L' := []) (obs := []) rfl (by kernel_rfl) allP0 ?_
          refine WO_fin [26] [] (fr' := [(26, aB (!r13))]) (L' := []) (by kernel_rfl) (by kernel_rfl) ?_
          refine seqQ_norm ?_
          refine W_cond (o := .tmp 26) (b := !r13) (by kernel_rfl) (by kernel_rfl) (fun h15 => ?_) (fun h15 => ?_)
          · replace h := ofT h15 h
            refine W_seq (by kernel_rfl) ?_
            refine W_run 1 [] [6] [] (fr' := [(6, aI (7 : Int))]) (L' := []) (obs := []) (by kernel_rfl) (by kernel_rfl) (by kernel_rfl) allP0 ?_
            refine seqQ_norm ?_
            obtain rfl := Option.some.inj h
            refine W_ret [6] [] (fr' := [(6, aI (7 : Int))]) (L' := []) (by kernel_rfl) (by kernel_rfl) ?_
            refine seqQ_ret ?_
            exact retQ_mk (by kernel_rfl) (by kernel_rfl) (by kernel_rfl)
          · replace h := ofF h15 h
            refine W_skip [] [] (fr' := []) (L' := []) (by kernel_rfl) (by kernel_rfl) ?_
            refine seqQ_norm ?_
            refine W_seq (by kernel_rfl) ?_
            refine W_run 1 [] [6] [] (fr' := [(6, aI (0 : Int))]) (L' := []) (obs := []) (by kernel_rfl) (by kernel_rfl) (by kernel_rfl) allP0 ?_
            refine seqQ_norm ?_
            obtain rfl := Option.some.inj h
            refine W_ret [6] [] (fr' := [(6, aI (0 : Int))]) (L' := []) (by kernel_rfl) (by kernel_rfl) ?_
            exact retQ_mk (by kernel_rfl) (by kernel_rfl) (by kernel_rfl)

@[reducible] def ref_Word_s4 (a0 : (List Bool)) (i30 : Int) (v : Int) : Fr × LL := ([(3, aI v), (6, aD (.slice .bool) a0), (7, aI (List.length a0 : Int)), (8, aI i30)], [])
def ref_Word_b5 (i30 : Int) (v33 : Bool) (x31 : Int) : Option (Flow Int Int) :=
(bif v33 then
((ck (0 ≤ IntKind.wrap .u64 (i30))).bind fun _ =>
some (w64 (x31 + (bShl .i64 (1 : Int) (IntKind.wrap .u64 (i30))))))
else
(some x31)).bind fun v42 =>
some (.next v42)
@[reducible] def ref_Word_s6 (a0 : (List Bool)) (v : Int × Int) : Fr × LL := ([(3, aI v.2), (6, aD (.slice .bool) a0), (7, aI (List.length a0 : Int)), (8, aI v.1)], [])
@[reducible] def ref_Word_s7 (v : Int) : Fr × LL := ([(3, aI v)], [])
def ref_Word (a0 : (List Bool)) : Option Int :=
(forL ref_Word_b5 (fun x31 => x31) a0 0 (0 : Int)).bind fun v45 =>
some v45
theorem ref_Word_ok {a0 : (List Bool)} {r : Int} (h : ref_Word a0 = some r) : FnC Try.prog 12 [aD (.slice .bool) a0] [] (aI r) [] := by
  refine fnC_of_W (B := bodyOf Try.f12) (n := 21) Try.func12 (by kernel_rfl) (by kernel_rfl) (by kernel_rfl) (by kernel_rfl) (by kernel_rfl) ?_
  intro K
  refine W_seq (by kernel_rfl) ?_
  refine W_run 1 [] [0] [] (fr' := [(0, aD (.slice .bool) a0)]) (L' := []) (obs := []) (by kernel_rfl) (by kernel_rfl) (by kernel_rfl) allP0 ?_
  refine seqQ_norm ?_
  refine W_seq (by kernel_rfl) ?_
  refine W_run 1 [] [0, 3] [] (fr' := [(0, aD (.slice .bool) a0), (3, aI (0 : Int))]) (L' := []) (obs := []) (by kernel_rfl) (by kernel_rfl) (by kernel_rfl) allP0 ?_
  refine seqQ_norm ?_
  refine W_seq (by kernel_rfl) ?_
  refine W_seq (by kernel_rfl) ?_
  refine W_run 3 [] [3, 6, 7, 8] [] (fr' := [(3, aI (0 : Int)), (6, aD (.slice .bool) a0), (7, aI (List.length a0 : Int)), (8, aI (0 : Int))]) (L' := []) (obs := []) (by kernel_rfl) (by kernel_rfl) (by kernel_rfl) allP0 ?_
  refine seqQ_norm ?_
  refine W_block (id := 0) (by kernel_rfl) ?_
  obtain ⟨v45, h46, h⟩ := bind_of h
  refine W_len (t := 6) (u := .bool) (xs := a0) (by kernel_rfl) (fun h49 => ?_)
  obtain ⟨h47, h48⟩ := forL_iter h49 h46
  refine W_weaken [3, 6, 7, 8] [] (fr' := ((ref_Word_s6 a0) ((0 : Int), (0 : Int))).1) (L' := ((ref_Word_s6 a0) ((0 : Int), (0 : Int))).2) (by kernel_rfl) ?_
  refine W_cutK (W_loop (S := (ref_Word_s6 a0)) (J := (exQ (.exit 0) ref_Word_s7)) (by kernel_rfl) ?_ h47 _ v45 h48) ?_
  · rintro ⟨i30, x31⟩ s h
    refine W_seq (by kernel_rfl) ?_
    refine W_run 1 [] [3, 6, 7, 8, 9] [] (fr' := [(3, aI x31), (6, aD (.slice .bool) a0), (7, aI (List.length a0 : Int)), (8, aI i30), (9, aB (decide (i30 < (List.length a0 : Int))))]) (L' := []) (obs := []) (by kernel_rfl) (by kernel_rfl) (by kernel_rfl) allP0 ?_
    refine seqQ_norm ?_
    refine W_seq (by kernel_rfl) ?_
    refine W_cond (o := .tmp 9) (b := decide (i30 < (List.length a0 : Int))) (by kernel_rfl) (by kernel_rfl) (fun h35 => ?_) (fun h35 => ?_)
    · replace h := stepL_true h35 h
      obtain ⟨v33, _, h34, h, rfl⟩ := h
      refine W_skip [3, 6, 7, 8] [] (fr' := [(3, aI x31), (6, aD (.slice .bool) a0), (7, aI (List.length a0 : Int)), (8, aI i30)]) (L' := []) (by kernel_rfl) (by kernel_rfl) ?_
      refine seqQ_norm ?_
      refine W_seq (by kernel_rfl) ?_
      obtain ⟨v42, h43, h⟩ := bind_of h
      refine W_cutK (Q' := (exQ .normal (ref_Word_s4 a0 i30)) v42) ?_ ?_
      · replace h := h43
        refine W_block (id := 1) (by kernel_rfl) ?_
        refine W_seq (by kernel_rfl) ?_
        refine W_run 5 [(3, .val (.dat .bool v33))] [3, 4, 5, 6, 7, 8] [] (fr' := [(3, aI x31), (4, aI i30), (5, aB v33), (6, aD (.slice .bool) a0), (7, aI (List.length a0 : Int)), (8, aI i30)]) (L' := []) (obs := [Idx a0 i30 v33]) (by kernel_rfl) (by kernel_rfl) (by kernel_rfl) (allP1 (Idx.of h34)) ?_
        refine seqQ_norm ?_
        refine W_seq (by kernel_rfl) ?_
        refine W_run 1 [] [3, 4, 6, 7, 8, 13] [] (fr' := [(3, aI x31), (4, aI i30), (6, aD (.slice .bool) a0), (7, aI (List.length a0 : Int)), (8, aI i30), (13, aB v33)]) (L' := []) (obs := []) (by kernel_rfl) (by kernel_rfl) (by kernel_rfl) allP0 ?_
        refine seqQ_norm ?_
        refine W_cond (o := .tmp 13) (b := v33) (by kernel_rfl) (by kernel_rfl) (fun h40 => ?_) (fun h40 => ?_)
        · replace h := ofT h40 h
          obtain ⟨_, h41, h⟩ := bind_of h
          replace h41 := ck_some h41
          obtain rfl := Option.some.inj h
          refine W_run 6 [] [3, 6, 7, 8] [] (fr' := [(3, aI (w64 (x31 + (bShl .i64 (1 : Int) (IntKind.wrap .u64 (i30)))))), (6, aD (.slice .bool) a0), (7, aI (List.length a0 : Int)), (8, aI i30)]) (L' := []) (obs := [(0 ≤ IntKind.wrap .u64 (i30))]) (by kernel_rfl) (by kernel_rfl) (by kernel_rfl) (allP1 h41) ?_
          refine blockQ_norm ?_
          exact exQ_mk (by kernel_rfl) (by kernel_rfl)
        · replace h := ofF h40 h
          obtain rfl := Option.some.inj h
          refine W_skip [3, 6, 7, 8] [] (fr' := [(3, aI x31), (6, aD (.slice .bool) a0), (7, aI (List.length a0 : Int)), (8, aI i30)]) (L' := []) (by kernel_rfl) (by kernel_rfl) ?_
          refine blockQ_norm ?_
          exact exQ_mk (by kernel_rfl) (by kernel_rfl)
      · intro e fr L hJ
        obtain ⟨rfl, rfl, rfl⟩ := hJ
        refine LT_keep [3, 6, 7, 8] [] (fr' := [(3, aI v42), (6, aD (.slice .bool) a0), (7, aI (List.length a0 : Int)), (8, aI i30)]) (L' := []) (by kernel_rfl) ?_
        refine seqQ_norm ?_
        obtain rfl := Option.some.inj h
        refine W_run 2 [] [3, 6, 7, 8] [] (fr' := [(3, aI v42), (6, aD (.slice .bool) a0), (7, aI (List.length a0 : Int)), (8, aI (w64 (i30 + (1 : Int))))]) (L' := []) (obs := []) (by kernel_rfl) (by kernel_rfl) (by kernel_rfl) allP0 ?_
        exact round_next' (by kernel_rfl) (by kernel_rfl)
    · obtain rfl := stepL_false h35 h
      refine W_exit (id := 0) [3] [] (fr' := [(3, aI x31)]) (L' := []) (by kernel_rfl) (by kernel_rfl) ?_
      refine seqQ_exit ?_
      refine round_exit ?_
      exact exQ_mk (by kernel_rfl) (by kernel_rfl)
  · intro e fr L hJ
    obtain ⟨rfl, rfl, rfl⟩ := hJ
    refine LT_keep [3] [] (fr' := [(3, aI v45)]) (L' := []) (by kernel_rfl) ?_
    refine blockQ_hit ?_
    refine seqQ_norm ?_
    refine W_seq (by kernel_rfl) ?_
    refine W_run 2 [] [2] [] (fr' := [(2, aI v45)]) (L' := []) (obs := []) (by kernel_rfl) (by kernel_rfl) (by kernel_rfl) allP0 ?_
    refine seqQ_norm ?_
    obtain rfl := Option.some.inj h
    refine W_ret [2] [] (fr' := [(2, aI v45)]) (L' := []) (by kernel_rfl) (by kernel_rfl) ?_
    exact retQ_mk (by kernel_rfl) (by kernel_rfl) (by kernel_rfl)

def ref_Bit (a0 : Int) (a1 : Int) : Option Bool :=
bif (decide (a1 ≥ (0 : Int))) && (decide (a1 < (63 : Int))) then
((ck (0 ≤ IntKind.wrap .u64 (a1))).bind fun _ =>
some ((bAnd .i64 a0 (bShl .i64 (1 : Int) (IntKind.wrap .u64 (a1)))) != (0 : Int)))
else
(some false)
theorem ref_Bit_ok {a0 : Int} {a1 : Int} {r : Bool} (h : ref_Bit a0 a1 = some r) : FnC Try.prog 28 [aI a0, aI a1] [] (aB r) [] := by
  refine fnC_of_W (B := bodyOf Try.f28) (n := 19) Try.func28 (by kernel_rfl) (by kernel_rfl) (by kernel_rfl) (by kernel_rfl) (by kernel_rfl) ?_
  intro K
  refine W_seq (by kernel_rfl) ?_
  refine W_run 1 [] [0, 1] [] (fr' := [(0, aI a0), (1, aI a1)]) (L' := []) (obs := []) (by kernel_rfl) (by kernel_rfl) (by kernel_rfl) allP0 ?_
  refine seqQ_norm ?_
  refine W_seq (by kernel_rfl) ?_
  refine W_region (by kernel_rfl) ?_
  refine WO_run (j := 7) (k := 7) (orcs := []) (kF := [0, 1, 11]) (kL := []) (fr' := [(0, aI a0), (1, aI a1), (11, aB ((decide (a1 ≥ (0 : Int))) && (decide (a1 < (63 : Int)))))]) (L' := []) (obs := []) rfl (by kernel_rfl) allP0 ?_
  rcases Bool.eq_false_or_eq_true ((decide (a1 ≥ (0 : Int))) && (decide (a1 < (63 : Int)))) with h1 | h1
  · replace h := ofT h1 h
    obtain ⟨_, h2, h⟩ := bind_of h
    replace h2 := ck_some h2
    refine WO_run (j := 15) (k := 8) (orcs := [(14, .known true), (16, .known true), (18, .known true), (20, .known true), (22, .known true), (24, .known true), (27, .val (.dat .bool true))]) (kF := [4]) (kL := []) (fr' := [(4, aB ((bAnd .i64 a0 (bShl .i64 (1 : Int) (IntKind.wrap .u64 (a1)))) != (0 : Int)))]) (L' := []) (obs := [(((decide (a1 ≥ (0 : Int))) && (decide (a1 < (63 : Int)))) = true), (((decide (a1 ≥ (0 : Int))) && (decide (a1 < (63 : Int)))) = true), (((decide (a1 ≥ (0 : Int))) && (decide (a1 < (63 : Int)))) = true), (((decide (a1 ≥ (0 : Int))) && (decide (a1 < (63 : Int)))) = true), (0 ≤ IntKind.wrap .u64 (a1)), (((decide (a1 ≥ (0 : Int))) && (decide (a1 < (63 : Int)))) = true), (((decide (a1 ≥ (0 : Int))) && (decide (a1 < (63 : Int)))) = true), (((decide (a1 ≥ (0 : Int))) && (decide (a1 < (63 : Int)))) = true)]) rfl (by kernel_rfl) (allP2 h1 (allP2 h1 (allP2 h1 (allP2 h1 (allP2 h2 (allP2 h1 (allP2 h1 (allP1 h1)))))))) ?_
    refine WO_fin [4] [] (fr' := [(4, aB ((bAnd .i64 a0 (bShl .i64 (1 : Int) (IntKind.wrap .u64 (a1)))) != (0 : Int)))]) (L' := []) (by kernel_rfl) (by kernel_rfl) ?_
    refine seqQ_norm ?_
    obtain rfl := Option.some.inj h
    refine W_ret [4] [] (fr' := [(4, aB ((bAnd .i64 a0 (bShl .i64 (1 : Int) (IntKind.wrap .u64 (a1)))) != (0 : Int)))]) (L' := []) (by kernel_rfl) (by kernel_rfl) ?_
    exact retQ_mk (by kernel_rfl) (by kernel_rfl) (by kernel_rfl)
  · replace h := ofF h1 h
    refine WO_run (j := 15) (k := 8) (orcs := [(14, .known false), (16, .known false), (18, .known false), (20, .known false), (22, .known false), (24, .known false), (27, .val (.dat .bool false))]) (kF := [4]) (kL := []) (fr' := [(4, aB false)]) (L' := []) (obs := [(((decide (a1 ≥ (0 : Int))) && (decide (a1 < (63 : Int)))) = false), (((decide (a1 ≥ (0 : Int))) && (decide (a1 < (63 : Int)))) = false), (((decide (a1 ≥ (0 : Int))) && (decide (a1 < (63 : Int)))) = false), (((decide (a1 ≥ (0 : Int))) && (decide (a1 < (63 : Int)))) = false), (((decide (a1 ≥ (0 : Int))) && (decide (a1 < (63 : Int)))) = false), (((decide (a1 ≥ (0 : Int))) && (decide (a1 < (63 : Int)))) = false), (((decide (a1 ≥ (0 : Int))) && (decide (a1 < (63 : Int)))) = false)]) rfl (by kernel_rfl) (allP2 h1 (allP2 h1 (allP2 h1 (allP2 h1 (allP2 h1 (allP2 h1 (allP1 h1))))))) ?_
    refine WO_fin [4] [] (fr' := [(4, aB false)]) (L' := []) (by kernel_rfl) (by kernel_rfl) ?_
    refine seqQ_norm ?_
    obtain rfl := Option.some.inj h
    refine W_ret [4] [] (fr' := [(4, aB false)]) (L' := []) (by kernel_rfl) (by kernel_rfl) ?_
    exact retQ_mk (by kernel_rfl) (by kernel_rfl) (by kernel_rfl)

@[reducible] def ref_Asked_s18 (a0 : (Int × (Int × (List (List (Int × (Int × Int))))))) (a1 : Int) (a2 : Int) (x58 : (Int × Int × Int × Int)) (v158 : Int) (v162 : (Int × (Int × Int))) (v : Int) : Fr × LL := ([(1, aI a1), (2, aI a2), (3, aI (w64 ((w64 (x58.1 - (bShl .i64 v158 (IntKind.wrap .u64 (x58.2.1))))) + (bShl .i64 v162.1 (IntKind.wrap .u64 (x58.2.1)))))), (4, .one (.ptr 4 0)), (9, aI v), (11, aI x58.2.2.2), (13, .one (.ptr 13 0))], [(4, .one (.pair tI (.pair tI (.slice (.slice (.pair tI (.pair tI tI)))))) a0), (13, .one (.pair tI (.pair tI tI)) v162)])
@[reducible] def ref_Asked_s19 (a0 : (Int × (Int × (List (List (Int × (Int × Int))))))) (a1 : Int) (a2 : Int) (x58 : (Int × Int × Int × Int)) (v158 : Int) (v162 : (Int × (Int × Int))) (v : Int) : Fr × LL := ([(1, aI a1), (2, aI a2), (3, aI (w64 ((w64 (x58.1 - (bShl .i64 v158 (IntKind.wrap .u64 (x58.2.1))))) + (bShl .i64 v162.1 (IntKind.wrap .u64 (x58.2.1)))))), (4, .one (.ptr 4 0)), (9, aI v), (11, aI x58.2.2.2), (13, .one (.ptr 13 0))], [(4, .one (.pair tI (.pair tI (.slice (.slice (.pair tI (.pair tI tI)))))) a0), (13, .one (.pair tI (.pair tI tI)) v162)])
@[reducible] def ref_Asked_s20 (a0 : (Int × (Int × (List (List (Int × (Int × Int))))))) (a1 : Int) (a2 : Int) (x58 : (Int × Int × Int × Int)) (v : Int) : Fr × LL := ([(1, aI a1), (2, aI a2), (3, aI x58.1), (4, .one (.ptr 4 0)), (9, aI x58.2.1), (10, aI x58.2.2.1), (11, aI x58.2.2.2), (12, aI v)], [(4, .one (.pair tI (.pair tI (.slice (.slice (.pair tI (.pair tI tI)))))) a0)])
@[reducible] def ref_Asked_s21 (a0 : (Int × (Int × (List (List (Int × (Int × Int))))))) (a1 : Int) (a2 : Int) (x58 : (Int × Int × Int × Int)) (v : Bool) : Fr × LL := ([(1, aI a1), (2, aI a2), (3, aI x58.1), (4, .one (.ptr 4 0)), (9, aI x58.2.1), (10, aI x58.2.2.1), (11, aI x58.2.2.2), (22, aB v)], [(4, .one (.pair tI (.pair tI (.slice (.slice (.pair tI (.pair tI tI)))))) a0)])
def ref_Asked_b22 (a0 : (Int × (Int × (List (List (Int × (Int × Int))))))) (a1 : Int) (a2 : Int) (x58 : (Int × Int × Int × Int)) : Option (Flow (Int × Int × Int × Int) (Int × Int × Int)) :=
(bif decide (x58.2.2.2 < a2) then
(some (decide (x58.2.2.1 < a0.1)))
else
(some false)).bind fun v120 =>
bif v120 then
(((ref_Bit x58.1 x58.2.1).bind fun r155 =>
bif r155 then
(some (1 : Int))
else
(some (0 : Int))).bind fun v158 =>
(idx a0.2.2 x58.2.2.1).bind fun v160 =>
(idx v160 v158).bind fun v162 =>
(ck (0 ≤ IntKind.wrap .u64 (x58.2.1))).bind fun _ =>
(bif decide ((w64 (x58.2.1 + v162.2.1)) < (0 : Int)) then
(some (0 : Int))
else
(some (w64 (x58.2.1 + v162.2.1)))).bind fun v168 =>
(bif decide (v168 ≥ a1) then
(some (w64 (a1 - (1 : Int))))
else
(some v168)).bind fun v173 =>
some (.next (w64 ((w64 (x58.1 - (bShl .i64 v158 (IntKind.wrap .u64 (x58.2.1))))) + (bShl .i64 v162.1 (IntKind.wrap .u64 (x58.2.1)))), v173, v162.2.2, w64 (x58.2.2.2 + (1 : Int)))))
else
(some (.done (x58.1, x58.2.1, x58.2.2.1)))
@[reducible] def ref_Asked_s23 (a0 : (Int × (Int × (List (List (Int × (Int × Int))))))) (a1 : Int) (a2 : Int) (v : (Int × Int × Int × Int)) : Fr × LL := ([(1, aI a1), (2, aI a2), (3, aI v.1), (4, .one (.ptr 4 0)), (9, aI v.2.1), (10, aI v.2.2.1), (11, aI v.2.2.2)], [(4, .one (.pair tI (.pair tI (.slice (.slice (.pair tI (.pair tI tI)))))) a0)])
@[reducible] def ref_Asked_s24 (a0 : (Int × (Int × (List (List (Int × (Int × Int))))))) (v : (Int × Int × Int)) : Fr × LL := ([(3, aI v.1), (4, .one (.ptr 4 0)), (9, aI v.2.1), (10, aI v.2.2)], [(4, .one (.pair tI (.pair tI (.slice (.slice (.pair tI (.pair tI tI)))))) a0)])
@[reducible] def ref_Asked_s25 (v : Bool) : Fr × LL := ([(8, aB v)], [])
def ref_Asked (fuel : Nat) (a0 : (Int × (Int × (List (List (Int × (Int × Int))))))) (a1 : Int) (a2 : Int) (a3 : Int) : Option Bool :=
(iter (ref_Asked_b22 a0 a1 a2) fuel (a3, (0 : Int), (0 : Int), (0 : Int))).bind fun v175 =>
(bif v175.2.2 == a0.1 then
((ref_Bit v175.1 v175.2.1).bind fun r186 =>
some r186)
else
(some false)).bind fun v188 =>
some v188
theorem ref_Asked_ok {fuel : Nat} {a0 : (Int × (Int × (List (List (Int × (Int × Int))))))} {a1 : Int} {a2 : Int} {a3 : Int} {r : Bool} (h : ref_Asked fuel a0 a1 a2 a3 = some r) : FnC Try.prog 11 [aD (.pair tI (.pair tI (.slice (.slice (.pair tI (.pair tI tI)))))) a0, aI a1, aI a2, aI a3] [] (aB r) [] := by
  refine fnC_of_W (B := bodyOf Try.f11) (n := 70) Try.func11 (by kernel_rfl) (by kernel_rfl) (by kernel_rfl) (by kernel_rfl) (by kernel_rfl) ?_
  intro K
  refine W_seq (by kernel_rfl) ?_
  refine W_run 2 [] [1, 2, 3, 4] [4] (fr' := [(1, aI a1), (2, aI a2), (3, aI a3), (4, .one (.ptr 4 0))]) (L' := [(4, .one (.pair tI (.pair tI (.slice (.slice (.pair tI (.pair tI tI)))))) a0)]) (obs := []) (by kernel_rfl) (by kernel_rfl) (by kernel_rfl) allP0 ?_
  refine seqQ_norm ?_
  refine W_seq (by kernel_rfl) ?_
  refine W_run 1 [] [1, 2, 3, 4, 9] [4] (fr' := [(1, aI a1), (2, aI a2), (3, aI a3), (4, .one (.ptr 4 0)), (9, aI (0 : Int))]) (L' := [(4, .one (.pair tI (.pair tI (.slice (.slice (.pair tI (.pair tI tI)))))) a0)]) (obs := []) (by kernel_rfl) (by kernel_rfl) (by kernel_rfl) allP0 ?_
  refine seqQ_norm ?_
  refine W_seq (by kernel_rfl) ?_
  refine W_run 1 [] [1, 2, 3, 4, 9, 10] [4] (fr' := [(1, aI a1), (2, aI a2), (3, aI a3), (4, .one (.ptr 4 0)), (9, aI (0 : Int)), (10, aI (0 : Int))]) (L' := [(4, .one (.pair tI (.pair tI (.slice (.slice (.pair tI (.pair tI tI)))))) a0)]) (obs := []) (by kernel_rfl) (by kernel_rfl) (by kernel_rfl) allP0 ?_
  refine seqQ_norm ?_
  refine W_seq (by kernel_rfl) ?_
  refine W_seq (by kernel_rfl) ?_
  refine W_run 1 [] [1, 2, 3, 4, 9, 10, 11] [4] (fr' := [(1, aI a1), (2, aI a2), (3, aI a3), (4, .one (.ptr 4 0)), (9, aI (0 : Int)), (10, aI (0 : Int)), (11, aI (0 : Int))]) (L' := [(4, .one (.pair tI (.pair tI (.slice (.slice (.pair tI (.pair tI tI)))))) a0)]) (obs := []) (by kernel_rfl) (by kernel_rfl) (by kernel_rfl) allP0 ?_
  refine seqQ_norm ?_
  refine W_block (id := 0) (by kernel_rfl) ?_
  obtain ⟨v175, h176, h⟩ := bind_of h
  refine W_weaken [1, 2, 3, 4, 9, 10, 11] [4] (fr' := ((ref_Asked_s23 a0 a1 a2) (a3, (0 : Int), (0 : Int), (0 : Int))).1) (L' := ((ref_Asked_s23 a0 a1 a2) (a3, (0 : Int), (0 : Int), (0 : Int))).2) (by kernel_rfl) ?_
  refine W_cutK (W_loop (S := (ref_Asked_s23 a0 a1 a2)) (J := (exQ (.exit 0) (ref_Asked_s24 a0))) (by kernel_rfl) ?_ fuel _ v175 h176) ?_
  · rintro x58 s h
    refine W_seq (by kernel_rfl) ?_
    refine W_seq (by kernel_rfl) ?_
    obtain ⟨v120, h121, h⟩ := bind_of h
    refine W_cutK (Q' := (exQ .normal (ref_Asked_s21 a0 a1 a2 x58)) v120) ?_ ?_
    · replace h := h121
      refine W_region (by kernel_rfl) ?_
      refine WO_run (j := 4) (k := 4) (orcs := []) (kF := [1, 2, 3, 4, 9, 10, 11, 17]) (kL := [4]) (fr' := [(1, aI a1), (2, aI a2), (3, aI x58.1), (4, .one (.ptr 4 0)), (9, aI x58.2.1), (10, aI x58.2.2.1), (11, aI x58.2.2.2), (17, aB (decide (x58.2.2.2 < a2)))]) (L' := [(4, .one (.pair tI (.pair tI (.slice (.slice (.pair tI (.pair tI tI)))))) a0)]) (obs := []) rfl (by kernel_rfl) allP0 ?_
      rcases Bool.eq_false_or_eq_true (decide (x58.2.2.2 < a2)) with h119 | h119
      · replace h := ofT h119 h
        refine WO_run (j := 9) (k := 5) (orcs := [(8, .known true), (10, .known true), (12, .known true), (14, .known true), (17, .val (.dat .bool true))]) (kF := [1, 2, 3, 4, 9, 10, 11, 22]) (kL := [4]) (fr' := [(1, aI a1), (2, aI a2), (3, aI x58.1), (4, .one (.ptr 4 0)), (9, aI x58.2.1), (10, aI x58.2.2.1), (11, aI x58.2.2.2), (22, aB (decide (x58.2.2.1 < a0.1)))]) (L' := [(4, .one (.pair tI (.pair tI (.slice (.slice (.pair tI (.pair tI tI)))))) a0)]) (obs := [((decide (x58.2.2.2 < a2)) = true), ((decide (x58.2.2.2 < a2)) = true), ((decide (x58.2.2.2 < a2)) = true), ((decide (x58.2.2.2 < a2)) = true), ((decide (x58.2.2.2 < a2)) = true)]) rfl (by kernel_rfl) (allP2 h119 (allP2 h119 (allP2 h119 (allP2 h119 (allP1 h119))))) ?_
        obtain rfl := Option.some.inj h
        refine WO_fin [1, 2, 3, 4, 9, 10, 11, 22] [4] (fr' := [(1, aI a1), (2, aI a2), (3, aI x58.1), (4, .one (.ptr 4 0)), (9, aI x58.2.1), (10, aI x58.2.2.1), (11, aI x58.2.2.2), (22, aB (decide (x58.2.2.1 < a0.1)))]) (L' := [(4, .one (.pair tI (.pair tI (.slice (.slice (.pair tI (.pair tI tI)))))) a0)]) (by kernel_rfl) (by kernel_rfl) ?_
        exact exQ_mk (by kernel_rfl) (by kernel_rfl)
      · replace h := ofF h119 h
        refine WO_run (j := 9) (k := 5) (orcs := [(8, .known false), (10, .known false), (12, .known false), (14, .known false), (17, .val (.dat .bool false))]) (kF := [1, 2, 3, 4, 9, 10, 11, 22]) (kL := [4]) (fr' := [(1, aI a1), (2, aI a2), (3, aI x58.1), (4, .one (.ptr 4 0)), (9, aI x58.2.1), (10, aI x58.2.2.1), (11, aI x58.2.2.2), (22, aB false)]) (L' := [(4, .one (.pair tI (.pair tI (.slice (.slice (.pair tI (.pair tI tI)))))) a0)]) (obs := [((decide (x58.2.2.2 < a2)) = false), ((decide (x58.2.2.2 < a2)) = false), ((decide (x58.2.2.2 < a2)) = false), ((decide (x58.2.2.2 < a2)) = false), ((decide (x58.2.2.2 < a2)) = false)]) rfl (by kernel_rfl) (allP2 h119 (allP2 h119 (allP2 h119 (allP2 h119 (allP1 h119))))) ?_
        obtain rfl := Option.some.inj h
        refine WO_fin [1, 2, 3, 4, 9, 10, 11, 22] [4] (fr' := [(1, aI a1), (2, aI a2), (3, aI x58.1), (4, .one (.ptr 4 0)), (9, aI x58.2.1), (10, aI x58.2.2.1), (11, aI x58.2.2.2), (22, aB false)]) (L' := [(4, .one (.pair tI (.pair tI (.slice (.slice (.pair tI (.pair tI tI)))))) a0)]) (by kernel_rfl) (by kernel_rfl) ?_
        exact exQ_mk (by kernel_rfl) (by kernel_rfl)
    · intro e fr L hJ
      obtain ⟨rfl, rfl, rfl⟩ := hJ
      refine LT_keep [1, 2, 3, 4, 9, 10, 11, 22] [4] (fr' := [(1, aI a1), (2, aI a2), (3, aI x58.1), (4, .one (.ptr 4 0)), (9, aI x58.2.1), (10, aI x58.2.2.1), (11, aI x58.2.2.2), (22, aB v120)]) (L' := [(4, .one (.pair tI (.pair tI (.slice (.slice (.pair tI (.pair tI tI)))))) a0)]) (by kernel_rfl) ?_
      refine seqQ_norm ?_
      refine W_cond (o := .tmp 22) (b := v120) (by kernel_rfl) (by kernel_rfl) (fun h122 => ?_) (fun h122 => ?_)
      · replace h := ofT h122 h
        refine W_skip [1, 2, 3, 4, 9, 10, 11] [4] (fr' := [(1, aI a1), (2, aI a2), (3, aI x58.1), (4, .one (.ptr 4 0)), (9, aI x58.2.1), (10, aI x58.2.2.1), (11, aI x58.2.2.2)]) (L' := [(4, .one (.pair tI (.pair tI (.slice (.slice (.pair tI (.pair tI tI)))))) a0)]) (by kernel_rfl) (by kernel_rfl) ?_
        refine seqQ_norm ?_
        refine W_seq (by kernel_rfl) ?_
        refine W_block (id := 1) (by kernel_rfl) ?_
        refine W_seq (by kernel_rfl) ?_
        refine W_run 1 [] [1, 2, 3, 4, 9, 10, 11, 12] [4] (fr' := [(1, aI a1), (2, aI a2), (3, aI x58.1), (4, .one (.ptr 4 0)), (9, aI x58.2.1), (10, aI x58.2.2.1), (11, aI x58.2.2.2), (12, aI (0 : Int))]) (L' := [(4, .one (.pair tI (.pair tI (.slice (.slice (.pair tI (.pair tI tI)))))) a0)]) (obs := []) (by kernel_rfl) (by kernel_rfl) (by kernel_rfl) allP0 ?_
        refine seqQ_norm ?_
        refine W_seq (by kernel_rfl) ?_
        obtain ⟨v158, h159, h⟩ := bind_of h
        refine W_cutK (Q' := (exQ .normal (ref_Asked_s20 a0 a1 a2 x58)) v158) ?_ ?_
        · replace h := h159
          refine W_seq (by kernel_rfl) ?_
          refine W_region (by kernel_rfl) ?_
          refine WO_run (j := 2) (k := 2) (orcs := []) (kF := [1, 2, 3, 4, 9, 10, 11, 12, 25, 26]) (kL := [4]) (fr' := [(1, aI a1), (2, aI a2), (3, aI x58.1), (4, .one (.ptr 4 0)), (9, aI x58.2.1), (10, aI x58.2.2.1), (11, aI x58.2.2.2), (12, aI (0 : Int)), (25, aI x58.1), (26, aI x58.2.1)]) (L' := [(4, .one (.pair tI (.pair tI (.slice (.slice (.pair tI (.pair tI tI)))))) a0)]) (obs := []) rfl (by kernel_rfl) allP0 ?_
          obtain ⟨r155, h156, h⟩ := bind_of h
          refine WO_call0 (us := [none, none]) (d := 27) (p := True) (j := 3) rfl ⟨by kernel_rfl, by kernel_rfl, by kernel_rfl⟩ trivial (ref_Bit_ok h156) (by kernel_rfl) ?_
          refine WO_fin [1, 2, 3, 4, 9, 10, 11, 12, 27] [4] (fr' := [(1, aI a1), (2, aI a2), (3, aI x58.1), (4, .one (.ptr 4 0)), (9, aI x58.2.1), (10, aI x58.2.2.1), (11, aI x58.2.2.2), (12, aI (0 : Int)), (27, aB r155)]) (L' := [(4, .one (.pair tI (.pair tI (.slice (.slice (.pair tI (.pair tI tI)))))) a0)]) (by kernel_rfl) (by kernel_rfl) ?_
          refine seqQ_norm ?_
          refine W_cond (o := .tmp 27) (b := r155) (by kernel_rfl) (by kernel_rfl) (fun h157 => ?_) (fun h157 => ?_)
          · replace h := ofT h157 h
            obtain rfl := Option.some.inj h
            refine W_run 1 [] [1, 2, 3, 4, 9, 10, 11, 12] [4] (fr' := [(1, aI a1), (2, aI a2), (3, aI x58.1), (4, .one (.ptr 4 0)), (9, aI x58.2.1), (10, aI x58.2.2.1), (11, aI x58.2.2.2), (12, aI (1 : Int))]) (L' := [(4, .one (.pair tI (.pair tI (.slice (.slice (.pair tI (.pair tI tI)))))) a0)]) (obs := []) (by kernel_rfl) (by kernel_rfl) (by kernel_rfl) allP0 ?_
            exact exQ_mk (by kernel_rfl) (by kernel_rfl)
          · replace h := ofF h157 h
            obtain rfl := Option.some.inj h
            refine W_skip [1, 2, 3, 4, 9, 10, 11, 12] [4] (fr' := [(1, aI a1), (2, aI a2), (3, aI x58.1), (4, .one (.ptr 4 0)), (9, aI x58.2.1), (10, aI x58.2.2.1), (11, aI x58.2.2.2), (12, aI (0 : Int))]) (L' := [(4, .one (.pair tI (.pair tI (.slice (.slice (.pair tI (.pair tI tI)))))) a0)]) (by kernel_rfl) (by kernel_rfl) ?_
            exact exQ_mk (by kernel_rfl) (by kernel_rfl)
        · intro e fr L hJ
          obtain ⟨rfl, rfl, rfl⟩ := hJ
          refine LT_keep [1, 2, 3, 4, 9, 10, 11, 12] [4] (fr' := [(1, aI a1), (2, aI a2), (3, aI x58.1), (4, .one (.ptr 4 0)), (9, aI x58.2.1), (10, aI x58.2.2.1), (11, aI x58.2.2.2), (12, aI v158)]) (L' := [(4, .one (.pair tI (.pair tI (.slice (.slice (.pair tI (.pair tI tI)))))) a0)]) (by kernel_rfl) ?_
          refine seqQ_norm ?_
          refine W_seq (by kernel_rfl) ?_
          obtain ⟨v160, h161, h⟩ := bind_of h
          obtain ⟨v162, h163, h⟩ := bind_of h
          refine W_run 10 [(7, .val (.dat (.slice (.pair tI (.pair tI tI))) v160)), (13, .val (.dat (.pair tI (.pair tI tI)) v162)), (17, .typed)] [1, 2, 3, 4, 9, 11, 12, 13] [4, 13] (fr' := [(1, aI a1), (2, aI a2), (3, aI x58.1), (4, .one (.ptr 4 0)), (9, aI x58.2.1), (11, aI x58.2.2.2), (12, aI v158), (13, .one (.ptr 13 0))]) (L' := [(4, .one (.pair tI (.pair tI (.slice (.slice (.pair tI (.pair tI tI)))))) a0), (13, .one (.pair tI (.pair tI tI)) v162)]) (obs := [Idx a0.2.2 x58.2.2.1 v160, Idx v160 v158 v162, True]) (by kernel_rfl) (by kernel_rfl) (by kernel_rfl) (allP2 (Idx.of h161) (allP2 (Idx.of h163) (allP1 trivial))) ?_
          refine seqQ_norm ?_
          refine W_seq (by kernel_rfl) ?_
          obtain ⟨_, h164, h⟩ := bind_of h
          replace h164 := ck_some h164
          refine W_run 13 [] [1, 2, 3, 4, 9, 11, 13] [4, 13] (fr' := [(1, aI a1), (2, aI a2), (3, aI (w64 ((w64 (x58.1 - (bShl .i64 v158 (IntKind.wrap .u64 (x58.2.1))))) + (bShl .i64 v162.1 (IntKind.wrap .u64 (x58.2.1)))))), (4, .one (.ptr 4 0)), (9, aI x58.2.1), (11, aI x58.2.2.2), (13, .one (.ptr 13 0))]) (L' := [(4, .one (.pair tI (.pair tI (.slice (.slice (.pair tI (.pair tI tI)))))) a0), (13, .one (.pair tI (.pair tI tI)) v162)]) (obs := [(0 ≤ IntKind.wrap .u64 (x58.2.1)), (0 ≤ IntKind.wrap .u64 (x58.2.1))]) (by kernel_rfl) (by kernel_rfl) (by kernel_rfl) (allP2 h164 (allP1 h164)) ?_
          refine seqQ_norm ?_
          refine W_seq (by kernel_rfl) ?_
          refine W_run 5 [] [1, 2, 3, 4, 9, 11, 13] [4, 13] (fr' := [(1, aI a1), (2, aI a2), (3, aI (w64 ((w64 (x58.1 - (bShl .i64 v158 (IntKind.wrap .u64 (x58.2.1))))) + (bShl .i64 v162.1 (IntKind.wrap .u64 (x58.2.1)))))), (4, .one (.ptr 4 0)), (9, aI (w64 (x58.2.1 + v162.2.1))), (11, aI x58.2.2.2), (13, .one (.ptr 13 0))]) (L' := [(4, .one (.pair tI (.pair tI (.slice (.slice (.pair tI (.pair tI tI)))))) a0), (13, .one (.pair tI (.pair tI tI)) v162)]) (obs := []) (by kernel_rfl) (by kernel_rfl) (by kernel_rfl) allP0 ?_
          refine seqQ_norm ?_
          refine W_seq (by kernel_rfl) ?_
          obtain ⟨v168, h169, h⟩ := bind_of h
          refine W_cutK (Q' := (exQ .normal (ref_Asked_s19 a0 a1 a2 x58 v158 v162)) v168) ?_ ?_
          · replace h := h169
            refine W_seq (by kernel_rfl) ?_
            refine W_run 2 [] [1, 2, 3, 4, 9, 11, 13, 53] [4, 13] (fr' := [(1, aI a1), (2, aI a2), (3, aI (w64 ((w64 (x58.1 - (bShl .i64 v158 (IntKind.wrap .u64 (x58.2.1))))) + (bShl .i64 v162.1 (IntKind.wrap .u64 (x58.2.1)))))), (4, .one (.ptr 4 0)), (9, aI (w64 (x58.2.1 + v162.2.1))), (11, aI x58.2.2.2), (13, .one (.ptr 13 0)), (53, aB (decide ((w64 (x58.2.1 + v162.2.1)) < (0 : Int))))]) (L' := [(4, .one (.pair tI (.pair tI (.slice (.slice (.pair tI (.pair tI tI)))))) a0), (13, .one (.pair tI (.pair tI tI)) v162)]) (obs := []) (by kernel_rfl) (by kernel_rfl) (by kernel_rfl) allP0 ?_
            refine seqQ_norm ?_
            refine W_cond (o := .tmp 53) (b := decide ((w64 (x58.2.1 + v162.2.1)) < (0 : Int))) (by kernel_rfl) (by kernel_rfl) (fun h167 => ?_) (fun h167 => ?_)
            · replace h := ofT h167 h
              obtain rfl := Option.some.inj h
              refine W_run 1 [] [1, 2, 3, 4, 9, 11, 13] [4, 13] (fr' := [(1, aI a1), (2, aI a2), (3, aI (w64 ((w64 (x58.1 - (bShl .i64 v158 (IntKind.wrap .u64 (x58.2.1))))) + (bShl .i64 v162.1 (IntKind.wrap .u64 (x58.2.1)))))), (4, .one (.ptr 4 0)), (9, aI (0 : Int)), (11, aI x58.2.2.2), (13, .one (.ptr 13 0))]) (L' := [(4, .one (.pair tI (.pair tI (.slice (.slice (.pair tI (.pair tI tI)))))) a0), (13, .one (.pair tI (.pair tI tI)) v162)]) (obs := []) (by kernel_rfl) (by kernel_rfl) (by kernel_rfl) allP0 ?_
              exact exQ_mk (by kernel_rfl) (by kernel_rfl)
            · replace h := ofF h167 h
              obtain rfl := Option.some.inj h
              refine W_skip [1, 2, 3, 4, 9, 11, 13] [4, 13] (fr' := [(1, aI a1), (2, aI a2), (3, aI (w64 ((w64 (x58.1 - (bShl .i64 v158 (IntKind.wrap .u64 (x58.2.1))))) + (bShl .i64 v162.1 (IntKind.wrap .u64 (x58.2.1)))))), (4, .one (.ptr 4 0)), (9, aI (w64 (x58.2.1 + v162.2.1))), (11, aI x58.2.2.2), (13, .one (.ptr 13 0))]) (L' := [(4, .one (.pair tI (.pair tI (.slice (.slice (.pair tI (.pair tI tI)))))) a0), (13, .one (.pair tI (.pair tI tI)) v162)]) (by kernel_rfl) (by kernel_rfl) ?_
              exact exQ_mk (by kernel_rfl) (by kernel_rfl)
          · intro e fr L hJ
            obtain ⟨rfl, rfl, rfl⟩ := hJ
            refine LT_keep [1, 2, 3, 4, 9, 11, 13] [4, 13] (fr' := [(1, aI a1), (2, aI a2), (3, aI (w64 ((w64 (x58.1 - (bShl .i64 v158 (IntKind.wrap .u64 (x58.2.1))))) + (bShl .i64 v162.1 (IntKind.wrap .u64 (x58.2.1)))))), (4, .one (.ptr 4 0)), (9, aI v168), (11, aI x58.2.2.2), (13, .one (.ptr 13 0))]) (L' := [(4, .one (.pair tI (.pair tI (.slice (.slice (.pair tI (.pair tI tI)))))) a0), (13, .one (.pair tI (.pair tI tI)) v162)]) (by kernel_rfl) ?_
            refine seqQ_norm ?_
            refine W_seq (by kernel_rfl) ?_
            obtain ⟨v173, h174, h⟩ := bind_of h
            refine W_cutK (Q' := (exQ .normal (ref_Asked_s18 a0 a1 a2 x58 v158 v162)) v173) ?_ ?_
            · replace h := h174
              refine W_seq (by kernel_rfl) ?_
              refine W_run 3 [] [1, 2, 3, 4, 9, 11, 13, 56] [4, 13] (fr' := [(1, aI a1), (2, aI a2), (3, aI (w64 ((w64 (x58.1 - (bShl .i64 v158 (IntKind.wrap .u64 (x58.2.1))))) + (bShl .i64 v162.1 (IntKind.wrap .u64 (x58.2.1)))))), (4, .one (.ptr 4 0)), (9, aI v168), (11, aI x58.2.2.2), (13, .one (.ptr 13 0)), (56, aB (decide (v168 ≥ a1)))]) (L' := [(4, .one (.pair tI (.pair tI (.slice (.slice (.pair tI (.pair tI tI)))))) a0), (13, .one (.pair tI (.pair tI tI)) v162)]) (obs := []) (by kernel_rfl) (by kernel_rfl) (by kernel_rfl) allP0 ?_
              refine seqQ_norm ?_
              refine W_cond (o := .tmp 56) (b := decide (v168 ≥ a1)) (by kernel_rfl) (by kernel_rfl) (fun h172 => ?_) (fun h172 => ?_)
              · replace h := ofT h172 h
                obtain rfl := Option.some.inj h
                refine W_run 3 [] [1, 2, 3, 4, 9, 11, 13] [4, 13] (fr' := [(1, aI a1), (2, aI a2), (3, aI (w64 ((w64 (x58.1 - (bShl .i64 v158 (IntKind.wrap .u64 (x58.2.1))))) + (bShl .i64 v162.1 (IntKind.wrap .u64 (x58.2.1)))))), (4, .one (.ptr 4 0)), (9, aI (w64 (a1 - (1 : Int)))), (11, aI x58.2.2.2), (13, .one (.ptr 13 0))]) (L' := [(4, .one (.pair tI (.pair tI (.slice (.slice (.pair tI (.pair tI tI)))))) a0), (13, .one (.pair tI (.pair tI tI)) v162)]) (obs := []) (by kernel_rfl) (by kernel_rfl) (by kernel_rfl) allP0 ?_
                exact exQ_mk (by kernel_rfl) (by kernel_rfl)
              · replace h := ofF h172 h
                obtain rfl := Option.some.inj h
                refine W_skip [1, 2, 3, 4, 9, 11, 13] [4, 13] (fr' := [(1, aI a1), (2, aI a2), (3, aI (w64 ((w64 (x58.1 - (bShl .i64 v158 (IntKind.wrap .u64 (x58.2.1))))) + (bShl .i64 v162.1 (IntKind.wrap .u64 (x58.2.1)))))), (4, .one (.ptr 4 0)), (9, aI v168), (11, aI x58.2.2.2), (13, .one (.ptr 13 0))]) (L' := [(4, .one (.pair tI (.pair tI (.slice (.slice (.pair tI (.pair tI tI)))))) a0), (13, .one (.pair tI (.pair tI tI)) v162)]) (by kernel_rfl) (by kernel_rfl) ?_
                exact exQ_mk (by kernel_rfl) (by kernel_rfl)
            · intro e fr L hJ
              obtain ⟨rfl, rfl, rfl⟩ := hJ
              refine LT_keep [1, 2, 3, 4, 9, 11, 13] [4, 13] (fr' := [(1, aI a1), (2, aI a2), (3, aI (w64 ((w64 (x58.1 - (bShl .i64 v158 (IntKind.wrap .u64 (x58.2.1))))) + (bShl .i64 v162.1 (IntKind.wrap .u64 (x58.2.1)))))), (4, .one (.ptr 4 0)), (9, aI v173), (11, aI x58.2.2.2), (13, .one (.ptr 13 0))]) (L' := [(4, .one (.pair tI (.pair tI (.slice (.slice (.pair tI (.pair tI tI)))))) a0), (13, .one (.pair tI (.pair tI tI)) v162)]) (by kernel_rfl) ?_
              refine seqQ_norm ?_
              refine W_run 3 [] [1, 2, 3, 4, 9, 10, 11] [4] (fr' := [(1, aI a1), (2, aI a2), (3, aI (w64 ((w64 (x58.1 - (bShl .i64 v158 (IntKind.wrap .u64 (x58.2.1))))) + (bShl .i64 v162.1 (IntKind.wrap .u64 (x58.2.1)))))), (4, .one (.ptr 4 0)), (9, aI v173), (10, aI v162.2.2), (11, aI x58.2.2.2)]) (L' := [(4, .one (.pair tI (.pair tI (.slice (.slice (.pair tI (.pair tI tI)))))) a0)]) (obs := []) (by kernel_rfl) (by kernel_rfl) (by kernel_rfl) allP0 ?_
              refine blockQ_norm ?_
              refine seqQ_norm ?_
              obtain rfl := Option.some.inj h
              refine W_run 3 [] [1, 2, 3, 4, 9, 10, 11] [4] (fr' := [(1, aI a1), (2, aI a2), (3, aI (w64 ((w64 (x58.1 - (bShl .i64 v158 (IntKind.wrap .u64 (x58.2.1))))) + (bShl .i64 v162.1 (IntKind.wrap .u64 (x58.2.1)))))), (4, .one (.ptr 4 0)), (9, aI v173), (10, aI v162.2.2), (11, aI (w64 (x58.2.2.2 + (1 : Int))))]) (L' := [(4, .one (.pair tI (.pair tI (.slice (.slice (.pair tI (.pair tI tI)))))) a0)]) (obs := []) (by kernel_rfl) (by kernel_rfl) (by kernel_rfl) allP0 ?_
              exact round_next' (by kernel_rfl) (by kernel_rfl)
      · replace h := ofF h122 h
        obtain rfl := Option.some.inj h
        refine W_exit (id := 0) [3, 4, 9, 10] [4] (fr' := [(3, aI x58.1), (4, .one (.ptr 4 0)), (9, aI x58.2.1), (10, aI x58.2.2.1)]) (L' := [(4, .one (.pair tI (.pair tI (.slice (.slice (.pair tI (.pair tI tI)))))) a0)]) (by kernel_rfl) (by kernel_rfl) ?_
        refine seqQ_exit ?_
        refine round_exit ?_
        exact exQ_mk (by kernel_rfl) (by kernel_rfl)
  · intro e fr L hJ
    obtain ⟨rfl, rfl, rfl⟩ := hJ
    refine LT_keep [3, 4, 9, 10] [4] (fr' := [(3, aI v175.1), (4, .one (.ptr 4 0)), (9, aI v175.2.1), (10, aI v175.2.2)]) (L' := [(4, .one (.pair tI (.pair tI (.slice (.slice (.pair tI (.pair tI tI)))))) a0)]) (by kernel_rfl) ?_
    refine blockQ_hit ?_
    refine seqQ_norm ?_
    refine W_seq (by kernel_rfl) ?_
    obtain ⟨v188, h189, h⟩ := bind_of h
    refine W_cutK (Q' := (exQ .normal ref_Asked_s25) v188) ?_ ?_
    · replace h := h189
      refine W_region (by kernel_rfl) ?_
      refine WO_run (j := 5) (k := 5) (orcs := []) (kF := [3, 9, 65]) (kL := [4]) (fr' := [(3, aI v175.1), (9, aI v175.2.1), (65, aB (v175.2.2 == a0.1))]) (L' := [(4, .one (.pair tI (.pair tI (.slice (.slice (.pair tI (.pair tI tI)))))) a0)]) (obs := []) rfl (by kernel_rfl) allP0 ?_
      rcases Bool.eq_false_or_eq_true (v175.2.2 == a0.1) with h185 | h185
      · replace h := ofT h185 h
        refine WO_run (j := 7) (k := 2) (orcs := [(10, .known true), (12, .known true)]) (kF := [65, 66, 67]) (kL := [4]) (fr' := [(65, aB (v175.2.2 == a0.1)), (66, aI v175.1), (67, aI v175.2.1)]) (L' := [(4, .one (.pair tI (.pair tI (.slice (.slice (.pair tI (.pair tI tI)))))) a0)]) (obs := [((v175.2.2 == a0.1) = true), ((v175.2.2 == a0.1) = true)]) rfl (by kernel_rfl) (allP2 h185 (allP1 h185)) ?_
        obtain ⟨r186, h187, h⟩ := bind_of h
        refine WO_call0 (us := [none, none]) (d := 68) (p := ((v175.2.2 == a0.1) = true)) (j := 8) rfl ⟨by kernel_rfl, by kernel_rfl, by kernel_rfl⟩ h185 (ref_Bit_ok h187) (by kernel_rfl) ?_
        refine WO_run (j := 10) (k := 2) (orcs := [(17, .val (.dat .bool true))]) (kF := [8]) (kL := [4]) (fr' := [(8, aB r186)]) (L' := [(4, .one (.pair tI (.pair tI (.slice (.slice (.pair tI (.pair tI tI)))))) a0)]) (obs := [((v175.2.2 == a0.1) = true)]) rfl (by kernel_rfl) (allP1 h185) ?_
        obtain rfl := Option.some.inj h
        refine WO_fin [8] [] (fr' := [(8, aB r186)]) (L' := []) (by kernel_rfl) (by kernel_rfl) ?_
        exact exQ_mk (by kernel_rfl) (by kernel_rfl)
      · replace h := ofF h185 h
        refine WO_run (j := 10) (k := 5) (orcs := [(10, .known false), (12, .known false), (14, .known false), (17, .val (.dat .bool false))]) (kF := [8]) (kL := [4]) (fr' := [(8, aB false)]) (L' := [(4, .one (.pair tI (.pair tI (.slice (.slice (.pair tI (.pair tI tI)))))) a0)]) (obs := [((v175.2.2 == a0.1) = false), ((v175.2.2 == a0.1) = false), ((v175.2.2 == a0.1) = false), ((v175.2.2 == a0.1) = false)]) rfl (by kernel_rfl) (allP2 h185 (allP2 h185 (allP2 h185 (allP1 h185)))) ?_
        obtain rfl := Option.some.inj h
        refine WO_fin [8] [] (fr' := [(8, aB false)]) (L' := []) (by kernel_rfl) (by kernel_rfl) ?_
        exact exQ_mk (by kernel_rfl) (by kernel_rfl)
    · intro e fr L hJ
      obtain ⟨rfl, rfl, rfl⟩ := hJ
      refine LT_keep [8] [] (fr' := [(8, aB v188)]) (L' := []) (by kernel_rfl) ?_
      refine seqQ_norm ?_
      obtain rfl := Option.some.inj h
      refine W_ret [8] [] (fr' := [(8, aB v188)]) (L' := []) (by kernel_rfl) (by kernel_rfl) ?_
      exact retQ_mk (by kernel_rfl) (by kernel_rfl) (by kernel_rfl)

@[reducible] def law_UnrollAsks_s1 (v : Bool) : Fr × LL := ([(8, aB v)], [])
@[reducible] def law_UnrollAsks_s2 (a0 : (Int × (Int × (List (List (Int × (Int × Int))))))) (a1 : Int) (a2 : Int) (a3 : (List Bool)) (r1 : (Bool × Int)) (v : Int) : Fr × LL := ([(1, aI a1), (2, aI a2), (3, aD (.slice .bool) a3), (4, .one (.ptr 4 0)), (9, aB r1.1), (10, aI r1.2), (11, aI v)], [(4, .one (.pair tI (.pair tI (.slice (.slice (.pair tI (.pair tI tI)))))) a0)])
def law_UnrollAsks (fuel : Nat) (a0 : (Int × (Int × (List (List (Int × (Int × Int))))))) (a1 : Int) (a2 : Int) (a3 : (List Bool)) : Option Bool :=
(unroll_Ask fuel a0 a1 a2 a3).bind fun r1 =>
(ref_UnrollCheck a0 a1 a2).bind fun r3 =>
(bif (r3 == (0 : Int)) && ((List.length a3 : Int) != a1) then
(some (2 : Int))
else
(some r3)).bind fun v8 =>
bif v8 != (0 : Int) then
(some ((r1.2 == v8) && (!r1.1)))
else
((bif r1.2 == (0 : Int) then
((ref_Word a3).bind fun r22 =>
(ref_Asked fuel a0 a1 a2 r22).bind fun r24 =>
some (r1.1 == r24))
else
(some false)).bind fun v26 =>
some v26)
theorem law_UnrollAsks_ok {fuel : Nat} {a0 : (Int × (Int × (List (List (Int × (Int × Int))))))} {a1 : Int} {a2 : Int} {a3 : (List Bool)} {r : Bool} (h : law_UnrollAsks fuel a0 a1 a2 a3 = some r) : FnC Try.prog 3 [aD (.pair tI (.pair tI (.slice (.slice (.pair tI (.pair tI tI)))))) a0, aI a1, aI a2, aD (.slice .bool) a3] [] (aB r) [] := by
  refine fnC_of_W (B := bodyOf Try.f3) (n := 53) Try.func3 (by kernel_rfl) (by kernel_rfl) (by kernel_rfl) (by kernel_rfl) (by kernel_rfl) ?_
  intro K
  refine W_seq (by kernel_rfl) ?_
  refine W_run 2 [] [1, 2, 3, 4] [4] (fr' := [(1, aI a1), (2, aI a2), (3, aD (.slice .bool) a3), (4, .one (.ptr 4 0))]) (L' := [(4, .one (.pair tI (.pair tI (.slice (.slice (.pair tI (.pair tI tI)))))) a0)]) (obs := []) (by kernel_rfl) (by kernel_rfl) (by kernel_rfl) allP0 ?_
  refine seqQ_norm ?_
  refine W_seq (by kernel_rfl) ?_
  refine W_region (by kernel_rfl) ?_
  refine WO_run (j := 4) (k := 4) (orcs := []) (kF := [1, 2, 3, 4, 13, 14, 15, 16]) (kL := [4]) (fr' := [(1, aI a1), (2, aI a2), (3, aD (.slice .bool) a3), (4, .one (.ptr 4 0)), (13, aD (.pair tI (.pair tI (.slice (.slice (.pair tI (.pair tI tI)))))) a0), (14, aI a1), (15, aI a2), (16, aD (.slice .bool) a3)]) (L' := [(4, .one (.pair tI (.pair tI (.slice (.slice (.pair tI (.pair tI tI)))))) a0)]) (obs := []) rfl (by kernel_rfl) allP0 ?_
  obtain ⟨r1, h2, h⟩ := bind_of h
  refine WO_call0 (us := [none, none, none, none]) (d := 17) (p := True) (j := 5) rfl ⟨by kernel_rfl, by kernel_rfl, by kernel_rfl⟩ trivial (unroll_Ask_ok h2) (by kernel_rfl) ?_
  refine WO_run (j := 10) (k := 5) (orcs := []) (kF := [1, 2, 3, 4, 9, 10]) (kL := [4]) (fr' := [(1, aI a1), (2, aI a2), (3, aD (.slice .bool) a3), (4, .one (.ptr 4 0)), (9, aB r1.1), (10, aI r1.2)]) (L' := [(4, .one (.pair tI (.pair tI (.slice (.slice (.pair tI (.pair tI tI)))))) a0)]) (obs := []) rfl (by kernel_rfl) allP0 ?_
  refine WO_fin [1, 2, 3, 4, 9, 10] [4] (fr' := [(1, aI a1), (2, aI a2), (3, aD (.slice .bool) a3), (4, .one (.ptr 4 0)), (9, aB r1.1), (10, aI r1.2)]) (L' := [(4, .one (.pair tI (.pair tI (.slice (.slice (.pair tI (.pair tI tI)))))) a0)]) (by kernel_rfl) (by kernel_rfl) ?_
  refine seqQ_norm ?_
  refine W_seq (by kernel_rfl) ?_
  refine W_region (by kernel_rfl) ?_
  refine WO_run (j := 3) (k := 3) (orcs := []) (kF := [1, 2, 3, 4, 9, 10, 20, 21, 22]) (kL := [4]) (fr' := [(1, aI a1), (2, aI a2), (3, aD (.slice .bool) a3), (4, .one (.ptr 4 0)), (9, aB r1.1), (10, aI r1.2), (20, aD (.pair tI (.pair tI (.slice (.slice (.pair tI (.pair tI tI)))))) a0), (21, aI a1), (22, aI a2)]) (L' := [(4, .one (.pair tI (.pair tI (.slice (.slice (.pair tI (.pair tI tI)))))) a0)]) (obs := []) rfl (by kernel_rfl) allP0 ?_
  obtain ⟨r3, h4, h⟩ := bind_of h
  refine WO_call0 (us := [none, none, none]) (d := 23) (p := True) (j := 4) rfl ⟨by kernel_rfl, by kernel_rfl, by kernel_rfl⟩ trivial (ref_UnrollCheck_ok h4) (by kernel_rfl) ?_
  refine WO_run (j := 5) (k := 1) (orcs := []) (kF := [1, 2, 3, 4, 9, 10, 11]) (kL := [4]) (fr' := [(1, aI a1), (2, aI a2), (3, aD (.slice .bool) a3), (4, .one (.ptr 4 0)), (9, aB r1.1), (10, aI r1.2), (11, aI r3)]) (L' := [(4, .one (.pair tI (.pair tI (.slice (.slice (.pair tI (.pair tI tI)))))) a0)]) (obs := []) rfl (by kernel_rfl) allP0 ?_
  refine WO_fin [1, 2, 3, 4, 9, 10, 11] [4] (fr' := [(1, aI a1), (2, aI a2), (3, aD (.slice .bool) a3), (4, .one (.ptr 4 0)), (9, aB r1.1), (10, aI r1.2), (11, aI r3)]) (L' := [(4, .one (.pair tI (.pair tI (.slice (.slice (.pair tI (.pair tI tI)))))) a0)]) (by kernel_rfl) (by kernel_rfl) ?_
  refine seqQ_norm ?_
  refine W_seq (by kernel_rfl) ?_
  obtain ⟨v8, h9, h⟩ := bind_of h
  refine W_cutK (Q' := (exQ .normal (law_UnrollAsks_s2 a0 a1 a2 a3 r1)) v8) ?_ ?_
  · replace h := h9
    refine W_seq (by kernel_rfl) ?_
    refine W_run 8 [] [1, 2, 3, 4, 9, 10, 11, 31] [4] (fr' := [(1, aI a1), (2, aI a2), (3, aD (.slice .bool) a3), (4, .one (.ptr 4 0)), (9, aB r1.1), (10, aI r1.2), (11, aI r3), (31, aB ((r3 == (0 : Int)) && ((List.length a3 : Int) != a1)))]) (L' := [(4, .one (.pair tI (.pair tI (.slice (.slice (.pair tI (.pair tI tI)))))) a0)]) (obs := []) (by kernel_rfl) (by kernel_rfl) (by kernel_rfl) allP0 ?_
    refine seqQ_norm ?_
    refine W_cond (o := .tmp 31) (b := (r3 == (0 : Int)) && ((List.length a3 : Int) != a1)) (by kernel_rfl) (by kernel_rfl) (fun h7 => ?_) (fun h7 => ?_)
    · replace h := ofT h7 h
      obtain rfl := Option.some.inj h
      refine W_run 1 [] [1, 2, 3, 4, 9, 10, 11] [4] (fr' := [(1, aI a1), (2, aI a2), (3, aD (.slice .bool) a3), (4, .one (.ptr 4 0)), (9, aB r1.1), (10, aI r1.2), (11, aI (2 : Int))]) (L' := [(4, .one (.pair tI (.pair tI (.slice (.slice (.pair tI (.pair tI tI)))))) a0)]) (obs := []) (by kernel_rfl) (by kernel_rfl) (by kernel_rfl) allP0 ?_
      exact exQ_mk (by kernel_rfl) (by kernel_rfl)
    · replace h := ofF h7 h
      obtain rfl := Option.some.inj h
      refine W_skip [1, 2, 3, 4, 9, 10, 11] [4] (fr' := [(1, aI a1), (2, aI a2), (3, aD (.slice .bool) a3), (4, .one (.ptr 4 0)), (9, aB r1.1), (10, aI r1.2), (11, aI r3)]) (L' := [(4, .one (.pair tI (.pair tI (.slice (.slice (.pair tI (.pair tI tI)))))) a0)]) (by kernel_rfl) (by kernel_rfl) ?_
      exact exQ_mk (by kernel_rfl) (by kernel_rfl)
  · intro e fr L hJ
    obtain ⟨rfl, rfl, rfl⟩ := hJ
    refine LT_keep [1, 2, 3, 4, 9, 10, 11] [4] (fr' := [(1, aI a1), (2, aI a2), (3, aD (.slice .bool) a3), (4, .one (.ptr 4 0)), (9, aB r1.1), (10, aI r1.2), (11, aI v8)]) (L' := [(4, .one (.pair tI (.pair tI (.slice (.slice (.pair tI (.pair tI tI)))))) a0)]) (by kernel_rfl) ?_
    refine seqQ_norm ?_
    refine W_seq (by kernel_rfl) ?_
    refine W_seq (by kernel_rfl) ?_
    refine W_run 2 [] [1, 2, 3, 4, 9, 10, 11, 33] [4] (fr' := [(1, aI a1), (2, aI a2), (3, aD (.slice .bool) a3), (4, .one (.ptr 4 0)), (9, aB r1.1), (10, aI r1.2), (11, aI v8), (33, aB (v8 != (0 : Int)))]) (L' := [(4, .one (.pair tI (.pair tI (.slice (.slice (.pair tI (.pair tI tI)))))) a0)]) (obs := []) (by kernel_rfl) (by kernel_rfl) (by kernel_rfl) allP0 ?_
    refine seqQ_norm ?_
    refine W_cond (o := .tmp 33) (b := v8 != (0 : Int)) (by kernel_rfl) (by kernel_rfl) (fun h10 => ?_) (fun h10 => ?_)
    · replace h := ofT h10 h
      refine W_seq (by kernel_rfl) ?_
      refine W_run 8 [] [8] [] (fr' := [(8, aB ((r1.2 == v8) && (!r1.1)))]) (L' := []) (obs := []) (by kernel_rfl) (by kernel_rfl) (by kernel_rfl) allP0 ?_
      refine seqQ_norm ?_
      obtain rfl := Option.some.inj h
      refine W_ret [8] [] (fr' := [(8, aB ((r1.2 == v8) && (!r1.1)))]) (L' := []) (by kernel_rfl) (by kernel_rfl) ?_
      refine seqQ_ret ?_
      exact retQ_mk (by kernel_rfl) (by kernel_rfl) (by kernel_rfl)
    · replace h := ofF h10 h
      refine W_skip [1, 2, 3, 4, 9, 10] [4] (fr' := [(1, aI a1), (2, aI a2), (3, aD (.slice .bool) a3), (4, .one (.ptr 4 0)), (9, aB r1.1), (10, aI r1.2)]) (L' := [(4, .one (.pair tI (.pair tI (.slice (.slice (.pair tI (.pair tI tI)))))) a0)]) (by kernel_rfl) (by kernel_rfl) ?_
      refine seqQ_norm ?_
      refine W_seq (by kernel_rfl) ?_
      obtain ⟨v26, h27, h⟩ := bind_of h
      refine W_cutK (Q' := (exQ .normal law_UnrollAsks_s1) v26) ?_ ?_
      · replace h := h27
        rcases Bool.eq_false_or_eq_true (r1.2 == (0 : Int)) with h21 | h21
        · replace h := ofT h21 h
          obtain ⟨r22, h23, h⟩ := bind_of h
          obtain ⟨r24, h25, h⟩ := bind_of h
          obtain rfl := Option.some.inj h
          refine W_draw2 12 [(6, .known true), (8, .known true), (10, .known true), (12, .known true), (14, .known true), (20, .known true), (23, .val (.dat .bool true))] [(8, [none], aI r22), (9, [none, none, none, none], aB r24)] [8] [] (fr' := [(8, aB (r1.1 == r24))]) (L' := []) (out := [(41, aI r1.2), (42, aB (r1.2 == (0 : Int))), (43, aB (r1.2 == (0 : Int))), (44, aB r1.1), (45, aD (.pair tI (.pair tI (.slice (.slice (.pair tI (.pair tI tI)))))) a0), (46, aI a1), (47, aI a2), (48, aD (.slice .bool) a3), (49, aI r22), (50, aB r24), (51, aB (r1.1 == r24)), (52, aB (r1.1 == r24))]) (obs := [((r1.2 == (0 : Int)) = true), ((r1.2 == (0 : Int)) = true), ((r1.2 == (0 : Int)) = true), ((r1.2 == (0 : Int)) = true), ((r1.2 == (0 : Int)) = true), ((r1.2 == (0 : Int)) = true), ((r1.2 == (0 : Int)) = true), ((r1.2 == (0 : Int)) = true), ((r1.2 == (0 : Int)) = true)]) (obs2 := []) (calls := [(12, [aD (.slice .bool) a3], aI r22), (11, [aD (.pair tI (.pair tI (.slice (.slice (.pair tI (.pair tI tI)))))) a0, aI a1, aI a2, aI r22], aB r24)]) (by kernel_rfl) (by kernel_rfl) (by kernel_rfl) (by kernel_rfl) (allP2 h21 (allP2 h21 (allP2 h21 (allP2 h21 (allP2 h21 (allP2 h21 (allP2 h21 (allP2 h21 (allP1 h21))))))))) (allC1 (by kernel_rfl) (ref_Word_ok h23) (by kernel_rfl) (allC1 (by kernel_rfl) (ref_Asked_ok h25) (by kernel_rfl) allC0)) (by kernel_rfl) allP0 ?_
          exact exQ_mk (by kernel_rfl) (by kernel_rfl)
        · replace h := ofF h21 h
          obtain rfl := Option.some.inj h
          refine W_draw2 12 [(6, .known false), (8, .known false), (10, .known false), (12, .known false), (14, .known false), (16, .known false), (18, .known false), (20, .known false), (23, .val (.dat .bool false))] [] [8] [] (fr' := [(8, aB false)]) (L' := []) (out := [(41, aI r1.2), (42, aB (r1.2 == (0 : Int))), (43, aB (r1.2 == (0 : Int))), (44, .tup []), (45, .tup []), (46, .tup []), (47, .tup []), (48, .tup []), (49, .tup []), (50, .tup []), (51, .tup []), (52, aB false)]) (obs := [((r1.2 == (0 : Int)) = false), ((r1.2 == (0 : Int)) = false), ((r1.2 == (0 : Int)) = false), ((r1.2 == (0 : Int)) = false), ((r1.2 == (0 : Int)) = false), ((r1.2 == (0 : Int)) = false), ((r1.2 == (0 : Int)) = false), ((r1.2 == (0 : Int)) = false), ((r1.2 == (0 : Int)) = false)]) (obs2 := []) (calls := []) (by kernel_rfl) (by kernel_rfl) (by kernel_rfl) (by kernel_rfl) (allP2 h21 (allP2 h21 (allP2 h21 (allP2 h21 (allP2 h21 (allP2 h21 (allP2 h21 (allP2 h21 (allP1 h21))))))))) allC0 (by kernel_rfl) allP0 ?_
          exact exQ_mk (by kernel_rfl) (by kernel_rfl)
      · intro e fr L hJ
        obtain ⟨rfl, rfl, rfl⟩ := hJ
        refine LT_keep [8] [] (fr' := [(8, aB v26)]) (L' := []) (by kernel_rfl) ?_
        refine seqQ_norm ?_
        obtain rfl := Option.some.inj h
        refine W_ret [8] [] (fr' := [(8, aB v26)]) (L' := []) (by kernel_rfl) (by kernel_rfl) ?_
        exact retQ_mk (by kernel_rfl) (by kernel_rfl) (by kernel_rfl)
end Go.Proofs.Ytnkeccbcboplnaa.unrollAsks
