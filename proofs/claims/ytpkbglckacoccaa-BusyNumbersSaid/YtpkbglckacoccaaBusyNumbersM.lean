/- What the functions that BusyNumbers calls compute, as models, and that they compute it: written by a program of mine. -/
import Derived.Test.YtpkbglckacoccaaProg
import Derived.Test.YtpkbglckacoccaaSl4
set_option linter.all false
set_option maxRecDepth 100000
namespace Go.Proofs.Ytpkbglckacoccaa.busyNumbers
open Go Go.Sl
def tape_Check_1 (a0 : (List (Int × (Int × Int)))) (c0 : (Int × (Int × (List (List (Int × (Int × Int))))))) : Option Bool :=
some ((List.length a0 : Int) != c0.2.1)
theorem tape_Check_1_ok {a0 : (List (Int × (Int × Int)))} {c0 : (Int × (Int × (List (List (Int × (Int × Int))))))} {r : Bool} (h : tape_Check_1 a0 c0 = some r) : FnC Try.prog 57 [aD (.slice (.pair tI (.pair tI tI))) a0, .one (.ptr 1000 0)] [(1000, .one (.pair tI (.pair tI (.slice (.slice (.pair tI (.pair tI tI)))))) c0)] (aB r) [(1000, .one (.pair tI (.pair tI (.slice (.slice (.pair tI (.pair tI tI)))))) c0)] := by
  refine fnC_of_W (B := bodyOf Try.f57) (n := 9) Try.func57 (by kernel_rfl) (by kernel_rfl) (by kernel_rfl) (by kernel_rfl) (by kernel_rfl) ?_
  intro K
  refine W_seq (by kernel_rfl) ?_
  refine W_run 1 [] [0, 1] [1000] (fr' := [(0, aD (.slice (.pair tI (.pair tI tI))) a0), (1, .one (.ptr 1000 0))]) (L' := [(1000, .one (.pair tI (.pair tI (.slice (.slice (.pair tI (.pair tI tI)))))) c0)]) (obs := []) (by kernel_rfl) (by kernel_rfl) (by kernel_rfl) allP0 ?_
  refine seqQ_norm ?_
  refine W_seq (by kernel_rfl) ?_
  refine W_run 6 [] [3] [1000] (fr' := [(3, aB ((List.length a0 : Int) != c0.2.1))]) (L' := [(1000, .one (.pair tI (.pair tI (.slice (.slice (.pair tI (.pair tI tI)))))) c0)]) (obs := []) (by kernel_rfl) (by kernel_rfl) (by kernel_rfl) allP0 ?_
  refine seqQ_norm ?_
  obtain rfl := Option.some.inj h
  refine W_ret [3] [1000] (fr' := [(3, aB ((List.length a0 : Int) != c0.2.1))]) (L' := [(1000, .one (.pair tI (.pair tI (.slice (.slice (.pair tI (.pair tI tI)))))) c0)]) (by kernel_rfl) (by kernel_rfl) ?_
  exact retQ_mk (by kernel_rfl) (by kernel_rfl) (by kernel_rfl)

def slices_IndexFunc_LLapiRuleLapiRule_with_tape_Check_1_b1 (c0 : (Int × (Int × (List (List (Int × (Int × Int))))))) (i15 : Int) (v18 : (List (Int × (Int × Int)))) (x16 : Unit) : Option (Flow Unit (Esc Int Unit)) :=
(tape_Check_1 v18 c0).bind fun r21 =>
bif r21 then
(some (.done (.ret i15)))
else
(some (.next ()))
@[reducible] def slices_IndexFunc_LLapiRuleLapiRule_with_tape_Check_1_s2 (a0 : (List (List (Int × (Int × Int))))) (c0 : (Int × (Int × (List (List (Int × (Int × Int))))))) (v : Int × Unit) : Fr × LL := ([(0, aD (.slice (.slice (.pair tI (.pair tI tI)))) a0), (1, .one (.fn 57 [(1000, 0)])), (7, aI (List.length a0 : Int)), (8, aI v.1)], [(1000, .one (.pair tI (.pair tI (.slice (.slice (.pair tI (.pair tI tI)))))) c0)])
@[reducible] def slices_IndexFunc_LLapiRuleLapiRule_with_tape_Check_1_s3 (c0 : (Int × (Int × (List (List (Int × (Int × Int))))))) (v : Int) : Fr × LL := ([(4, aI v)], [(1000, .one (.pair tI (.pair tI (.slice (.slice (.pair tI (.pair tI tI)))))) c0)])
@[reducible] def slices_IndexFunc_LLapiRuleLapiRule_with_tape_Check_1_s4 (c0 : (Int × (Int × (List (List (Int × (Int × Int))))))) (v : Unit) : Fr × LL := ([], [(1000, .one (.pair tI (.pair tI (.slice (.slice (.pair tI (.pair tI tI)))))) c0)])
def slices_IndexFunc_LLapiRuleLapiRule_with_tape_Check_1 (a0 : (List (List (Int × (Int × Int))))) (c0 : (Int × (Int × (List (List (Int × (Int × Int))))))) : Option Int :=
(forL (slices_IndexFunc_LLapiRuleLapiRule_with_tape_Check_1_b1 c0) (fun x16 => (.brk ())) a0 0 ()).bind fun v25 =>
match v25 with
| .ret v30 =>
(some v30)
| .brk v31 =>
(some (-1 : Int))
theorem slices_IndexFunc_LLapiRuleLapiRule_with_tape_Check_1_ok {a0 : (List (List (Int × (Int × Int))))} {c0 : (Int × (Int × (List (List (Int × (Int × Int))))))} {r : Int} (h : slices_IndexFunc_LLapiRuleLapiRule_with_tape_Check_1 a0 c0 = some r) : FnC Try.prog 75 [aD (.slice (.slice (.pair tI (.pair tI tI)))) a0, .one (.fn 57 [(1000, 0)])] [(1000, .one (.pair tI (.pair tI (.slice (.slice (.pair tI (.pair tI tI)))))) c0)] (aI r) [(1000, .one (.pair tI (.pair tI (.slice (.slice (.pair tI (.pair tI tI)))))) c0)] := by
  refine fnC_of_W (B := bodyOf Try.f75) (n := 19) Try.func75 (by kernel_rfl) (by kernel_rfl) (by kernel_rfl) (by kernel_rfl) (by kernel_rfl) ?_
  intro K
  refine W_seq (by kernel_rfl) ?_
  refine W_run 1 [] [0, 1] [1000] (fr' := [(0, aD (.slice (.slice (.pair tI (.pair tI tI)))) a0), (1, .one (.fn 57 [(1000, 0)]))]) (L' := [(1000, .one (.pair tI (.pair tI (.slice (.slice (.pair tI (.pair tI tI)))))) c0)]) (obs := []) (by kernel_rfl) (by kernel_rfl) (by kernel_rfl) allP0 ?_
  refine seqQ_norm ?_
  refine W_seq (by kernel_rfl) ?_
  refine W_seq (by kernel_rfl) ?_
  refine W_run 3 [] [0, 1, 7, 8] [1000] (fr' := [(0, aD (.slice (.slice (.pair tI (.pair tI tI)))) a0), (1, .one (.fn 57 [(1000, 0)])), (7, aI (List.length a0 : Int)), (8, aI (0 : Int))]) (L' := [(1000, .one (.pair tI (.pair tI (.slice (.slice (.pair tI (.pair tI tI)))))) c0)]) (obs := []) (by kernel_rfl) (by kernel_rfl) (by kernel_rfl) allP0 ?_
  refine seqQ_norm ?_
  refine W_block (id := 0) (by kernel_rfl) ?_
  obtain ⟨v25, h26, h⟩ := bind_of h
  refine W_len (t := 0) (u := (.slice (.pair tI (.pair tI tI)))) (xs := a0) (by kernel_rfl) (fun h29 => ?_)
  obtain ⟨h27, h28⟩ := forL_iter h29 h26
  refine W_weaken [0, 1, 7, 8] [1000] (fr' := ((slices_IndexFunc_LLapiRuleLapiRule_with_tape_Check_1_s2 a0 c0) ((0 : Int), ())).1) (L' := ((slices_IndexFunc_LLapiRuleLapiRule_with_tape_Check_1_s2 a0 c0) ((0 : Int), ())).2) (by kernel_rfl) ?_
  refine W_cutK (W_loop (S := (slices_IndexFunc_LLapiRuleLapiRule_with_tape_Check_1_s2 a0 c0)) (J := (escQ (exQ .ret (slices_IndexFunc_LLapiRuleLapiRule_with_tape_Check_1_s3 c0)) (exQ (.exit 0) (slices_IndexFunc_LLapiRuleLapiRule_with_tape_Check_1_s4 c0)))) (by kernel_rfl) ?_ h27 _ v25 h28) ?_
  · rintro ⟨i15, x16⟩ s h
    refine W_seq (by kernel_rfl) ?_
    refine W_run 1 [] [0, 1, 7, 8, 9] [1000] (fr' := [(0, aD (.slice (.slice (.pair tI (.pair tI tI)))) a0), (1, .one (.fn 57 [(1000, 0)])), (7, aI (List.length a0 : Int)), (8, aI i15), (9, aB (decide (i15 < (List.length a0 : Int))))]) (L' := [(1000, .one (.pair tI (.pair tI (.slice (.slice (.pair tI (.pair tI tI)))))) c0)]) (obs := []) (by kernel_rfl) (by kernel_rfl) (by kernel_rfl) allP0 ?_
    refine seqQ_norm ?_
    refine W_seq (by kernel_rfl) ?_
    refine W_cond (o := .tmp 9) (b := decide (i15 < (List.length a0 : Int))) (by kernel_rfl) (by kernel_rfl) (fun h20 => ?_) (fun h20 => ?_)
    · replace h := stepL_true h20 h
      obtain ⟨v18, _, h19, h, rfl⟩ := h
      refine W_skip [0, 1, 7, 8] [1000] (fr' := [(0, aD (.slice (.slice (.pair tI (.pair tI tI)))) a0), (1, .one (.fn 57 [(1000, 0)])), (7, aI (List.length a0 : Int)), (8, aI i15)]) (L' := [(1000, .one (.pair tI (.pair tI (.slice (.slice (.pair tI (.pair tI tI)))))) c0)]) (by kernel_rfl) (by kernel_rfl) ?_
      refine seqQ_norm ?_
      refine W_seq (by kernel_rfl) ?_
      refine W_block (id := 1) (by kernel_rfl) ?_
      refine W_seq (by kernel_rfl) ?_
      refine W_run 2 [] [0, 1, 5, 7, 8] [1000] (fr' := [(0, aD (.slice (.slice (.pair tI (.pair tI tI)))) a0), (1, .one (.fn 57 [(1000, 0)])), (5, aI i15), (7, aI (List.length a0 : Int)), (8, aI i15)]) (L' := [(1000, .one (.pair tI (.pair tI (.slice (.slice (.pair tI (.pair tI tI)))))) c0)]) (obs := []) (by kernel_rfl) (by kernel_rfl) (by kernel_rfl) allP0 ?_
      refine seqQ_norm ?_
      refine W_seq (by kernel_rfl) ?_
      refine W_region (by kernel_rfl) ?_
      refine WO_run (j := 5) (k := 5) (orcs := [(7, .val (.dat (.slice (.pair tI (.pair tI tI))) v18))]) (kF := [0, 1, 5, 7, 8, 11, 15]) (kL := [1000]) (fr' := [(0, aD (.slice (.slice (.pair tI (.pair tI tI)))) a0), (1, .one (.fn 57 [(1000, 0)])), (5, aI i15), (7, aI (List.length a0 : Int)), (8, aI i15), (11, .one (.fn 57 [(1000, 0)])), (15, aD (.slice (.pair tI (.pair tI tI))) v18)]) (L' := [(1000, .one (.pair tI (.pair tI (.slice (.slice (.pair tI (.pair tI tI)))))) c0)]) (obs := [Idx a0 i15 v18]) rfl (by kernel_rfl) (allP1 (Idx.of h19)) ?_
      obtain ⟨r21, h22, h⟩ := bind_of h
      refine WO_lend [(1000, 1000)] (us := [none, none]) (d := 16) (p := True) (j := 6) rfl ⟨by kernel_rfl, by kernel_rfl, by kernel_rfl⟩ trivial (tape_Check_1_ok h22) (by kernel_rfl) (by kernel_rfl) ?_
      refine WO_fin [0, 1, 5, 7, 8, 16] [1000] (fr' := [(0, aD (.slice (.slice (.pair tI (.pair tI tI)))) a0), (1, .one (.fn 57 [(1000, 0)])), (5, aI i15), (7, aI (List.length a0 : Int)), (8, aI i15), (16, aB r21)]) (L' := [(1000, .one (.pair tI (.pair tI (.slice (.slice (.pair tI (.pair tI tI)))))) c0)]) (by kernel_rfl) (by kernel_rfl) ?_
      refine seqQ_norm ?_
      refine W_cond (o := .tmp 16) (b := r21) (by kernel_rfl) (by kernel_rfl) (fun h23 => ?_) (fun h23 => ?_)
      · replace h := ofT h23 h
        refine W_seq (by kernel_rfl) ?_
        refine W_run 2 [] [4] [1000] (fr' := [(4, aI i15)]) (L' := [(1000, .one (.pair tI (.pair tI (.slice (.slice (.pair tI (.pair tI tI)))))) c0)]) (obs := []) (by kernel_rfl) (by kernel_rfl) (by kernel_rfl) allP0 ?_
        refine seqQ_norm ?_
        obtain rfl := Option.some.inj h
        refine W_ret [4] [1000] (fr' := [(4, aI i15)]) (L' := [(1000, .one (.pair tI (.pair tI (.slice (.slice (.pair tI (.pair tI tI)))))) c0)]) (by kernel_rfl) (by kernel_rfl) ?_
        refine blockQ_ret ?_
        refine seqQ_ret ?_
        refine round_ret ?_
        refine escQ_ret ?_
        exact exQ_mk (by kernel_rfl) (by kernel_rfl)
      · replace h := ofF h23 h
        refine W_skip [0, 1, 7, 8] [1000] (fr' := [(0, aD (.slice (.slice (.pair tI (.pair tI tI)))) a0), (1, .one (.fn 57 [(1000, 0)])), (7, aI (List.length a0 : Int)), (8, aI i15)]) (L' := [(1000, .one (.pair tI (.pair tI (.slice (.slice (.pair tI (.pair tI tI)))))) c0)]) (by kernel_rfl) (by kernel_rfl) ?_
        refine blockQ_norm ?_
        refine seqQ_norm ?_
        obtain rfl := Option.some.inj h
        refine W_run 2 [] [0, 1, 7, 8] [1000] (fr' := [(0, aD (.slice (.slice (.pair tI (.pair tI tI)))) a0), (1, .one (.fn 57 [(1000, 0)])), (7, aI (List.length a0 : Int)), (8, aI (w64 (i15 + (1 : Int))))]) (L' := [(1000, .one (.pair tI (.pair tI (.slice (.slice (.pair tI (.pair tI tI)))))) c0)]) (obs := []) (by kernel_rfl) (by kernel_rfl) (by kernel_rfl) allP0 ?_
        exact round_next' (by kernel_rfl) (by kernel_rfl)
    · obtain rfl := stepL_false h20 h
      refine W_exit (id := 0) [] [1000] (fr' := []) (L' := [(1000, .one (.pair tI (.pair tI (.slice (.slice (.pair tI (.pair tI tI)))))) c0)]) (by kernel_rfl) (by kernel_rfl) ?_
      refine seqQ_exit ?_
      refine round_exit ?_
      refine escQ_brk ?_
      exact exQ_mk (by kernel_rfl) (by kernel_rfl)
  · intro e fr L hJ
    rcases v25 with v30 | v31
    · obtain ⟨rfl, rfl, rfl⟩ := hJ
      obtain rfl := Option.some.inj h
      refine LT_keep [4] [1000] (fr' := [(4, aI v30)]) (L' := [(1000, .one (.pair tI (.pair tI (.slice (.slice (.pair tI (.pair tI tI)))))) c0)]) (by kernel_rfl) ?_
      refine blockQ_ret ?_
      refine seqQ_ret ?_
      exact retQ_mk (by kernel_rfl) (by kernel_rfl) (by kernel_rfl)
    · obtain ⟨rfl, rfl, rfl⟩ := hJ
      refine LT_keep [] [1000] (fr' := []) (L' := [(1000, .one (.pair tI (.pair tI (.slice (.slice (.pair tI (.pair tI tI)))))) c0)]) (by kernel_rfl) ?_
      refine blockQ_hit ?_
      refine seqQ_norm ?_
      refine W_seq (by kernel_rfl) ?_
      refine W_run 1 [] [4] [1000] (fr' := [(4, aI (-1 : Int))]) (L' := [(1000, .one (.pair tI (.pair tI (.slice (.slice (.pair tI (.pair tI tI)))))) c0)]) (obs := []) (by kernel_rfl) (by kernel_rfl) (by kernel_rfl) allP0 ?_
      refine seqQ_norm ?_
      obtain rfl := Option.some.inj h
      refine W_ret [4] [1000] (fr' := [(4, aI (-1 : Int))]) (L' := [(1000, .one (.pair tI (.pair tI (.slice (.slice (.pair tI (.pair tI tI)))))) c0)]) (by kernel_rfl) (by kernel_rfl) ?_
      exact retQ_mk (by kernel_rfl) (by kernel_rfl) (by kernel_rfl)

def slices_ContainsFunc_LLapiRuleLapiRule_with_tape_Check_1 (a0 : (List (List (Int × (Int × Int))))) (c0 : (Int × (Int × (List (List (Int × (Int × Int))))))) : Option Bool :=
(slices_IndexFunc_LLapiRuleLapiRule_with_tape_Check_1 a0 c0).bind fun r1 =>
some (decide (r1 ≥ (0 : Int)))
theorem slices_ContainsFunc_LLapiRuleLapiRule_with_tape_Check_1_ok {a0 : (List (List (Int × (Int × Int))))} {c0 : (Int × (Int × (List (List (Int × (Int × Int))))))} {r : Bool} (h : slices_ContainsFunc_LLapiRuleLapiRule_with_tape_Check_1 a0 c0 = some r) : FnC Try.prog 56 [aD (.slice (.slice (.pair tI (.pair tI tI)))) a0, .one (.fn 57 [(1000, 0)])] [(1000, .one (.pair tI (.pair tI (.slice (.slice (.pair tI (.pair tI tI)))))) c0)] (aB r) [(1000, .one (.pair tI (.pair tI (.slice (.slice (.pair tI (.pair tI tI)))))) c0)] := by
  refine fnC_of_W (B := bodyOf Try.f56) (n := 9) Try.func56 (by kernel_rfl) (by kernel_rfl) (by kernel_rfl) (by kernel_rfl) (by kernel_rfl) ?_
  intro K
  refine W_seq (by kernel_rfl) ?_
  refine W_run 1 [] [0, 1] [1000] (fr' := [(0, aD (.slice (.slice (.pair tI (.pair tI tI)))) a0), (1, .one (.fn 57 [(1000, 0)]))]) (L' := [(1000, .one (.pair tI (.pair tI (.slice (.slice (.pair tI (.pair tI tI)))))) c0)]) (obs := []) (by kernel_rfl) (by kernel_rfl) (by kernel_rfl) allP0 ?_
  refine seqQ_norm ?_
  refine W_seq (by kernel_rfl) ?_
  refine W_region (by kernel_rfl) ?_
  refine WO_run (j := 2) (k := 2) (orcs := []) (kF := [5, 6]) (kL := [1000]) (fr' := [(5, aD (.slice (.slice (.pair tI (.pair tI tI)))) a0), (6, .one (.fn 57 [(1000, 0)]))]) (L' := [(1000, .one (.pair tI (.pair tI (.slice (.slice (.pair tI (.pair tI tI)))))) c0)]) (obs := []) rfl (by kernel_rfl) allP0 ?_
  obtain ⟨r1, h2, h⟩ := bind_of h
  refine WO_lend [(1000, 1000)] (us := [none, none]) (d := 7) (p := True) (j := 3) rfl ⟨by kernel_rfl, by kernel_rfl, by kernel_rfl⟩ trivial (slices_IndexFunc_LLapiRuleLapiRule_with_tape_Check_1_ok h2) (by kernel_rfl) (by kernel_rfl) ?_
  refine WO_run (j := 5) (k := 2) (orcs := []) (kF := [4]) (kL := [1000]) (fr' := [(4, aB (decide (r1 ≥ (0 : Int))))]) (L' := [(1000, .one (.pair tI (.pair tI (.slice (.slice (.pair tI (.pair tI tI)))))) c0)]) (obs := []) rfl (by kernel_rfl) allP0 ?_
  refine WO_fin [4] [1000] (fr' := [(4, aB (decide (r1 ≥ (0 : Int))))]) (L' := [(1000, .one (.pair tI (.pair tI (.slice (.slice (.pair tI (.pair tI tI)))))) c0)]) (by kernel_rfl) (by kernel_rfl) ?_
  refine seqQ_norm ?_
  obtain rfl := Option.some.inj h
  refine W_ret [4] [1000] (fr' := [(4, aB (decide (r1 ≥ (0 : Int))))]) (L' := [(1000, .one (.pair tI (.pair tI (.slice (.slice (.pair tI (.pair tI tI)))))) c0)]) (by kernel_rfl) (by kernel_rfl) ?_
  exact retQ_mk (by kernel_rfl) (by kernel_rfl) (by kernel_rfl)

def tape_Check_g1 (a0 : (Int × (Int × (List (List (Int × (Int × Int))))))) : Option Bool :=
bif decide (a0.1 < (1 : Int)) then
(some true)
else
(bif decide (a0.1 > (5 : Int)) then
(some true)
else
(bif decide (a0.2.1 < (2 : Int)) then
(some true)
else
(some (decide (a0.2.1 > (4 : Int))))))
@[reducible] def tape_Check_s33 (a0 : (Int × (Int × (List (List (Int × (Int × Int))))))) (i185 : Int) (v188 : (List (Int × (Int × Int)))) (i235 : Int) (v : Bool) : Fr × LL := ([(1, .one (.ptr 1 0)), (38, aD (.slice (.slice (.pair tI (.pair tI tI)))) a0.2.2), (39, aI (List.length a0.2.2 : Int)), (40, aI i185), (44, aD (.slice (.pair tI (.pair tI tI))) v188), (45, aI (List.length v188 : Int)), (46, aI i235), (70, aB v)], [(1, .one (.pair tI (.pair tI (.slice (.slice (.pair tI (.pair tI tI)))))) a0)])
@[reducible] def tape_Check_s34 (a0 : (Int × (Int × (List (List (Int × (Int × Int))))))) (i185 : Int) (v188 : (List (Int × (Int × Int)))) (i235 : Int) (v238 : (Int × (Int × Int))) (v : Bool) : Fr × LL := ([(1, .one (.ptr 1 0)), (6, .one (.ptr 6 0)), (38, aD (.slice (.slice (.pair tI (.pair tI tI)))) a0.2.2), (39, aI (List.length a0.2.2 : Int)), (40, aI i185), (44, aD (.slice (.pair tI (.pair tI tI))) v188), (45, aI (List.length v188 : Int)), (46, aI i235), (61, aB v)], [(1, .one (.pair tI (.pair tI (.slice (.slice (.pair tI (.pair tI tI)))))) a0), (6, .one (.pair tI (.pair tI tI)) v238)])
@[reducible] def tape_Check_s35 (a0 : (Int × (Int × (List (List (Int × (Int × Int))))))) (i185 : Int) (v188 : (List (Int × (Int × Int)))) (i235 : Int) (v238 : (Int × (Int × Int))) (v : Bool) : Fr × LL := ([(1, .one (.ptr 1 0)), (6, .one (.ptr 6 0)), (38, aD (.slice (.slice (.pair tI (.pair tI tI)))) a0.2.2), (39, aI (List.length a0.2.2 : Int)), (40, aI i185), (44, aD (.slice (.pair tI (.pair tI tI))) v188), (45, aI (List.length v188 : Int)), (46, aI i235), (50, aB v)], [(1, .one (.pair tI (.pair tI (.slice (.slice (.pair tI (.pair tI tI)))))) a0), (6, .one (.pair tI (.pair tI tI)) v238)])
def tape_Check_b36 (a0 : (Int × (Int × (List (List (Int × (Int × Int))))))) (i235 : Int) (v238 : (Int × (Int × Int))) (x236 : Unit) : Option (Flow Unit (Esc Int Unit)) :=
(bif decide (v238.1 < (0 : Int)) then
(some true)
else
(some (decide (v238.1 ≥ a0.2.1)))).bind fun v244 =>
bif v244 then
(some (.done (.ret (2 : Int))))
else
((bif decide (v238.2.1 < (-1 : Int)) then
(some true)
else
(some (decide (v238.2.1 > (1 : Int))))).bind fun v250 =>
bif v250 then
(some (.done (.ret (4 : Int))))
else
((bif decide (v238.2.2 < (0 : Int)) then
(some true)
else
(some (decide (v238.2.2 > a0.1)))).bind fun v256 =>
bif v256 then
(some (.done (.ret (2 : Int))))
else
(some (.next ()))))
@[reducible] def tape_Check_s37 (a0 : (Int × (Int × (List (List (Int × (Int × Int))))))) (i185 : Int) (v188 : (List (Int × (Int × Int)))) (v : Int × Unit) : Fr × LL := ([(1, .one (.ptr 1 0)), (38, aD (.slice (.slice (.pair tI (.pair tI tI)))) a0.2.2), (39, aI (List.length a0.2.2 : Int)), (40, aI i185), (44, aD (.slice (.pair tI (.pair tI tI))) v188), (45, aI (List.length v188 : Int)), (46, aI v.1)], [(1, .one (.pair tI (.pair tI (.slice (.slice (.pair tI (.pair tI tI)))))) a0)])
@[reducible] def tape_Check_s38 (v : Int) : Fr × LL := ([(2, aI v)], [])
@[reducible] def tape_Check_s39 (a0 : (Int × (Int × (List (List (Int × (Int × Int))))))) (i185 : Int) (v : Unit) : Fr × LL := ([(1, .one (.ptr 1 0)), (38, aD (.slice (.slice (.pair tI (.pair tI tI)))) a0.2.2), (39, aI (List.length a0.2.2 : Int)), (40, aI i185)], [(1, .one (.pair tI (.pair tI (.slice (.slice (.pair tI (.pair tI tI)))))) a0)])
def tape_Check_b40 (a0 : (Int × (Int × (List (List (Int × (Int × Int))))))) (i185 : Int) (v188 : (List (Int × (Int × Int)))) (x186 : Unit) : Option (Flow Unit (Esc Int Unit)) :=
(forL (tape_Check_b36 a0) (fun x236 => (.brk ())) v188 0 ()).bind fun v260 =>
match v260 with
| .ret v265 =>
(some (.done (.ret v265)))
| .brk v266 =>
(some (.next ()))
@[reducible] def tape_Check_s41 (a0 : (Int × (Int × (List (List (Int × (Int × Int))))))) (v : Int × Unit) : Fr × LL := ([(1, .one (.ptr 1 0)), (38, aD (.slice (.slice (.pair tI (.pair tI tI)))) a0.2.2), (39, aI (List.length a0.2.2 : Int)), (40, aI v.1)], [(1, .one (.pair tI (.pair tI (.slice (.slice (.pair tI (.pair tI tI)))))) a0)])
@[reducible] def tape_Check_s42 (v : Int) : Fr × LL := ([(2, aI v)], [])
@[reducible] def tape_Check_s43 (v : Unit) : Fr × LL := ([], [])
@[reducible] def tape_Check_s44 (a0 : (Int × (Int × (List (List (Int × (Int × Int))))))) (v : Bool) : Fr × LL := ([(1, .one (.ptr 1 0)), (36, aB v)], [(1, .one (.pair tI (.pair tI (.slice (.slice (.pair tI (.pair tI tI)))))) a0)])
@[reducible] def tape_Check_s45 (a0 : (Int × (Int × (List (List (Int × (Int × Int))))))) (v : Bool) : Fr × LL := ([(1, .one (.ptr 1 0)), (24, aB v)], [(1, .one (.pair tI (.pair tI (.slice (.slice (.pair tI (.pair tI tI)))))) a0)])
def tape_Check (a0 : (Int × (Int × (List (List (Int × (Int × Int))))))) : Option Int :=
(tape_Check_g1 a0).bind fun v10 =>
bif v10 then
(some (1 : Int))
else
((bif (List.length a0.2.2 : Int) != a0.1 then
(some true)
else
((slices_ContainsFunc_LLapiRuleLapiRule_with_tape_Check_1 a0.2.2 a0).bind fun r20 =>
some r20)).bind fun v22 =>
bif v22 then
(some (3 : Int))
else
((forL (tape_Check_b40 a0) (fun x186 => (.brk ())) a0.2.2 0 ()).bind fun v268 =>
match v268 with
| .ret v273 =>
(some v273)
| .brk v274 =>
(some (0 : Int))))
theorem tape_Check_ok {a0 : (Int × (Int × (List (List (Int × (Int × Int))))))} {r : Int} (h : tape_Check a0 = some r) : FnC Try.prog 24 [aD (.pair tI (.pair tI (.slice (.slice (.pair tI (.pair tI tI)))))) a0] [] (aI r) [] := by
  refine fnC_of_W (B := bodyOf Try.f24) (n := 83) Try.func24 (by kernel_rfl) (by kernel_rfl) (by kernel_rfl) (by kernel_rfl) (by kernel_rfl) ?_
  intro K
  refine W_seq (by kernel_rfl) ?_
  refine W_run 2 [] [1] [1] (fr' := [(1, .one (.ptr 1 0))]) (L' := [(1, .one (.pair tI (.pair tI (.slice (.slice (.pair tI (.pair tI tI)))))) a0)]) (obs := []) (by kernel_rfl) (by kernel_rfl) (by kernel_rfl) allP0 ?_
  refine seqQ_norm ?_
  refine W_seq (by kernel_rfl) ?_
  refine W_seq (by kernel_rfl) ?_
  obtain ⟨v10, h11, h⟩ := bind_of h
  refine W_cutK (Q' := (exQ .normal (tape_Check_s45 a0)) v10) ?_ ?_
  · replace h := h11
    refine W_region (by kernel_rfl) ?_
    refine WO_run (j := 4) (k := 4) (orcs := []) (kF := [1, 10]) (kL := [1]) (fr' := [(1, .one (.ptr 1 0)), (10, aB (decide (a0.1 < (1 : Int))))]) (L' := [(1, .one (.pair tI (.pair tI (.slice (.slice (.pair tI (.pair tI tI)))))) a0)]) (obs := []) rfl (by kernel_rfl) allP0 ?_
    rcases Bool.eq_false_or_eq_true (decide (a0.1 < (1 : Int))) with h7 | h7
    · replace h := ofT h7 h
      refine WO_run (j := 18) (k := 14) (orcs := [(8, .known true), (10, .known true), (12, .known true), (15, .val (.dat .bool true)), (18, .known true), (20, .known true), (22, .known true), (25, .val (.dat .bool true)), (28, .known true), (30, .known true), (32, .known true), (35, .val (.dat .bool true))]) (kF := [1, 24]) (kL := [1]) (fr' := [(1, .one (.ptr 1 0)), (24, aB true)]) (L' := [(1, .one (.pair tI (.pair tI (.slice (.slice (.pair tI (.pair tI tI)))))) a0)]) (obs := [((decide (a0.1 < (1 : Int))) = true), ((decide (a0.1 < (1 : Int))) = true), ((decide (a0.1 < (1 : Int))) = true), ((decide (a0.1 < (1 : Int))) = true), (true = true), (true = true), (true = true), (true = true), (true = true), (true = true), (true = true), (true = true)]) rfl (by kernel_rfl) (allP2 h7 (allP2 h7 (allP2 h7 (allP2 h7 (allP2 rfl (allP2 rfl (allP2 rfl (allP2 rfl (allP2 rfl (allP2 rfl (allP2 rfl (allP1 rfl)))))))))))) ?_
      obtain rfl := Option.some.inj h
      refine WO_fin [1, 24] [1] (fr' := [(1, .one (.ptr 1 0)), (24, aB true)]) (L' := [(1, .one (.pair tI (.pair tI (.slice (.slice (.pair tI (.pair tI tI)))))) a0)]) (by kernel_rfl) (by kernel_rfl) ?_
      exact exQ_mk (by kernel_rfl) (by kernel_rfl)
    · replace h := ofF h7 h
      refine WO_run (j := 9) (k := 5) (orcs := [(8, .known false), (10, .known false), (12, .known false), (15, .val (.dat .bool false))]) (kF := [1, 15]) (kL := [1]) (fr' := [(1, .one (.ptr 1 0)), (15, aB (decide (a0.1 > (5 : Int))))]) (L' := [(1, .one (.pair tI (.pair tI (.slice (.slice (.pair tI (.pair tI tI)))))) a0)]) (obs := [((decide (a0.1 < (1 : Int))) = false), ((decide (a0.1 < (1 : Int))) = false), ((decide (a0.1 < (1 : Int))) = false), ((decide (a0.1 < (1 : Int))) = false)]) rfl (by kernel_rfl) (allP2 h7 (allP2 h7 (allP2 h7 (allP1 h7)))) ?_
      rcases Bool.eq_false_or_eq_true (decide (a0.1 > (5 : Int))) with h8 | h8
      · replace h := ofT h8 h
        refine WO_run (j := 18) (k := 9) (orcs := [(18, .known true), (20, .known true), (22, .known true), (25, .val (.dat .bool true)), (28, .known true), (30, .known true), (32, .known true), (35, .val (.dat .bool true))]) (kF := [1, 24]) (kL := [1]) (fr' := [(1, .one (.ptr 1 0)), (24, aB true)]) (L' := [(1, .one (.pair tI (.pair tI (.slice (.slice (.pair tI (.pair tI tI)))))) a0)]) (obs := [((decide (a0.1 > (5 : Int))) = true), ((decide (a0.1 > (5 : Int))) = true), ((decide (a0.1 > (5 : Int))) = true), ((decide (a0.1 > (5 : Int))) = true), (true = true), (true = true), (true = true), (true = true)]) rfl (by kernel_rfl) (allP2 h8 (allP2 h8 (allP2 h8 (allP2 h8 (allP2 rfl (allP2 rfl (allP2 rfl (allP1 rfl)))))))) ?_
        obtain rfl := Option.some.inj h
        refine WO_fin [1, 24] [1] (fr' := [(1, .one (.ptr 1 0)), (24, aB true)]) (L' := [(1, .one (.pair tI (.pair tI (.slice (.slice (.pair tI (.pair tI tI)))))) a0)]) (by kernel_rfl) (by kernel_rfl) ?_
        exact exQ_mk (by kernel_rfl) (by kernel_rfl)
      · replace h := ofF h8 h
        refine WO_run (j := 14) (k := 5) (orcs := [(18, .known false), (20, .known false), (22, .known false), (25, .val (.dat .bool false))]) (kF := [1, 20]) (kL := [1]) (fr' := [(1, .one (.ptr 1 0)), (20, aB (decide (a0.2.1 < (2 : Int))))]) (L' := [(1, .one (.pair tI (.pair tI (.slice (.slice (.pair tI (.pair tI tI)))))) a0)]) (obs := [((decide (a0.1 > (5 : Int))) = false), ((decide (a0.1 > (5 : Int))) = false), ((decide (a0.1 > (5 : Int))) = false), ((decide (a0.1 > (5 : Int))) = false)]) rfl (by kernel_rfl) (allP2 h8 (allP2 h8 (allP2 h8 (allP1 h8)))) ?_
        rcases Bool.eq_false_or_eq_true (decide (a0.2.1 < (2 : Int))) with h9 | h9
        · replace h := ofT h9 h
          refine WO_run (j := 18) (k := 4) (orcs := [(28, .known true), (30, .known true), (32, .known true), (35, .val (.dat .bool true))]) (kF := [1, 24]) (kL := [1]) (fr' := [(1, .one (.ptr 1 0)), (24, aB true)]) (L' := [(1, .one (.pair tI (.pair tI (.slice (.slice (.pair tI (.pair tI tI)))))) a0)]) (obs := [((decide (a0.2.1 < (2 : Int))) = true), ((decide (a0.2.1 < (2 : Int))) = true), ((decide (a0.2.1 < (2 : Int))) = true), ((decide (a0.2.1 < (2 : Int))) = true)]) rfl (by kernel_rfl) (allP2 h9 (allP2 h9 (allP2 h9 (allP1 h9)))) ?_
          obtain rfl := Option.some.inj h
          refine WO_fin [1, 24] [1] (fr' := [(1, .one (.ptr 1 0)), (24, aB true)]) (L' := [(1, .one (.pair tI (.pair tI (.slice (.slice (.pair tI (.pair tI tI)))))) a0)]) (by kernel_rfl) (by kernel_rfl) ?_
          exact exQ_mk (by kernel_rfl) (by kernel_rfl)
        · replace h := ofF h9 h
          refine WO_run (j := 18) (k := 4) (orcs := [(28, .known false), (30, .known false), (32, .known false), (35, .val (.dat .bool false))]) (kF := [1, 24]) (kL := [1]) (fr' := [(1, .one (.ptr 1 0)), (24, aB (decide (a0.2.1 > (4 : Int))))]) (L' := [(1, .one (.pair tI (.pair tI (.slice (.slice (.pair tI (.pair tI tI)))))) a0)]) (obs := [((decide (a0.2.1 < (2 : Int))) = false), ((decide (a0.2.1 < (2 : Int))) = false), ((decide (a0.2.1 < (2 : Int))) = false), ((decide (a0.2.1 < (2 : Int))) = false)]) rfl (by kernel_rfl) (allP2 h9 (allP2 h9 (allP2 h9 (allP1 h9)))) ?_
          obtain rfl := Option.some.inj h
          refine WO_fin [1, 24] [1] (fr' := [(1, .one (.ptr 1 0)), (24, aB (decide (a0.2.1 > (4 : Int))))]) (L' := [(1, .one (.pair tI (.pair tI (.slice (.slice (.pair tI (.pair tI tI)))))) a0)]) (by kernel_rfl) (by kernel_rfl) ?_
          exact exQ_mk (by kernel_rfl) (by kernel_rfl)
  · intro e fr L hJ
    obtain ⟨rfl, rfl, rfl⟩ := hJ
    refine LT_keep [1, 24] [1] (fr' := [(1, .one (.ptr 1 0)), (24, aB v10)]) (L' := [(1, .one (.pair tI (.pair tI (.slice (.slice (.pair tI (.pair tI tI)))))) a0)]) (by kernel_rfl) ?_
    refine seqQ_norm ?_
    refine W_cond (o := .tmp 24) (b := v10) (by kernel_rfl) (by kernel_rfl) (fun h12 => ?_) (fun h12 => ?_)
    · replace h := ofT h12 h
      refine W_seq (by kernel_rfl) ?_
      refine W_run 1 [] [2] [] (fr' := [(2, aI (1 : Int))]) (L' := []) (obs := []) (by kernel_rfl) (by kernel_rfl) (by kernel_rfl) allP0 ?_
      refine seqQ_norm ?_
      obtain rfl := Option.some.inj h
      refine W_ret [2] [] (fr' := [(2, aI (1 : Int))]) (L' := []) (by kernel_rfl) (by kernel_rfl) ?_
      refine seqQ_ret ?_
      exact retQ_mk (by kernel_rfl) (by kernel_rfl) (by kernel_rfl)
    · replace h := ofF h12 h
      refine W_skip [1] [1] (fr' := [(1, .one (.ptr 1 0))]) (L' := [(1, .one (.pair tI (.pair tI (.slice (.slice (.pair tI (.pair tI tI)))))) a0)]) (by kernel_rfl) (by kernel_rfl) ?_
      refine seqQ_norm ?_
      refine W_seq (by kernel_rfl) ?_
      refine W_seq (by kernel_rfl) ?_
      obtain ⟨v22, h23, h⟩ := bind_of h
      refine W_cutK (Q' := (exQ .normal (tape_Check_s44 a0)) v22) ?_ ?_
      · replace h := h23
        refine W_region (by kernel_rfl) ?_
        refine WO_run (j := 7) (k := 7) (orcs := []) (kF := [1, 31]) (kL := [1]) (fr' := [(1, .one (.ptr 1 0)), (31, aB ((List.length a0.2.2 : Int) != a0.1))]) (L' := [(1, .one (.pair tI (.pair tI (.slice (.slice (.pair tI (.pair tI tI)))))) a0)]) (obs := []) rfl (by kernel_rfl) allP0 ?_
        rcases Bool.eq_false_or_eq_true ((List.length a0.2.2 : Int) != a0.1) with h19 | h19
        · replace h := ofT h19 h
          refine WO_run (j := 12) (k := 5) (orcs := [(14, .known true), (16, .known true), (18, .known true), (20, .known true), (23, .val (.dat .bool true))]) (kF := [1, 36]) (kL := [1]) (fr' := [(1, .one (.ptr 1 0)), (36, aB true)]) (L' := [(1, .one (.pair tI (.pair tI (.slice (.slice (.pair tI (.pair tI tI)))))) a0)]) (obs := [(((List.length a0.2.2 : Int) != a0.1) = true), (((List.length a0.2.2 : Int) != a0.1) = true), (((List.length a0.2.2 : Int) != a0.1) = true), (((List.length a0.2.2 : Int) != a0.1) = true), (((List.length a0.2.2 : Int) != a0.1) = true)]) rfl (by kernel_rfl) (allP2 h19 (allP2 h19 (allP2 h19 (allP2 h19 (allP1 h19))))) ?_
          obtain rfl := Option.some.inj h
          refine WO_fin [1, 36] [1] (fr' := [(1, .one (.ptr 1 0)), (36, aB true)]) (L' := [(1, .one (.pair tI (.pair tI (.slice (.slice (.pair tI (.pair tI tI)))))) a0)]) (by kernel_rfl) (by kernel_rfl) ?_
          exact exQ_mk (by kernel_rfl) (by kernel_rfl)
        · replace h := ofF h19 h
          refine WO_run (j := 10) (k := 3) (orcs := [(14, .known false), (16, .known false), (18, .known false)]) (kF := [1, 31, 33, 34]) (kL := [1]) (fr' := [(1, .one (.ptr 1 0)), (31, aB ((List.length a0.2.2 : Int) != a0.1)), (33, aD (.slice (.slice (.pair tI (.pair tI tI)))) a0.2.2), (34, .one (.fn 57 [(1, 0)]))]) (L' := [(1, .one (.pair tI (.pair tI (.slice (.slice (.pair tI (.pair tI tI)))))) a0)]) (obs := [(((List.length a0.2.2 : Int) != a0.1) = false), (((List.length a0.2.2 : Int) != a0.1) = false), (((List.length a0.2.2 : Int) != a0.1) = false)]) rfl (by kernel_rfl) (allP2 h19 (allP2 h19 (allP1 h19))) ?_
          obtain ⟨r20, h21, h⟩ := bind_of h
          refine WO_lend [(1000, 1)] (us := [none, none]) (d := 35) (p := (((List.length a0.2.2 : Int) != a0.1) = false)) (j := 11) rfl ⟨by kernel_rfl, by kernel_rfl, by kernel_rfl⟩ h19 (slices_ContainsFunc_LLapiRuleLapiRule_with_tape_Check_1_ok h21) (by kernel_rfl) (by kernel_rfl) ?_
          refine WO_run (j := 12) (k := 1) (orcs := [(23, .val (.dat .bool false))]) (kF := [1, 36]) (kL := [1]) (fr' := [(1, .one (.ptr 1 0)), (36, aB r20)]) (L' := [(1, .one (.pair tI (.pair tI (.slice (.slice (.pair tI (.pair tI tI)))))) a0)]) (obs := [(((List.length a0.2.2 : Int) != a0.1) = false)]) rfl (by kernel_rfl) (allP1 h19) ?_
          obtain rfl := Option.some.inj h
          refine WO_fin [1, 36] [1] (fr' := [(1, .one (.ptr 1 0)), (36, aB r20)]) (L' := [(1, .one (.pair tI (.pair tI (.slice (.slice (.pair tI (.pair tI tI)))))) a0)]) (by kernel_rfl) (by kernel_rfl) ?_
          exact exQ_mk (by kernel_rfl) (by kernel_rfl)
      · intro e fr L hJ
        obtain ⟨rfl, rfl, rfl⟩ := hJ
        refine LT_keep [1, 36] [1] (fr' := [(1, .one (.ptr 1 0)), (36, aB v22)]) (L' := [(1, .one (.pair tI (.pair tI (.slice (.slice (.pair tI (.pair tI tI)))))) a0)]) (by kernel_rfl) ?_
        refine seqQ_norm ?_
        refine W_cond (o := .tmp 36) (b := v22) (by kernel_rfl) (by kernel_rfl) (fun h24 => ?_) (fun h24 => ?_)
        · replace h := ofT h24 h
          refine W_seq (by kernel_rfl) ?_
          refine W_run 1 [] [2] [] (fr' := [(2, aI (3 : Int))]) (L' := []) (obs := []) (by kernel_rfl) (by kernel_rfl) (by kernel_rfl) allP0 ?_
          refine seqQ_norm ?_
          obtain rfl := Option.some.inj h
          refine W_ret [2] [] (fr' := [(2, aI (3 : Int))]) (L' := []) (by kernel_rfl) (by kernel_rfl) ?_
          refine seqQ_ret ?_
          exact retQ_mk (by kernel_rfl) (by kernel_rfl) (by kernel_rfl)
        · replace h := ofF h24 h
          refine W_skip [1] [1] (fr' := [(1, .one (.ptr 1 0))]) (L' := [(1, .one (.pair tI (.pair tI (.slice (.slice (.pair tI (.pair tI tI)))))) a0)]) (by kernel_rfl) (by kernel_rfl) ?_
          refine seqQ_norm ?_
          refine W_seq (by kernel_rfl) ?_
          refine W_seq (by kernel_rfl) ?_
          refine W_run 4 [] [1, 38, 39, 40] [1] (fr' := [(1, .one (.ptr 1 0)), (38, aD (.slice (.slice (.pair tI (.pair tI tI)))) a0.2.2), (39, aI (List.length a0.2.2 : Int)), (40, aI (0 : Int))]) (L' := [(1, .one (.pair tI (.pair tI (.slice (.slice (.pair tI (.pair tI tI)))))) a0)]) (obs := []) (by kernel_rfl) (by kernel_rfl) (by kernel_rfl) allP0 ?_
          refine seqQ_norm ?_
          refine W_block (id := 0) (by kernel_rfl) ?_
          obtain ⟨v268, h269, h⟩ := bind_of h
          refine W_len (t := 38) (u := (.slice (.pair tI (.pair tI tI)))) (xs := a0.2.2) (by kernel_rfl) (fun h272 => ?_)
          obtain ⟨h270, h271⟩ := forL_iter h272 h269
          refine W_weaken [1, 38, 39, 40] [1] (fr' := ((tape_Check_s41 a0) ((0 : Int), ())).1) (L' := ((tape_Check_s41 a0) ((0 : Int), ())).2) (by kernel_rfl) ?_
          refine W_cutK (W_loop (S := (tape_Check_s41 a0)) (J := (escQ (exQ .ret tape_Check_s42) (exQ (.exit 0) tape_Check_s43))) (by kernel_rfl) ?_ h270 _ v268 h271) ?_
          · rintro ⟨i185, x186⟩ s h
            refine W_seq (by kernel_rfl) ?_
            refine W_run 1 [] [1, 38, 39, 40, 41] [1] (fr' := [(1, .one (.ptr 1 0)), (38, aD (.slice (.slice (.pair tI (.pair tI tI)))) a0.2.2), (39, aI (List.length a0.2.2 : Int)), (40, aI i185), (41, aB (decide (i185 < (List.length a0.2.2 : Int))))]) (L' := [(1, .one (.pair tI (.pair tI (.slice (.slice (.pair tI (.pair tI tI)))))) a0)]) (obs := []) (by kernel_rfl) (by kernel_rfl) (by kernel_rfl) allP0 ?_
            refine seqQ_norm ?_
            refine W_seq (by kernel_rfl) ?_
            refine W_cond (o := .tmp 41) (b := decide (i185 < (List.length a0.2.2 : Int))) (by kernel_rfl) (by kernel_rfl) (fun h190 => ?_) (fun h190 => ?_)
            · replace h := stepL_true h190 h
              obtain ⟨v188, _, h189, h, rfl⟩ := h
              refine W_skip [1, 38, 39, 40] [1] (fr' := [(1, .one (.ptr 1 0)), (38, aD (.slice (.slice (.pair tI (.pair tI tI)))) a0.2.2), (39, aI (List.length a0.2.2 : Int)), (40, aI i185)]) (L' := [(1, .one (.pair tI (.pair tI (.slice (.slice (.pair tI (.pair tI tI)))))) a0)]) (by kernel_rfl) (by kernel_rfl) ?_
              refine seqQ_norm ?_
              refine W_seq (by kernel_rfl) ?_
              refine W_block (id := 1) (by kernel_rfl) ?_
              refine W_seq (by kernel_rfl) ?_
              refine W_run 3 [(1, .val (.dat (.slice (.pair tI (.pair tI tI))) v188))] [1, 4, 38, 39, 40] [1] (fr' := [(1, .one (.ptr 1 0)), (4, aD (.slice (.pair tI (.pair tI tI))) v188), (38, aD (.slice (.slice (.pair tI (.pair tI tI)))) a0.2.2), (39, aI (List.length a0.2.2 : Int)), (40, aI i185)]) (L' := [(1, .one (.pair tI (.pair tI (.slice (.slice (.pair tI (.pair tI tI)))))) a0)]) (obs := [Idx a0.2.2 i185 v188]) (by kernel_rfl) (by kernel_rfl) (by kernel_rfl) (allP1 (Idx.of h189)) ?_
              refine seqQ_norm ?_
              refine W_seq (by kernel_rfl) ?_
              refine W_run 3 [] [1, 38, 39, 40, 44, 45, 46] [1] (fr' := [(1, .one (.ptr 1 0)), (38, aD (.slice (.slice (.pair tI (.pair tI tI)))) a0.2.2), (39, aI (List.length a0.2.2 : Int)), (40, aI i185), (44, aD (.slice (.pair tI (.pair tI tI))) v188), (45, aI (List.length v188 : Int)), (46, aI (0 : Int))]) (L' := [(1, .one (.pair tI (.pair tI (.slice (.slice (.pair tI (.pair tI tI)))))) a0)]) (obs := []) (by kernel_rfl) (by kernel_rfl) (by kernel_rfl) allP0 ?_
              refine seqQ_norm ?_
              refine W_block (id := 2) (by kernel_rfl) ?_
              obtain ⟨v260, h261, h⟩ := bind_of h
              refine W_len (t := 44) (u := (.pair tI (.pair tI tI))) (xs := v188) (by kernel_rfl) (fun h264 => ?_)
              obtain ⟨h262, h263⟩ := forL_iter h264 h261
              refine W_weaken [1, 38, 39, 40, 44, 45, 46] [1] (fr' := ((tape_Check_s37 a0 i185 v188) ((0 : Int), ())).1) (L' := ((tape_Check_s37 a0 i185 v188) ((0 : Int), ())).2) (by kernel_rfl) ?_
              refine W_cutK (W_loop (S := (tape_Check_s37 a0 i185 v188)) (J := (escQ (exQ .ret tape_Check_s38) (exQ (.exit 2) (tape_Check_s39 a0 i185)))) (by kernel_rfl) ?_ h262 _ v260 h263) ?_
              · rintro ⟨i235, x236⟩ s h
                refine W_seq (by kernel_rfl) ?_
                refine W_run 1 [] [1, 38, 39, 40, 44, 45, 46, 47] [1] (fr' := [(1, .one (.ptr 1 0)), (38, aD (.slice (.slice (.pair tI (.pair tI tI)))) a0.2.2), (39, aI (List.length a0.2.2 : Int)), (40, aI i185), (44, aD (.slice (.pair tI (.pair tI tI))) v188), (45, aI (List.length v188 : Int)), (46, aI i235), (47, aB (decide (i235 < (List.length v188 : Int))))]) (L' := [(1, .one (.pair tI (.pair tI (.slice (.slice (.pair tI (.pair tI tI)))))) a0)]) (obs := []) (by kernel_rfl) (by kernel_rfl) (by kernel_rfl) allP0 ?_
                refine seqQ_norm ?_
                refine W_seq (by kernel_rfl) ?_
                refine W_cond (o := .tmp 47) (b := decide (i235 < (List.length v188 : Int))) (by kernel_rfl) (by kernel_rfl) (fun h240 => ?_) (fun h240 => ?_)
                · replace h := stepL_true h240 h
                  obtain ⟨v238, _, h239, h, rfl⟩ := h
                  refine W_skip [1, 38, 39, 40, 44, 45, 46] [1] (fr' := [(1, .one (.ptr 1 0)), (38, aD (.slice (.slice (.pair tI (.pair tI tI)))) a0.2.2), (39, aI (List.length a0.2.2 : Int)), (40, aI i185), (44, aD (.slice (.pair tI (.pair tI tI))) v188), (45, aI (List.length v188 : Int)), (46, aI i235)]) (L' := [(1, .one (.pair tI (.pair tI (.slice (.slice (.pair tI (.pair tI tI)))))) a0)]) (by kernel_rfl) (by kernel_rfl) ?_
                  refine seqQ_norm ?_
                  refine W_seq (by kernel_rfl) ?_
                  refine W_block (id := 3) (by kernel_rfl) ?_
                  refine W_seq (by kernel_rfl) ?_
                  refine W_run 4 [(1, .val (.dat (.pair tI (.pair tI tI)) v238)), (5, .typed)] [1, 6, 38, 39, 40, 44, 45, 46] [1, 6] (fr' := [(1, .one (.ptr 1 0)), (6, .one (.ptr 6 0)), (38, aD (.slice (.slice (.pair tI (.pair tI tI)))) a0.2.2), (39, aI (List.length a0.2.2 : Int)), (40, aI i185), (44, aD (.slice (.pair tI (.pair tI tI))) v188), (45, aI (List.length v188 : Int)), (46, aI i235)]) (L' := [(1, .one (.pair tI (.pair tI (.slice (.slice (.pair tI (.pair tI tI)))))) a0), (6, .one (.pair tI (.pair tI tI)) v238)]) (obs := [Idx v188 i235 v238, True]) (by kernel_rfl) (by kernel_rfl) (by kernel_rfl) (allP2 (Idx.of h239) (allP1 trivial)) ?_
                  refine seqQ_norm ?_
                  refine W_block (id := 4) (by kernel_rfl) ?_
                  refine W_seq (by kernel_rfl) ?_
                  obtain ⟨v244, h245, h⟩ := bind_of h
                  refine W_cutK (Q' := (exQ .normal (tape_Check_s35 a0 i185 v188 i235 v238)) v244) ?_ ?_
                  · replace h := h245
                    refine W_region (by kernel_rfl) ?_
                    refine WO_run (j := 4) (k := 4) (orcs := []) (kF := [1, 6, 38, 39, 40, 44, 45, 46, 54]) (kL := [1, 6]) (fr' := [(1, .one (.ptr 1 0)), (6, .one (.ptr 6 0)), (38, aD (.slice (.slice (.pair tI (.pair tI tI)))) a0.2.2), (39, aI (List.length a0.2.2 : Int)), (40, aI i185), (44, aD (.slice (.pair tI (.pair tI tI))) v188), (45, aI (List.length v188 : Int)), (46, aI i235), (54, aB (decide (v238.1 < (0 : Int))))]) (L' := [(1, .one (.pair tI (.pair tI (.slice (.slice (.pair tI (.pair tI tI)))))) a0), (6, .one (.pair tI (.pair tI tI)) v238)]) (obs := []) rfl (by kernel_rfl) allP0 ?_
                    rcases Bool.eq_false_or_eq_true (decide (v238.1 < (0 : Int))) with h243 | h243
                    · replace h := ofT h243 h
                      refine WO_run (j := 11) (k := 7) (orcs := [(8, .known true), (10, .known true), (12, .known true), (14, .known true), (16, .known true), (19, .val (.dat .bool true))]) (kF := [1, 6, 38, 39, 40, 44, 45, 46, 50]) (kL := [1, 6]) (fr' := [(1, .one (.ptr 1 0)), (6, .one (.ptr 6 0)), (38, aD (.slice (.slice (.pair tI (.pair tI tI)))) a0.2.2), (39, aI (List.length a0.2.2 : Int)), (40, aI i185), (44, aD (.slice (.pair tI (.pair tI tI))) v188), (45, aI (List.length v188 : Int)), (46, aI i235), (50, aB true)]) (L' := [(1, .one (.pair tI (.pair tI (.slice (.slice (.pair tI (.pair tI tI)))))) a0), (6, .one (.pair tI (.pair tI tI)) v238)]) (obs := [((decide (v238.1 < (0 : Int))) = true), ((decide (v238.1 < (0 : Int))) = true), ((decide (v238.1 < (0 : Int))) = true), ((decide (v238.1 < (0 : Int))) = true), ((decide (v238.1 < (0 : Int))) = true), ((decide (v238.1 < (0 : Int))) = true)]) rfl (by kernel_rfl) (allP2 h243 (allP2 h243 (allP2 h243 (allP2 h243 (allP2 h243 (allP1 h243)))))) ?_
                      obtain rfl := Option.some.inj h
                      refine WO_fin [1, 6, 38, 39, 40, 44, 45, 46, 50] [1, 6] (fr' := [(1, .one (.ptr 1 0)), (6, .one (.ptr 6 0)), (38, aD (.slice (.slice (.pair tI (.pair tI tI)))) a0.2.2), (39, aI (List.length a0.2.2 : Int)), (40, aI i185), (44, aD (.slice (.pair tI (.pair tI tI))) v188), (45, aI (List.length v188 : Int)), (46, aI i235), (50, aB true)]) (L' := [(1, .one (.pair tI (.pair tI (.slice (.slice (.pair tI (.pair tI tI)))))) a0), (6, .one (.pair tI (.pair tI tI)) v238)]) (by kernel_rfl) (by kernel_rfl) ?_
                      exact exQ_mk (by kernel_rfl) (by kernel_rfl)
                    · replace h := ofF h243 h
                      refine WO_run (j := 11) (k := 7) (orcs := [(8, .known false), (10, .known false), (12, .known false), (14, .known false), (16, .known false), (19, .val (.dat .bool false))]) (kF := [1, 6, 38, 39, 40, 44, 45, 46, 50]) (kL := [1, 6]) (fr' := [(1, .one (.ptr 1 0)), (6, .one (.ptr 6 0)), (38, aD (.slice (.slice (.pair tI (.pair tI tI)))) a0.2.2), (39, aI (List.length a0.2.2 : Int)), (40, aI i185), (44, aD (.slice (.pair tI (.pair tI tI))) v188), (45, aI (List.length v188 : Int)), (46, aI i235), (50, aB (decide (v238.1 ≥ a0.2.1)))]) (L' := [(1, .one (.pair tI (.pair tI (.slice (.slice (.pair tI (.pair tI tI)))))) a0), (6, .one (.pair tI (.pair tI tI)) v238)]) (obs := [((decide (v238.1 < (0 : Int))) = false), ((decide (v238.1 < (0 : Int))) = false), ((decide (v238.1 < (0 : Int))) = false), ((decide (v238.1 < (0 : Int))) = false), ((decide (v238.1 < (0 : Int))) = false), ((decide (v238.1 < (0 : Int))) = false)]) rfl (by kernel_rfl) (allP2 h243 (allP2 h243 (allP2 h243 (allP2 h243 (allP2 h243 (allP1 h243)))))) ?_
                      obtain rfl := Option.some.inj h
                      refine WO_fin [1, 6, 38, 39, 40, 44, 45, 46, 50] [1, 6] (fr' := [(1, .one (.ptr 1 0)), (6, .one (.ptr 6 0)), (38, aD (.slice (.slice (.pair tI (.pair tI tI)))) a0.2.2), (39, aI (List.length a0.2.2 : Int)), (40, aI i185), (44, aD (.slice (.pair tI (.pair tI tI))) v188), (45, aI (List.length v188 : Int)), (46, aI i235), (50, aB (decide (v238.1 ≥ a0.2.1)))]) (L' := [(1, .one (.pair tI (.pair tI (.slice (.slice (.pair tI (.pair tI tI)))))) a0), (6, .one (.pair tI (.pair tI tI)) v238)]) (by kernel_rfl) (by kernel_rfl) ?_
                      exact exQ_mk (by kernel_rfl) (by kernel_rfl)
                  · intro e fr L hJ
                    obtain ⟨rfl, rfl, rfl⟩ := hJ
                    refine LT_keep [1, 6, 38, 39, 40, 44, 45, 46, 50] [1, 6] (fr' := [(1, .one (.ptr 1 0)), (6, .one (.ptr 6 0)), (38, aD (.slice (.slice (.pair tI (.pair tI tI)))) a0.2.2), (39, aI (List.length a0.2.2 : Int)), (40, aI i185), (44, aD (.slice (.pair tI (.pair tI tI))) v188), (45, aI (List.length v188 : Int)), (46, aI i235), (50, aB v244)]) (L' := [(1, .one (.pair tI (.pair tI (.slice (.slice (.pair tI (.pair tI tI)))))) a0), (6, .one (.pair tI (.pair tI tI)) v238)]) (by kernel_rfl) ?_
                    refine seqQ_norm ?_
                    refine W_cond (o := .tmp 50) (b := v244) (by kernel_rfl) (by kernel_rfl) (fun h246 => ?_) (fun h246 => ?_)
                    · replace h := ofT h246 h
                      refine W_seq (by kernel_rfl) ?_
                      refine W_run 1 [] [2] [] (fr' := [(2, aI (2 : Int))]) (L' := []) (obs := []) (by kernel_rfl) (by kernel_rfl) (by kernel_rfl) allP0 ?_
                      refine seqQ_norm ?_
                      obtain rfl := Option.some.inj h
                      refine W_ret [2] [] (fr' := [(2, aI (2 : Int))]) (L' := []) (by kernel_rfl) (by kernel_rfl) ?_
                      refine blockQ_ret ?_
                      refine blockQ_ret ?_
                      refine seqQ_ret ?_
                      refine round_ret ?_
                      refine escQ_ret ?_
                      exact exQ_mk (by kernel_rfl) (by kernel_rfl)
                    · replace h := ofF h246 h
                      refine W_seq (by kernel_rfl) ?_
                      obtain ⟨v250, h251, h⟩ := bind_of h
                      refine W_cutK (Q' := (exQ .normal (tape_Check_s34 a0 i185 v188 i235 v238)) v250) ?_ ?_
                      · replace h := h251
                        refine W_region (by kernel_rfl) ?_
                        refine WO_run (j := 4) (k := 4) (orcs := []) (kF := [1, 6, 38, 39, 40, 44, 45, 46, 65]) (kL := [1, 6]) (fr' := [(1, .one (.ptr 1 0)), (6, .one (.ptr 6 0)), (38, aD (.slice (.slice (.pair tI (.pair tI tI)))) a0.2.2), (39, aI (List.length a0.2.2 : Int)), (40, aI i185), (44, aD (.slice (.pair tI (.pair tI tI))) v188), (45, aI (List.length v188 : Int)), (46, aI i235), (65, aB (decide (v238.2.1 < (-1 : Int))))]) (L' := [(1, .one (.pair tI (.pair tI (.slice (.slice (.pair tI (.pair tI tI)))))) a0), (6, .one (.pair tI (.pair tI tI)) v238)]) (obs := []) rfl (by kernel_rfl) allP0 ?_
                        rcases Bool.eq_false_or_eq_true (decide (v238.2.1 < (-1 : Int))) with h249 | h249
                        · replace h := ofT h249 h
                          refine WO_run (j := 9) (k := 5) (orcs := [(8, .known true), (10, .known true), (12, .known true), (15, .val (.dat .bool true))]) (kF := [1, 6, 38, 39, 40, 44, 45, 46, 61]) (kL := [1, 6]) (fr' := [(1, .one (.ptr 1 0)), (6, .one (.ptr 6 0)), (38, aD (.slice (.slice (.pair tI (.pair tI tI)))) a0.2.2), (39, aI (List.length a0.2.2 : Int)), (40, aI i185), (44, aD (.slice (.pair tI (.pair tI tI))) v188), (45, aI (List.length v188 : Int)), (46, aI i235), (61, aB true)]) (L' := [(1, .one (.pair tI (.pair tI (.slice (.slice (.pair tI (.pair tI tI)))))) a0), (6, .one (.pair tI (.pair tI tI)) v238)]) (obs := [((decide (v238.2.1 < (-1 : Int))) = true), ((decide (v238.2.1 < (-1 : Int))) = true), ((decide (v238.2.1 < (-1 : Int))) = true), ((decide (v238.2.1 < (-1 : Int))) = true)]) rfl (by kernel_rfl) (allP2 h249 (allP2 h249 (allP2 h249 (allP1 h249)))) ?_
                          obtain rfl := Option.some.inj h
                          refine WO_fin [1, 6, 38, 39, 40, 44, 45, 46, 61] [1, 6] (fr' := [(1, .one (.ptr 1 0)), (6, .one (.ptr 6 0)), (38, aD (.slice (.slice (.pair tI (.pair tI tI)))) a0.2.2), (39, aI (List.length a0.2.2 : Int)), (40, aI i185), (44, aD (.slice (.pair tI (.pair tI tI))) v188), (45, aI (List.length v188 : Int)), (46, aI i235), (61, aB true)]) (L' := [(1, .one (.pair tI (.pair tI (.slice (.slice (.pair tI (.pair tI tI)))))) a0), (6, .one (.pair tI (.pair tI tI)) v238)]) (by kernel_rfl) (by kernel_rfl) ?_
                          exact exQ_mk (by kernel_rfl) (by kernel_rfl)
                        · replace h := ofF h249 h
                          refine WO_run (j := 9) (k := 5) (orcs := [(8, .known false), (10, .known false), (12, .known false), (15, .val (.dat .bool false))]) (kF := [1, 6, 38, 39, 40, 44, 45, 46, 61]) (kL := [1, 6]) (fr' := [(1, .one (.ptr 1 0)), (6, .one (.ptr 6 0)), (38, aD (.slice (.slice (.pair tI (.pair tI tI)))) a0.2.2), (39, aI (List.length a0.2.2 : Int)), (40, aI i185), (44, aD (.slice (.pair tI (.pair tI tI))) v188), (45, aI (List.length v188 : Int)), (46, aI i235), (61, aB (decide (v238.2.1 > (1 : Int))))]) (L' := [(1, .one (.pair tI (.pair tI (.slice (.slice (.pair tI (.pair tI tI)))))) a0), (6, .one (.pair tI (.pair tI tI)) v238)]) (obs := [((decide (v238.2.1 < (-1 : Int))) = false), ((decide (v238.2.1 < (-1 : Int))) = false), ((decide (v238.2.1 < (-1 : Int))) = false), ((decide (v238.2.1 < (-1 : Int))) = false)]) rfl (by kernel_rfl) (allP2 h249 (allP2 h249 (allP2 h249 (allP1 h249)))) ?_
                          obtain rfl := Option.some.inj h
                          refine WO_fin [1, 6, 38, 39, 40, 44, 45, 46, 61] [1, 6] (fr' := [(1, .one (.ptr 1 0)), (6, .one (.ptr 6 0)), (38, aD (.slice (.slice (.pair tI (.pair tI tI)))) a0.2.2), (39, aI (List.length a0.2.2 : Int)), (40, aI i185), (44, aD (.slice (.pair tI (.pair tI tI))) v188), (45, aI (List.length v188 : Int)), (46, aI i235), (61, aB (decide (v238.2.1 > (1 : Int))))]) (L' := [(1, .one (.pair tI (.pair tI (.slice (.slice (.pair tI (.pair tI tI)))))) a0), (6, .one (.pair tI (.pair tI tI)) v238)]) (by kernel_rfl) (by kernel_rfl) ?_
                          exact exQ_mk (by kernel_rfl) (by kernel_rfl)
                      · intro e fr L hJ
                        obtain ⟨rfl, rfl, rfl⟩ := hJ
                        refine LT_keep [1, 6, 38, 39, 40, 44, 45, 46, 61] [1, 6] (fr' := [(1, .one (.ptr 1 0)), (6, .one (.ptr 6 0)), (38, aD (.slice (.slice (.pair tI (.pair tI tI)))) a0.2.2), (39, aI (List.length a0.2.2 : Int)), (40, aI i185), (44, aD (.slice (.pair tI (.pair tI tI))) v188), (45, aI (List.length v188 : Int)), (46, aI i235), (61, aB v250)]) (L' := [(1, .one (.pair tI (.pair tI (.slice (.slice (.pair tI (.pair tI tI)))))) a0), (6, .one (.pair tI (.pair tI tI)) v238)]) (by kernel_rfl) ?_
                        refine seqQ_norm ?_
                        refine W_cond (o := .tmp 61) (b := v250) (by kernel_rfl) (by kernel_rfl) (fun h252 => ?_) (fun h252 => ?_)
                        · replace h := ofT h252 h
                          refine W_seq (by kernel_rfl) ?_
                          refine W_run 1 [] [2] [] (fr' := [(2, aI (4 : Int))]) (L' := []) (obs := []) (by kernel_rfl) (by kernel_rfl) (by kernel_rfl) allP0 ?_
                          refine seqQ_norm ?_
                          obtain rfl := Option.some.inj h
                          refine W_ret [2] [] (fr' := [(2, aI (4 : Int))]) (L' := []) (by kernel_rfl) (by kernel_rfl) ?_
                          refine blockQ_ret ?_
                          refine blockQ_ret ?_
                          refine seqQ_ret ?_
                          refine round_ret ?_
                          refine escQ_ret ?_
                          exact exQ_mk (by kernel_rfl) (by kernel_rfl)
                        · replace h := ofF h252 h
                          refine W_seq (by kernel_rfl) ?_
                          obtain ⟨v256, h257, h⟩ := bind_of h
                          refine W_cutK (Q' := (exQ .normal (tape_Check_s33 a0 i185 v188 i235)) v256) ?_ ?_
                          · replace h := h257
                            refine W_region (by kernel_rfl) ?_
                            refine WO_run (j := 4) (k := 4) (orcs := []) (kF := [1, 6, 38, 39, 40, 44, 45, 46, 74]) (kL := [1, 6]) (fr' := [(1, .one (.ptr 1 0)), (6, .one (.ptr 6 0)), (38, aD (.slice (.slice (.pair tI (.pair tI tI)))) a0.2.2), (39, aI (List.length a0.2.2 : Int)), (40, aI i185), (44, aD (.slice (.pair tI (.pair tI tI))) v188), (45, aI (List.length v188 : Int)), (46, aI i235), (74, aB (decide (v238.2.2 < (0 : Int))))]) (L' := [(1, .one (.pair tI (.pair tI (.slice (.slice (.pair tI (.pair tI tI)))))) a0), (6, .one (.pair tI (.pair tI tI)) v238)]) (obs := []) rfl (by kernel_rfl) allP0 ?_
                            rcases Bool.eq_false_or_eq_true (decide (v238.2.2 < (0 : Int))) with h255 | h255
                            · replace h := ofT h255 h
                              refine WO_run (j := 11) (k := 7) (orcs := [(8, .known true), (10, .known true), (12, .known true), (14, .known true), (16, .known true), (19, .val (.dat .bool true))]) (kF := [1, 38, 39, 40, 44, 45, 46, 70]) (kL := [1, 6]) (fr' := [(1, .one (.ptr 1 0)), (38, aD (.slice (.slice (.pair tI (.pair tI tI)))) a0.2.2), (39, aI (List.length a0.2.2 : Int)), (40, aI i185), (44, aD (.slice (.pair tI (.pair tI tI))) v188), (45, aI (List.length v188 : Int)), (46, aI i235), (70, aB true)]) (L' := [(1, .one (.pair tI (.pair tI (.slice (.slice (.pair tI (.pair tI tI)))))) a0), (6, .one (.pair tI (.pair tI tI)) v238)]) (obs := [((decide (v238.2.2 < (0 : Int))) = true), ((decide (v238.2.2 < (0 : Int))) = true), ((decide (v238.2.2 < (0 : Int))) = true), ((decide (v238.2.2 < (0 : Int))) = true), ((decide (v238.2.2 < (0 : Int))) = true), ((decide (v238.2.2 < (0 : Int))) = true)]) rfl (by kernel_rfl) (allP2 h255 (allP2 h255 (allP2 h255 (allP2 h255 (allP2 h255 (allP1 h255)))))) ?_
                              obtain rfl := Option.some.inj h
                              refine WO_fin [1, 38, 39, 40, 44, 45, 46, 70] [1] (fr' := [(1, .one (.ptr 1 0)), (38, aD (.slice (.slice (.pair tI (.pair tI tI)))) a0.2.2), (39, aI (List.length a0.2.2 : Int)), (40, aI i185), (44, aD (.slice (.pair tI (.pair tI tI))) v188), (45, aI (List.length v188 : Int)), (46, aI i235), (70, aB true)]) (L' := [(1, .one (.pair tI (.pair tI (.slice (.slice (.pair tI (.pair tI tI)))))) a0)]) (by kernel_rfl) (by kernel_rfl) ?_
                              exact exQ_mk (by kernel_rfl) (by kernel_rfl)
                            · replace h := ofF h255 h
                              refine WO_run (j := 11) (k := 7) (orcs := [(8, .known false), (10, .known false), (12, .known false), (14, .known false), (16, .known false), (19, .val (.dat .bool false))]) (kF := [1, 38, 39, 40, 44, 45, 46, 70]) (kL := [1, 6]) (fr' := [(1, .one (.ptr 1 0)), (38, aD (.slice (.slice (.pair tI (.pair tI tI)))) a0.2.2), (39, aI (List.length a0.2.2 : Int)), (40, aI i185), (44, aD (.slice (.pair tI (.pair tI tI))) v188), (45, aI (List.length v188 : Int)), (46, aI i235), (70, aB (decide (v238.2.2 > a0.1)))]) (L' := [(1, .one (.pair tI (.pair tI (.slice (.slice (.pair tI (.pair tI tI)))))) a0), (6, .one (.pair tI (.pair tI tI)) v238)]) (obs := [((decide (v238.2.2 < (0 : Int))) = false), ((decide (v238.2.2 < (0 : Int))) = false), ((decide (v238.2.2 < (0 : Int))) = false), ((decide (v238.2.2 < (0 : Int))) = false), ((decide (v238.2.2 < (0 : Int))) = false), ((decide (v238.2.2 < (0 : Int))) = false)]) rfl (by kernel_rfl) (allP2 h255 (allP2 h255 (allP2 h255 (allP2 h255 (allP2 h255 (allP1 h255)))))) ?_
                              obtain rfl := Option.some.inj h
                              refine WO_fin [1, 38, 39, 40, 44, 45, 46, 70] [1] (fr' := [(1, .one (.ptr 1 0)), (38, aD (.slice (.slice (.pair tI (.pair tI tI)))) a0.2.2), (39, aI (List.length a0.2.2 : Int)), (40, aI i185), (44, aD (.slice (.pair tI (.pair tI tI))) v188), (45, aI (List.length v188 : Int)), (46, aI i235), (70, aB (decide (v238.2.2 > a0.1)))]) (L' := [(1, .one (.pair tI (.pair tI (.slice (.slice (.pair tI (.pair tI tI)))))) a0)]) (by kernel_rfl) (by kernel_rfl) ?_
                              exact exQ_mk (by kernel_rfl) (by kernel_rfl)
                          · intro e fr L hJ
                            obtain ⟨rfl, rfl, rfl⟩ := hJ
                            refine LT_keep [1, 38, 39, 40, 44, 45, 46, 70] [1] (fr' := [(1, .one (.ptr 1 0)), (38, aD (.slice (.slice (.pair tI (.pair tI tI)))) a0.2.2), (39, aI (List.length a0.2.2 : Int)), (40, aI i185), (44, aD (.slice (.pair tI (.pair tI tI))) v188), (45, aI (List.length v188 : Int)), (46, aI i235), (70, aB v256)]) (L' := [(1, .one (.pair tI (.pair tI (.slice (.slice (.pair tI (.pair tI tI)))))) a0)]) (by kernel_rfl) ?_
                            refine seqQ_norm ?_
                            refine W_cond (o := .tmp 70) (b := v256) (by kernel_rfl) (by kernel_rfl) (fun h258 => ?_) (fun h258 => ?_)
                            · replace h := ofT h258 h
                              refine W_seq (by kernel_rfl) ?_
                              refine W_run 1 [] [2] [] (fr' := [(2, aI (2 : Int))]) (L' := []) (obs := []) (by kernel_rfl) (by kernel_rfl) (by kernel_rfl) allP0 ?_
                              refine seqQ_norm ?_
                              obtain rfl := Option.some.inj h
                              refine W_ret [2] [] (fr' := [(2, aI (2 : Int))]) (L' := []) (by kernel_rfl) (by kernel_rfl) ?_
                              refine blockQ_ret ?_
                              refine blockQ_ret ?_
                              refine seqQ_ret ?_
                              refine round_ret ?_
                              refine escQ_ret ?_
                              exact exQ_mk (by kernel_rfl) (by kernel_rfl)
                            · replace h := ofF h258 h
                              refine W_skip [1, 38, 39, 40, 44, 45, 46] [1] (fr' := [(1, .one (.ptr 1 0)), (38, aD (.slice (.slice (.pair tI (.pair tI tI)))) a0.2.2), (39, aI (List.length a0.2.2 : Int)), (40, aI i185), (44, aD (.slice (.pair tI (.pair tI tI))) v188), (45, aI (List.length v188 : Int)), (46, aI i235)]) (L' := [(1, .one (.pair tI (.pair tI (.slice (.slice (.pair tI (.pair tI tI)))))) a0)]) (by kernel_rfl) (by kernel_rfl) ?_
                              refine blockQ_norm ?_
                              refine blockQ_norm ?_
                              refine seqQ_norm ?_
                              obtain rfl := Option.some.inj h
                              refine W_run 2 [] [1, 38, 39, 40, 44, 45, 46] [1] (fr' := [(1, .one (.ptr 1 0)), (38, aD (.slice (.slice (.pair tI (.pair tI tI)))) a0.2.2), (39, aI (List.length a0.2.2 : Int)), (40, aI i185), (44, aD (.slice (.pair tI (.pair tI tI))) v188), (45, aI (List.length v188 : Int)), (46, aI (w64 (i235 + (1 : Int))))]) (L' := [(1, .one (.pair tI (.pair tI (.slice (.slice (.pair tI (.pair tI tI)))))) a0)]) (obs := []) (by kernel_rfl) (by kernel_rfl) (by kernel_rfl) allP0 ?_
                              exact round_next' (by kernel_rfl) (by kernel_rfl)
                · obtain rfl := stepL_false h240 h
                  refine W_exit (id := 2) [1, 38, 39, 40] [1] (fr' := [(1, .one (.ptr 1 0)), (38, aD (.slice (.slice (.pair tI (.pair tI tI)))) a0.2.2), (39, aI (List.length a0.2.2 : Int)), (40, aI i185)]) (L' := [(1, .one (.pair tI (.pair tI (.slice (.slice (.pair tI (.pair tI tI)))))) a0)]) (by kernel_rfl) (by kernel_rfl) ?_
                  refine seqQ_exit ?_
                  refine round_exit ?_
                  refine escQ_brk ?_
                  exact exQ_mk (by kernel_rfl) (by kernel_rfl)
              · intro e fr L hJ
                rcases v260 with v265 | v266
                · obtain ⟨rfl, rfl, rfl⟩ := hJ
                  obtain rfl := Option.some.inj h
                  refine LT_keep [2] [] (fr' := [(2, aI v265)]) (L' := []) (by kernel_rfl) ?_
                  refine blockQ_ret ?_
                  refine blockQ_ret ?_
                  refine seqQ_ret ?_
                  refine round_ret ?_
                  refine escQ_ret ?_
                  exact exQ_mk (by kernel_rfl) (by kernel_rfl)
                · obtain ⟨rfl, rfl, rfl⟩ := hJ
                  refine LT_keep [1, 38, 39, 40] [1] (fr' := [(1, .one (.ptr 1 0)), (38, aD (.slice (.slice (.pair tI (.pair tI tI)))) a0.2.2), (39, aI (List.length a0.2.2 : Int)), (40, aI i185)]) (L' := [(1, .one (.pair tI (.pair tI (.slice (.slice (.pair tI (.pair tI tI)))))) a0)]) (by kernel_rfl) ?_
                  refine blockQ_hit ?_
                  refine blockQ_norm ?_
                  refine seqQ_norm ?_
                  obtain rfl := Option.some.inj h
                  refine W_run 2 [] [1, 38, 39, 40] [1] (fr' := [(1, .one (.ptr 1 0)), (38, aD (.slice (.slice (.pair tI (.pair tI tI)))) a0.2.2), (39, aI (List.length a0.2.2 : Int)), (40, aI (w64 (i185 + (1 : Int))))]) (L' := [(1, .one (.pair tI (.pair tI (.slice (.slice (.pair tI (.pair tI tI)))))) a0)]) (obs := []) (by kernel_rfl) (by kernel_rfl) (by kernel_rfl) allP0 ?_
                  exact round_next' (by kernel_rfl) (by kernel_rfl)
            · obtain rfl := stepL_false h190 h
              refine W_exit (id := 0) [] [] (fr' := []) (L' := []) (by kernel_rfl) (by kernel_rfl) ?_
              refine seqQ_exit ?_
              refine round_exit ?_
              refine escQ_brk ?_
              exact exQ_mk (by kernel_rfl) (by kernel_rfl)
          · intro e fr L hJ
            rcases v268 with v273 | v274
            · obtain ⟨rfl, rfl, rfl⟩ := hJ
              obtain rfl := Option.some.inj h
              refine LT_keep [2] [] (fr' := [(2, aI v273)]) (L' := []) (by kernel_rfl) ?_
              refine blockQ_ret ?_
              refine seqQ_ret ?_
              exact retQ_mk (by kernel_rfl) (by kernel_rfl) (by kernel_rfl)
            · obtain ⟨rfl, rfl, rfl⟩ := hJ
              refine LT_keep [] [] (fr' := []) (L' := []) (by kernel_rfl) ?_
              refine blockQ_hit ?_
              refine seqQ_norm ?_
              refine W_seq (by kernel_rfl) ?_
              refine W_run 1 [] [2] [] (fr' := [(2, aI (0 : Int))]) (L' := []) (obs := []) (by kernel_rfl) (by kernel_rfl) (by kernel_rfl) allP0 ?_
              refine seqQ_norm ?_
              obtain rfl := Option.some.inj h
              refine W_ret [2] [] (fr' := [(2, aI (0 : Int))]) (L' := []) (by kernel_rfl) (by kernel_rfl) ?_
              exact retQ_mk (by kernel_rfl) (by kernel_rfl) (by kernel_rfl)

def busy_Number_b8 (a0 : (Int × (Int × (List (List (Int × (Int × Int))))))) (i84 : Int) (v87 : (Int × (Int × Int))) (x85 : Int) : Option (Flow Int (Esc (Int × Int) Int)) :=
bif v87.2.1 == (0 : Int) then
(some (.done (.ret ((0 : Int), (3 : Int)))))
else
(some (.next (w64 ((w64 ((w64 ((w64 (x85 * (4 : Int))) * (w64 (a0.1 + (1 : Int))))) + (w64 ((w64 ((w64 ((2 : Int) * v87.1)) + (w64 (Int.tdiv (w64 (v87.2.1 + (1 : Int))) (2 : Int))))) * (w64 (a0.1 + (1 : Int))))))) + v87.2.2))))
@[reducible] def busy_Number_s9 (a0 : (Int × (Int × (List (List (Int × (Int × Int))))))) (i68 : Int) (v71 : (List (Int × (Int × Int)))) (v : Int × Int) : Fr × LL := ([(1, .one (.ptr 1 0)), (5, aI v.2), (24, aD (.slice (.slice (.pair tI (.pair tI tI)))) a0.2.2), (25, aI (List.length a0.2.2 : Int)), (26, aI i68), (30, aD (.slice (.pair tI (.pair tI tI))) v71), (31, aI (List.length v71 : Int)), (32, aI v.1)], [(1, .one (.pair tI (.pair tI (.slice (.slice (.pair tI (.pair tI tI)))))) a0)])
@[reducible] def busy_Number_s10 (v : (Int × Int)) : Fr × LL := ([(2, aI v.1), (3, aI v.2)], [])
@[reducible] def busy_Number_s11 (a0 : (Int × (Int × (List (List (Int × (Int × Int))))))) (i68 : Int) (v : Int) : Fr × LL := ([(1, .one (.ptr 1 0)), (5, aI v), (24, aD (.slice (.slice (.pair tI (.pair tI tI)))) a0.2.2), (25, aI (List.length a0.2.2 : Int)), (26, aI i68)], [(1, .one (.pair tI (.pair tI (.slice (.slice (.pair tI (.pair tI tI)))))) a0)])
def busy_Number_b12 (a0 : (Int × (Int × (List (List (Int × (Int × Int))))))) (i68 : Int) (v71 : (List (Int × (Int × Int)))) (x69 : Int) : Option (Flow Int (Esc (Int × Int) Int)) :=
(forL (busy_Number_b8 a0) (fun x85 => (.brk x85)) v71 0 x69).bind fun v92 =>
match v92 with
| .ret v97 =>
(some (.done (.ret (v97.1, v97.2))))
| .brk v98 =>
(some (.next v98))
@[reducible] def busy_Number_s13 (a0 : (Int × (Int × (List (List (Int × (Int × Int))))))) (v : Int × Int) : Fr × LL := ([(1, .one (.ptr 1 0)), (5, aI v.2), (24, aD (.slice (.slice (.pair tI (.pair tI tI)))) a0.2.2), (25, aI (List.length a0.2.2 : Int)), (26, aI v.1)], [(1, .one (.pair tI (.pair tI (.slice (.slice (.pair tI (.pair tI tI)))))) a0)])
@[reducible] def busy_Number_s14 (v : (Int × Int)) : Fr × LL := ([(2, aI v.1), (3, aI v.2)], [])
@[reducible] def busy_Number_s15 (v : Int) : Fr × LL := ([(5, aI v)], [])
@[reducible] def busy_Number_s16 (a0 : (Int × (Int × (List (List (Int × (Int × Int))))))) (v : Bool) : Fr × LL := ([(1, .one (.ptr 1 0)), (22, aB v)], [(1, .one (.pair tI (.pair tI (.slice (.slice (.pair tI (.pair tI tI)))))) a0)])
def busy_Number (a0 : (Int × (Int × (List (List (Int × (Int × Int))))))) : Option (Int × Int) :=
(tape_Check a0).bind fun r1 =>
bif r1 != (0 : Int) then
(some ((0 : Int), r1))
else
((bif decide (a0.1 > (2 : Int)) then
(some true)
else
(some (a0.2.1 != (2 : Int)))).bind fun v7 =>
bif v7 then
(some ((0 : Int), (3 : Int)))
else
((forL (busy_Number_b12 a0) (fun x69 => (.brk x69)) a0.2.2 0 (0 : Int)).bind fun v100 =>
match v100 with
| .ret v105 =>
(some (v105.1, v105.2))
| .brk v106 =>
(some (v106, (0 : Int)))))
theorem busy_Number_ok {a0 : (Int × (Int × (List (List (Int × (Int × Int))))))} {r : (Int × Int)} (h : busy_Number a0 = some r) : FnC Try.prog 34 [aD (.pair tI (.pair tI (.slice (.slice (.pair tI (.pair tI tI)))))) a0] [] (.tup [.dat tI r.1, .dat tI r.2]) [] := by
  refine fnC_of_W (B := bodyOf Try.f34) (n := 64) Try.func34 (by kernel_rfl) (by kernel_rfl) (by kernel_rfl) (by kernel_rfl) (by kernel_rfl) ?_
  intro K
  refine W_seq (by kernel_rfl) ?_
  refine W_run 3 [] [1] [1] (fr' := [(1, .one (.ptr 1 0))]) (L' := [(1, .one (.pair tI (.pair tI (.slice (.slice (.pair tI (.pair tI tI)))))) a0)]) (obs := []) (by kernel_rfl) (by kernel_rfl) (by kernel_rfl) allP0 ?_
  refine seqQ_norm ?_
  refine W_seq (by kernel_rfl) ?_
  refine W_seq (by kernel_rfl) ?_
  refine W_region (by kernel_rfl) ?_
  refine WO_run (j := 1) (k := 1) (orcs := []) (kF := [1, 10]) (kL := [1]) (fr' := [(1, .one (.ptr 1 0)), (10, aD (.pair tI (.pair tI (.slice (.slice (.pair tI (.pair tI tI)))))) a0)]) (L' := [(1, .one (.pair tI (.pair tI (.slice (.slice (.pair tI (.pair tI tI)))))) a0)]) (obs := []) rfl (by kernel_rfl) allP0 ?_
  obtain ⟨r1, h2, h⟩ := bind_of h
  refine WO_call0 (us := [none]) (d := 11) (p := True) (j := 2) rfl ⟨by kernel_rfl, by kernel_rfl, by kernel_rfl⟩ trivial (tape_Check_ok h2) (by kernel_rfl) ?_
  refine WO_run (j := 3) (k := 1) (orcs := []) (kF := [1, 4]) (kL := [1]) (fr' := [(1, .one (.ptr 1 0)), (4, aI r1)]) (L' := [(1, .one (.pair tI (.pair tI (.slice (.slice (.pair tI (.pair tI tI)))))) a0)]) (obs := []) rfl (by kernel_rfl) allP0 ?_
  refine WO_fin [1, 4] [1] (fr' := [(1, .one (.ptr 1 0)), (4, aI r1)]) (L' := [(1, .one (.pair tI (.pair tI (.slice (.slice (.pair tI (.pair tI tI)))))) a0)]) (by kernel_rfl) (by kernel_rfl) ?_
  refine seqQ_norm ?_
  refine W_seq (by kernel_rfl) ?_
  refine W_run 2 [] [1, 4, 13] [1] (fr' := [(1, .one (.ptr 1 0)), (4, aI r1), (13, aB (r1 != (0 : Int)))]) (L' := [(1, .one (.pair tI (.pair tI (.slice (.slice (.pair tI (.pair tI tI)))))) a0)]) (obs := []) (by kernel_rfl) (by kernel_rfl) (by kernel_rfl) allP0 ?_
  refine seqQ_norm ?_
  refine W_cond (o := .tmp 13) (b := r1 != (0 : Int)) (by kernel_rfl) (by kernel_rfl) (fun h3 => ?_) (fun h3 => ?_)
  · replace h := ofT h3 h
    refine W_seq (by kernel_rfl) ?_
    refine W_run 3 [] [2, 3] [] (fr' := [(2, aI (0 : Int)), (3, aI r1)]) (L' := []) (obs := []) (by kernel_rfl) (by kernel_rfl) (by kernel_rfl) allP0 ?_
    refine seqQ_norm ?_
    obtain rfl := Option.some.inj h
    refine W_ret [2, 3] [] (fr' := [(2, aI (0 : Int)), (3, aI r1)]) (L' := []) (by kernel_rfl) (by kernel_rfl) ?_
    refine seqQ_ret ?_
    exact retQ_mk (by kernel_rfl) (by kernel_rfl) (by kernel_rfl)
  · replace h := ofF h3 h
    refine W_skip [1] [1] (fr' := [(1, .one (.ptr 1 0))]) (L' := [(1, .one (.pair tI (.pair tI (.slice (.slice (.pair tI (.pair tI tI)))))) a0)]) (by kernel_rfl) (by kernel_rfl) ?_
    refine seqQ_norm ?_
    refine W_seq (by kernel_rfl) ?_
    refine W_seq (by kernel_rfl) ?_
    obtain ⟨v7, h8, h⟩ := bind_of h
    refine W_cutK (Q' := (exQ .normal (busy_Number_s16 a0)) v7) ?_ ?_
    · replace h := h8
      refine W_region (by kernel_rfl) ?_
      refine WO_run (j := 4) (k := 4) (orcs := []) (kF := [1, 18]) (kL := [1]) (fr' := [(1, .one (.ptr 1 0)), (18, aB (decide (a0.1 > (2 : Int))))]) (L' := [(1, .one (.pair tI (.pair tI (.slice (.slice (.pair tI (.pair tI tI)))))) a0)]) (obs := []) rfl (by kernel_rfl) allP0 ?_
      rcases Bool.eq_false_or_eq_true (decide (a0.1 > (2 : Int))) with h6 | h6
      · replace h := ofT h6 h
        refine WO_run (j := 8) (k := 4) (orcs := [(8, .known true), (10, .known true), (12, .known true), (15, .val (.dat .bool true))]) (kF := [1, 22]) (kL := [1]) (fr' := [(1, .one (.ptr 1 0)), (22, aB true)]) (L' := [(1, .one (.pair tI (.pair tI (.slice (.slice (.pair tI (.pair tI tI)))))) a0)]) (obs := [((decide (a0.1 > (2 : Int))) = true), ((decide (a0.1 > (2 : Int))) = true), ((decide (a0.1 > (2 : Int))) = true), ((decide (a0.1 > (2 : Int))) = true)]) rfl (by kernel_rfl) (allP2 h6 (allP2 h6 (allP2 h6 (allP1 h6)))) ?_
        obtain rfl := Option.some.inj h
        refine WO_fin [1, 22] [1] (fr' := [(1, .one (.ptr 1 0)), (22, aB true)]) (L' := [(1, .one (.pair tI (.pair tI (.slice (.slice (.pair tI (.pair tI tI)))))) a0)]) (by kernel_rfl) (by kernel_rfl) ?_
        exact exQ_mk (by kernel_rfl) (by kernel_rfl)
      · replace h := ofF h6 h
        refine WO_run (j := 8) (k := 4) (orcs := [(8, .known false), (10, .known false), (12, .known false), (15, .val (.dat .bool false))]) (kF := [1, 22]) (kL := [1]) (fr' := [(1, .one (.ptr 1 0)), (22, aB (a0.2.1 != (2 : Int)))]) (L' := [(1, .one (.pair tI (.pair tI (.slice (.slice (.pair tI (.pair tI tI)))))) a0)]) (obs := [((decide (a0.1 > (2 : Int))) = false), ((decide (a0.1 > (2 : Int))) = false), ((decide (a0.1 > (2 : Int))) = false), ((decide (a0.1 > (2 : Int))) = false)]) rfl (by kernel_rfl) (allP2 h6 (allP2 h6 (allP2 h6 (allP1 h6)))) ?_
        obtain rfl := Option.some.inj h
        refine WO_fin [1, 22] [1] (fr' := [(1, .one (.ptr 1 0)), (22, aB (a0.2.1 != (2 : Int)))]) (L' := [(1, .one (.pair tI (.pair tI (.slice (.slice (.pair tI (.pair tI tI)))))) a0)]) (by kernel_rfl) (by kernel_rfl) ?_
        exact exQ_mk (by kernel_rfl) (by kernel_rfl)
    · intro e fr L hJ
      obtain ⟨rfl, rfl, rfl⟩ := hJ
      refine LT_keep [1, 22] [1] (fr' := [(1, .one (.ptr 1 0)), (22, aB v7)]) (L' := [(1, .one (.pair tI (.pair tI (.slice (.slice (.pair tI (.pair tI tI)))))) a0)]) (by kernel_rfl) ?_
      refine seqQ_norm ?_
      refine W_cond (o := .tmp 22) (b := v7) (by kernel_rfl) (by kernel_rfl) (fun h9 => ?_) (fun h9 => ?_)
      · replace h := ofT h9 h
        refine W_seq (by kernel_rfl) ?_
        refine W_run 2 [] [2, 3] [] (fr' := [(2, aI (0 : Int)), (3, aI (3 : Int))]) (L' := []) (obs := []) (by kernel_rfl) (by kernel_rfl) (by kernel_rfl) allP0 ?_
        refine seqQ_norm ?_
        obtain rfl := Option.some.inj h
        refine W_ret [2, 3] [] (fr' := [(2, aI (0 : Int)), (3, aI (3 : Int))]) (L' := []) (by kernel_rfl) (by kernel_rfl) ?_
        refine seqQ_ret ?_
        exact retQ_mk (by kernel_rfl) (by kernel_rfl) (by kernel_rfl)
      · replace h := ofF h9 h
        refine W_skip [1] [1] (fr' := [(1, .one (.ptr 1 0))]) (L' := [(1, .one (.pair tI (.pair tI (.slice (.slice (.pair tI (.pair tI tI)))))) a0)]) (by kernel_rfl) (by kernel_rfl) ?_
        refine seqQ_norm ?_
        refine W_seq (by kernel_rfl) ?_
        refine W_run 1 [] [1, 5] [1] (fr' := [(1, .one (.ptr 1 0)), (5, aI (0 : Int))]) (L' := [(1, .one (.pair tI (.pair tI (.slice (.slice (.pair tI (.pair tI tI)))))) a0)]) (obs := []) (by kernel_rfl) (by kernel_rfl) (by kernel_rfl) allP0 ?_
        refine seqQ_norm ?_
        refine W_seq (by kernel_rfl) ?_
        refine W_seq (by kernel_rfl) ?_
        refine W_run 4 [] [1, 5, 24, 25, 26] [1] (fr' := [(1, .one (.ptr 1 0)), (5, aI (0 : Int)), (24, aD (.slice (.slice (.pair tI (.pair tI tI)))) a0.2.2), (25, aI (List.length a0.2.2 : Int)), (26, aI (0 : Int))]) (L' := [(1, .one (.pair tI (.pair tI (.slice (.slice (.pair tI (.pair tI tI)))))) a0)]) (obs := []) (by kernel_rfl) (by kernel_rfl) (by kernel_rfl) allP0 ?_
        refine seqQ_norm ?_
        refine W_block (id := 0) (by kernel_rfl) ?_
        obtain ⟨v100, h101, h⟩ := bind_of h
        refine W_len (t := 24) (u := (.slice (.pair tI (.pair tI tI)))) (xs := a0.2.2) (by kernel_rfl) (fun h104 => ?_)
        obtain ⟨h102, h103⟩ := forL_iter h104 h101
        refine W_weaken [1, 5, 24, 25, 26] [1] (fr' := ((busy_Number_s13 a0) ((0 : Int), (0 : Int))).1) (L' := ((busy_Number_s13 a0) ((0 : Int), (0 : Int))).2) (by kernel_rfl) ?_
        refine W_cutK (W_loop (S := (busy_Number_s13 a0)) (J := (escQ (exQ .ret busy_Number_s14) (exQ (.exit 0) busy_Number_s15))) (by kernel_rfl) ?_ h102 _ v100 h103) ?_
        · rintro ⟨i68, x69⟩ s h
          refine W_seq (by kernel_rfl) ?_
          refine W_run 1 [] [1, 5, 24, 25, 26, 27] [1] (fr' := [(1, .one (.ptr 1 0)), (5, aI x69), (24, aD (.slice (.slice (.pair tI (.pair tI tI)))) a0.2.2), (25, aI (List.length a0.2.2 : Int)), (26, aI i68), (27, aB (decide (i68 < (List.length a0.2.2 : Int))))]) (L' := [(1, .one (.pair tI (.pair tI (.slice (.slice (.pair tI (.pair tI tI)))))) a0)]) (obs := []) (by kernel_rfl) (by kernel_rfl) (by kernel_rfl) allP0 ?_
          refine seqQ_norm ?_
          refine W_seq (by kernel_rfl) ?_
          refine W_cond (o := .tmp 27) (b := decide (i68 < (List.length a0.2.2 : Int))) (by kernel_rfl) (by kernel_rfl) (fun h73 => ?_) (fun h73 => ?_)
          · replace h := stepL_true h73 h
            obtain ⟨v71, _, h72, h, rfl⟩ := h
            refine W_skip [1, 5, 24, 25, 26] [1] (fr' := [(1, .one (.ptr 1 0)), (5, aI x69), (24, aD (.slice (.slice (.pair tI (.pair tI tI)))) a0.2.2), (25, aI (List.length a0.2.2 : Int)), (26, aI i68)]) (L' := [(1, .one (.pair tI (.pair tI (.slice (.slice (.pair tI (.pair tI tI)))))) a0)]) (by kernel_rfl) (by kernel_rfl) ?_
            refine seqQ_norm ?_
            refine W_seq (by kernel_rfl) ?_
            refine W_block (id := 1) (by kernel_rfl) ?_
            refine W_seq (by kernel_rfl) ?_
            refine W_run 3 [(1, .val (.dat (.slice (.pair tI (.pair tI tI))) v71))] [1, 5, 7, 24, 25, 26] [1] (fr' := [(1, .one (.ptr 1 0)), (5, aI x69), (7, aD (.slice (.pair tI (.pair tI tI))) v71), (24, aD (.slice (.slice (.pair tI (.pair tI tI)))) a0.2.2), (25, aI (List.length a0.2.2 : Int)), (26, aI i68)]) (L' := [(1, .one (.pair tI (.pair tI (.slice (.slice (.pair tI (.pair tI tI)))))) a0)]) (obs := [Idx a0.2.2 i68 v71]) (by kernel_rfl) (by kernel_rfl) (by kernel_rfl) (allP1 (Idx.of h72)) ?_
            refine seqQ_norm ?_
            refine W_seq (by kernel_rfl) ?_
            refine W_run 3 [] [1, 5, 24, 25, 26, 30, 31, 32] [1] (fr' := [(1, .one (.ptr 1 0)), (5, aI x69), (24, aD (.slice (.slice (.pair tI (.pair tI tI)))) a0.2.2), (25, aI (List.length a0.2.2 : Int)), (26, aI i68), (30, aD (.slice (.pair tI (.pair tI tI))) v71), (31, aI (List.length v71 : Int)), (32, aI (0 : Int))]) (L' := [(1, .one (.pair tI (.pair tI (.slice (.slice (.pair tI (.pair tI tI)))))) a0)]) (obs := []) (by kernel_rfl) (by kernel_rfl) (by kernel_rfl) allP0 ?_
            refine seqQ_norm ?_
            refine W_block (id := 2) (by kernel_rfl) ?_
            obtain ⟨v92, h93, h⟩ := bind_of h
            refine W_len (t := 30) (u := (.pair tI (.pair tI tI))) (xs := v71) (by kernel_rfl) (fun h96 => ?_)
            obtain ⟨h94, h95⟩ := forL_iter h96 h93
            refine W_weaken [1, 5, 24, 25, 26, 30, 31, 32] [1] (fr' := ((busy_Number_s9 a0 i68 v71) ((0 : Int), x69)).1) (L' := ((busy_Number_s9 a0 i68 v71) ((0 : Int), x69)).2) (by kernel_rfl) ?_
            refine W_cutK (W_loop (S := (busy_Number_s9 a0 i68 v71)) (J := (escQ (exQ .ret busy_Number_s10) (exQ (.exit 2) (busy_Number_s11 a0 i68)))) (by kernel_rfl) ?_ h94 _ v92 h95) ?_
            · rintro ⟨i84, x85⟩ s h
              refine W_seq (by kernel_rfl) ?_
              refine W_run 1 [] [1, 5, 24, 25, 26, 30, 31, 32, 33] [1] (fr' := [(1, .one (.ptr 1 0)), (5, aI x85), (24, aD (.slice (.slice (.pair tI (.pair tI tI)))) a0.2.2), (25, aI (List.length a0.2.2 : Int)), (26, aI i68), (30, aD (.slice (.pair tI (.pair tI tI))) v71), (31, aI (List.length v71 : Int)), (32, aI i84), (33, aB (decide (i84 < (List.length v71 : Int))))]) (L' := [(1, .one (.pair tI (.pair tI (.slice (.slice (.pair tI (.pair tI tI)))))) a0)]) (obs := []) (by kernel_rfl) (by kernel_rfl) (by kernel_rfl) allP0 ?_
              refine seqQ_norm ?_
              refine W_seq (by kernel_rfl) ?_
              refine W_cond (o := .tmp 33) (b := decide (i84 < (List.length v71 : Int))) (by kernel_rfl) (by kernel_rfl) (fun h89 => ?_) (fun h89 => ?_)
              · replace h := stepL_true h89 h
                obtain ⟨v87, _, h88, h, rfl⟩ := h
                refine W_skip [1, 5, 24, 25, 26, 30, 31, 32] [1] (fr' := [(1, .one (.ptr 1 0)), (5, aI x85), (24, aD (.slice (.slice (.pair tI (.pair tI tI)))) a0.2.2), (25, aI (List.length a0.2.2 : Int)), (26, aI i68), (30, aD (.slice (.pair tI (.pair tI tI))) v71), (31, aI (List.length v71 : Int)), (32, aI i84)]) (L' := [(1, .one (.pair tI (.pair tI (.slice (.slice (.pair tI (.pair tI tI)))))) a0)]) (by kernel_rfl) (by kernel_rfl) ?_
                refine seqQ_norm ?_
                refine W_seq (by kernel_rfl) ?_
                refine W_block (id := 3) (by kernel_rfl) ?_
                refine W_seq (by kernel_rfl) ?_
                refine W_run 4 [(1, .val (.dat (.pair tI (.pair tI tI)) v87)), (5, .typed)] [1, 5, 9, 24, 25, 26, 30, 31, 32] [1, 9] (fr' := [(1, .one (.ptr 1 0)), (5, aI x85), (9, .one (.ptr 9 0)), (24, aD (.slice (.slice (.pair tI (.pair tI tI)))) a0.2.2), (25, aI (List.length a0.2.2 : Int)), (26, aI i68), (30, aD (.slice (.pair tI (.pair tI tI))) v71), (31, aI (List.length v71 : Int)), (32, aI i84)]) (L' := [(1, .one (.pair tI (.pair tI (.slice (.slice (.pair tI (.pair tI tI)))))) a0), (9, .one (.pair tI (.pair tI tI)) v87)]) (obs := [Idx v71 i84 v87, True]) (by kernel_rfl) (by kernel_rfl) (by kernel_rfl) (allP2 (Idx.of h88) (allP1 trivial)) ?_
                refine seqQ_norm ?_
                refine W_seq (by kernel_rfl) ?_
                refine W_seq (by kernel_rfl) ?_
                refine W_run 3 [] [1, 5, 9, 24, 25, 26, 30, 31, 32, 38] [1, 9] (fr' := [(1, .one (.ptr 1 0)), (5, aI x85), (9, .one (.ptr 9 0)), (24, aD (.slice (.slice (.pair tI (.pair tI tI)))) a0.2.2), (25, aI (List.length a0.2.2 : Int)), (26, aI i68), (30, aD (.slice (.pair tI (.pair tI tI))) v71), (31, aI (List.length v71 : Int)), (32, aI i84), (38, aB (v87.2.1 == (0 : Int)))]) (L' := [(1, .one (.pair tI (.pair tI (.slice (.slice (.pair tI (.pair tI tI)))))) a0), (9, .one (.pair tI (.pair tI tI)) v87)]) (obs := []) (by kernel_rfl) (by kernel_rfl) (by kernel_rfl) allP0 ?_
                refine seqQ_norm ?_
                refine W_cond (o := .tmp 38) (b := v87.2.1 == (0 : Int)) (by kernel_rfl) (by kernel_rfl) (fun h90 => ?_) (fun h90 => ?_)
                · replace h := ofT h90 h
                  refine W_seq (by kernel_rfl) ?_
                  refine W_run 2 [] [2, 3] [] (fr' := [(2, aI (0 : Int)), (3, aI (3 : Int))]) (L' := []) (obs := []) (by kernel_rfl) (by kernel_rfl) (by kernel_rfl) allP0 ?_
                  refine seqQ_norm ?_
                  obtain rfl := Option.some.inj h
                  refine W_ret [2, 3] [] (fr' := [(2, aI (0 : Int)), (3, aI (3 : Int))]) (L' := []) (by kernel_rfl) (by kernel_rfl) ?_
                  refine seqQ_ret ?_
                  refine blockQ_ret ?_
                  refine seqQ_ret ?_
                  refine round_ret ?_
                  refine escQ_ret ?_
                  exact exQ_mk (by kernel_rfl) (by kernel_rfl)
                · replace h := ofF h90 h
                  refine W_skip [1, 5, 9, 24, 25, 26, 30, 31, 32] [1, 9] (fr' := [(1, .one (.ptr 1 0)), (5, aI x85), (9, .one (.ptr 9 0)), (24, aD (.slice (.slice (.pair tI (.pair tI tI)))) a0.2.2), (25, aI (List.length a0.2.2 : Int)), (26, aI i68), (30, aD (.slice (.pair tI (.pair tI tI))) v71), (31, aI (List.length v71 : Int)), (32, aI i84)]) (L' := [(1, .one (.pair tI (.pair tI (.slice (.slice (.pair tI (.pair tI tI)))))) a0), (9, .one (.pair tI (.pair tI tI)) v87)]) (by kernel_rfl) (by kernel_rfl) ?_
                  refine seqQ_norm ?_
                  refine W_run 23 [] [1, 5, 24, 25, 26, 30, 31, 32] [1] (fr' := [(1, .one (.ptr 1 0)), (5, aI (w64 ((w64 ((w64 ((w64 (x85 * (4 : Int))) * (w64 (a0.1 + (1 : Int))))) + (w64 ((w64 ((w64 ((2 : Int) * v87.1)) + (w64 (Int.tdiv (w64 (v87.2.1 + (1 : Int))) (2 : Int))))) * (w64 (a0.1 + (1 : Int))))))) + v87.2.2))), (24, aD (.slice (.slice (.pair tI (.pair tI tI)))) a0.2.2), (25, aI (List.length a0.2.2 : Int)), (26, aI i68), (30, aD (.slice (.pair tI (.pair tI tI))) v71), (31, aI (List.length v71 : Int)), (32, aI i84)]) (L' := [(1, .one (.pair tI (.pair tI (.slice (.slice (.pair tI (.pair tI tI)))))) a0)]) (obs := [((2 : Int) ≠ 0)]) (by kernel_rfl) (by kernel_rfl) (by kernel_rfl) (allP1 (by decide)) ?_
                  refine blockQ_norm ?_
                  refine seqQ_norm ?_
                  obtain rfl := Option.some.inj h
                  refine W_run 2 [] [1, 5, 24, 25, 26, 30, 31, 32] [1] (fr' := [(1, .one (.ptr 1 0)), (5, aI (w64 ((w64 ((w64 ((w64 (x85 * (4 : Int))) * (w64 (a0.1 + (1 : Int))))) + (w64 ((w64 ((w64 ((2 : Int) * v87.1)) + (w64 (Int.tdiv (w64 (v87.2.1 + (1 : Int))) (2 : Int))))) * (w64 (a0.1 + (1 : Int))))))) + v87.2.2))), (24, aD (.slice (.slice (.pair tI (.pair tI tI)))) a0.2.2), (25, aI (List.length a0.2.2 : Int)), (26, aI i68), (30, aD (.slice (.pair tI (.pair tI tI))) v71), (31, aI (List.length v71 : Int)), (32, aI (w64 (i84 + (1 : Int))))]) (L' := [(1, .one (.pair tI (.pair tI (.slice (.slice (.pair tI (.pair tI tI)))))) a0)]) (obs := []) (by kernel_rfl) (by kernel_rfl) (by kernel_rfl) allP0 ?_
                  exact round_next' (by kernel_rfl) (by kernel_rfl)
              · obtain rfl := stepL_false h89 h
                refine W_exit (id := 2) [1, 5, 24, 25, 26] [1] (fr' := [(1, .one (.ptr 1 0)), (5, aI x85), (24, aD (.slice (.slice (.pair tI (.pair tI tI)))) a0.2.2), (25, aI (List.length a0.2.2 : Int)), (26, aI i68)]) (L' := [(1, .one (.pair tI (.pair tI (.slice (.slice (.pair tI (.pair tI tI)))))) a0)]) (by kernel_rfl) (by kernel_rfl) ?_
                refine seqQ_exit ?_
                refine round_exit ?_
                refine escQ_brk ?_
                exact exQ_mk (by kernel_rfl) (by kernel_rfl)
            · intro e fr L hJ
              rcases v92 with v97 | v98
              · obtain ⟨rfl, rfl, rfl⟩ := hJ
                obtain rfl := Option.some.inj h
                refine LT_keep [2, 3] [] (fr' := [(2, aI v97.1), (3, aI v97.2)]) (L' := []) (by kernel_rfl) ?_
                refine blockQ_ret ?_
                refine blockQ_ret ?_
                refine seqQ_ret ?_
                refine round_ret ?_
                refine escQ_ret ?_
                exact exQ_mk (by kernel_rfl) (by kernel_rfl)
              · obtain ⟨rfl, rfl, rfl⟩ := hJ
                refine LT_keep [1, 5, 24, 25, 26] [1] (fr' := [(1, .one (.ptr 1 0)), (5, aI v98), (24, aD (.slice (.slice (.pair tI (.pair tI tI)))) a0.2.2), (25, aI (List.length a0.2.2 : Int)), (26, aI i68)]) (L' := [(1, .one (.pair tI (.pair tI (.slice (.slice (.pair tI (.pair tI tI)))))) a0)]) (by kernel_rfl) ?_
                refine blockQ_hit ?_
                refine blockQ_norm ?_
                refine seqQ_norm ?_
                obtain rfl := Option.some.inj h
                refine W_run 2 [] [1, 5, 24, 25, 26] [1] (fr' := [(1, .one (.ptr 1 0)), (5, aI v98), (24, aD (.slice (.slice (.pair tI (.pair tI tI)))) a0.2.2), (25, aI (List.length a0.2.2 : Int)), (26, aI (w64 (i68 + (1 : Int))))]) (L' := [(1, .one (.pair tI (.pair tI (.slice (.slice (.pair tI (.pair tI tI)))))) a0)]) (obs := []) (by kernel_rfl) (by kernel_rfl) (by kernel_rfl) allP0 ?_
                exact round_next' (by kernel_rfl) (by kernel_rfl)
          · obtain rfl := stepL_false h73 h
            refine W_exit (id := 0) [5] [] (fr' := [(5, aI x69)]) (L' := []) (by kernel_rfl) (by kernel_rfl) ?_
            refine seqQ_exit ?_
            refine round_exit ?_
            refine escQ_brk ?_
            exact exQ_mk (by kernel_rfl) (by kernel_rfl)
        · intro e fr L hJ
          rcases v100 with v105 | v106
          · obtain ⟨rfl, rfl, rfl⟩ := hJ
            obtain rfl := Option.some.inj h
            refine LT_keep [2, 3] [] (fr' := [(2, aI v105.1), (3, aI v105.2)]) (L' := []) (by kernel_rfl) ?_
            refine blockQ_ret ?_
            refine seqQ_ret ?_
            exact retQ_mk (by kernel_rfl) (by kernel_rfl) (by kernel_rfl)
          · obtain ⟨rfl, rfl, rfl⟩ := hJ
            refine LT_keep [5] [] (fr' := [(5, aI v106)]) (L' := []) (by kernel_rfl) ?_
            refine blockQ_hit ?_
            refine seqQ_norm ?_
            refine W_seq (by kernel_rfl) ?_
            refine W_run 3 [] [2, 3] [] (fr' := [(2, aI v106), (3, aI (0 : Int))]) (L' := []) (obs := []) (by kernel_rfl) (by kernel_rfl) (by kernel_rfl) allP0 ?_
            refine seqQ_norm ?_
            obtain rfl := Option.some.inj h
            refine W_ret [2, 3] [] (fr' := [(2, aI v106), (3, aI (0 : Int))]) (L' := []) (by kernel_rfl) (by kernel_rfl) ?_
            exact retQ_mk (by kernel_rfl) (by kernel_rfl) (by kernel_rfl)

def ref_Within (a0 : Int) (a1 : Int) (a2 : Int) : Option Bool :=
some ((decide (a0 ≤ a1)) && (decide (a1 ≤ a2)))
theorem ref_Within_ok {a0 : Int} {a1 : Int} {a2 : Int} {r : Bool} (h : ref_Within a0 a1 a2 = some r) : FnC Try.prog 37 [aI a0, aI a1, aI a2] [] (aB r) [] := by
  refine fnC_of_W (B := bodyOf Try.f37) (n := 15) Try.func37 (by kernel_rfl) (by kernel_rfl) (by kernel_rfl) (by kernel_rfl) (by kernel_rfl) ?_
  intro K
  refine W_seq (by kernel_rfl) ?_
  refine W_run 1 [] [0, 1, 2] [] (fr' := [(0, aI a0), (1, aI a1), (2, aI a2)]) (L' := []) (obs := []) (by kernel_rfl) (by kernel_rfl) (by kernel_rfl) allP0 ?_
  refine seqQ_norm ?_
  refine W_seq (by kernel_rfl) ?_
  refine W_run 9 [] [6] [] (fr' := [(6, aB ((decide (a0 ≤ a1)) && (decide (a1 ≤ a2))))]) (L' := []) (obs := []) (by kernel_rfl) (by kernel_rfl) (by kernel_rfl) allP0 ?_
  refine seqQ_norm ?_
  obtain rfl := Option.some.inj h
  refine W_ret [6] [] (fr' := [(6, aB ((decide (a0 ≤ a1)) && (decide (a1 ≤ a2))))]) (L' := []) (by kernel_rfl) (by kernel_rfl) ?_
  exact retQ_mk (by kernel_rfl) (by kernel_rfl) (by kernel_rfl)

def ref_Inside_b1 (a0 : Int) (i11 : Int) (v14 : Int) (x12 : Unit) : Option (Flow Unit (Esc Bool Unit)) :=
bif (decide (v14 < (0 : Int))) || (decide (v14 ≥ a0)) then
(some (.done (.ret false)))
else
(some (.next ()))
@[reducible] def ref_Inside_s2 (a0 : Int) (a1 : (List Int)) (v : Int × Unit) : Fr × LL := ([(0, aI a0), (7, aD (.slice tI) a1), (8, aI (List.length a1 : Int)), (9, aI v.1)], [])
@[reducible] def ref_Inside_s3 (v : Bool) : Fr × LL := ([(4, aB v)], [])
@[reducible] def ref_Inside_s4 (v : Unit) : Fr × LL := ([], [])
def ref_Inside (a0 : Int) (a1 : (List Int)) : Option Bool :=
(forL (ref_Inside_b1 a0) (fun x12 => (.brk ())) a1 0 ()).bind fun v19 =>
match v19 with
| .ret v24 =>
(some v24)
| .brk v25 =>
(some true)
theorem ref_Inside_ok {a0 : Int} {a1 : (List Int)} {r : Bool} (h : ref_Inside a0 a1 = some r) : FnC Try.prog 58 [aI a0, aD (.slice tI) a1] [] (aB r) [] := by
  refine fnC_of_W (B := bodyOf Try.f58) (n := 21) Try.func58 (by kernel_rfl) (by kernel_rfl) (by kernel_rfl) (by kernel_rfl) (by kernel_rfl) ?_
  intro K
  refine W_seq (by kernel_rfl) ?_
  refine W_run 1 [] [0, 1] [] (fr' := [(0, aI a0), (1, aD (.slice tI) a1)]) (L' := []) (obs := []) (by kernel_rfl) (by kernel_rfl) (by kernel_rfl) allP0 ?_
  refine seqQ_norm ?_
  refine W_seq (by kernel_rfl) ?_
  refine W_seq (by kernel_rfl) ?_
  refine W_run 3 [] [0, 7, 8, 9] [] (fr' := [(0, aI a0), (7, aD (.slice tI) a1), (8, aI (List.length a1 : Int)), (9, aI (0 : Int))]) (L' := []) (obs := []) (by kernel_rfl) (by kernel_rfl) (by kernel_rfl) allP0 ?_
  refine seqQ_norm ?_
  refine W_block (id := 0) (by kernel_rfl) ?_
  obtain ⟨v19, h20, h⟩ := bind_of h
  refine W_len (t := 7) (u := tI) (xs := a1) (by kernel_rfl) (fun h23 => ?_)
  obtain ⟨h21, h22⟩ := forL_iter h23 h20
  refine W_weaken [0, 7, 8, 9] [] (fr' := ((ref_Inside_s2 a0 a1) ((0 : Int), ())).1) (L' := ((ref_Inside_s2 a0 a1) ((0 : Int), ())).2) (by kernel_rfl) ?_
  refine W_cutK (W_loop (S := (ref_Inside_s2 a0 a1)) (J := (escQ (exQ .ret ref_Inside_s3) (exQ (.exit 0) ref_Inside_s4))) (by kernel_rfl) ?_ h21 _ v19 h22) ?_
  · rintro ⟨i11, x12⟩ s h
    refine W_seq (by kernel_rfl) ?_
    refine W_run 1 [] [0, 7, 8, 9, 10] [] (fr' := [(0, aI a0), (7, aD (.slice tI) a1), (8, aI (List.length a1 : Int)), (9, aI i11), (10, aB (decide (i11 < (List.length a1 : Int))))]) (L' := []) (obs := []) (by kernel_rfl) (by kernel_rfl) (by kernel_rfl) allP0 ?_
    refine seqQ_norm ?_
    refine W_seq (by kernel_rfl) ?_
    refine W_cond (o := .tmp 10) (b := decide (i11 < (List.length a1 : Int))) (by kernel_rfl) (by kernel_rfl) (fun h16 => ?_) (fun h16 => ?_)
    · replace h := stepL_true h16 h
      obtain ⟨v14, _, h15, h, rfl⟩ := h
      refine W_skip [0, 7, 8, 9] [] (fr' := [(0, aI a0), (7, aD (.slice tI) a1), (8, aI (List.length a1 : Int)), (9, aI i11)]) (L' := []) (by kernel_rfl) (by kernel_rfl) ?_
      refine seqQ_norm ?_
      refine W_seq (by kernel_rfl) ?_
      refine W_block (id := 1) (by kernel_rfl) ?_
      refine W_seq (by kernel_rfl) ?_
      refine W_run 3 [(1, .val (.dat tI v14))] [0, 6, 7, 8, 9] [] (fr' := [(0, aI a0), (6, aI v14), (7, aD (.slice tI) a1), (8, aI (List.length a1 : Int)), (9, aI i11)]) (L' := []) (obs := [Idx a1 i11 v14]) (by kernel_rfl) (by kernel_rfl) (by kernel_rfl) (allP1 (Idx.of h15)) ?_
      refine seqQ_norm ?_
      refine W_seq (by kernel_rfl) ?_
      refine W_run 7 [] [0, 7, 8, 9, 19] [] (fr' := [(0, aI a0), (7, aD (.slice tI) a1), (8, aI (List.length a1 : Int)), (9, aI i11), (19, aB ((decide (v14 < (0 : Int))) || (decide (v14 ≥ a0))))]) (L' := []) (obs := []) (by kernel_rfl) (by kernel_rfl) (by kernel_rfl) allP0 ?_
      refine seqQ_norm ?_
      refine W_cond (o := .tmp 19) (b := (decide (v14 < (0 : Int))) || (decide (v14 ≥ a0))) (by kernel_rfl) (by kernel_rfl) (fun h17 => ?_) (fun h17 => ?_)
      · replace h := ofT h17 h
        refine W_seq (by kernel_rfl) ?_
        refine W_run 1 [] [4] [] (fr' := [(4, aB false)]) (L' := []) (obs := []) (by kernel_rfl) (by kernel_rfl) (by kernel_rfl) allP0 ?_
        refine seqQ_norm ?_
        obtain rfl := Option.some.inj h
        refine W_ret [4] [] (fr' := [(4, aB false)]) (L' := []) (by kernel_rfl) (by kernel_rfl) ?_
        refine blockQ_ret ?_
        refine seqQ_ret ?_
        refine round_ret ?_
        refine escQ_ret ?_
        exact exQ_mk (by kernel_rfl) (by kernel_rfl)
      · replace h := ofF h17 h
        refine W_skip [0, 7, 8, 9] [] (fr' := [(0, aI a0), (7, aD (.slice tI) a1), (8, aI (List.length a1 : Int)), (9, aI i11)]) (L' := []) (by kernel_rfl) (by kernel_rfl) ?_
        refine blockQ_norm ?_
        refine seqQ_norm ?_
        obtain rfl := Option.some.inj h
        refine W_run 2 [] [0, 7, 8, 9] [] (fr' := [(0, aI a0), (7, aD (.slice tI) a1), (8, aI (List.length a1 : Int)), (9, aI (w64 (i11 + (1 : Int))))]) (L' := []) (obs := []) (by kernel_rfl) (by kernel_rfl) (by kernel_rfl) allP0 ?_
        exact round_next' (by kernel_rfl) (by kernel_rfl)
    · obtain rfl := stepL_false h16 h
      refine W_exit (id := 0) [] [] (fr' := []) (L' := []) (by kernel_rfl) (by kernel_rfl) ?_
      refine seqQ_exit ?_
      refine round_exit ?_
      refine escQ_brk ?_
      exact exQ_mk (by kernel_rfl) (by kernel_rfl)
  · intro e fr L hJ
    rcases v19 with v24 | v25
    · obtain ⟨rfl, rfl, rfl⟩ := hJ
      obtain rfl := Option.some.inj h
      refine LT_keep [4] [] (fr' := [(4, aB v24)]) (L' := []) (by kernel_rfl) ?_
      refine blockQ_ret ?_
      refine seqQ_ret ?_
      exact retQ_mk (by kernel_rfl) (by kernel_rfl) (by kernel_rfl)
    · obtain ⟨rfl, rfl, rfl⟩ := hJ
      refine LT_keep [] [] (fr' := []) (L' := []) (by kernel_rfl) ?_
      refine blockQ_hit ?_
      refine seqQ_norm ?_
      refine W_seq (by kernel_rfl) ?_
      refine W_run 1 [] [4] [] (fr' := [(4, aB true)]) (L' := []) (obs := []) (by kernel_rfl) (by kernel_rfl) (by kernel_rfl) allP0 ?_
      refine seqQ_norm ?_
      obtain rfl := Option.some.inj h
      refine W_ret [4] [] (fr' := [(4, aB true)]) (L' := []) (by kernel_rfl) (by kernel_rfl) ?_
      exact retQ_mk (by kernel_rfl) (by kernel_rfl) (by kernel_rfl)

def ref_MachineCheck_b1 (a0 : (Int × (Int × (List (List (Int × (Int × Int))))))) (i30 : Int) (v33 : (List (Int × (Int × Int)))) (x31 : Unit) : Option (Flow Unit (Esc Int Unit)) :=
bif (List.length v33 : Int) != a0.2.1 then
(some (.done (.ret (3 : Int))))
else
(some (.next ()))
@[reducible] def ref_MachineCheck_s2 (a0 : (Int × (Int × (List (List (Int × (Int × Int))))))) (v : Int × Unit) : Fr × LL := ([(1, .one (.ptr 1 0)), (26, aD (.slice (.slice (.pair tI (.pair tI tI)))) a0.2.2), (27, aI (List.length a0.2.2 : Int)), (28, aI v.1)], [(1, .one (.pair tI (.pair tI (.slice (.slice (.pair tI (.pair tI tI)))))) a0)])
@[reducible] def ref_MachineCheck_s3 (v : Int) : Fr × LL := ([(2, aI v)], [])
@[reducible] def ref_MachineCheck_s4 (a0 : (Int × (Int × (List (List (Int × (Int × Int))))))) (v : Unit) : Fr × LL := ([(1, .one (.ptr 1 0))], [(1, .one (.pair tI (.pair tI (.slice (.slice (.pair tI (.pair tI tI)))))) a0)])
def ref_MachineCheck_b11 (a0 : (Int × (Int × (List (List (Int × (Int × Int))))))) (i183 : Int) (v186 : (Int × (Int × Int))) (x184 : Unit) : Option (Flow Unit (Esc Int Unit)) :=
(ref_Inside a0.2.1 [v186.1]).bind fun r189 =>
bif !r189 then
(some (.done (.ret (2 : Int))))
else
((ref_Within (-1 : Int) v186.2.1 (1 : Int)).bind fun r192 =>
bif !r192 then
(some (.done (.ret (4 : Int))))
else
((ref_Inside (w64 (a0.1 + (1 : Int))) [v186.2.2]).bind fun r195 =>
bif !r195 then
(some (.done (.ret (2 : Int))))
else
(some (.next ()))))
@[reducible] def ref_MachineCheck_s12 (a0 : (Int × (Int × (List (List (Int × (Int × Int))))))) (i151 : Int) (v154 : (List (Int × (Int × Int)))) (v : Int × Unit) : Fr × LL := ([(1, .one (.ptr 1 0)), (39, aD (.slice (.slice (.pair tI (.pair tI tI)))) a0.2.2), (40, aI (List.length a0.2.2 : Int)), (41, aI i151), (45, aD (.slice (.pair tI (.pair tI tI))) v154), (46, aI (List.length v154 : Int)), (47, aI v.1)], [(1, .one (.pair tI (.pair tI (.slice (.slice (.pair tI (.pair tI tI)))))) a0)])
@[reducible] def ref_MachineCheck_s13 (v : Int) : Fr × LL := ([(2, aI v)], [])
@[reducible] def ref_MachineCheck_s14 (a0 : (Int × (Int × (List (List (Int × (Int × Int))))))) (i151 : Int) (v : Unit) : Fr × LL := ([(1, .one (.ptr 1 0)), (39, aD (.slice (.slice (.pair tI (.pair tI tI)))) a0.2.2), (40, aI (List.length a0.2.2 : Int)), (41, aI i151)], [(1, .one (.pair tI (.pair tI (.slice (.slice (.pair tI (.pair tI tI)))))) a0)])
def ref_MachineCheck_b15 (a0 : (Int × (Int × (List (List (Int × (Int × Int))))))) (i151 : Int) (v154 : (List (Int × (Int × Int)))) (x152 : Unit) : Option (Flow Unit (Esc Int Unit)) :=
(forL (ref_MachineCheck_b11 a0) (fun x184 => (.brk ())) v154 0 ()).bind fun v199 =>
match v199 with
| .ret v204 =>
(some (.done (.ret v204)))
| .brk v205 =>
(some (.next ()))
@[reducible] def ref_MachineCheck_s16 (a0 : (Int × (Int × (List (List (Int × (Int × Int))))))) (v : Int × Unit) : Fr × LL := ([(1, .one (.ptr 1 0)), (39, aD (.slice (.slice (.pair tI (.pair tI tI)))) a0.2.2), (40, aI (List.length a0.2.2 : Int)), (41, aI v.1)], [(1, .one (.pair tI (.pair tI (.slice (.slice (.pair tI (.pair tI tI)))))) a0)])
@[reducible] def ref_MachineCheck_s17 (v : Int) : Fr × LL := ([(2, aI v)], [])
@[reducible] def ref_MachineCheck_s18 (v : Unit) : Fr × LL := ([], [])
@[reducible] def ref_MachineCheck_s19 (a0 : (Int × (Int × (List (List (Int × (Int × Int))))))) (v : Bool) : Fr × LL := ([(1, .one (.ptr 1 0)), (18, aB v)], [(1, .one (.pair tI (.pair tI (.slice (.slice (.pair tI (.pair tI tI)))))) a0)])
def ref_MachineCheck (a0 : (Int × (Int × (List (List (Int × (Int × Int))))))) : Option Int :=
((ref_Within (1 : Int) a0.1 (5 : Int)).bind fun r11 =>
bif !r11 then
(some true)
else
((ref_Within (2 : Int) a0.2.1 (4 : Int)).bind fun r14 =>
some (!r14))).bind fun v16 =>
bif v16 then
(some (1 : Int))
else
(bif (List.length a0.2.2 : Int) != a0.1 then
(some (3 : Int))
else
((forL (ref_MachineCheck_b1 a0) (fun x31 => (.brk ())) a0.2.2 0 ()).bind fun v38 =>
match v38 with
| .ret v43 =>
(some v43)
| .brk v44 =>
((forL (ref_MachineCheck_b15 a0) (fun x152 => (.brk ())) a0.2.2 0 ()).bind fun v207 =>
match v207 with
| .ret v212 =>
(some v212)
| .brk v213 =>
(some (0 : Int)))))
theorem ref_MachineCheck_ok {a0 : (Int × (Int × (List (List (Int × (Int × Int))))))} {r : Int} (h : ref_MachineCheck a0 = some r) : FnC Try.prog 25 [aD (.pair tI (.pair tI (.slice (.slice (.pair tI (.pair tI tI)))))) a0] [] (aI r) [] := by
  refine fnC_of_W (B := bodyOf Try.f25) (n := 72) Try.func25 (by kernel_rfl) (by kernel_rfl) (by kernel_rfl) (by kernel_rfl) (by kernel_rfl) ?_
  intro K
  refine W_seq (by kernel_rfl) ?_
  refine W_run 2 [] [1] [1] (fr' := [(1, .one (.ptr 1 0))]) (L' := [(1, .one (.pair tI (.pair tI (.slice (.slice (.pair tI (.pair tI tI)))))) a0)]) (obs := []) (by kernel_rfl) (by kernel_rfl) (by kernel_rfl) allP0 ?_
  refine seqQ_norm ?_
  refine W_seq (by kernel_rfl) ?_
  refine W_seq (by kernel_rfl) ?_
  obtain ⟨v16, h17, h⟩ := bind_of h
  refine W_cutK (Q' := (exQ .normal (ref_MachineCheck_s19 a0)) v16) ?_ ?_
  · replace h := h17
    refine W_region (by kernel_rfl) ?_
    refine WO_run (j := 2) (k := 2) (orcs := []) (kF := [1, 10]) (kL := [1]) (fr' := [(1, .one (.ptr 1 0)), (10, aI a0.1)]) (L' := [(1, .one (.pair tI (.pair tI (.slice (.slice (.pair tI (.pair tI tI)))))) a0)]) (obs := []) rfl (by kernel_rfl) allP0 ?_
    obtain ⟨r11, h12, h⟩ := bind_of h
    refine WO_call0 (us := [none, none, none]) (d := 11) (p := True) (j := 3) rfl ⟨by kernel_rfl, by kernel_rfl, by kernel_rfl⟩ trivial (ref_Within_ok h12) (by kernel_rfl) ?_
    refine WO_run (j := 5) (k := 2) (orcs := []) (kF := [1, 13]) (kL := [1]) (fr' := [(1, .one (.ptr 1 0)), (13, aB (!r11))]) (L' := [(1, .one (.pair tI (.pair tI (.slice (.slice (.pair tI (.pair tI tI)))))) a0)]) (obs := []) rfl (by kernel_rfl) allP0 ?_
    rcases Bool.eq_false_or_eq_true (!r11) with h13 | h13
    · replace h := ofT h13 h
      refine WO_run (j := 10) (k := 5) (orcs := [(10, .known true), (12, .known true), (14, .known true), (16, .known true), (19, .val (.dat .bool true))]) (kF := [1, 18]) (kL := [1]) (fr' := [(1, .one (.ptr 1 0)), (18, aB true)]) (L' := [(1, .one (.pair tI (.pair tI (.slice (.slice (.pair tI (.pair tI tI)))))) a0)]) (obs := [((!r11) = true), ((!r11) = true), ((!r11) = true), ((!r11) = true), ((!r11) = true)]) rfl (by kernel_rfl) (allP2 h13 (allP2 h13 (allP2 h13 (allP2 h13 (allP1 h13))))) ?_
      obtain rfl := Option.some.inj h
      refine WO_fin [1, 18] [1] (fr' := [(1, .one (.ptr 1 0)), (18, aB true)]) (L' := [(1, .one (.pair tI (.pair tI (.slice (.slice (.pair tI (.pair tI tI)))))) a0)]) (by kernel_rfl) (by kernel_rfl) ?_
      exact exQ_mk (by kernel_rfl) (by kernel_rfl)
    · replace h := ofF h13 h
      refine WO_run (j := 7) (k := 2) (orcs := [(10, .known false), (12, .known false)]) (kF := [1, 13, 15]) (kL := [1]) (fr' := [(1, .one (.ptr 1 0)), (13, aB (!r11)), (15, aI a0.2.1)]) (L' := [(1, .one (.pair tI (.pair tI (.slice (.slice (.pair tI (.pair tI tI)))))) a0)]) (obs := [((!r11) = false), ((!r11) = false)]) rfl (by kernel_rfl) (allP2 h13 (allP1 h13)) ?_
      obtain ⟨r14, h15, h⟩ := bind_of h
      refine WO_call0 (us := [none, none, none]) (d := 16) (p := ((!r11) = false)) (j := 8) rfl ⟨by kernel_rfl, by kernel_rfl, by kernel_rfl⟩ h13 (ref_Within_ok h15) (by kernel_rfl) ?_
      refine WO_run (j := 10) (k := 2) (orcs := [(16, .known false), (19, .val (.dat .bool false))]) (kF := [1, 18]) (kL := [1]) (fr' := [(1, .one (.ptr 1 0)), (18, aB (!r14))]) (L' := [(1, .one (.pair tI (.pair tI (.slice (.slice (.pair tI (.pair tI tI)))))) a0)]) (obs := [((!r11) = false), ((!r11) = false)]) rfl (by kernel_rfl) (allP2 h13 (allP1 h13)) ?_
      obtain rfl := Option.some.inj h
      refine WO_fin [1, 18] [1] (fr' := [(1, .one (.ptr 1 0)), (18, aB (!r14))]) (L' := [(1, .one (.pair tI (.pair tI (.slice (.slice (.pair tI (.pair tI tI)))))) a0)]) (by kernel_rfl) (by kernel_rfl) ?_
      exact exQ_mk (by kernel_rfl) (by kernel_rfl)
  · intro e fr L hJ
    obtain ⟨rfl, rfl, rfl⟩ := hJ
    refine LT_keep [1, 18] [1] (fr' := [(1, .one (.ptr 1 0)), (18, aB v16)]) (L' := [(1, .one (.pair tI (.pair tI (.slice (.slice (.pair tI (.pair tI tI)))))) a0)]) (by kernel_rfl) ?_
    refine seqQ_norm ?_
    refine W_cond (o := .tmp 18) (b := v16) (by kernel_rfl) (by kernel_rfl) (fun h18 => ?_) (fun h18 => ?_)
    · replace h := ofT h18 h
      refine W_seq (by kernel_rfl) ?_
      refine W_run 1 [] [2] [] (fr' := [(2, aI (1 : Int))]) (L' := []) (obs := []) (by kernel_rfl) (by kernel_rfl) (by kernel_rfl) allP0 ?_
      refine seqQ_norm ?_
      obtain rfl := Option.some.inj h
      refine W_ret [2] [] (fr' := [(2, aI (1 : Int))]) (L' := []) (by kernel_rfl) (by kernel_rfl) ?_
      refine seqQ_ret ?_
      exact retQ_mk (by kernel_rfl) (by kernel_rfl) (by kernel_rfl)
    · replace h := ofF h18 h
      refine W_skip [1] [1] (fr' := [(1, .one (.ptr 1 0))]) (L' := [(1, .one (.pair tI (.pair tI (.slice (.slice (.pair tI (.pair tI tI)))))) a0)]) (by kernel_rfl) (by kernel_rfl) ?_
      refine seqQ_norm ?_
      refine W_seq (by kernel_rfl) ?_
      refine W_seq (by kernel_rfl) ?_
      refine W_run 6 [] [1, 24] [1] (fr' := [(1, .one (.ptr 1 0)), (24, aB ((List.length a0.2.2 : Int) != a0.1))]) (L' := [(1, .one (.pair tI (.pair tI (.slice (.slice (.pair tI (.pair tI tI)))))) a0)]) (obs := []) (by kernel_rfl) (by kernel_rfl) (by kernel_rfl) allP0 ?_
      refine seqQ_norm ?_
      refine W_cond (o := .tmp 24) (b := (List.length a0.2.2 : Int) != a0.1) (by kernel_rfl) (by kernel_rfl) (fun h19 => ?_) (fun h19 => ?_)
      · replace h := ofT h19 h
        refine W_seq (by kernel_rfl) ?_
        refine W_run 1 [] [2] [] (fr' := [(2, aI (3 : Int))]) (L' := []) (obs := []) (by kernel_rfl) (by kernel_rfl) (by kernel_rfl) allP0 ?_
        refine seqQ_norm ?_
        obtain rfl := Option.some.inj h
        refine W_ret [2] [] (fr' := [(2, aI (3 : Int))]) (L' := []) (by kernel_rfl) (by kernel_rfl) ?_
        refine seqQ_ret ?_
        exact retQ_mk (by kernel_rfl) (by kernel_rfl) (by kernel_rfl)
      · replace h := ofF h19 h
        refine W_skip [1] [1] (fr' := [(1, .one (.ptr 1 0))]) (L' := [(1, .one (.pair tI (.pair tI (.slice (.slice (.pair tI (.pair tI tI)))))) a0)]) (by kernel_rfl) (by kernel_rfl) ?_
        refine seqQ_norm ?_
        refine W_seq (by kernel_rfl) ?_
        refine W_seq (by kernel_rfl) ?_
        refine W_run 4 [] [1, 26, 27, 28] [1] (fr' := [(1, .one (.ptr 1 0)), (26, aD (.slice (.slice (.pair tI (.pair tI tI)))) a0.2.2), (27, aI (List.length a0.2.2 : Int)), (28, aI (0 : Int))]) (L' := [(1, .one (.pair tI (.pair tI (.slice (.slice (.pair tI (.pair tI tI)))))) a0)]) (obs := []) (by kernel_rfl) (by kernel_rfl) (by kernel_rfl) allP0 ?_
        refine seqQ_norm ?_
        refine W_block (id := 0) (by kernel_rfl) ?_
        obtain ⟨v38, h39, h⟩ := bind_of h
        refine W_len (t := 26) (u := (.slice (.pair tI (.pair tI tI)))) (xs := a0.2.2) (by kernel_rfl) (fun h42 => ?_)
        obtain ⟨h40, h41⟩ := forL_iter h42 h39
        refine W_weaken [1, 26, 27, 28] [1] (fr' := ((ref_MachineCheck_s2 a0) ((0 : Int), ())).1) (L' := ((ref_MachineCheck_s2 a0) ((0 : Int), ())).2) (by kernel_rfl) ?_
        refine W_cutK (W_loop (S := (ref_MachineCheck_s2 a0)) (J := (escQ (exQ .ret ref_MachineCheck_s3) (exQ (.exit 0) (ref_MachineCheck_s4 a0)))) (by kernel_rfl) ?_ h40 _ v38 h41) ?_
        · rintro ⟨i30, x31⟩ s h
          refine W_seq (by kernel_rfl) ?_
          refine W_run 1 [] [1, 26, 27, 28, 29] [1] (fr' := [(1, .one (.ptr 1 0)), (26, aD (.slice (.slice (.pair tI (.pair tI tI)))) a0.2.2), (27, aI (List.length a0.2.2 : Int)), (28, aI i30), (29, aB (decide (i30 < (List.length a0.2.2 : Int))))]) (L' := [(1, .one (.pair tI (.pair tI (.slice (.slice (.pair tI (.pair tI tI)))))) a0)]) (obs := []) (by kernel_rfl) (by kernel_rfl) (by kernel_rfl) allP0 ?_
          refine seqQ_norm ?_
          refine W_seq (by kernel_rfl) ?_
          refine W_cond (o := .tmp 29) (b := decide (i30 < (List.length a0.2.2 : Int))) (by kernel_rfl) (by kernel_rfl) (fun h35 => ?_) (fun h35 => ?_)
          · replace h := stepL_true h35 h
            obtain ⟨v33, _, h34, h, rfl⟩ := h
            refine W_skip [1, 26, 27, 28] [1] (fr' := [(1, .one (.ptr 1 0)), (26, aD (.slice (.slice (.pair tI (.pair tI tI)))) a0.2.2), (27, aI (List.length a0.2.2 : Int)), (28, aI i30)]) (L' := [(1, .one (.pair tI (.pair tI (.slice (.slice (.pair tI (.pair tI tI)))))) a0)]) (by kernel_rfl) (by kernel_rfl) ?_
            refine seqQ_norm ?_
            refine W_seq (by kernel_rfl) ?_
            refine W_block (id := 1) (by kernel_rfl) ?_
            refine W_seq (by kernel_rfl) ?_
            refine W_run 3 [(1, .val (.dat (.slice (.pair tI (.pair tI tI))) v33))] [1, 4, 26, 27, 28] [1] (fr' := [(1, .one (.ptr 1 0)), (4, aD (.slice (.pair tI (.pair tI tI))) v33), (26, aD (.slice (.slice (.pair tI (.pair tI tI)))) a0.2.2), (27, aI (List.length a0.2.2 : Int)), (28, aI i30)]) (L' := [(1, .one (.pair tI (.pair tI (.slice (.slice (.pair tI (.pair tI tI)))))) a0)]) (obs := [Idx a0.2.2 i30 v33]) (by kernel_rfl) (by kernel_rfl) (by kernel_rfl) (allP1 (Idx.of h34)) ?_
            refine seqQ_norm ?_
            refine W_seq (by kernel_rfl) ?_
            refine W_run 5 [] [1, 26, 27, 28, 36] [1] (fr' := [(1, .one (.ptr 1 0)), (26, aD (.slice (.slice (.pair tI (.pair tI tI)))) a0.2.2), (27, aI (List.length a0.2.2 : Int)), (28, aI i30), (36, aB ((List.length v33 : Int) != a0.2.1))]) (L' := [(1, .one (.pair tI (.pair tI (.slice (.slice (.pair tI (.pair tI tI)))))) a0)]) (obs := []) (by kernel_rfl) (by kernel_rfl) (by kernel_rfl) allP0 ?_
            refine seqQ_norm ?_
            refine W_cond (o := .tmp 36) (b := (List.length v33 : Int) != a0.2.1) (by kernel_rfl) (by kernel_rfl) (fun h36 => ?_) (fun h36 => ?_)
            · replace h := ofT h36 h
              refine W_seq (by kernel_rfl) ?_
              refine W_run 1 [] [2] [] (fr' := [(2, aI (3 : Int))]) (L' := []) (obs := []) (by kernel_rfl) (by kernel_rfl) (by kernel_rfl) allP0 ?_
              refine seqQ_norm ?_
              obtain rfl := Option.some.inj h
              refine W_ret [2] [] (fr' := [(2, aI (3 : Int))]) (L' := []) (by kernel_rfl) (by kernel_rfl) ?_
              refine blockQ_ret ?_
              refine seqQ_ret ?_
              refine round_ret ?_
              refine escQ_ret ?_
              exact exQ_mk (by kernel_rfl) (by kernel_rfl)
            · replace h := ofF h36 h
              refine W_skip [1, 26, 27, 28] [1] (fr' := [(1, .one (.ptr 1 0)), (26, aD (.slice (.slice (.pair tI (.pair tI tI)))) a0.2.2), (27, aI (List.length a0.2.2 : Int)), (28, aI i30)]) (L' := [(1, .one (.pair tI (.pair tI (.slice (.slice (.pair tI (.pair tI tI)))))) a0)]) (by kernel_rfl) (by kernel_rfl) ?_
              refine blockQ_norm ?_
              refine seqQ_norm ?_
              obtain rfl := Option.some.inj h
              refine W_run 2 [] [1, 26, 27, 28] [1] (fr' := [(1, .one (.ptr 1 0)), (26, aD (.slice (.slice (.pair tI (.pair tI tI)))) a0.2.2), (27, aI (List.length a0.2.2 : Int)), (28, aI (w64 (i30 + (1 : Int))))]) (L' := [(1, .one (.pair tI (.pair tI (.slice (.slice (.pair tI (.pair tI tI)))))) a0)]) (obs := []) (by kernel_rfl) (by kernel_rfl) (by kernel_rfl) allP0 ?_
              exact round_next' (by kernel_rfl) (by kernel_rfl)
          · obtain rfl := stepL_false h35 h
            refine W_exit (id := 0) [1] [1] (fr' := [(1, .one (.ptr 1 0))]) (L' := [(1, .one (.pair tI (.pair tI (.slice (.slice (.pair tI (.pair tI tI)))))) a0)]) (by kernel_rfl) (by kernel_rfl) ?_
            refine seqQ_exit ?_
            refine round_exit ?_
            refine escQ_brk ?_
            exact exQ_mk (by kernel_rfl) (by kernel_rfl)
        · intro e fr L hJ
          rcases v38 with v43 | v44
          · obtain ⟨rfl, rfl, rfl⟩ := hJ
            obtain rfl := Option.some.inj h
            refine LT_keep [2] [] (fr' := [(2, aI v43)]) (L' := []) (by kernel_rfl) ?_
            refine blockQ_ret ?_
            refine seqQ_ret ?_
            exact retQ_mk (by kernel_rfl) (by kernel_rfl) (by kernel_rfl)
          · obtain ⟨rfl, rfl, rfl⟩ := hJ
            refine LT_keep [1] [1] (fr' := [(1, .one (.ptr 1 0))]) (L' := [(1, .one (.pair tI (.pair tI (.slice (.slice (.pair tI (.pair tI tI)))))) a0)]) (by kernel_rfl) ?_
            refine blockQ_hit ?_
            refine seqQ_norm ?_
            refine W_seq (by kernel_rfl) ?_
            refine W_seq (by kernel_rfl) ?_
            refine W_run 4 [] [1, 39, 40, 41] [1] (fr' := [(1, .one (.ptr 1 0)), (39, aD (.slice (.slice (.pair tI (.pair tI tI)))) a0.2.2), (40, aI (List.length a0.2.2 : Int)), (41, aI (0 : Int))]) (L' := [(1, .one (.pair tI (.pair tI (.slice (.slice (.pair tI (.pair tI tI)))))) a0)]) (obs := []) (by kernel_rfl) (by kernel_rfl) (by kernel_rfl) allP0 ?_
            refine seqQ_norm ?_
            refine W_block (id := 2) (by kernel_rfl) ?_
            obtain ⟨v207, h208, h⟩ := bind_of h
            refine W_len (t := 39) (u := (.slice (.pair tI (.pair tI tI)))) (xs := a0.2.2) (by kernel_rfl) (fun h211 => ?_)
            obtain ⟨h209, h210⟩ := forL_iter h211 h208
            refine W_weaken [1, 39, 40, 41] [1] (fr' := ((ref_MachineCheck_s16 a0) ((0 : Int), ())).1) (L' := ((ref_MachineCheck_s16 a0) ((0 : Int), ())).2) (by kernel_rfl) ?_
            refine W_cutK (W_loop (S := (ref_MachineCheck_s16 a0)) (J := (escQ (exQ .ret ref_MachineCheck_s17) (exQ (.exit 2) ref_MachineCheck_s18))) (by kernel_rfl) ?_ h209 _ v207 h210) ?_
            · rintro ⟨i151, x152⟩ s h
              refine W_seq (by kernel_rfl) ?_
              refine W_run 1 [] [1, 39, 40, 41, 42] [1] (fr' := [(1, .one (.ptr 1 0)), (39, aD (.slice (.slice (.pair tI (.pair tI tI)))) a0.2.2), (40, aI (List.length a0.2.2 : Int)), (41, aI i151), (42, aB (decide (i151 < (List.length a0.2.2 : Int))))]) (L' := [(1, .one (.pair tI (.pair tI (.slice (.slice (.pair tI (.pair tI tI)))))) a0)]) (obs := []) (by kernel_rfl) (by kernel_rfl) (by kernel_rfl) allP0 ?_
              refine seqQ_norm ?_
              refine W_seq (by kernel_rfl) ?_
              refine W_cond (o := .tmp 42) (b := decide (i151 < (List.length a0.2.2 : Int))) (by kernel_rfl) (by kernel_rfl) (fun h156 => ?_) (fun h156 => ?_)
              · replace h := stepL_true h156 h
                obtain ⟨v154, _, h155, h, rfl⟩ := h
                refine W_skip [1, 39, 40, 41] [1] (fr' := [(1, .one (.ptr 1 0)), (39, aD (.slice (.slice (.pair tI (.pair tI tI)))) a0.2.2), (40, aI (List.length a0.2.2 : Int)), (41, aI i151)]) (L' := [(1, .one (.pair tI (.pair tI (.slice (.slice (.pair tI (.pair tI tI)))))) a0)]) (by kernel_rfl) (by kernel_rfl) ?_
                refine seqQ_norm ?_
                refine W_seq (by kernel_rfl) ?_
                refine W_block (id := 3) (by kernel_rfl) ?_
                refine W_seq (by kernel_rfl) ?_
                refine W_run 3 [(1, .val (.dat (.slice (.pair tI (.pair tI tI))) v154))] [1, 6, 39, 40, 41] [1] (fr' := [(1, .one (.ptr 1 0)), (6, aD (.slice (.pair tI (.pair tI tI))) v154), (39, aD (.slice (.slice (.pair tI (.pair tI tI)))) a0.2.2), (40, aI (List.length a0.2.2 : Int)), (41, aI i151)]) (L' := [(1, .one (.pair tI (.pair tI (.slice (.slice (.pair tI (.pair tI tI)))))) a0)]) (obs := [Idx a0.2.2 i151 v154]) (by kernel_rfl) (by kernel_rfl) (by kernel_rfl) (allP1 (Idx.of h155)) ?_
                refine seqQ_norm ?_
                refine W_seq (by kernel_rfl) ?_
                refine W_run 3 [] [1, 39, 40, 41, 45, 46, 47] [1] (fr' := [(1, .one (.ptr 1 0)), (39, aD (.slice (.slice (.pair tI (.pair tI tI)))) a0.2.2), (40, aI (List.length a0.2.2 : Int)), (41, aI i151), (45, aD (.slice (.pair tI (.pair tI tI))) v154), (46, aI (List.length v154 : Int)), (47, aI (0 : Int))]) (L' := [(1, .one (.pair tI (.pair tI (.slice (.slice (.pair tI (.pair tI tI)))))) a0)]) (obs := []) (by kernel_rfl) (by kernel_rfl) (by kernel_rfl) allP0 ?_
                refine seqQ_norm ?_
                refine W_block (id := 4) (by kernel_rfl) ?_
                obtain ⟨v199, h200, h⟩ := bind_of h
                refine W_len (t := 45) (u := (.pair tI (.pair tI tI))) (xs := v154) (by kernel_rfl) (fun h203 => ?_)
                obtain ⟨h201, h202⟩ := forL_iter h203 h200
                refine W_weaken [1, 39, 40, 41, 45, 46, 47] [1] (fr' := ((ref_MachineCheck_s12 a0 i151 v154) ((0 : Int), ())).1) (L' := ((ref_MachineCheck_s12 a0 i151 v154) ((0 : Int), ())).2) (by kernel_rfl) ?_
                refine W_cutK (W_loop (S := (ref_MachineCheck_s12 a0 i151 v154)) (J := (escQ (exQ .ret ref_MachineCheck_s13) (exQ (.exit 4) (ref_MachineCheck_s14 a0 i151)))) (by kernel_rfl) ?_ h201 _ v199 h202) ?_
                · rintro ⟨i183, x184⟩ s h
                  refine W_seq (by kernel_rfl) ?_
                  refine W_run 1 [] [1, 39, 40, 41, 45, 46, 47, 48] [1] (fr' := [(1, .one (.ptr 1 0)), (39, aD (.slice (.slice (.pair tI (.pair tI tI)))) a0.2.2), (40, aI (List.length a0.2.2 : Int)), (41, aI i151), (45, aD (.slice (.pair tI (.pair tI tI))) v154), (46, aI (List.length v154 : Int)), (47, aI i183), (48, aB (decide (i183 < (List.length v154 : Int))))]) (L' := [(1, .one (.pair tI (.pair tI (.slice (.slice (.pair tI (.pair tI tI)))))) a0)]) (obs := []) (by kernel_rfl) (by kernel_rfl) (by kernel_rfl) allP0 ?_
                  refine seqQ_norm ?_
                  refine W_seq (by kernel_rfl) ?_
                  refine W_cond (o := .tmp 48) (b := decide (i183 < (List.length v154 : Int))) (by kernel_rfl) (by kernel_rfl) (fun h188 => ?_) (fun h188 => ?_)
                  · replace h := stepL_true h188 h
                    obtain ⟨v186, _, h187, h, rfl⟩ := h
                    refine W_skip [1, 39, 40, 41, 45, 46, 47] [1] (fr' := [(1, .one (.ptr 1 0)), (39, aD (.slice (.slice (.pair tI (.pair tI tI)))) a0.2.2), (40, aI (List.length a0.2.2 : Int)), (41, aI i151), (45, aD (.slice (.pair tI (.pair tI tI))) v154), (46, aI (List.length v154 : Int)), (47, aI i183)]) (L' := [(1, .one (.pair tI (.pair tI (.slice (.slice (.pair tI (.pair tI tI)))))) a0)]) (by kernel_rfl) (by kernel_rfl) ?_
                    refine seqQ_norm ?_
                    refine W_seq (by kernel_rfl) ?_
                    refine W_block (id := 5) (by kernel_rfl) ?_
                    refine W_seq (by kernel_rfl) ?_
                    refine W_run 4 [(1, .val (.dat (.pair tI (.pair tI tI)) v186)), (5, .typed)] [1, 8, 39, 40, 41, 45, 46, 47] [1, 8] (fr' := [(1, .one (.ptr 1 0)), (8, .one (.ptr 8 0)), (39, aD (.slice (.slice (.pair tI (.pair tI tI)))) a0.2.2), (40, aI (List.length a0.2.2 : Int)), (41, aI i151), (45, aD (.slice (.pair tI (.pair tI tI))) v154), (46, aI (List.length v154 : Int)), (47, aI i183)]) (L' := [(1, .one (.pair tI (.pair tI (.slice (.slice (.pair tI (.pair tI tI)))))) a0), (8, .one (.pair tI (.pair tI tI)) v186)]) (obs := [Idx v154 i183 v186, True]) (by kernel_rfl) (by kernel_rfl) (by kernel_rfl) (allP2 (Idx.of h187) (allP1 trivial)) ?_
                    refine seqQ_norm ?_
                    refine W_seq (by kernel_rfl) ?_
                    refine W_seq (by kernel_rfl) ?_
                    refine W_region (by kernel_rfl) ?_
                    refine WO_run (j := 5) (k := 5) (orcs := []) (kF := [1, 8, 39, 40, 41, 45, 46, 47, 52, 55]) (kL := [1, 8, 55]) (fr' := [(1, .one (.ptr 1 0)), (8, .one (.ptr 8 0)), (39, aD (.slice (.slice (.pair tI (.pair tI tI)))) a0.2.2), (40, aI (List.length a0.2.2 : Int)), (41, aI i151), (45, aD (.slice (.pair tI (.pair tI tI))) v154), (46, aI (List.length v154 : Int)), (47, aI i183), (52, aI a0.2.1), (55, .one (.slc 55))]) (L' := [(1, .one (.pair tI (.pair tI (.slice (.slice (.pair tI (.pair tI tI)))))) a0), (8, .one (.pair tI (.pair tI tI)) v186), (55, .seq tI [v186.1])]) (obs := []) rfl (by kernel_rfl) allP0 ?_
                    obtain ⟨r189, h190, h⟩ := bind_of h
                    refine WO_frz 55 (by kernel_rfl) ?_
                    refine WO_call0 (us := [none, none]) (d := 56) (p := True) (j := 6) rfl ⟨by kernel_rfl, by kernel_rfl, by kernel_rfl⟩ trivial (ref_Inside_ok h190) (by kernel_rfl) ?_
                    refine WO_run (j := 7) (k := 1) (orcs := []) (kF := [1, 8, 39, 40, 41, 45, 46, 47, 57]) (kL := [1, 8]) (fr' := [(1, .one (.ptr 1 0)), (8, .one (.ptr 8 0)), (39, aD (.slice (.slice (.pair tI (.pair tI tI)))) a0.2.2), (40, aI (List.length a0.2.2 : Int)), (41, aI i151), (45, aD (.slice (.pair tI (.pair tI tI))) v154), (46, aI (List.length v154 : Int)), (47, aI i183), (57, aB (!r189))]) (L' := [(1, .one (.pair tI (.pair tI (.slice (.slice (.pair tI (.pair tI tI)))))) a0), (8, .one (.pair tI (.pair tI tI)) v186)]) (obs := []) rfl (by kernel_rfl) allP0 ?_
                    refine WO_fin [1, 8, 39, 40, 41, 45, 46, 47, 57] [1, 8] (fr' := [(1, .one (.ptr 1 0)), (8, .one (.ptr 8 0)), (39, aD (.slice (.slice (.pair tI (.pair tI tI)))) a0.2.2), (40, aI (List.length a0.2.2 : Int)), (41, aI i151), (45, aD (.slice (.pair tI (.pair tI tI))) v154), (46, aI (List.length v154 : Int)), (47, aI i183), (57, aB (!r189))]) (L' := [(1, .one (.pair tI (.pair tI (.slice (.slice (.pair tI (.pair tI tI)))))) a0), (8, .one (.pair tI (.pair tI tI)) v186)]) (by kernel_rfl) (by kernel_rfl) ?_
                    refine seqQ_norm ?_
                    refine W_cond (o := .tmp 57) (b := !r189) (by kernel_rfl) (by kernel_rfl) (fun h191 => ?_) (fun h191 => ?_)
                    · replace h := ofT h191 h
                      refine W_seq (by kernel_rfl) ?_
                      refine W_run 1 [] [2] [] (fr' := [(2, aI (2 : Int))]) (L' := []) (obs := []) (by kernel_rfl) (by kernel_rfl) (by kernel_rfl) allP0 ?_
                      refine seqQ_norm ?_
                      obtain rfl := Option.some.inj h
                      refine W_ret [2] [] (fr' := [(2, aI (2 : Int))]) (L' := []) (by kernel_rfl) (by kernel_rfl) ?_
                      refine seqQ_ret ?_
                      refine blockQ_ret ?_
                      refine seqQ_ret ?_
                      refine round_ret ?_
                      refine escQ_ret ?_
                      exact exQ_mk (by kernel_rfl) (by kernel_rfl)
                    · replace h := ofF h191 h
                      refine W_skip [1, 8, 39, 40, 41, 45, 46, 47] [1, 8] (fr' := [(1, .one (.ptr 1 0)), (8, .one (.ptr 8 0)), (39, aD (.slice (.slice (.pair tI (.pair tI tI)))) a0.2.2), (40, aI (List.length a0.2.2 : Int)), (41, aI i151), (45, aD (.slice (.pair tI (.pair tI tI))) v154), (46, aI (List.length v154 : Int)), (47, aI i183)]) (L' := [(1, .one (.pair tI (.pair tI (.slice (.slice (.pair tI (.pair tI tI)))))) a0), (8, .one (.pair tI (.pair tI tI)) v186)]) (by kernel_rfl) (by kernel_rfl) ?_
                      refine seqQ_norm ?_
                      refine W_seq (by kernel_rfl) ?_
                      refine W_seq (by kernel_rfl) ?_
                      refine W_region (by kernel_rfl) ?_
                      refine WO_run (j := 2) (k := 2) (orcs := []) (kF := [1, 8, 39, 40, 41, 45, 46, 47, 59]) (kL := [1, 8]) (fr' := [(1, .one (.ptr 1 0)), (8, .one (.ptr 8 0)), (39, aD (.slice (.slice (.pair tI (.pair tI tI)))) a0.2.2), (40, aI (List.length a0.2.2 : Int)), (41, aI i151), (45, aD (.slice (.pair tI (.pair tI tI))) v154), (46, aI (List.length v154 : Int)), (47, aI i183), (59, aI v186.2.1)]) (L' := [(1, .one (.pair tI (.pair tI (.slice (.slice (.pair tI (.pair tI tI)))))) a0), (8, .one (.pair tI (.pair tI tI)) v186)]) (obs := []) rfl (by kernel_rfl) allP0 ?_
                      obtain ⟨r192, h193, h⟩ := bind_of h
                      refine WO_call0 (us := [none, none, none]) (d := 60) (p := True) (j := 3) rfl ⟨by kernel_rfl, by kernel_rfl, by kernel_rfl⟩ trivial (ref_Within_ok h193) (by kernel_rfl) ?_
                      refine WO_run (j := 4) (k := 1) (orcs := []) (kF := [1, 8, 39, 40, 41, 45, 46, 47, 61]) (kL := [1, 8]) (fr' := [(1, .one (.ptr 1 0)), (8, .one (.ptr 8 0)), (39, aD (.slice (.slice (.pair tI (.pair tI tI)))) a0.2.2), (40, aI (List.length a0.2.2 : Int)), (41, aI i151), (45, aD (.slice (.pair tI (.pair tI tI))) v154), (46, aI (List.length v154 : Int)), (47, aI i183), (61, aB (!r192))]) (L' := [(1, .one (.pair tI (.pair tI (.slice (.slice (.pair tI (.pair tI tI)))))) a0), (8, .one (.pair tI (.pair tI tI)) v186)]) (obs := []) rfl (by kernel_rfl) allP0 ?_
                      refine WO_fin [1, 8, 39, 40, 41, 45, 46, 47, 61] [1, 8] (fr' := [(1, .one (.ptr 1 0)), (8, .one (.ptr 8 0)), (39, aD (.slice (.slice (.pair tI (.pair tI tI)))) a0.2.2), (40, aI (List.length a0.2.2 : Int)), (41, aI i151), (45, aD (.slice (.pair tI (.pair tI tI))) v154), (46, aI (List.length v154 : Int)), (47, aI i183), (61, aB (!r192))]) (L' := [(1, .one (.pair tI (.pair tI (.slice (.slice (.pair tI (.pair tI tI)))))) a0), (8, .one (.pair tI (.pair tI tI)) v186)]) (by kernel_rfl) (by kernel_rfl) ?_
                      refine seqQ_norm ?_
                      refine W_cond (o := .tmp 61) (b := !r192) (by kernel_rfl) (by kernel_rfl) (fun h194 => ?_) (fun h194 => ?_)
                      · replace h := ofT h194 h
                        refine W_seq (by kernel_rfl) ?_
                        refine W_run 1 [] [2] [] (fr' := [(2, aI (4 : Int))]) (L' := []) (obs := []) (by kernel_rfl) (by kernel_rfl) (by kernel_rfl) allP0 ?_
                        refine seqQ_norm ?_
                        obtain rfl := Option.some.inj h
                        refine W_ret [2] [] (fr' := [(2, aI (4 : Int))]) (L' := []) (by kernel_rfl) (by kernel_rfl) ?_
                        refine seqQ_ret ?_
                        refine blockQ_ret ?_
                        refine seqQ_ret ?_
                        refine round_ret ?_
                        refine escQ_ret ?_
                        exact exQ_mk (by kernel_rfl) (by kernel_rfl)
                      · replace h := ofF h194 h
                        refine W_skip [1, 8, 39, 40, 41, 45, 46, 47] [1, 8] (fr' := [(1, .one (.ptr 1 0)), (8, .one (.ptr 8 0)), (39, aD (.slice (.slice (.pair tI (.pair tI tI)))) a0.2.2), (40, aI (List.length a0.2.2 : Int)), (41, aI i151), (45, aD (.slice (.pair tI (.pair tI tI))) v154), (46, aI (List.length v154 : Int)), (47, aI i183)]) (L' := [(1, .one (.pair tI (.pair tI (.slice (.slice (.pair tI (.pair tI tI)))))) a0), (8, .one (.pair tI (.pair tI tI)) v186)]) (by kernel_rfl) (by kernel_rfl) ?_
                        refine seqQ_norm ?_
                        refine W_seq (by kernel_rfl) ?_
                        refine W_region (by kernel_rfl) ?_
                        refine WO_run (j := 6) (k := 6) (orcs := []) (kF := [1, 39, 40, 41, 45, 46, 47, 64, 67]) (kL := [1, 8, 67]) (fr' := [(1, .one (.ptr 1 0)), (39, aD (.slice (.slice (.pair tI (.pair tI tI)))) a0.2.2), (40, aI (List.length a0.2.2 : Int)), (41, aI i151), (45, aD (.slice (.pair tI (.pair tI tI))) v154), (46, aI (List.length v154 : Int)), (47, aI i183), (64, aI (w64 (a0.1 + (1 : Int)))), (67, .one (.slc 67))]) (L' := [(1, .one (.pair tI (.pair tI (.slice (.slice (.pair tI (.pair tI tI)))))) a0), (8, .one (.pair tI (.pair tI tI)) v186), (67, .seq tI [v186.2.2])]) (obs := []) rfl (by kernel_rfl) allP0 ?_
                        obtain ⟨r195, h196, h⟩ := bind_of h
                        refine WO_frz 67 (by kernel_rfl) ?_
                        refine WO_call0 (us := [none, none]) (d := 68) (p := True) (j := 7) rfl ⟨by kernel_rfl, by kernel_rfl, by kernel_rfl⟩ trivial (ref_Inside_ok h196) (by kernel_rfl) ?_
                        refine WO_run (j := 8) (k := 1) (orcs := []) (kF := [1, 39, 40, 41, 45, 46, 47, 69]) (kL := [1, 8]) (fr' := [(1, .one (.ptr 1 0)), (39, aD (.slice (.slice (.pair tI (.pair tI tI)))) a0.2.2), (40, aI (List.length a0.2.2 : Int)), (41, aI i151), (45, aD (.slice (.pair tI (.pair tI tI))) v154), (46, aI (List.length v154 : Int)), (47, aI i183), (69, aB (!r195))]) (L' := [(1, .one (.pair tI (.pair tI (.slice (.slice (.pair tI (.pair tI tI)))))) a0), (8, .one (.pair tI (.pair tI tI)) v186)]) (obs := []) rfl (by kernel_rfl) allP0 ?_
                        refine WO_fin [1, 39, 40, 41, 45, 46, 47, 69] [1] (fr' := [(1, .one (.ptr 1 0)), (39, aD (.slice (.slice (.pair tI (.pair tI tI)))) a0.2.2), (40, aI (List.length a0.2.2 : Int)), (41, aI i151), (45, aD (.slice (.pair tI (.pair tI tI))) v154), (46, aI (List.length v154 : Int)), (47, aI i183), (69, aB (!r195))]) (L' := [(1, .one (.pair tI (.pair tI (.slice (.slice (.pair tI (.pair tI tI)))))) a0)]) (by kernel_rfl) (by kernel_rfl) ?_
                        refine seqQ_norm ?_
                        refine W_cond (o := .tmp 69) (b := !r195) (by kernel_rfl) (by kernel_rfl) (fun h197 => ?_) (fun h197 => ?_)
                        · replace h := ofT h197 h
                          refine W_seq (by kernel_rfl) ?_
                          refine W_run 1 [] [2] [] (fr' := [(2, aI (2 : Int))]) (L' := []) (obs := []) (by kernel_rfl) (by kernel_rfl) (by kernel_rfl) allP0 ?_
                          refine seqQ_norm ?_
                          obtain rfl := Option.some.inj h
                          refine W_ret [2] [] (fr' := [(2, aI (2 : Int))]) (L' := []) (by kernel_rfl) (by kernel_rfl) ?_
                          refine blockQ_ret ?_
                          refine seqQ_ret ?_
                          refine round_ret ?_
                          refine escQ_ret ?_
                          exact exQ_mk (by kernel_rfl) (by kernel_rfl)
                        · replace h := ofF h197 h
                          refine W_skip [1, 39, 40, 41, 45, 46, 47] [1] (fr' := [(1, .one (.ptr 1 0)), (39, aD (.slice (.slice (.pair tI (.pair tI tI)))) a0.2.2), (40, aI (List.length a0.2.2 : Int)), (41, aI i151), (45, aD (.slice (.pair tI (.pair tI tI))) v154), (46, aI (List.length v154 : Int)), (47, aI i183)]) (L' := [(1, .one (.pair tI (.pair tI (.slice (.slice (.pair tI (.pair tI tI)))))) a0)]) (by kernel_rfl) (by kernel_rfl) ?_
                          refine blockQ_norm ?_
                          refine seqQ_norm ?_
                          obtain rfl := Option.some.inj h
                          refine W_run 2 [] [1, 39, 40, 41, 45, 46, 47] [1] (fr' := [(1, .one (.ptr 1 0)), (39, aD (.slice (.slice (.pair tI (.pair tI tI)))) a0.2.2), (40, aI (List.length a0.2.2 : Int)), (41, aI i151), (45, aD (.slice (.pair tI (.pair tI tI))) v154), (46, aI (List.length v154 : Int)), (47, aI (w64 (i183 + (1 : Int))))]) (L' := [(1, .one (.pair tI (.pair tI (.slice (.slice (.pair tI (.pair tI tI)))))) a0)]) (obs := []) (by kernel_rfl) (by kernel_rfl) (by kernel_rfl) allP0 ?_
                          exact round_next' (by kernel_rfl) (by kernel_rfl)
                  · obtain rfl := stepL_false h188 h
                    refine W_exit (id := 4) [1, 39, 40, 41] [1] (fr' := [(1, .one (.ptr 1 0)), (39, aD (.slice (.slice (.pair tI (.pair tI tI)))) a0.2.2), (40, aI (List.length a0.2.2 : Int)), (41, aI i151)]) (L' := [(1, .one (.pair tI (.pair tI (.slice (.slice (.pair tI (.pair tI tI)))))) a0)]) (by kernel_rfl) (by kernel_rfl) ?_
                    refine seqQ_exit ?_
                    refine round_exit ?_
                    refine escQ_brk ?_
                    exact exQ_mk (by kernel_rfl) (by kernel_rfl)
                · intro e fr L hJ
                  rcases v199 with v204 | v205
                  · obtain ⟨rfl, rfl, rfl⟩ := hJ
                    obtain rfl := Option.some.inj h
                    refine LT_keep [2] [] (fr' := [(2, aI v204)]) (L' := []) (by kernel_rfl) ?_
                    refine blockQ_ret ?_
                    refine blockQ_ret ?_
                    refine seqQ_ret ?_
                    refine round_ret ?_
                    refine escQ_ret ?_
                    exact exQ_mk (by kernel_rfl) (by kernel_rfl)
                  · obtain ⟨rfl, rfl, rfl⟩ := hJ
                    refine LT_keep [1, 39, 40, 41] [1] (fr' := [(1, .one (.ptr 1 0)), (39, aD (.slice (.slice (.pair tI (.pair tI tI)))) a0.2.2), (40, aI (List.length a0.2.2 : Int)), (41, aI i151)]) (L' := [(1, .one (.pair tI (.pair tI (.slice (.slice (.pair tI (.pair tI tI)))))) a0)]) (by kernel_rfl) ?_
                    refine blockQ_hit ?_
                    refine blockQ_norm ?_
                    refine seqQ_norm ?_
                    obtain rfl := Option.some.inj h
                    refine W_run 2 [] [1, 39, 40, 41] [1] (fr' := [(1, .one (.ptr 1 0)), (39, aD (.slice (.slice (.pair tI (.pair tI tI)))) a0.2.2), (40, aI (List.length a0.2.2 : Int)), (41, aI (w64 (i151 + (1 : Int))))]) (L' := [(1, .one (.pair tI (.pair tI (.slice (.slice (.pair tI (.pair tI tI)))))) a0)]) (obs := []) (by kernel_rfl) (by kernel_rfl) (by kernel_rfl) allP0 ?_
                    exact round_next' (by kernel_rfl) (by kernel_rfl)
              · obtain rfl := stepL_false h156 h
                refine W_exit (id := 2) [] [] (fr' := []) (L' := []) (by kernel_rfl) (by kernel_rfl) ?_
                refine seqQ_exit ?_
                refine round_exit ?_
                refine escQ_brk ?_
                exact exQ_mk (by kernel_rfl) (by kernel_rfl)
            · intro e fr L hJ
              rcases v207 with v212 | v213
              · obtain ⟨rfl, rfl, rfl⟩ := hJ
                obtain rfl := Option.some.inj h
                refine LT_keep [2] [] (fr' := [(2, aI v212)]) (L' := []) (by kernel_rfl) ?_
                refine blockQ_ret ?_
                refine seqQ_ret ?_
                exact retQ_mk (by kernel_rfl) (by kernel_rfl) (by kernel_rfl)
              · obtain ⟨rfl, rfl, rfl⟩ := hJ
                refine LT_keep [] [] (fr' := []) (L' := []) (by kernel_rfl) ?_
                refine blockQ_hit ?_
                refine seqQ_norm ?_
                refine W_seq (by kernel_rfl) ?_
                refine W_run 1 [] [2] [] (fr' := [(2, aI (0 : Int))]) (L' := []) (obs := []) (by kernel_rfl) (by kernel_rfl) (by kernel_rfl) allP0 ?_
                refine seqQ_norm ?_
                obtain rfl := Option.some.inj h
                refine W_ret [2] [] (fr' := [(2, aI (0 : Int))]) (L' := []) (by kernel_rfl) (by kernel_rfl) ?_
                exact retQ_mk (by kernel_rfl) (by kernel_rfl) (by kernel_rfl)

@[reducible] def law_digits_s25 (a0 : (Int × (Int × (List (List (Int × (Int × Int))))))) (i133 : Int) (v136 : (List (Int × (Int × Int)))) (i175 : Int) (x176 : Int) (v178 : (Int × (Int × Int))) (v : Int) : Fr × LL := ([(1, .one (.ptr 1 0)), (3, aI x176), (7, .one (.ptr 7 0)), (8, aI v), (10, aD (.slice (.slice (.pair tI (.pair tI tI)))) a0.2.2), (11, aI (List.length a0.2.2 : Int)), (12, aI i133), (16, aD (.slice (.pair tI (.pair tI tI))) v136), (17, aI (List.length v136 : Int)), (18, aI i175)], [(1, .one (.pair tI (.pair tI (.slice (.slice (.pair tI (.pair tI tI)))))) a0), (7, .one (.pair tI (.pair tI tI)) v178)])
def law_digits_b26 (a0 : (Int × (Int × (List (List (Int × (Int × Int))))))) (i175 : Int) (v178 : (Int × (Int × Int))) (x176 : Int) : Option (Flow Int (Esc Int Int)) :=
bif v178.2.1 == (0 : Int) then
(some (.done (.ret (-1 : Int))))
else
((bif decide (v178.2.1 > (0 : Int)) then
(some (w64 ((w64 ((2 : Int) * v178.1)) + (1 : Int))))
else
(some (w64 ((2 : Int) * v178.1)))).bind fun v191 =>
some (.next (w64 ((w64 ((w64 ((w64 (x176 * (4 : Int))) * (w64 (a0.1 + (1 : Int))))) + (w64 (v191 * (w64 (a0.1 + (1 : Int))))))) + v178.2.2))))
@[reducible] def law_digits_s27 (a0 : (Int × (Int × (List (List (Int × (Int × Int))))))) (i133 : Int) (v136 : (List (Int × (Int × Int)))) (v : Int × Int) : Fr × LL := ([(1, .one (.ptr 1 0)), (3, aI v.2), (10, aD (.slice (.slice (.pair tI (.pair tI tI)))) a0.2.2), (11, aI (List.length a0.2.2 : Int)), (12, aI i133), (16, aD (.slice (.pair tI (.pair tI tI))) v136), (17, aI (List.length v136 : Int)), (18, aI v.1)], [(1, .one (.pair tI (.pair tI (.slice (.slice (.pair tI (.pair tI tI)))))) a0)])
@[reducible] def law_digits_s28 (v : Int) : Fr × LL := ([(2, aI v)], [])
@[reducible] def law_digits_s29 (a0 : (Int × (Int × (List (List (Int × (Int × Int))))))) (i133 : Int) (v : Int) : Fr × LL := ([(1, .one (.ptr 1 0)), (3, aI v), (10, aD (.slice (.slice (.pair tI (.pair tI tI)))) a0.2.2), (11, aI (List.length a0.2.2 : Int)), (12, aI i133)], [(1, .one (.pair tI (.pair tI (.slice (.slice (.pair tI (.pair tI tI)))))) a0)])
def law_digits_b30 (a0 : (Int × (Int × (List (List (Int × (Int × Int))))))) (i133 : Int) (v136 : (List (Int × (Int × Int)))) (x134 : Int) : Option (Flow Int (Esc Int Int)) :=
(forL (law_digits_b26 a0) (fun x176 => (.brk x176)) v136 0 x134).bind fun v194 =>
match v194 with
| .ret v199 =>
(some (.done (.ret v199)))
| .brk v200 =>
(some (.next v200))
@[reducible] def law_digits_s31 (a0 : (Int × (Int × (List (List (Int × (Int × Int))))))) (v : Int × Int) : Fr × LL := ([(1, .one (.ptr 1 0)), (3, aI v.2), (10, aD (.slice (.slice (.pair tI (.pair tI tI)))) a0.2.2), (11, aI (List.length a0.2.2 : Int)), (12, aI v.1)], [(1, .one (.pair tI (.pair tI (.slice (.slice (.pair tI (.pair tI tI)))))) a0)])
@[reducible] def law_digits_s32 (v : Int) : Fr × LL := ([(2, aI v)], [])
@[reducible] def law_digits_s33 (v : Int) : Fr × LL := ([(3, aI v)], [])
def law_digits (a0 : (Int × (Int × (List (List (Int × (Int × Int))))))) : Option Int :=
(forL (law_digits_b30 a0) (fun x134 => (.brk x134)) a0.2.2 0 (0 : Int)).bind fun v202 =>
match v202 with
| .ret v207 =>
(some v207)
| .brk v208 =>
(some v208)
theorem law_digits_ok {a0 : (Int × (Int × (List (List (Int × (Int × Int))))))} {r : Int} (h : law_digits a0 = some r) : FnC Try.prog 35 [aD (.pair tI (.pair tI (.slice (.slice (.pair tI (.pair tI tI)))))) a0] [] (aI r) [] := by
  refine fnC_of_W (B := bodyOf Try.f35) (n := 51) Try.func35 (by kernel_rfl) (by kernel_rfl) (by kernel_rfl) (by kernel_rfl) (by kernel_rfl) ?_
  intro K
  refine W_seq (by kernel_rfl) ?_
  refine W_run 2 [] [1] [1] (fr' := [(1, .one (.ptr 1 0))]) (L' := [(1, .one (.pair tI (.pair tI (.slice (.slice (.pair tI (.pair tI tI)))))) a0)]) (obs := []) (by kernel_rfl) (by kernel_rfl) (by kernel_rfl) allP0 ?_
  refine seqQ_norm ?_
  refine W_seq (by kernel_rfl) ?_
  refine W_run 1 [] [1, 3] [1] (fr' := [(1, .one (.ptr 1 0)), (3, aI (0 : Int))]) (L' := [(1, .one (.pair tI (.pair tI (.slice (.slice (.pair tI (.pair tI tI)))))) a0)]) (obs := []) (by kernel_rfl) (by kernel_rfl) (by kernel_rfl) allP0 ?_
  refine seqQ_norm ?_
  refine W_seq (by kernel_rfl) ?_
  refine W_seq (by kernel_rfl) ?_
  refine W_run 4 [] [1, 3, 10, 11, 12] [1] (fr' := [(1, .one (.ptr 1 0)), (3, aI (0 : Int)), (10, aD (.slice (.slice (.pair tI (.pair tI tI)))) a0.2.2), (11, aI (List.length a0.2.2 : Int)), (12, aI (0 : Int))]) (L' := [(1, .one (.pair tI (.pair tI (.slice (.slice (.pair tI (.pair tI tI)))))) a0)]) (obs := []) (by kernel_rfl) (by kernel_rfl) (by kernel_rfl) allP0 ?_
  refine seqQ_norm ?_
  refine W_block (id := 0) (by kernel_rfl) ?_
  obtain ⟨v202, h203, h⟩ := bind_of h
  refine W_len (t := 10) (u := (.slice (.pair tI (.pair tI tI)))) (xs := a0.2.2) (by kernel_rfl) (fun h206 => ?_)
  obtain ⟨h204, h205⟩ := forL_iter h206 h203
  refine W_weaken [1, 3, 10, 11, 12] [1] (fr' := ((law_digits_s31 a0) ((0 : Int), (0 : Int))).1) (L' := ((law_digits_s31 a0) ((0 : Int), (0 : Int))).2) (by kernel_rfl) ?_
  refine W_cutK (W_loop (S := (law_digits_s31 a0)) (J := (escQ (exQ .ret law_digits_s32) (exQ (.exit 0) law_digits_s33))) (by kernel_rfl) ?_ h204 _ v202 h205) ?_
  · rintro ⟨i133, x134⟩ s h
    refine W_seq (by kernel_rfl) ?_
    refine W_run 1 [] [1, 3, 10, 11, 12, 13] [1] (fr' := [(1, .one (.ptr 1 0)), (3, aI x134), (10, aD (.slice (.slice (.pair tI (.pair tI tI)))) a0.2.2), (11, aI (List.length a0.2.2 : Int)), (12, aI i133), (13, aB (decide (i133 < (List.length a0.2.2 : Int))))]) (L' := [(1, .one (.pair tI (.pair tI (.slice (.slice (.pair tI (.pair tI tI)))))) a0)]) (obs := []) (by kernel_rfl) (by kernel_rfl) (by kernel_rfl) allP0 ?_
    refine seqQ_norm ?_
    refine W_seq (by kernel_rfl) ?_
    refine W_cond (o := .tmp 13) (b := decide (i133 < (List.length a0.2.2 : Int))) (by kernel_rfl) (by kernel_rfl) (fun h138 => ?_) (fun h138 => ?_)
    · replace h := stepL_true h138 h
      obtain ⟨v136, _, h137, h, rfl⟩ := h
      refine W_skip [1, 3, 10, 11, 12] [1] (fr' := [(1, .one (.ptr 1 0)), (3, aI x134), (10, aD (.slice (.slice (.pair tI (.pair tI tI)))) a0.2.2), (11, aI (List.length a0.2.2 : Int)), (12, aI i133)]) (L' := [(1, .one (.pair tI (.pair tI (.slice (.slice (.pair tI (.pair tI tI)))))) a0)]) (by kernel_rfl) (by kernel_rfl) ?_
      refine seqQ_norm ?_
      refine W_seq (by kernel_rfl) ?_
      refine W_block (id := 1) (by kernel_rfl) ?_
      refine W_seq (by kernel_rfl) ?_
      refine W_run 3 [(1, .val (.dat (.slice (.pair tI (.pair tI tI))) v136))] [1, 3, 5, 10, 11, 12] [1] (fr' := [(1, .one (.ptr 1 0)), (3, aI x134), (5, aD (.slice (.pair tI (.pair tI tI))) v136), (10, aD (.slice (.slice (.pair tI (.pair tI tI)))) a0.2.2), (11, aI (List.length a0.2.2 : Int)), (12, aI i133)]) (L' := [(1, .one (.pair tI (.pair tI (.slice (.slice (.pair tI (.pair tI tI)))))) a0)]) (obs := [Idx a0.2.2 i133 v136]) (by kernel_rfl) (by kernel_rfl) (by kernel_rfl) (allP1 (Idx.of h137)) ?_
      refine seqQ_norm ?_
      refine W_seq (by kernel_rfl) ?_
      refine W_run 3 [] [1, 3, 10, 11, 12, 16, 17, 18] [1] (fr' := [(1, .one (.ptr 1 0)), (3, aI x134), (10, aD (.slice (.slice (.pair tI (.pair tI tI)))) a0.2.2), (11, aI (List.length a0.2.2 : Int)), (12, aI i133), (16, aD (.slice (.pair tI (.pair tI tI))) v136), (17, aI (List.length v136 : Int)), (18, aI (0 : Int))]) (L' := [(1, .one (.pair tI (.pair tI (.slice (.slice (.pair tI (.pair tI tI)))))) a0)]) (obs := []) (by kernel_rfl) (by kernel_rfl) (by kernel_rfl) allP0 ?_
      refine seqQ_norm ?_
      refine W_block (id := 2) (by kernel_rfl) ?_
      obtain ⟨v194, h195, h⟩ := bind_of h
      refine W_len (t := 16) (u := (.pair tI (.pair tI tI))) (xs := v136) (by kernel_rfl) (fun h198 => ?_)
      obtain ⟨h196, h197⟩ := forL_iter h198 h195
      refine W_weaken [1, 3, 10, 11, 12, 16, 17, 18] [1] (fr' := ((law_digits_s27 a0 i133 v136) ((0 : Int), x134)).1) (L' := ((law_digits_s27 a0 i133 v136) ((0 : Int), x134)).2) (by kernel_rfl) ?_
      refine W_cutK (W_loop (S := (law_digits_s27 a0 i133 v136)) (J := (escQ (exQ .ret law_digits_s28) (exQ (.exit 2) (law_digits_s29 a0 i133)))) (by kernel_rfl) ?_ h196 _ v194 h197) ?_
      · rintro ⟨i175, x176⟩ s h
        refine W_seq (by kernel_rfl) ?_
        refine W_run 1 [] [1, 3, 10, 11, 12, 16, 17, 18, 19] [1] (fr' := [(1, .one (.ptr 1 0)), (3, aI x176), (10, aD (.slice (.slice (.pair tI (.pair tI tI)))) a0.2.2), (11, aI (List.length a0.2.2 : Int)), (12, aI i133), (16, aD (.slice (.pair tI (.pair tI tI))) v136), (17, aI (List.length v136 : Int)), (18, aI i175), (19, aB (decide (i175 < (List.length v136 : Int))))]) (L' := [(1, .one (.pair tI (.pair tI (.slice (.slice (.pair tI (.pair tI tI)))))) a0)]) (obs := []) (by kernel_rfl) (by kernel_rfl) (by kernel_rfl) allP0 ?_
        refine seqQ_norm ?_
        refine W_seq (by kernel_rfl) ?_
        refine W_cond (o := .tmp 19) (b := decide (i175 < (List.length v136 : Int))) (by kernel_rfl) (by kernel_rfl) (fun h180 => ?_) (fun h180 => ?_)
        · replace h := stepL_true h180 h
          obtain ⟨v178, _, h179, h, rfl⟩ := h
          refine W_skip [1, 3, 10, 11, 12, 16, 17, 18] [1] (fr' := [(1, .one (.ptr 1 0)), (3, aI x176), (10, aD (.slice (.slice (.pair tI (.pair tI tI)))) a0.2.2), (11, aI (List.length a0.2.2 : Int)), (12, aI i133), (16, aD (.slice (.pair tI (.pair tI tI))) v136), (17, aI (List.length v136 : Int)), (18, aI i175)]) (L' := [(1, .one (.pair tI (.pair tI (.slice (.slice (.pair tI (.pair tI tI)))))) a0)]) (by kernel_rfl) (by kernel_rfl) ?_
          refine seqQ_norm ?_
          refine W_seq (by kernel_rfl) ?_
          refine W_block (id := 3) (by kernel_rfl) ?_
          refine W_seq (by kernel_rfl) ?_
          refine W_run 4 [(1, .val (.dat (.pair tI (.pair tI tI)) v178)), (5, .typed)] [1, 3, 7, 10, 11, 12, 16, 17, 18] [1, 7] (fr' := [(1, .one (.ptr 1 0)), (3, aI x176), (7, .one (.ptr 7 0)), (10, aD (.slice (.slice (.pair tI (.pair tI tI)))) a0.2.2), (11, aI (List.length a0.2.2 : Int)), (12, aI i133), (16, aD (.slice (.pair tI (.pair tI tI))) v136), (17, aI (List.length v136 : Int)), (18, aI i175)]) (L' := [(1, .one (.pair tI (.pair tI (.slice (.slice (.pair tI (.pair tI tI)))))) a0), (7, .one (.pair tI (.pair tI tI)) v178)]) (obs := [Idx v136 i175 v178, True]) (by kernel_rfl) (by kernel_rfl) (by kernel_rfl) (allP2 (Idx.of h179) (allP1 trivial)) ?_
          refine seqQ_norm ?_
          refine W_seq (by kernel_rfl) ?_
          refine W_seq (by kernel_rfl) ?_
          refine W_run 3 [] [1, 3, 7, 10, 11, 12, 16, 17, 18, 24] [1, 7] (fr' := [(1, .one (.ptr 1 0)), (3, aI x176), (7, .one (.ptr 7 0)), (10, aD (.slice (.slice (.pair tI (.pair tI tI)))) a0.2.2), (11, aI (List.length a0.2.2 : Int)), (12, aI i133), (16, aD (.slice (.pair tI (.pair tI tI))) v136), (17, aI (List.length v136 : Int)), (18, aI i175), (24, aB (v178.2.1 == (0 : Int)))]) (L' := [(1, .one (.pair tI (.pair tI (.slice (.slice (.pair tI (.pair tI tI)))))) a0), (7, .one (.pair tI (.pair tI tI)) v178)]) (obs := []) (by kernel_rfl) (by kernel_rfl) (by kernel_rfl) allP0 ?_
          refine seqQ_norm ?_
          refine W_cond (o := .tmp 24) (b := v178.2.1 == (0 : Int)) (by kernel_rfl) (by kernel_rfl) (fun h187 => ?_) (fun h187 => ?_)
          · replace h := ofT h187 h
            refine W_seq (by kernel_rfl) ?_
            refine W_run 1 [] [2] [] (fr' := [(2, aI (-1 : Int))]) (L' := []) (obs := []) (by kernel_rfl) (by kernel_rfl) (by kernel_rfl) allP0 ?_
            refine seqQ_norm ?_
            obtain rfl := Option.some.inj h
            refine W_ret [2] [] (fr' := [(2, aI (-1 : Int))]) (L' := []) (by kernel_rfl) (by kernel_rfl) ?_
            refine seqQ_ret ?_
            refine blockQ_ret ?_
            refine seqQ_ret ?_
            refine round_ret ?_
            refine escQ_ret ?_
            exact exQ_mk (by kernel_rfl) (by kernel_rfl)
          · replace h := ofF h187 h
            refine W_skip [1, 3, 7, 10, 11, 12, 16, 17, 18] [1, 7] (fr' := [(1, .one (.ptr 1 0)), (3, aI x176), (7, .one (.ptr 7 0)), (10, aD (.slice (.slice (.pair tI (.pair tI tI)))) a0.2.2), (11, aI (List.length a0.2.2 : Int)), (12, aI i133), (16, aD (.slice (.pair tI (.pair tI tI))) v136), (17, aI (List.length v136 : Int)), (18, aI i175)]) (L' := [(1, .one (.pair tI (.pair tI (.slice (.slice (.pair tI (.pair tI tI)))))) a0), (7, .one (.pair tI (.pair tI tI)) v178)]) (by kernel_rfl) (by kernel_rfl) ?_
            refine seqQ_norm ?_
            refine W_seq (by kernel_rfl) ?_
            refine W_run 4 [] [1, 3, 7, 8, 10, 11, 12, 16, 17, 18] [1, 7] (fr' := [(1, .one (.ptr 1 0)), (3, aI x176), (7, .one (.ptr 7 0)), (8, aI (w64 ((2 : Int) * v178.1))), (10, aD (.slice (.slice (.pair tI (.pair tI tI)))) a0.2.2), (11, aI (List.length a0.2.2 : Int)), (12, aI i133), (16, aD (.slice (.pair tI (.pair tI tI))) v136), (17, aI (List.length v136 : Int)), (18, aI i175)]) (L' := [(1, .one (.pair tI (.pair tI (.slice (.slice (.pair tI (.pair tI tI)))))) a0), (7, .one (.pair tI (.pair tI tI)) v178)]) (obs := []) (by kernel_rfl) (by kernel_rfl) (by kernel_rfl) allP0 ?_
            refine seqQ_norm ?_
            refine W_seq (by kernel_rfl) ?_
            obtain ⟨v191, h192, h⟩ := bind_of h
            refine W_cutK (Q' := (exQ .normal (law_digits_s25 a0 i133 v136 i175 x176 v178)) v191) ?_ ?_
            · replace h := h192
              refine W_seq (by kernel_rfl) ?_
              refine W_run 3 [] [1, 3, 7, 8, 10, 11, 12, 16, 17, 18, 30] [1, 7] (fr' := [(1, .one (.ptr 1 0)), (3, aI x176), (7, .one (.ptr 7 0)), (8, aI (w64 ((2 : Int) * v178.1))), (10, aD (.slice (.slice (.pair tI (.pair tI tI)))) a0.2.2), (11, aI (List.length a0.2.2 : Int)), (12, aI i133), (16, aD (.slice (.pair tI (.pair tI tI))) v136), (17, aI (List.length v136 : Int)), (18, aI i175), (30, aB (decide (v178.2.1 > (0 : Int))))]) (L' := [(1, .one (.pair tI (.pair tI (.slice (.slice (.pair tI (.pair tI tI)))))) a0), (7, .one (.pair tI (.pair tI tI)) v178)]) (obs := []) (by kernel_rfl) (by kernel_rfl) (by kernel_rfl) allP0 ?_
              refine seqQ_norm ?_
              refine W_cond (o := .tmp 30) (b := decide (v178.2.1 > (0 : Int))) (by kernel_rfl) (by kernel_rfl) (fun h190 => ?_) (fun h190 => ?_)
              · replace h := ofT h190 h
                obtain rfl := Option.some.inj h
                refine W_run 3 [] [1, 3, 7, 8, 10, 11, 12, 16, 17, 18] [1, 7] (fr' := [(1, .one (.ptr 1 0)), (3, aI x176), (7, .one (.ptr 7 0)), (8, aI (w64 ((w64 ((2 : Int) * v178.1)) + (1 : Int)))), (10, aD (.slice (.slice (.pair tI (.pair tI tI)))) a0.2.2), (11, aI (List.length a0.2.2 : Int)), (12, aI i133), (16, aD (.slice (.pair tI (.pair tI tI))) v136), (17, aI (List.length v136 : Int)), (18, aI i175)]) (L' := [(1, .one (.pair tI (.pair tI (.slice (.slice (.pair tI (.pair tI tI)))))) a0), (7, .one (.pair tI (.pair tI tI)) v178)]) (obs := []) (by kernel_rfl) (by kernel_rfl) (by kernel_rfl) allP0 ?_
                exact exQ_mk (by kernel_rfl) (by kernel_rfl)
              · replace h := ofF h190 h
                obtain rfl := Option.some.inj h
                refine W_skip [1, 3, 7, 8, 10, 11, 12, 16, 17, 18] [1, 7] (fr' := [(1, .one (.ptr 1 0)), (3, aI x176), (7, .one (.ptr 7 0)), (8, aI (w64 ((2 : Int) * v178.1))), (10, aD (.slice (.slice (.pair tI (.pair tI tI)))) a0.2.2), (11, aI (List.length a0.2.2 : Int)), (12, aI i133), (16, aD (.slice (.pair tI (.pair tI tI))) v136), (17, aI (List.length v136 : Int)), (18, aI i175)]) (L' := [(1, .one (.pair tI (.pair tI (.slice (.slice (.pair tI (.pair tI tI)))))) a0), (7, .one (.pair tI (.pair tI tI)) v178)]) (by kernel_rfl) (by kernel_rfl) ?_
                exact exQ_mk (by kernel_rfl) (by kernel_rfl)
            · intro e fr L hJ
              obtain ⟨rfl, rfl, rfl⟩ := hJ
              refine LT_keep [1, 3, 7, 8, 10, 11, 12, 16, 17, 18] [1, 7] (fr' := [(1, .one (.ptr 1 0)), (3, aI x176), (7, .one (.ptr 7 0)), (8, aI v191), (10, aD (.slice (.slice (.pair tI (.pair tI tI)))) a0.2.2), (11, aI (List.length a0.2.2 : Int)), (12, aI i133), (16, aD (.slice (.pair tI (.pair tI tI))) v136), (17, aI (List.length v136 : Int)), (18, aI i175)]) (L' := [(1, .one (.pair tI (.pair tI (.slice (.slice (.pair tI (.pair tI tI)))))) a0), (7, .one (.pair tI (.pair tI tI)) v178)]) (by kernel_rfl) ?_
              refine seqQ_norm ?_
              refine W_run 16 [] [1, 3, 10, 11, 12, 16, 17, 18] [1] (fr' := [(1, .one (.ptr 1 0)), (3, aI (w64 ((w64 ((w64 ((w64 (x176 * (4 : Int))) * (w64 (a0.1 + (1 : Int))))) + (w64 (v191 * (w64 (a0.1 + (1 : Int))))))) + v178.2.2))), (10, aD (.slice (.slice (.pair tI (.pair tI tI)))) a0.2.2), (11, aI (List.length a0.2.2 : Int)), (12, aI i133), (16, aD (.slice (.pair tI (.pair tI tI))) v136), (17, aI (List.length v136 : Int)), (18, aI i175)]) (L' := [(1, .one (.pair tI (.pair tI (.slice (.slice (.pair tI (.pair tI tI)))))) a0)]) (obs := []) (by kernel_rfl) (by kernel_rfl) (by kernel_rfl) allP0 ?_
              refine blockQ_norm ?_
              refine seqQ_norm ?_
              obtain rfl := Option.some.inj h
              refine W_run 2 [] [1, 3, 10, 11, 12, 16, 17, 18] [1] (fr' := [(1, .one (.ptr 1 0)), (3, aI (w64 ((w64 ((w64 ((w64 (x176 * (4 : Int))) * (w64 (a0.1 + (1 : Int))))) + (w64 (v191 * (w64 (a0.1 + (1 : Int))))))) + v178.2.2))), (10, aD (.slice (.slice (.pair tI (.pair tI tI)))) a0.2.2), (11, aI (List.length a0.2.2 : Int)), (12, aI i133), (16, aD (.slice (.pair tI (.pair tI tI))) v136), (17, aI (List.length v136 : Int)), (18, aI (w64 (i175 + (1 : Int))))]) (L' := [(1, .one (.pair tI (.pair tI (.slice (.slice (.pair tI (.pair tI tI)))))) a0)]) (obs := []) (by kernel_rfl) (by kernel_rfl) (by kernel_rfl) allP0 ?_
              exact round_next' (by kernel_rfl) (by kernel_rfl)
        · obtain rfl := stepL_false h180 h
          refine W_exit (id := 2) [1, 3, 10, 11, 12] [1] (fr' := [(1, .one (.ptr 1 0)), (3, aI x176), (10, aD (.slice (.slice (.pair tI (.pair tI tI)))) a0.2.2), (11, aI (List.length a0.2.2 : Int)), (12, aI i133)]) (L' := [(1, .one (.pair tI (.pair tI (.slice (.slice (.pair tI (.pair tI tI)))))) a0)]) (by kernel_rfl) (by kernel_rfl) ?_
          refine seqQ_exit ?_
          refine round_exit ?_
          refine escQ_brk ?_
          exact exQ_mk (by kernel_rfl) (by kernel_rfl)
      · intro e fr L hJ
        rcases v194 with v199 | v200
        · obtain ⟨rfl, rfl, rfl⟩ := hJ
          obtain rfl := Option.some.inj h
          refine LT_keep [2] [] (fr' := [(2, aI v199)]) (L' := []) (by kernel_rfl) ?_
          refine blockQ_ret ?_
          refine blockQ_ret ?_
          refine seqQ_ret ?_
          refine round_ret ?_
          refine escQ_ret ?_
          exact exQ_mk (by kernel_rfl) (by kernel_rfl)
        · obtain ⟨rfl, rfl, rfl⟩ := hJ
          refine LT_keep [1, 3, 10, 11, 12] [1] (fr' := [(1, .one (.ptr 1 0)), (3, aI v200), (10, aD (.slice (.slice (.pair tI (.pair tI tI)))) a0.2.2), (11, aI (List.length a0.2.2 : Int)), (12, aI i133)]) (L' := [(1, .one (.pair tI (.pair tI (.slice (.slice (.pair tI (.pair tI tI)))))) a0)]) (by kernel_rfl) ?_
          refine blockQ_hit ?_
          refine blockQ_norm ?_
          refine seqQ_norm ?_
          obtain rfl := Option.some.inj h
          refine W_run 2 [] [1, 3, 10, 11, 12] [1] (fr' := [(1, .one (.ptr 1 0)), (3, aI v200), (10, aD (.slice (.slice (.pair tI (.pair tI tI)))) a0.2.2), (11, aI (List.length a0.2.2 : Int)), (12, aI (w64 (i133 + (1 : Int))))]) (L' := [(1, .one (.pair tI (.pair tI (.slice (.slice (.pair tI (.pair tI tI)))))) a0)]) (obs := []) (by kernel_rfl) (by kernel_rfl) (by kernel_rfl) allP0 ?_
          exact round_next' (by kernel_rfl) (by kernel_rfl)
    · obtain rfl := stepL_false h138 h
      refine W_exit (id := 0) [3] [] (fr' := [(3, aI x134)]) (L' := []) (by kernel_rfl) (by kernel_rfl) ?_
      refine seqQ_exit ?_
      refine round_exit ?_
      refine escQ_brk ?_
      exact exQ_mk (by kernel_rfl) (by kernel_rfl)
  · intro e fr L hJ
    rcases v202 with v207 | v208
    · obtain ⟨rfl, rfl, rfl⟩ := hJ
      obtain rfl := Option.some.inj h
      refine LT_keep [2] [] (fr' := [(2, aI v207)]) (L' := []) (by kernel_rfl) ?_
      refine blockQ_ret ?_
      refine seqQ_ret ?_
      exact retQ_mk (by kernel_rfl) (by kernel_rfl) (by kernel_rfl)
    · obtain ⟨rfl, rfl, rfl⟩ := hJ
      refine LT_keep [3] [] (fr' := [(3, aI v208)]) (L' := []) (by kernel_rfl) ?_
      refine blockQ_hit ?_
      refine seqQ_norm ?_
      refine W_seq (by kernel_rfl) ?_
      refine W_run 2 [] [2] [] (fr' := [(2, aI v208)]) (L' := []) (obs := []) (by kernel_rfl) (by kernel_rfl) (by kernel_rfl) allP0 ?_
      refine seqQ_norm ?_
      obtain rfl := Option.some.inj h
      refine W_ret [2] [] (fr' := [(2, aI v208)]) (L' := []) (by kernel_rfl) (by kernel_rfl) ?_
      exact retQ_mk (by kernel_rfl) (by kernel_rfl) (by kernel_rfl)

def law_BusyNumbers_g5 (a0 : (Int × (Int × (List (List (Int × (Int × Int))))))) (r3 : Int) : Option Bool :=
bif r3 == (0 : Int) then
(bif decide (a0.1 > (2 : Int)) then
(some true)
else
(bif a0.2.1 != (2 : Int) then
(some true)
else
((law_digits a0).bind fun r54 =>
some (decide (r54 < (0 : Int))))))
else
(some false)
@[reducible] def law_BusyNumbers_s6 (a0 : (Int × (Int × (List (List (Int × (Int × Int))))))) (r1 : (Int × Int)) (r3 : Int) (v : Bool) : Fr × LL := ([(1, .one (.ptr 1 0)), (3, aI r1.1), (4, aI r1.2), (5, aI r3), (29, aB v)], [(1, .one (.pair tI (.pair tI (.slice (.slice (.pair tI (.pair tI tI)))))) a0)])
@[reducible] def law_BusyNumbers_s7 (v : Bool) : Fr × LL := ([(2, aB v)], [])
@[reducible] def law_BusyNumbers_s8 (a0 : (Int × (Int × (List (List (Int × (Int × Int))))))) (r1 : (Int × Int)) (v : Int) : Fr × LL := ([(1, .one (.ptr 1 0)), (3, aI r1.1), (4, aI r1.2), (5, aI v)], [(1, .one (.pair tI (.pair tI (.slice (.slice (.pair tI (.pair tI tI)))))) a0)])
def law_BusyNumbers (a0 : (Int × (Int × (List (List (Int × (Int × Int))))))) : Option Bool :=
(busy_Number a0).bind fun r1 =>
(ref_MachineCheck a0).bind fun r3 =>
((law_BusyNumbers_g5 a0 r3).bind fun v56 =>
bif v56 then
(some (3 : Int))
else
(some r3)).bind fun v59 =>
bif v59 != (0 : Int) then
(some ((r1.2 == v59) && (r1.1 == (0 : Int))))
else
((bif r1.2 == (0 : Int) then
((law_digits a0).bind fun r69 =>
some (r1.1 == r69))
else
(some false)).bind fun v71 =>
some v71)
theorem law_BusyNumbers_ok {a0 : (Int × (Int × (List (List (Int × (Int × Int))))))} {r : Bool} (h : law_BusyNumbers a0 = some r) : FnC Try.prog 9 [aD (.pair tI (.pair tI (.slice (.slice (.pair tI (.pair tI tI)))))) a0] [] (aB r) [] := by
  refine fnC_of_W (B := bodyOf Try.f9) (n := 47) Try.func9 (by kernel_rfl) (by kernel_rfl) (by kernel_rfl) (by kernel_rfl) (by kernel_rfl) ?_
  intro K
  refine W_seq (by kernel_rfl) ?_
  refine W_run 2 [] [1] [1] (fr' := [(1, .one (.ptr 1 0))]) (L' := [(1, .one (.pair tI (.pair tI (.slice (.slice (.pair tI (.pair tI tI)))))) a0)]) (obs := []) (by kernel_rfl) (by kernel_rfl) (by kernel_rfl) allP0 ?_
  refine seqQ_norm ?_
  refine W_seq (by kernel_rfl) ?_
  refine W_region (by kernel_rfl) ?_
  refine WO_run (j := 1) (k := 1) (orcs := []) (kF := [1, 7]) (kL := [1]) (fr' := [(1, .one (.ptr 1 0)), (7, aD (.pair tI (.pair tI (.slice (.slice (.pair tI (.pair tI tI)))))) a0)]) (L' := [(1, .one (.pair tI (.pair tI (.slice (.slice (.pair tI (.pair tI tI)))))) a0)]) (obs := []) rfl (by kernel_rfl) allP0 ?_
  obtain ⟨r1, h2, h⟩ := bind_of h
  refine WO_call0 (us := [none]) (d := 8) (p := True) (j := 2) rfl ⟨by kernel_rfl, by kernel_rfl, by kernel_rfl⟩ trivial (busy_Number_ok h2) (by kernel_rfl) ?_
  refine WO_run (j := 7) (k := 5) (orcs := []) (kF := [1, 3, 4]) (kL := [1]) (fr' := [(1, .one (.ptr 1 0)), (3, aI r1.1), (4, aI r1.2)]) (L' := [(1, .one (.pair tI (.pair tI (.slice (.slice (.pair tI (.pair tI tI)))))) a0)]) (obs := []) rfl (by kernel_rfl) allP0 ?_
  refine WO_fin [1, 3, 4] [1] (fr' := [(1, .one (.ptr 1 0)), (3, aI r1.1), (4, aI r1.2)]) (L' := [(1, .one (.pair tI (.pair tI (.slice (.slice (.pair tI (.pair tI tI)))))) a0)]) (by kernel_rfl) (by kernel_rfl) ?_
  refine seqQ_norm ?_
  refine W_seq (by kernel_rfl) ?_
  refine W_region (by kernel_rfl) ?_
  refine WO_run (j := 1) (k := 1) (orcs := []) (kF := [1, 3, 4, 11]) (kL := [1]) (fr' := [(1, .one (.ptr 1 0)), (3, aI r1.1), (4, aI r1.2), (11, aD (.pair tI (.pair tI (.slice (.slice (.pair tI (.pair tI tI)))))) a0)]) (L' := [(1, .one (.pair tI (.pair tI (.slice (.slice (.pair tI (.pair tI tI)))))) a0)]) (obs := []) rfl (by kernel_rfl) allP0 ?_
  obtain ⟨r3, h4, h⟩ := bind_of h
  refine WO_call0 (us := [none]) (d := 12) (p := True) (j := 2) rfl ⟨by kernel_rfl, by kernel_rfl, by kernel_rfl⟩ trivial (ref_MachineCheck_ok h4) (by kernel_rfl) ?_
  refine WO_run (j := 3) (k := 1) (orcs := []) (kF := [1, 3, 4, 5]) (kL := [1]) (fr' := [(1, .one (.ptr 1 0)), (3, aI r1.1), (4, aI r1.2), (5, aI r3)]) (L' := [(1, .one (.pair tI (.pair tI (.slice (.slice (.pair tI (.pair tI tI)))))) a0)]) (obs := []) rfl (by kernel_rfl) allP0 ?_
  refine WO_fin [1, 3, 4, 5] [1] (fr' := [(1, .one (.ptr 1 0)), (3, aI r1.1), (4, aI r1.2), (5, aI r3)]) (L' := [(1, .one (.pair tI (.pair tI (.slice (.slice (.pair tI (.pair tI tI)))))) a0)]) (by kernel_rfl) (by kernel_rfl) ?_
  refine seqQ_norm ?_
  refine W_seq (by kernel_rfl) ?_
  obtain ⟨v59, h60, h⟩ := bind_of h
  refine W_cutK (Q' := (exQ .normal (law_BusyNumbers_s8 a0 r1)) v59) ?_ ?_
  · replace h := h60
    refine W_seq (by kernel_rfl) ?_
    obtain ⟨v56, h57, h⟩ := bind_of h
    refine W_cutK (Q' := (exQ .normal (law_BusyNumbers_s6 a0 r1 r3)) v56) ?_ ?_
    · replace h := h57
      refine W_region (by kernel_rfl) ?_
      refine WO_run (j := 3) (k := 3) (orcs := []) (kF := [1, 3, 4, 5, 15]) (kL := [1]) (fr' := [(1, .one (.ptr 1 0)), (3, aI r1.1), (4, aI r1.2), (5, aI r3), (15, aB (r3 == (0 : Int)))]) (L' := [(1, .one (.pair tI (.pair tI (.slice (.slice (.pair tI (.pair tI tI)))))) a0)]) (obs := []) rfl (by kernel_rfl) allP0 ?_
      rcases Bool.eq_false_or_eq_true (r3 == (0 : Int)) with h51 | h51
      · replace h := ofT h51 h
        refine WO_run (j := 7) (k := 4) (orcs := [(6, .known true), (8, .known true), (10, .known true), (12, .known true)]) (kF := [1, 3, 4, 5, 15, 19]) (kL := [1]) (fr' := [(1, .one (.ptr 1 0)), (3, aI r1.1), (4, aI r1.2), (5, aI r3), (15, aB (r3 == (0 : Int))), (19, aB (decide (a0.1 > (2 : Int))))]) (L' := [(1, .one (.pair tI (.pair tI (.slice (.slice (.pair tI (.pair tI tI)))))) a0)]) (obs := [((r3 == (0 : Int)) = true), ((r3 == (0 : Int)) = true), ((r3 == (0 : Int)) = true), ((r3 == (0 : Int)) = true)]) rfl (by kernel_rfl) (allP2 h51 (allP2 h51 (allP2 h51 (allP1 h51)))) ?_
        rcases Bool.eq_false_or_eq_true (decide (a0.1 > (2 : Int))) with h52 | h52
        · replace h := ofT h52 h
          refine WO_run (j := 17) (k := 10) (orcs := [(14, .known true), (16, .known true), (18, .known true), (20, .known true), (21, .val (.dat .bool true)), (22, .known true), (24, .known true), (26, .known true), (28, .known true), (30, .known true), (31, .val (.dat .bool true)), (33, .val (.dat .bool true))]) (kF := [1, 3, 4, 5, 29]) (kL := [1]) (fr' := [(1, .one (.ptr 1 0)), (3, aI r1.1), (4, aI r1.2), (5, aI r3), (29, aB true)]) (L' := [(1, .one (.pair tI (.pair tI (.slice (.slice (.pair tI (.pair tI tI)))))) a0)]) (obs := [((decide (a0.1 > (2 : Int))) = true), ((decide (a0.1 > (2 : Int))) = true), ((decide (a0.1 > (2 : Int))) = true), ((r3 == (0 : Int)) = true), ((decide (a0.1 > (2 : Int))) = true), ((r3 == (0 : Int)) = true), (true = true), (true = true), (true = true), ((r3 == (0 : Int)) = true), (true = true), ((r3 == (0 : Int)) = true)]) rfl (by kernel_rfl) (allP2 h52 (allP2 h52 (allP2 h52 (allP2 h51 (allP2 h52 (allP2 h51 (allP2 rfl (allP2 rfl (allP2 rfl (allP2 h51 (allP2 rfl (allP1 h51)))))))))))) ?_
          obtain rfl := Option.some.inj h
          refine WO_fin [1, 3, 4, 5, 29] [1] (fr' := [(1, .one (.ptr 1 0)), (3, aI r1.1), (4, aI r1.2), (5, aI r3), (29, aB true)]) (L' := [(1, .one (.pair tI (.pair tI (.slice (.slice (.pair tI (.pair tI tI)))))) a0)]) (by kernel_rfl) (by kernel_rfl) ?_
          exact exQ_mk (by kernel_rfl) (by kernel_rfl)
        · replace h := ofF h52 h
          refine WO_run (j := 12) (k := 5) (orcs := [(14, .known false), (16, .known false), (18, .known false), (20, .known true), (21, .val (.dat .bool false)), (22, .known true)]) (kF := [1, 3, 4, 5, 15, 24]) (kL := [1]) (fr' := [(1, .one (.ptr 1 0)), (3, aI r1.1), (4, aI r1.2), (5, aI r3), (15, aB (r3 == (0 : Int))), (24, aB (a0.2.1 != (2 : Int)))]) (L' := [(1, .one (.pair tI (.pair tI (.slice (.slice (.pair tI (.pair tI tI)))))) a0)]) (obs := [((decide (a0.1 > (2 : Int))) = false), ((decide (a0.1 > (2 : Int))) = false), ((decide (a0.1 > (2 : Int))) = false), ((r3 == (0 : Int)) = true), ((decide (a0.1 > (2 : Int))) = false), ((r3 == (0 : Int)) = true)]) rfl (by kernel_rfl) (allP2 h52 (allP2 h52 (allP2 h52 (allP2 h51 (allP2 h52 (allP1 h51)))))) ?_
          rcases Bool.eq_false_or_eq_true (a0.2.1 != (2 : Int)) with h53 | h53
          · replace h := ofT h53 h
            refine WO_run (j := 17) (k := 5) (orcs := [(24, .known true), (26, .known true), (28, .known true), (30, .known true), (31, .val (.dat .bool true)), (33, .val (.dat .bool true))]) (kF := [1, 3, 4, 5, 29]) (kL := [1]) (fr' := [(1, .one (.ptr 1 0)), (3, aI r1.1), (4, aI r1.2), (5, aI r3), (29, aB true)]) (L' := [(1, .one (.pair tI (.pair tI (.slice (.slice (.pair tI (.pair tI tI)))))) a0)]) (obs := [((a0.2.1 != (2 : Int)) = true), ((a0.2.1 != (2 : Int)) = true), ((a0.2.1 != (2 : Int)) = true), ((r3 == (0 : Int)) = true), ((a0.2.1 != (2 : Int)) = true), ((r3 == (0 : Int)) = true)]) rfl (by kernel_rfl) (allP2 h53 (allP2 h53 (allP2 h53 (allP2 h51 (allP2 h53 (allP1 h51)))))) ?_
            obtain rfl := Option.some.inj h
            refine WO_fin [1, 3, 4, 5, 29] [1] (fr' := [(1, .one (.ptr 1 0)), (3, aI r1.1), (4, aI r1.2), (5, aI r3), (29, aB true)]) (L' := [(1, .one (.pair tI (.pair tI (.slice (.slice (.pair tI (.pair tI tI)))))) a0)]) (by kernel_rfl) (by kernel_rfl) ?_
            exact exQ_mk (by kernel_rfl) (by kernel_rfl)
          · replace h := ofF h53 h
            refine WO_run (j := 13) (k := 1) (orcs := [(24, .known false)]) (kF := [1, 3, 4, 5, 15, 24, 25]) (kL := [1]) (fr' := [(1, .one (.ptr 1 0)), (3, aI r1.1), (4, aI r1.2), (5, aI r3), (15, aB (r3 == (0 : Int))), (24, aB (a0.2.1 != (2 : Int))), (25, aD (.pair tI (.pair tI (.slice (.slice (.pair tI (.pair tI tI)))))) a0)]) (L' := [(1, .one (.pair tI (.pair tI (.slice (.slice (.pair tI (.pair tI tI)))))) a0)]) (obs := [((a0.2.1 != (2 : Int)) = false)]) rfl (by kernel_rfl) (allP1 h53) ?_
            obtain ⟨r54, h55, h⟩ := bind_of h
            refine WO_call0 (us := [none]) (d := 26) (p := ((a0.2.1 != (2 : Int)) = false)) (j := 14) rfl ⟨by kernel_rfl, by kernel_rfl, by kernel_rfl⟩ h53 (law_digits_ok h55) (by kernel_rfl) ?_
            refine WO_run (j := 17) (k := 3) (orcs := [(28, .known false), (30, .known true), (31, .val (.dat .bool false)), (33, .val (.dat .bool true))]) (kF := [1, 3, 4, 5, 29]) (kL := [1]) (fr' := [(1, .one (.ptr 1 0)), (3, aI r1.1), (4, aI r1.2), (5, aI r3), (29, aB (decide (r54 < (0 : Int))))]) (L' := [(1, .one (.pair tI (.pair tI (.slice (.slice (.pair tI (.pair tI tI)))))) a0)]) (obs := [((a0.2.1 != (2 : Int)) = false), ((r3 == (0 : Int)) = true), ((a0.2.1 != (2 : Int)) = false), ((r3 == (0 : Int)) = true)]) rfl (by kernel_rfl) (allP2 h53 (allP2 h51 (allP2 h53 (allP1 h51)))) ?_
            obtain rfl := Option.some.inj h
            refine WO_fin [1, 3, 4, 5, 29] [1] (fr' := [(1, .one (.ptr 1 0)), (3, aI r1.1), (4, aI r1.2), (5, aI r3), (29, aB (decide (r54 < (0 : Int))))]) (L' := [(1, .one (.pair tI (.pair tI (.slice (.slice (.pair tI (.pair tI tI)))))) a0)]) (by kernel_rfl) (by kernel_rfl) ?_
            exact exQ_mk (by kernel_rfl) (by kernel_rfl)
      · replace h := ofF h51 h
        refine WO_run (j := 17) (k := 14) (orcs := [(6, .known false), (8, .known false), (10, .known false), (12, .known false), (14, .known true), (16, .known true), (18, .known true), (20, .known false), (22, .known false), (24, .known true), (26, .known true), (28, .known true), (30, .known false), (33, .val (.dat .bool false))]) (kF := [1, 3, 4, 5, 29]) (kL := [1]) (fr' := [(1, .one (.ptr 1 0)), (3, aI r1.1), (4, aI r1.2), (5, aI r3), (29, aB false)]) (L' := [(1, .one (.pair tI (.pair tI (.slice (.slice (.pair tI (.pair tI tI)))))) a0)]) (obs := [((r3 == (0 : Int)) = false), ((r3 == (0 : Int)) = false), ((r3 == (0 : Int)) = false), ((r3 == (0 : Int)) = false), ((r3 == (0 : Int)) = false), ((r3 == (0 : Int)) = false), ((r3 == (0 : Int)) = false), ((r3 == (0 : Int)) = false)]) rfl (by kernel_rfl) (allP2 h51 (allP2 h51 (allP2 h51 (allP2 h51 (allP2 h51 (allP2 h51 (allP2 h51 (allP1 h51)))))))) ?_
        obtain rfl := Option.some.inj h
        refine WO_fin [1, 3, 4, 5, 29] [1] (fr' := [(1, .one (.ptr 1 0)), (3, aI r1.1), (4, aI r1.2), (5, aI r3), (29, aB false)]) (L' := [(1, .one (.pair tI (.pair tI (.slice (.slice (.pair tI (.pair tI tI)))))) a0)]) (by kernel_rfl) (by kernel_rfl) ?_
        exact exQ_mk (by kernel_rfl) (by kernel_rfl)
    · intro e fr L hJ
      obtain ⟨rfl, rfl, rfl⟩ := hJ
      refine LT_keep [1, 3, 4, 5, 29] [1] (fr' := [(1, .one (.ptr 1 0)), (3, aI r1.1), (4, aI r1.2), (5, aI r3), (29, aB v56)]) (L' := [(1, .one (.pair tI (.pair tI (.slice (.slice (.pair tI (.pair tI tI)))))) a0)]) (by kernel_rfl) ?_
      refine seqQ_norm ?_
      refine W_cond (o := .tmp 29) (b := v56) (by kernel_rfl) (by kernel_rfl) (fun h58 => ?_) (fun h58 => ?_)
      · replace h := ofT h58 h
        obtain rfl := Option.some.inj h
        refine W_run 1 [] [1, 3, 4, 5] [1] (fr' := [(1, .one (.ptr 1 0)), (3, aI r1.1), (4, aI r1.2), (5, aI (3 : Int))]) (L' := [(1, .one (.pair tI (.pair tI (.slice (.slice (.pair tI (.pair tI tI)))))) a0)]) (obs := []) (by kernel_rfl) (by kernel_rfl) (by kernel_rfl) allP0 ?_
        exact exQ_mk (by kernel_rfl) (by kernel_rfl)
      · replace h := ofF h58 h
        obtain rfl := Option.some.inj h
        refine W_skip [1, 3, 4, 5] [1] (fr' := [(1, .one (.ptr 1 0)), (3, aI r1.1), (4, aI r1.2), (5, aI r3)]) (L' := [(1, .one (.pair tI (.pair tI (.slice (.slice (.pair tI (.pair tI tI)))))) a0)]) (by kernel_rfl) (by kernel_rfl) ?_
        exact exQ_mk (by kernel_rfl) (by kernel_rfl)
  · intro e fr L hJ
    obtain ⟨rfl, rfl, rfl⟩ := hJ
    refine LT_keep [1, 3, 4, 5] [1] (fr' := [(1, .one (.ptr 1 0)), (3, aI r1.1), (4, aI r1.2), (5, aI v59)]) (L' := [(1, .one (.pair tI (.pair tI (.slice (.slice (.pair tI (.pair tI tI)))))) a0)]) (by kernel_rfl) ?_
    refine seqQ_norm ?_
    refine W_seq (by kernel_rfl) ?_
    refine W_seq (by kernel_rfl) ?_
    refine W_run 2 [] [1, 3, 4, 5, 31] [1] (fr' := [(1, .one (.ptr 1 0)), (3, aI r1.1), (4, aI r1.2), (5, aI v59), (31, aB (v59 != (0 : Int)))]) (L' := [(1, .one (.pair tI (.pair tI (.slice (.slice (.pair tI (.pair tI tI)))))) a0)]) (obs := []) (by kernel_rfl) (by kernel_rfl) (by kernel_rfl) allP0 ?_
    refine seqQ_norm ?_
    refine W_cond (o := .tmp 31) (b := v59 != (0 : Int)) (by kernel_rfl) (by kernel_rfl) (fun h61 => ?_) (fun h61 => ?_)
    · replace h := ofT h61 h
      refine W_seq (by kernel_rfl) ?_
      refine W_run 8 [] [2] [] (fr' := [(2, aB ((r1.2 == v59) && (r1.1 == (0 : Int))))]) (L' := []) (obs := []) (by kernel_rfl) (by kernel_rfl) (by kernel_rfl) allP0 ?_
      refine seqQ_norm ?_
      obtain rfl := Option.some.inj h
      refine W_ret [2] [] (fr' := [(2, aB ((r1.2 == v59) && (r1.1 == (0 : Int))))]) (L' := []) (by kernel_rfl) (by kernel_rfl) ?_
      refine seqQ_ret ?_
      exact retQ_mk (by kernel_rfl) (by kernel_rfl) (by kernel_rfl)
    · replace h := ofF h61 h
      refine W_skip [1, 3, 4] [1] (fr' := [(1, .one (.ptr 1 0)), (3, aI r1.1), (4, aI r1.2)]) (L' := [(1, .one (.pair tI (.pair tI (.slice (.slice (.pair tI (.pair tI tI)))))) a0)]) (by kernel_rfl) (by kernel_rfl) ?_
      refine seqQ_norm ?_
      refine W_seq (by kernel_rfl) ?_
      obtain ⟨v71, h72, h⟩ := bind_of h
      refine W_cutK (Q' := (exQ .normal law_BusyNumbers_s7) v71) ?_ ?_
      · replace h := h72
        refine W_region (by kernel_rfl) ?_
        refine WO_run (j := 3) (k := 3) (orcs := []) (kF := [1, 3, 41]) (kL := [1]) (fr' := [(1, .one (.ptr 1 0)), (3, aI r1.1), (41, aB (r1.2 == (0 : Int)))]) (L' := [(1, .one (.pair tI (.pair tI (.slice (.slice (.pair tI (.pair tI tI)))))) a0)]) (obs := []) rfl (by kernel_rfl) allP0 ?_
        rcases Bool.eq_false_or_eq_true (r1.2 == (0 : Int)) with h68 | h68
        · replace h := ofT h68 h
          refine WO_run (j := 5) (k := 2) (orcs := [(6, .known true), (8, .known true)]) (kF := [41, 42, 43]) (kL := [1]) (fr' := [(41, aB (r1.2 == (0 : Int))), (42, aI r1.1), (43, aD (.pair tI (.pair tI (.slice (.slice (.pair tI (.pair tI tI)))))) a0)]) (L' := [(1, .one (.pair tI (.pair tI (.slice (.slice (.pair tI (.pair tI tI)))))) a0)]) (obs := [((r1.2 == (0 : Int)) = true), ((r1.2 == (0 : Int)) = true)]) rfl (by kernel_rfl) (allP2 h68 (allP1 h68)) ?_
          obtain ⟨r69, h70, h⟩ := bind_of h
          refine WO_call0 (us := [none]) (d := 44) (p := ((r1.2 == (0 : Int)) = true)) (j := 6) rfl ⟨by kernel_rfl, by kernel_rfl, by kernel_rfl⟩ h68 (law_digits_ok h70) (by kernel_rfl) ?_
          refine WO_run (j := 9) (k := 3) (orcs := [(12, .known true), (15, .val (.dat .bool true))]) (kF := [2]) (kL := [1]) (fr' := [(2, aB (r1.1 == r69))]) (L' := [(1, .one (.pair tI (.pair tI (.slice (.slice (.pair tI (.pair tI tI)))))) a0)]) (obs := [((r1.2 == (0 : Int)) = true), ((r1.2 == (0 : Int)) = true)]) rfl (by kernel_rfl) (allP2 h68 (allP1 h68)) ?_
          obtain rfl := Option.some.inj h
          refine WO_fin [2] [] (fr' := [(2, aB (r1.1 == r69))]) (L' := []) (by kernel_rfl) (by kernel_rfl) ?_
          exact exQ_mk (by kernel_rfl) (by kernel_rfl)
        · replace h := ofF h68 h
          refine WO_run (j := 9) (k := 6) (orcs := [(6, .known false), (8, .known false), (10, .known false), (12, .known false), (15, .val (.dat .bool false))]) (kF := [2]) (kL := [1]) (fr' := [(2, aB false)]) (L' := [(1, .one (.pair tI (.pair tI (.slice (.slice (.pair tI (.pair tI tI)))))) a0)]) (obs := [((r1.2 == (0 : Int)) = false), ((r1.2 == (0 : Int)) = false), ((r1.2 == (0 : Int)) = false), ((r1.2 == (0 : Int)) = false), ((r1.2 == (0 : Int)) = false)]) rfl (by kernel_rfl) (allP2 h68 (allP2 h68 (allP2 h68 (allP2 h68 (allP1 h68))))) ?_
          obtain rfl := Option.some.inj h
          refine WO_fin [2] [] (fr' := [(2, aB false)]) (L' := []) (by kernel_rfl) (by kernel_rfl) ?_
          exact exQ_mk (by kernel_rfl) (by kernel_rfl)
      · intro e fr L hJ
        obtain ⟨rfl, rfl, rfl⟩ := hJ
        refine LT_keep [2] [] (fr' := [(2, aB v71)]) (L' := []) (by kernel_rfl) ?_
        refine seqQ_norm ?_
        obtain rfl := Option.some.inj h
        refine W_ret [2] [] (fr' := [(2, aB v71)]) (L' := []) (by kernel_rfl) (by kernel_rfl) ?_
        exact retQ_mk (by kernel_rfl) (by kernel_rfl) (by kernel_rfl)
end Go.Proofs.Ytpkbglckacoccaa.busyNumbers
