/- What the functions that TopFaces calls compute, as models, and that they compute it: written by a program of mine. -/
import Derived.Test.YtnblafiefaalgaaProg
import Derived.Test.YtnblafiefaalgaaSl6
set_option linter.all false
set_option maxRecDepth 100000
namespace Go.Proofs.Ytnblafiefaalgaa.topFaces
open Go Go.Sl
def tape_Check_1 (a0 : (List (Int × (Int × Int)))) (c0 : (Int × (Int × (List (List (Int × (Int × Int))))))) : Option Bool :=
some ((List.length a0 : Int) != c0.2.1)
theorem tape_Check_1_ok {a0 : (List (Int × (Int × Int)))} {c0 : (Int × (Int × (List (List (Int × (Int × Int))))))} {r : Bool} (h : tape_Check_1 a0 c0 = some r) : FnC Try.prog 101 [aD (.slice t3) a0, .one (.ptr 1000 0)] [(1000, .one tM c0)] (aB r) [(1000, .one tM c0)] := by
 refine fnC_of_W (B := bodyOf Try.f101) (n := 9) Try.func101 (by kernel_rfl) (by kernel_rfl) (by kernel_rfl) (by kernel_rfl) (by kernel_rfl) ?_
 intro K
 refine sr [(0, aD (.slice t3) a0), (1, .one (.ptr 1000 0))] [(1000, .one tM c0)] (by kernel_rfl) ?_
 refine srL [(3, aB ((List.length a0 : Int) != c0.2.1))] (by kernel_rfl) ?_
 obtain rfl := Option.some.inj h
 refine wtL [(3, aB ((List.length a0 : Int) != c0.2.1))] (by kernel_rfl) ?_
 exact retM (by kernel_rfl)

def slices_IndexFunc_LLapiRuleLapiRule_with_tape_Check_1_b1 (c0 : (Int × (Int × (List (List (Int × (Int × Int))))))) (i15 : Int) (v18 : (List (Int × (Int × Int)))) (x16 : Unit) : Option (Flow Unit (Esc Int Unit)) :=
(tape_Check_1 v18 c0).bind fun r21 =>
bif r21 then
(some (.done (.ret i15)))
else
(some (.next ()))
@[reducible] def slices_IndexFunc_LLapiRuleLapiRule_with_tape_Check_1_s2 (a0 : (List (List (Int × (Int × Int))))) (c0 : (Int × (Int × (List (List (Int × (Int × Int))))))) (v : Int × Unit) : Fr × LL := ([(0, aD (.slice (.slice t3)) a0), (1, .one (.fn 101 [(1000, 0)])), (7, aI (List.length a0 : Int)), (8, aI v.1)], [(1000, .one tM c0)])
@[reducible] def slices_IndexFunc_LLapiRuleLapiRule_with_tape_Check_1_s3 (c0 : (Int × (Int × (List (List (Int × (Int × Int))))))) (v : Int) : Fr × LL := ([(4, aI v)], [(1000, .one tM c0)])
@[reducible] def slices_IndexFunc_LLapiRuleLapiRule_with_tape_Check_1_s4 (c0 : (Int × (Int × (List (List (Int × (Int × Int))))))) (v : Unit) : Fr × LL := ([], [(1000, .one tM c0)])
def slices_IndexFunc_LLapiRuleLapiRule_with_tape_Check_1 (a0 : (List (List (Int × (Int × Int))))) (c0 : (Int × (Int × (List (List (Int × (Int × Int))))))) : Option Int :=
(forL (slices_IndexFunc_LLapiRuleLapiRule_with_tape_Check_1_b1 c0) (fun x16 => (.brk ())) a0 0 ()).bind fun v25 =>
match v25 with
| .ret v30 =>
(some v30)
| .brk v31 =>
(some (-1 : Int))
theorem slices_IndexFunc_LLapiRuleLapiRule_with_tape_Check_1_ok {a0 : (List (List (Int × (Int × Int))))} {c0 : (Int × (Int × (List (List (Int × (Int × Int))))))} {r : Int} (h : slices_IndexFunc_LLapiRuleLapiRule_with_tape_Check_1 a0 c0 = some r) : FnC Try.prog 107 [aD (.slice (.slice t3)) a0, .one (.fn 101 [(1000, 0)])] [(1000, .one tM c0)] (aI r) [(1000, .one tM c0)] := by
 refine fnC_of_W (B := bodyOf Try.f107) (n := 19) Try.func107 (by kernel_rfl) (by kernel_rfl) (by kernel_rfl) (by kernel_rfl) (by kernel_rfl) ?_
 intro K
 refine sr [(0, aD (.slice (.slice t3)) a0), (1, .one (.fn 101 [(1000, 0)]))] [(1000, .one tM c0)] (by kernel_rfl) ?_
 refine W_seq (by kernel_rfl) ?_
 refine srL [(0, aD (.slice (.slice t3)) a0), (1, .one (.fn 101 [(1000, 0)])), (7, aI (List.length a0 : Int)), (8, aI (0 : Int))] (by kernel_rfl) ?_
 refine W_block (id := 0) (by kernel_rfl) ?_
 obtain ⟨v25, h26, h⟩ := bind_of h
 refine W_len (t := 0) (u := (.slice t3)) (xs := a0) (by kernel_rfl) (fun h29 => ?_)
 obtain ⟨h27, h28⟩ := forL_iter h29 h26
 refine W_weaken [0, 1, 7, 8] [1000] (fr' := ((slices_IndexFunc_LLapiRuleLapiRule_with_tape_Check_1_s2 a0 c0) ((0 : Int), ())).1) (L' := ((slices_IndexFunc_LLapiRuleLapiRule_with_tape_Check_1_s2 a0 c0) ((0 : Int), ())).2) (by kernel_rfl) ?_
 refine W_cutK (W_loop (S := (slices_IndexFunc_LLapiRuleLapiRule_with_tape_Check_1_s2 a0 c0)) (J := (escQ (exQ .ret (slices_IndexFunc_LLapiRuleLapiRule_with_tape_Check_1_s3 c0)) (exQ (.exit 0) (slices_IndexFunc_LLapiRuleLapiRule_with_tape_Check_1_s4 c0)))) (by kernel_rfl) ?_ h27 _ v25 h28) ?_
 ·rintro ⟨i15, x16⟩ s h
  refine sr [(0, aD (.slice (.slice t3)) a0), (1, .one (.fn 101 [(1000, 0)])), (7, aI (List.length a0 : Int)), (8, aI i15), (9, aB (decide (i15 < (List.length a0 : Int))))] [(1000, .one tM c0)] (by kernel_rfl) ?_
  refine W_seq (by kernel_rfl) ?_
  refine W_cond (o := .tmp 9) (b := decide (i15 < (List.length a0 : Int))) (by kernel_rfl) (by kernel_rfl) (fun h20 => ?_) (fun h20 => ?_)
  ·replace h := stepL_true h20 h
   obtain ⟨v18, _, h19, h, rfl⟩ := h
   refine wkL [(0, aD (.slice (.slice t3)) a0), (1, .one (.fn 101 [(1000, 0)])), (7, aI (List.length a0 : Int)), (8, aI i15)] (by kernel_rfl) ?_
   refine seqQ_norm ?_
   refine W_seq (by kernel_rfl) ?_
   refine W_block (id := 1) (by kernel_rfl) ?_
   refine srL [(0, aD (.slice (.slice t3)) a0), (1, .one (.fn 101 [(1000, 0)])), (5, aI i15), (7, aI (List.length a0 : Int)), (8, aI i15)] (by kernel_rfl) ?_
   refine W_seq (by kernel_rfl) ?_
   refine W_region (by kernel_rfl) ?_
   refine woo 5 [(7, .val (.dat (.slice t3) v18))] [(0, aD (.slice (.slice t3)) a0), (1, .one (.fn 101 [(1000, 0)])), (5, aI i15), (7, aI (List.length a0 : Int)), (8, aI i15), (11, .one (.fn 101 [(1000, 0)])), (15, aD (.slice t3) v18)] [(1000, .one tM c0)] [Idx a0 i15 v18] (by kernel_rfl) (allP1 (Idx.of h19)) ?_
   obtain ⟨r21, h22, h⟩ := bind_of h
   refine WO_lend [(1000, 1000)] (us := [none, none]) (d := 16) (p := True) (j := 6) rfl ⟨by kernel_rfl, by kernel_rfl, by kernel_rfl⟩ trivial (tape_Check_1_ok h22) (by kernel_rfl) (by kernel_rfl) ?_
   refine wf [(0, aD (.slice (.slice t3)) a0), (1, .one (.fn 101 [(1000, 0)])), (5, aI i15), (7, aI (List.length a0 : Int)), (8, aI i15), (16, aB r21)] [(1000, .one tM c0)] (by kernel_rfl) ?_
   refine seqQ_norm ?_
   refine W_cond (o := .tmp 16) (b := r21) (by kernel_rfl) (by kernel_rfl) (fun h23 => ?_) (fun h23 => ?_)
   ·replace h := ofT h23 h
    refine srL [(4, aI i15)] (by kernel_rfl) ?_
    obtain rfl := Option.some.inj h
    refine wtL [(4, aI i15)] (by kernel_rfl) ?_
    refine blockQ_ret ?_
    refine seqQ_ret ?_
    refine round_ret ?_
    refine escQ_ret ?_
    exact exM (by kernel_rfl)
   ·replace h := ofF h23 h
    refine wkL [(0, aD (.slice (.slice t3)) a0), (1, .one (.fn 101 [(1000, 0)])), (7, aI (List.length a0 : Int)), (8, aI i15)] (by kernel_rfl) ?_
    refine blockQ_norm ?_
    refine seqQ_norm ?_
    obtain rfl := Option.some.inj h
    refine swL [(0, aD (.slice (.slice t3)) a0), (1, .one (.fn 101 [(1000, 0)])), (7, aI (List.length a0 : Int)), (8, aI (w64 (i15 + (1 : Int))))] (by kernel_rfl) ?_
    exact round_next' (by kernel_rfl) (by kernel_rfl)
  ·obtain rfl := stepL_false h20 h
   refine wxL 0 [] (by kernel_rfl) ?_
   refine seqQ_exit ?_
   refine round_exit ?_
   refine escQ_brk ?_
   exact exM (by kernel_rfl)
 ·intro e fr L hJ
  rcases v25 with v30 | v31
  ·obtain ⟨rfl, rfl, rfl⟩ := hJ
   obtain rfl := Option.some.inj h
   refine ltk [(4, aI v30)] [(1000, .one tM c0)] (by kernel_rfl) ?_
   refine blockQ_ret ?_
   refine seqQ_ret ?_
   exact retM (by kernel_rfl)
  ·obtain ⟨rfl, rfl, rfl⟩ := hJ
   refine ltk [] [(1000, .one tM c0)] (by kernel_rfl) ?_
   refine blockQ_hit ?_
   refine seqQ_norm ?_
   refine sr [(4, aI (-1 : Int))] [(1000, .one tM c0)] (by kernel_rfl) ?_
   obtain rfl := Option.some.inj h
   refine wtL [(4, aI (-1 : Int))] (by kernel_rfl) ?_
   exact retM (by kernel_rfl)

def slices_ContainsFunc_LLapiRuleLapiRule_with_tape_Check_1 (a0 : (List (List (Int × (Int × Int))))) (c0 : (Int × (Int × (List (List (Int × (Int × Int))))))) : Option Bool :=
(slices_IndexFunc_LLapiRuleLapiRule_with_tape_Check_1 a0 c0).bind fun r1 =>
some (decide (r1 ≥ (0 : Int)))
theorem slices_ContainsFunc_LLapiRuleLapiRule_with_tape_Check_1_ok {a0 : (List (List (Int × (Int × Int))))} {c0 : (Int × (Int × (List (List (Int × (Int × Int))))))} {r : Bool} (h : slices_ContainsFunc_LLapiRuleLapiRule_with_tape_Check_1 a0 c0 = some r) : FnC Try.prog 100 [aD (.slice (.slice t3)) a0, .one (.fn 101 [(1000, 0)])] [(1000, .one tM c0)] (aB r) [(1000, .one tM c0)] := by
 refine fnC_of_W (B := bodyOf Try.f100) (n := 9) Try.func100 (by kernel_rfl) (by kernel_rfl) (by kernel_rfl) (by kernel_rfl) (by kernel_rfl) ?_
 intro K
 refine sr [(0, aD (.slice (.slice t3)) a0), (1, .one (.fn 101 [(1000, 0)]))] [(1000, .one tM c0)] (by kernel_rfl) ?_
 refine W_seq (by kernel_rfl) ?_
 refine W_region (by kernel_rfl) ?_
 refine woL 2 [(5, aD (.slice (.slice t3)) a0), (6, .one (.fn 101 [(1000, 0)]))] (by kernel_rfl) ?_
 obtain ⟨r1, h2, h⟩ := bind_of h
 refine WO_lend [(1000, 1000)] (us := [none, none]) (d := 7) (p := True) (j := 3) rfl ⟨by kernel_rfl, by kernel_rfl, by kernel_rfl⟩ trivial (slices_IndexFunc_LLapiRuleLapiRule_with_tape_Check_1_ok h2) (by kernel_rfl) (by kernel_rfl) ?_
 refine wo 5 [(4, aB (decide (r1 ≥ (0 : Int))))] [(1000, .one tM c0)] (by kernel_rfl) ?_
 refine wfL [(4, aB (decide (r1 ≥ (0 : Int))))] (by kernel_rfl) ?_
 refine seqQ_norm ?_
 obtain rfl := Option.some.inj h
 refine wtL [(4, aB (decide (r1 ≥ (0 : Int))))] (by kernel_rfl) ?_
 exact retM (by kernel_rfl)

def tape_Check_g1 (a0 : (Int × (Int × (List (List (Int × (Int × Int))))))) : Option Bool :=
bif decide (a0.1 < (1 : Int)) then
(some true)
else
(bif decide (a0.1 > (5 : Int)) then
(some true)
else
(bif decide (a0.2.1 < (2 : Int)) then
(some true)
else
(some (decide (a0.2.1 > (4 : Int))))))
@[reducible] def tape_Check_s33 (a0 : (Int × (Int × (List (List (Int × (Int × Int))))))) (i185 : Int) (v188 : (List (Int × (Int × Int)))) (i235 : Int) (v : Bool) : Fr × LL := ([(1, .one (.ptr 1 0)), (38, aD (.slice (.slice t3)) a0.2.2), (39, aI (List.length a0.2.2 : Int)), (40, aI i185), (44, aD (.slice t3) v188), (45, aI (List.length v188 : Int)), (46, aI i235), (70, aB v)], [(1, .one tM a0)])
@[reducible] def tape_Check_s34 (a0 : (Int × (Int × (List (List (Int × (Int × Int))))))) (i185 : Int) (v188 : (List (Int × (Int × Int)))) (i235 : Int) (v238 : (Int × (Int × Int))) (v : Bool) : Fr × LL := ([(1, .one (.ptr 1 0)), (6, .one (.ptr 6 0)), (38, aD (.slice (.slice t3)) a0.2.2), (39, aI (List.length a0.2.2 : Int)), (40, aI i185), (44, aD (.slice t3) v188), (45, aI (List.length v188 : Int)), (46, aI i235), (61, aB v)], [(1, .one tM a0), (6, .one t3 v238)])
@[reducible] def tape_Check_s35 (a0 : (Int × (Int × (List (List (Int × (Int × Int))))))) (i185 : Int) (v188 : (List (Int × (Int × Int)))) (i235 : Int) (v238 : (Int × (Int × Int))) (v : Bool) : Fr × LL := ([(1, .one (.ptr 1 0)), (6, .one (.ptr 6 0)), (38, aD (.slice (.slice t3)) a0.2.2), (39, aI (List.length a0.2.2 : Int)), (40, aI i185), (44, aD (.slice t3) v188), (45, aI (List.length v188 : Int)), (46, aI i235), (50, aB v)], [(1, .one tM a0), (6, .one t3 v238)])
def tape_Check_b36 (a0 : (Int × (Int × (List (List (Int × (Int × Int))))))) (i235 : Int) (v238 : (Int × (Int × Int))) (x236 : Unit) : Option (Flow Unit (Esc Int Unit)) :=
(bif decide (v238.1 < (0 : Int)) then
(some true)
else
(some (decide (v238.1 ≥ a0.2.1)))).bind fun v244 =>
bif v244 then
(some (.done (.ret (2 : Int))))
else
((bif decide (v238.2.1 < (-1 : Int)) then
(some true)
else
(some (decide (v238.2.1 > (1 : Int))))).bind fun v250 =>
bif v250 then
(some (.done (.ret (4 : Int))))
else
((bif decide (v238.2.2 < (0 : Int)) then
(some true)
else
(some (decide (v238.2.2 > a0.1)))).bind fun v256 =>
bif v256 then
(some (.done (.ret (2 : Int))))
else
(some (.next ()))))
@[reducible] def tape_Check_s37 (a0 : (Int × (Int × (List (List (Int × (Int × Int))))))) (i185 : Int) (v188 : (List (Int × (Int × Int)))) (v : Int × Unit) : Fr × LL := ([(1, .one (.ptr 1 0)), (38, aD (.slice (.slice t3)) a0.2.2), (39, aI (List.length a0.2.2 : Int)), (40, aI i185), (44, aD (.slice t3) v188), (45, aI (List.length v188 : Int)), (46, aI v.1)], [(1, .one tM a0)])
@[reducible] def tape_Check_s38 (v : Int) : Fr × LL := ([(2, aI v)], [])
@[reducible] def tape_Check_s39 (a0 : (Int × (Int × (List (List (Int × (Int × Int))))))) (i185 : Int) (v : Unit) : Fr × LL := ([(1, .one (.ptr 1 0)), (38, aD (.slice (.slice t3)) a0.2.2), (39, aI (List.length a0.2.2 : Int)), (40, aI i185)], [(1, .one tM a0)])
def tape_Check_b40 (a0 : (Int × (Int × (List (List (Int × (Int × Int))))))) (i185 : Int) (v188 : (List (Int × (Int × Int)))) (x186 : Unit) : Option (Flow Unit (Esc Int Unit)) :=
(forL (tape_Check_b36 a0) (fun x236 => (.brk ())) v188 0 ()).bind fun v260 =>
match v260 with
| .ret v265 =>
(some (.done (.ret v265)))
| .brk v266 =>
(some (.next ()))
@[reducible] def tape_Check_s41 (a0 : (Int × (Int × (List (List (Int × (Int × Int))))))) (v : Int × Unit) : Fr × LL := ([(1, .one (.ptr 1 0)), (38, aD (.slice (.slice t3)) a0.2.2), (39, aI (List.length a0.2.2 : Int)), (40, aI v.1)], [(1, .one tM a0)])
@[reducible] def tape_Check_s42 (v : Int) : Fr × LL := ([(2, aI v)], [])
@[reducible] def tape_Check_s43 (v : Unit) : Fr × LL := ([], [])
@[reducible] def tape_Check_s44 (a0 : (Int × (Int × (List (List (Int × (Int × Int))))))) (v : Bool) : Fr × LL := ([(1, .one (.ptr 1 0)), (36, aB v)], [(1, .one tM a0)])
@[reducible] def tape_Check_s45 (a0 : (Int × (Int × (List (List (Int × (Int × Int))))))) (v : Bool) : Fr × LL := ([(1, .one (.ptr 1 0)), (24, aB v)], [(1, .one tM a0)])
def tape_Check (a0 : (Int × (Int × (List (List (Int × (Int × Int))))))) : Option Int :=
(tape_Check_g1 a0).bind fun v10 =>
bif v10 then
(some (1 : Int))
else
((bif (List.length a0.2.2 : Int) != a0.1 then
(some true)
else
((slices_ContainsFunc_LLapiRuleLapiRule_with_tape_Check_1 a0.2.2 a0).bind fun r20 =>
some r20)).bind fun v22 =>
bif v22 then
(some (3 : Int))
else
((forL (tape_Check_b40 a0) (fun x186 => (.brk ())) a0.2.2 0 ()).bind fun v268 =>
match v268 with
| .ret v273 =>
(some v273)
| .brk v274 =>
(some (0 : Int))))
theorem tape_Check_ok {a0 : (Int × (Int × (List (List (Int × (Int × Int))))))} {r : Int} (h : tape_Check a0 = some r) : FnC Try.prog 89 [aD tM a0] [] (aI r) [] := by
 refine fnC_of_W (B := bodyOf Try.f89) (n := 83) Try.func89 (by kernel_rfl) (by kernel_rfl) (by kernel_rfl) (by kernel_rfl) (by kernel_rfl) ?_
 intro K
 refine sr [(1, .one (.ptr 1 0))] [(1, .one tM a0)] (by kernel_rfl) ?_
 refine W_seq (by kernel_rfl) ?_
 refine W_seq (by kernel_rfl) ?_
 obtain ⟨v10, h11, h⟩ := bind_of h
 refine W_cutK (Q' := (exQ .normal (tape_Check_s45 a0)) v10) ?_ ?_
 ·replace h := h11
  refine W_region (by kernel_rfl) ?_
  refine wo 4 [(1, .one (.ptr 1 0)), (10, aB (decide (a0.1 < (1 : Int))))] [(1, .one tM a0)] (by kernel_rfl) ?_
  rcases Bool.eq_false_or_eq_true (decide (a0.1 < (1 : Int))) with h7 | h7
  ·replace h := ofT h7 h
   refine woo 18 [(8, .known true), (10, .known true), (12, .known true), (15, .val (.dat .bool true)), (18, .known true), (20, .known true), (22, .known true), (25, .val (.dat .bool true)), (28, .known true), (30, .known true), (32, .known true), (35, .val (.dat .bool true))] [(1, .one (.ptr 1 0)), (24, aB true)] [(1, .one tM a0)] [((decide (a0.1 < (1 : Int))) = true), ((decide (a0.1 < (1 : Int))) = true), ((decide (a0.1 < (1 : Int))) = true), ((decide (a0.1 < (1 : Int))) = true), (true = true), (true = true), (true = true), (true = true), (true = true), (true = true), (true = true), (true = true)] (by kernel_rfl) (allP2 h7 (allP2 h7 (allP2 h7 (allP2 h7 (allP2 rfl (allP2 rfl (allP2 rfl (allP2 rfl (allP2 rfl (allP2 rfl (allP2 rfl (allP1 rfl)))))))))))) ?_
   obtain rfl := Option.some.inj h
   refine wfL [(1, .one (.ptr 1 0)), (24, aB true)] (by kernel_rfl) ?_
   exact exM (by kernel_rfl)
  ·replace h := ofF h7 h
   refine woo 9 [(8, .known false), (10, .known false), (12, .known false), (15, .val (.dat .bool false))] [(1, .one (.ptr 1 0)), (15, aB (decide (a0.1 > (5 : Int))))] [(1, .one tM a0)] [((decide (a0.1 < (1 : Int))) = false), ((decide (a0.1 < (1 : Int))) = false), ((decide (a0.1 < (1 : Int))) = false), ((decide (a0.1 < (1 : Int))) = false)] (by kernel_rfl) (allP2 h7 (allP2 h7 (allP2 h7 (allP1 h7)))) ?_
   rcases Bool.eq_false_or_eq_true (decide (a0.1 > (5 : Int))) with h8 | h8
   ·replace h := ofT h8 h
    refine woo 18 [(18, .known true), (20, .known true), (22, .known true), (25, .val (.dat .bool true)), (28, .known true), (30, .known true), (32, .known true), (35, .val (.dat .bool true))] [(1, .one (.ptr 1 0)), (24, aB true)] [(1, .one tM a0)] [((decide (a0.1 > (5 : Int))) = true), ((decide (a0.1 > (5 : Int))) = true), ((decide (a0.1 > (5 : Int))) = true), ((decide (a0.1 > (5 : Int))) = true), (true = true), (true = true), (true = true), (true = true)] (by kernel_rfl) (allP2 h8 (allP2 h8 (allP2 h8 (allP2 h8 (allP2 rfl (allP2 rfl (allP2 rfl (allP1 rfl)))))))) ?_
    obtain rfl := Option.some.inj h
    refine wfL [(1, .one (.ptr 1 0)), (24, aB true)] (by kernel_rfl) ?_
    exact exM (by kernel_rfl)
   ·replace h := ofF h8 h
    refine woo 14 [(18, .known false), (20, .known false), (22, .known false), (25, .val (.dat .bool false))] [(1, .one (.ptr 1 0)), (20, aB (decide (a0.2.1 < (2 : Int))))] [(1, .one tM a0)] [((decide (a0.1 > (5 : Int))) = false), ((decide (a0.1 > (5 : Int))) = false), ((decide (a0.1 > (5 : Int))) = false), ((decide (a0.1 > (5 : Int))) = false)] (by kernel_rfl) (allP2 h8 (allP2 h8 (allP2 h8 (allP1 h8)))) ?_
    rcases Bool.eq_false_or_eq_true (decide (a0.2.1 < (2 : Int))) with h9 | h9
    ·replace h := ofT h9 h
     refine woo 18 [(28, .known true), (30, .known true), (32, .known true), (35, .val (.dat .bool true))] [(1, .one (.ptr 1 0)), (24, aB true)] [(1, .one tM a0)] [((decide (a0.2.1 < (2 : Int))) = true), ((decide (a0.2.1 < (2 : Int))) = true), ((decide (a0.2.1 < (2 : Int))) = true), ((decide (a0.2.1 < (2 : Int))) = true)] (by kernel_rfl) (allP2 h9 (allP2 h9 (allP2 h9 (allP1 h9)))) ?_
     obtain rfl := Option.some.inj h
     refine wfL [(1, .one (.ptr 1 0)), (24, aB true)] (by kernel_rfl) ?_
     exact exM (by kernel_rfl)
    ·replace h := ofF h9 h
     refine woo 18 [(28, .known false), (30, .known false), (32, .known false), (35, .val (.dat .bool false))] [(1, .one (.ptr 1 0)), (24, aB (decide (a0.2.1 > (4 : Int))))] [(1, .one tM a0)] [((decide (a0.2.1 < (2 : Int))) = false), ((decide (a0.2.1 < (2 : Int))) = false), ((decide (a0.2.1 < (2 : Int))) = false), ((decide (a0.2.1 < (2 : Int))) = false)] (by kernel_rfl) (allP2 h9 (allP2 h9 (allP2 h9 (allP1 h9)))) ?_
     obtain rfl := Option.some.inj h
     refine wfL [(1, .one (.ptr 1 0)), (24, aB (decide (a0.2.1 > (4 : Int))))] (by kernel_rfl) ?_
     exact exM (by kernel_rfl)
 ·intro e fr L hJ
  obtain ⟨rfl, rfl, rfl⟩ := hJ
  refine ltk [(1, .one (.ptr 1 0)), (24, aB v10)] [(1, .one tM a0)] (by kernel_rfl) ?_
  refine seqQ_norm ?_
  refine W_cond (o := .tmp 24) (b := v10) (by kernel_rfl) (by kernel_rfl) (fun h12 => ?_) (fun h12 => ?_)
  ·replace h := ofT h12 h
   refine sr [(2, aI (1 : Int))] [] (by kernel_rfl) ?_
   obtain rfl := Option.some.inj h
   refine wtL [(2, aI (1 : Int))] (by kernel_rfl) ?_
   refine seqQ_ret ?_
   exact retM (by kernel_rfl)
  ·replace h := ofF h12 h
   refine wkL [(1, .one (.ptr 1 0))] (by kernel_rfl) ?_
   refine seqQ_norm ?_
   refine W_seq (by kernel_rfl) ?_
   refine W_seq (by kernel_rfl) ?_
   obtain ⟨v22, h23, h⟩ := bind_of h
   refine W_cutK (Q' := (exQ .normal (tape_Check_s44 a0)) v22) ?_ ?_
   ·replace h := h23
    refine W_region (by kernel_rfl) ?_
    refine wo 7 [(1, .one (.ptr 1 0)), (31, aB ((List.length a0.2.2 : Int) != a0.1))] [(1, .one tM a0)] (by kernel_rfl) ?_
    rcases Bool.eq_false_or_eq_true ((List.length a0.2.2 : Int) != a0.1) with h19 | h19
    ·replace h := ofT h19 h
     refine woo 12 [(14, .known true), (16, .known true), (18, .known true), (20, .known true), (23, .val (.dat .bool true))] [(1, .one (.ptr 1 0)), (36, aB true)] [(1, .one tM a0)] [(((List.length a0.2.2 : Int) != a0.1) = true), (((List.length a0.2.2 : Int) != a0.1) = true), (((List.length a0.2.2 : Int) != a0.1) = true), (((List.length a0.2.2 : Int) != a0.1) = true), (((List.length a0.2.2 : Int) != a0.1) = true)] (by kernel_rfl) (allP2 h19 (allP2 h19 (allP2 h19 (allP2 h19 (allP1 h19))))) ?_
     obtain rfl := Option.some.inj h
     refine wfL [(1, .one (.ptr 1 0)), (36, aB true)] (by kernel_rfl) ?_
     exact exM (by kernel_rfl)
    ·replace h := ofF h19 h
     refine woo 10 [(14, .known false), (16, .known false), (18, .known false)] [(1, .one (.ptr 1 0)), (31, aB ((List.length a0.2.2 : Int) != a0.1)), (33, aD (.slice (.slice t3)) a0.2.2), (34, .one (.fn 101 [(1, 0)]))] [(1, .one tM a0)] [(((List.length a0.2.2 : Int) != a0.1) = false), (((List.length a0.2.2 : Int) != a0.1) = false), (((List.length a0.2.2 : Int) != a0.1) = false)] (by kernel_rfl) (allP2 h19 (allP2 h19 (allP1 h19))) ?_
     obtain ⟨r20, h21, h⟩ := bind_of h
     refine WO_lend [(1000, 1)] (us := [none, none]) (d := 35) (p := (((List.length a0.2.2 : Int) != a0.1) = false)) (j := 11) rfl ⟨by kernel_rfl, by kernel_rfl, by kernel_rfl⟩ h19 (slices_ContainsFunc_LLapiRuleLapiRule_with_tape_Check_1_ok h21) (by kernel_rfl) (by kernel_rfl) ?_
     refine woo 12 [(23, .val (.dat .bool false))] [(1, .one (.ptr 1 0)), (36, aB r20)] [(1, .one tM a0)] [(((List.length a0.2.2 : Int) != a0.1) = false)] (by kernel_rfl) (allP1 h19) ?_
     obtain rfl := Option.some.inj h
     refine wfL [(1, .one (.ptr 1 0)), (36, aB r20)] (by kernel_rfl) ?_
     exact exM (by kernel_rfl)
   ·intro e fr L hJ
    obtain ⟨rfl, rfl, rfl⟩ := hJ
    refine ltk [(1, .one (.ptr 1 0)), (36, aB v22)] [(1, .one tM a0)] (by kernel_rfl) ?_
    refine seqQ_norm ?_
    refine W_cond (o := .tmp 36) (b := v22) (by kernel_rfl) (by kernel_rfl) (fun h24 => ?_) (fun h24 => ?_)
    ·replace h := ofT h24 h
     refine sr [(2, aI (3 : Int))] [] (by kernel_rfl) ?_
     obtain rfl := Option.some.inj h
     refine wtL [(2, aI (3 : Int))] (by kernel_rfl) ?_
     refine seqQ_ret ?_
     exact retM (by kernel_rfl)
    ·replace h := ofF h24 h
     refine wkL [(1, .one (.ptr 1 0))] (by kernel_rfl) ?_
     refine seqQ_norm ?_
     refine W_seq (by kernel_rfl) ?_
     refine srL [(1, .one (.ptr 1 0)), (38, aD (.slice (.slice t3)) a0.2.2), (39, aI (List.length a0.2.2 : Int)), (40, aI (0 : Int))] (by kernel_rfl) ?_
     refine W_block (id := 0) (by kernel_rfl) ?_
     obtain ⟨v268, h269, h⟩ := bind_of h
     refine W_len (t := 38) (u := (.slice t3)) (xs := a0.2.2) (by kernel_rfl) (fun h272 => ?_)
     obtain ⟨h270, h271⟩ := forL_iter h272 h269
     refine W_weaken [1, 38, 39, 40] [1] (fr' := ((tape_Check_s41 a0) ((0 : Int), ())).1) (L' := ((tape_Check_s41 a0) ((0 : Int), ())).2) (by kernel_rfl) ?_
     refine W_cutK (W_loop (S := (tape_Check_s41 a0)) (J := (escQ (exQ .ret tape_Check_s42) (exQ (.exit 0) tape_Check_s43))) (by kernel_rfl) ?_ h270 _ v268 h271) ?_
     ·rintro ⟨i185, x186⟩ s h
      refine sr [(1, .one (.ptr 1 0)), (38, aD (.slice (.slice t3)) a0.2.2), (39, aI (List.length a0.2.2 : Int)), (40, aI i185), (41, aB (decide (i185 < (List.length a0.2.2 : Int))))] [(1, .one tM a0)] (by kernel_rfl) ?_
      refine W_seq (by kernel_rfl) ?_
      refine W_cond (o := .tmp 41) (b := decide (i185 < (List.length a0.2.2 : Int))) (by kernel_rfl) (by kernel_rfl) (fun h190 => ?_) (fun h190 => ?_)
      ·replace h := stepL_true h190 h
       obtain ⟨v188, _, h189, h, rfl⟩ := h
       refine wkL [(1, .one (.ptr 1 0)), (38, aD (.slice (.slice t3)) a0.2.2), (39, aI (List.length a0.2.2 : Int)), (40, aI i185)] (by kernel_rfl) ?_
       refine seqQ_norm ?_
       refine W_seq (by kernel_rfl) ?_
       refine W_block (id := 1) (by kernel_rfl) ?_
       refine sro [(1, .val (.dat (.slice t3) v188))] [(1, .one (.ptr 1 0)), (4, aD (.slice t3) v188), (38, aD (.slice (.slice t3)) a0.2.2), (39, aI (List.length a0.2.2 : Int)), (40, aI i185)] [(1, .one tM a0)] [Idx a0.2.2 i185 v188] (by kernel_rfl) (allP1 (Idx.of h189)) ?_
       refine srL [(1, .one (.ptr 1 0)), (38, aD (.slice (.slice t3)) a0.2.2), (39, aI (List.length a0.2.2 : Int)), (40, aI i185), (44, aD (.slice t3) v188), (45, aI (List.length v188 : Int)), (46, aI (0 : Int))] (by kernel_rfl) ?_
       refine W_block (id := 2) (by kernel_rfl) ?_
       obtain ⟨v260, h261, h⟩ := bind_of h
       refine W_len (t := 44) (u := t3) (xs := v188) (by kernel_rfl) (fun h264 => ?_)
       obtain ⟨h262, h263⟩ := forL_iter h264 h261
       refine W_weaken [1, 38, 39, 40, 44, 45, 46] [1] (fr' := ((tape_Check_s37 a0 i185 v188) ((0 : Int), ())).1) (L' := ((tape_Check_s37 a0 i185 v188) ((0 : Int), ())).2) (by kernel_rfl) ?_
       refine W_cutK (W_loop (S := (tape_Check_s37 a0 i185 v188)) (J := (escQ (exQ .ret tape_Check_s38) (exQ (.exit 2) (tape_Check_s39 a0 i185)))) (by kernel_rfl) ?_ h262 _ v260 h263) ?_
       ·rintro ⟨i235, x236⟩ s h
        refine sr [(1, .one (.ptr 1 0)), (38, aD (.slice (.slice t3)) a0.2.2), (39, aI (List.length a0.2.2 : Int)), (40, aI i185), (44, aD (.slice t3) v188), (45, aI (List.length v188 : Int)), (46, aI i235), (47, aB (decide (i235 < (List.length v188 : Int))))] [(1, .one tM a0)] (by kernel_rfl) ?_
        refine W_seq (by kernel_rfl) ?_
        refine W_cond (o := .tmp 47) (b := decide (i235 < (List.length v188 : Int))) (by kernel_rfl) (by kernel_rfl) (fun h240 => ?_) (fun h240 => ?_)
        ·replace h := stepL_true h240 h
         obtain ⟨v238, _, h239, h, rfl⟩ := h
         refine wkL [(1, .one (.ptr 1 0)), (38, aD (.slice (.slice t3)) a0.2.2), (39, aI (List.length a0.2.2 : Int)), (40, aI i185), (44, aD (.slice t3) v188), (45, aI (List.length v188 : Int)), (46, aI i235)] (by kernel_rfl) ?_
         refine seqQ_norm ?_
         refine W_seq (by kernel_rfl) ?_
         refine W_block (id := 3) (by kernel_rfl) ?_
         refine sro [(1, .val (.dat t3 v238)), (5, .typed)] [(1, .one (.ptr 1 0)), (6, .one (.ptr 6 0)), (38, aD (.slice (.slice t3)) a0.2.2), (39, aI (List.length a0.2.2 : Int)), (40, aI i185), (44, aD (.slice t3) v188), (45, aI (List.length v188 : Int)), (46, aI i235)] [(1, .one tM a0), (6, .one t3 v238)] [Idx v188 i235 v238, True] (by kernel_rfl) (allP2 (Idx.of h239) (allP1 trivial)) ?_
         refine W_block (id := 4) (by kernel_rfl) ?_
         refine W_seq (by kernel_rfl) ?_
         obtain ⟨v244, h245, h⟩ := bind_of h
         refine W_cutK (Q' := (exQ .normal (tape_Check_s35 a0 i185 v188 i235 v238)) v244) ?_ ?_
         ·replace h := h245
          refine W_region (by kernel_rfl) ?_
          refine wo 4 [(1, .one (.ptr 1 0)), (6, .one (.ptr 6 0)), (38, aD (.slice (.slice t3)) a0.2.2), (39, aI (List.length a0.2.2 : Int)), (40, aI i185), (44, aD (.slice t3) v188), (45, aI (List.length v188 : Int)), (46, aI i235), (54, aB (decide (v238.1 < (0 : Int))))] [(1, .one tM a0), (6, .one t3 v238)] (by kernel_rfl) ?_
          rcases Bool.eq_false_or_eq_true (decide (v238.1 < (0 : Int))) with h243 | h243
          ·replace h := ofT h243 h
           refine woo 11 [(8, .known true), (10, .known true), (12, .known true), (14, .known true), (16, .known true), (19, .val (.dat .bool true))] [(1, .one (.ptr 1 0)), (6, .one (.ptr 6 0)), (38, aD (.slice (.slice t3)) a0.2.2), (39, aI (List.length a0.2.2 : Int)), (40, aI i185), (44, aD (.slice t3) v188), (45, aI (List.length v188 : Int)), (46, aI i235), (50, aB true)] [(1, .one tM a0), (6, .one t3 v238)] [((decide (v238.1 < (0 : Int))) = true), ((decide (v238.1 < (0 : Int))) = true), ((decide (v238.1 < (0 : Int))) = true), ((decide (v238.1 < (0 : Int))) = true), ((decide (v238.1 < (0 : Int))) = true), ((decide (v238.1 < (0 : Int))) = true)] (by kernel_rfl) (allP2 h243 (allP2 h243 (allP2 h243 (allP2 h243 (allP2 h243 (allP1 h243)))))) ?_
           obtain rfl := Option.some.inj h
           refine wfL [(1, .one (.ptr 1 0)), (6, .one (.ptr 6 0)), (38, aD (.slice (.slice t3)) a0.2.2), (39, aI (List.length a0.2.2 : Int)), (40, aI i185), (44, aD (.slice t3) v188), (45, aI (List.length v188 : Int)), (46, aI i235), (50, aB true)] (by kernel_rfl) ?_
           exact exM (by kernel_rfl)
          ·replace h := ofF h243 h
           refine woo 11 [(8, .known false), (10, .known false), (12, .known false), (14, .known false), (16, .known false), (19, .val (.dat .bool false))] [(1, .one (.ptr 1 0)), (6, .one (.ptr 6 0)), (38, aD (.slice (.slice t3)) a0.2.2), (39, aI (List.length a0.2.2 : Int)), (40, aI i185), (44, aD (.slice t3) v188), (45, aI (List.length v188 : Int)), (46, aI i235), (50, aB (decide (v238.1 ≥ a0.2.1)))] [(1, .one tM a0), (6, .one t3 v238)] [((decide (v238.1 < (0 : Int))) = false), ((decide (v238.1 < (0 : Int))) = false), ((decide (v238.1 < (0 : Int))) = false), ((decide (v238.1 < (0 : Int))) = false), ((decide (v238.1 < (0 : Int))) = false), ((decide (v238.1 < (0 : Int))) = false)] (by kernel_rfl) (allP2 h243 (allP2 h243 (allP2 h243 (allP2 h243 (allP2 h243 (allP1 h243)))))) ?_
           obtain rfl := Option.some.inj h
           refine wfL [(1, .one (.ptr 1 0)), (6, .one (.ptr 6 0)), (38, aD (.slice (.slice t3)) a0.2.2), (39, aI (List.length a0.2.2 : Int)), (40, aI i185), (44, aD (.slice t3) v188), (45, aI (List.length v188 : Int)), (46, aI i235), (50, aB (decide (v238.1 ≥ a0.2.1)))] (by kernel_rfl) ?_
           exact exM (by kernel_rfl)
         ·intro e fr L hJ
          obtain ⟨rfl, rfl, rfl⟩ := hJ
          refine ltk [(1, .one (.ptr 1 0)), (6, .one (.ptr 6 0)), (38, aD (.slice (.slice t3)) a0.2.2), (39, aI (List.length a0.2.2 : Int)), (40, aI i185), (44, aD (.slice t3) v188), (45, aI (List.length v188 : Int)), (46, aI i235), (50, aB v244)] [(1, .one tM a0), (6, .one t3 v238)] (by kernel_rfl) ?_
          refine seqQ_norm ?_
          refine W_cond (o := .tmp 50) (b := v244) (by kernel_rfl) (by kernel_rfl) (fun h246 => ?_) (fun h246 => ?_)
          ·replace h := ofT h246 h
           refine sr [(2, aI (2 : Int))] [] (by kernel_rfl) ?_
           obtain rfl := Option.some.inj h
           refine wtL [(2, aI (2 : Int))] (by kernel_rfl) ?_
           refine blockQ_ret ?_
           refine blockQ_ret ?_
           refine seqQ_ret ?_
           refine round_ret ?_
           refine escQ_ret ?_
           exact exM (by kernel_rfl)
          ·replace h := ofF h246 h
           refine W_seq (by kernel_rfl) ?_
           obtain ⟨v250, h251, h⟩ := bind_of h
           refine W_cutK (Q' := (exQ .normal (tape_Check_s34 a0 i185 v188 i235 v238)) v250) ?_ ?_
           ·replace h := h251
            refine W_region (by kernel_rfl) ?_
            refine wo 4 [(1, .one (.ptr 1 0)), (6, .one (.ptr 6 0)), (38, aD (.slice (.slice t3)) a0.2.2), (39, aI (List.length a0.2.2 : Int)), (40, aI i185), (44, aD (.slice t3) v188), (45, aI (List.length v188 : Int)), (46, aI i235), (65, aB (decide (v238.2.1 < (-1 : Int))))] [(1, .one tM a0), (6, .one t3 v238)] (by kernel_rfl) ?_
            rcases Bool.eq_false_or_eq_true (decide (v238.2.1 < (-1 : Int))) with h249 | h249
            ·replace h := ofT h249 h
             refine woo 9 [(8, .known true), (10, .known true), (12, .known true), (15, .val (.dat .bool true))] [(1, .one (.ptr 1 0)), (6, .one (.ptr 6 0)), (38, aD (.slice (.slice t3)) a0.2.2), (39, aI (List.length a0.2.2 : Int)), (40, aI i185), (44, aD (.slice t3) v188), (45, aI (List.length v188 : Int)), (46, aI i235), (61, aB true)] [(1, .one tM a0), (6, .one t3 v238)] [((decide (v238.2.1 < (-1 : Int))) = true), ((decide (v238.2.1 < (-1 : Int))) = true), ((decide (v238.2.1 < (-1 : Int))) = true), ((decide (v238.2.1 < (-1 : Int))) = true)] (by kernel_rfl) (allP2 h249 (allP2 h249 (allP2 h249 (allP1 h249)))) ?_
             obtain rfl := Option.some.inj h
             refine wfL [(1, .one (.ptr 1 0)), (6, .one (.ptr 6 0)), (38, aD (.slice (.slice t3)) a0.2.2), (39, aI (List.length a0.2.2 : Int)), (40, aI i185), (44, aD (.slice t3) v188), (45, aI (List.length v188 : Int)), (46, aI i235), (61, aB true)] (by kernel_rfl) ?_
             exact exM (by kernel_rfl)
            ·replace h := ofF h249 h
             refine woo 9 [(8, .known false), (10, .known false), (12, .known false), (15, .val (.dat .bool false))] [(1, .one (.ptr 1 0)), (6, .one (.ptr 6 0)), (38, aD (.slice (.slice t3)) a0.2.2), (39, aI (List.length a0.2.2 : Int)), (40, aI i185), (44, aD (.slice t3) v188), (45, aI (List.length v188 : Int)), (46, aI i235), (61, aB (decide (v238.2.1 > (1 : Int))))] [(1, .one tM a0), (6, .one t3 v238)] [((decide (v238.2.1 < (-1 : Int))) = false), ((decide (v238.2.1 < (-1 : Int))) = false), ((decide (v238.2.1 < (-1 : Int))) = false), ((decide (v238.2.1 < (-1 : Int))) = false)] (by kernel_rfl) (allP2 h249 (allP2 h249 (allP2 h249 (allP1 h249)))) ?_
             obtain rfl := Option.some.inj h
             refine wfL [(1, .one (.ptr 1 0)), (6, .one (.ptr 6 0)), (38, aD (.slice (.slice t3)) a0.2.2), (39, aI (List.length a0.2.2 : Int)), (40, aI i185), (44, aD (.slice t3) v188), (45, aI (List.length v188 : Int)), (46, aI i235), (61, aB (decide (v238.2.1 > (1 : Int))))] (by kernel_rfl) ?_
             exact exM (by kernel_rfl)
           ·intro e fr L hJ
            obtain ⟨rfl, rfl, rfl⟩ := hJ
            refine ltk [(1, .one (.ptr 1 0)), (6, .one (.ptr 6 0)), (38, aD (.slice (.slice t3)) a0.2.2), (39, aI (List.length a0.2.2 : Int)), (40, aI i185), (44, aD (.slice t3) v188), (45, aI (List.length v188 : Int)), (46, aI i235), (61, aB v250)] [(1, .one tM a0), (6, .one t3 v238)] (by kernel_rfl) ?_
            refine seqQ_norm ?_
            refine W_cond (o := .tmp 61) (b := v250) (by kernel_rfl) (by kernel_rfl) (fun h252 => ?_) (fun h252 => ?_)
            ·replace h := ofT h252 h
             refine sr [(2, aI (4 : Int))] [] (by kernel_rfl) ?_
             obtain rfl := Option.some.inj h
             refine wtL [(2, aI (4 : Int))] (by kernel_rfl) ?_
             refine blockQ_ret ?_
             refine blockQ_ret ?_
             refine seqQ_ret ?_
             refine round_ret ?_
             refine escQ_ret ?_
             exact exM (by kernel_rfl)
            ·replace h := ofF h252 h
             refine W_seq (by kernel_rfl) ?_
             obtain ⟨v256, h257, h⟩ := bind_of h
             refine W_cutK (Q' := (exQ .normal (tape_Check_s33 a0 i185 v188 i235)) v256) ?_ ?_
             ·replace h := h257
              refine W_region (by kernel_rfl) ?_
              refine wo 4 [(1, .one (.ptr 1 0)), (6, .one (.ptr 6 0)), (38, aD (.slice (.slice t3)) a0.2.2), (39, aI (List.length a0.2.2 : Int)), (40, aI i185), (44, aD (.slice t3) v188), (45, aI (List.length v188 : Int)), (46, aI i235), (74, aB (decide (v238.2.2 < (0 : Int))))] [(1, .one tM a0), (6, .one t3 v238)] (by kernel_rfl) ?_
              rcases Bool.eq_false_or_eq_true (decide (v238.2.2 < (0 : Int))) with h255 | h255
              ·replace h := ofT h255 h
               refine woo 11 [(8, .known true), (10, .known true), (12, .known true), (14, .known true), (16, .known true), (19, .val (.dat .bool true))] [(1, .one (.ptr 1 0)), (38, aD (.slice (.slice t3)) a0.2.2), (39, aI (List.length a0.2.2 : Int)), (40, aI i185), (44, aD (.slice t3) v188), (45, aI (List.length v188 : Int)), (46, aI i235), (70, aB true)] [(1, .one tM a0), (6, .one t3 v238)] [((decide (v238.2.2 < (0 : Int))) = true), ((decide (v238.2.2 < (0 : Int))) = true), ((decide (v238.2.2 < (0 : Int))) = true), ((decide (v238.2.2 < (0 : Int))) = true), ((decide (v238.2.2 < (0 : Int))) = true), ((decide (v238.2.2 < (0 : Int))) = true)] (by kernel_rfl) (allP2 h255 (allP2 h255 (allP2 h255 (allP2 h255 (allP2 h255 (allP1 h255)))))) ?_
               obtain rfl := Option.some.inj h
               refine wf [(1, .one (.ptr 1 0)), (38, aD (.slice (.slice t3)) a0.2.2), (39, aI (List.length a0.2.2 : Int)), (40, aI i185), (44, aD (.slice t3) v188), (45, aI (List.length v188 : Int)), (46, aI i235), (70, aB true)] [(1, .one tM a0)] (by kernel_rfl) ?_
               exact exM (by kernel_rfl)
              ·replace h := ofF h255 h
               refine woo 11 [(8, .known false), (10, .known false), (12, .known false), (14, .known false), (16, .known false), (19, .val (.dat .bool false))] [(1, .one (.ptr 1 0)), (38, aD (.slice (.slice t3)) a0.2.2), (39, aI (List.length a0.2.2 : Int)), (40, aI i185), (44, aD (.slice t3) v188), (45, aI (List.length v188 : Int)), (46, aI i235), (70, aB (decide (v238.2.2 > a0.1)))] [(1, .one tM a0), (6, .one t3 v238)] [((decide (v238.2.2 < (0 : Int))) = false), ((decide (v238.2.2 < (0 : Int))) = false), ((decide (v238.2.2 < (0 : Int))) = false), ((decide (v238.2.2 < (0 : Int))) = false), ((decide (v238.2.2 < (0 : Int))) = false), ((decide (v238.2.2 < (0 : Int))) = false)] (by kernel_rfl) (allP2 h255 (allP2 h255 (allP2 h255 (allP2 h255 (allP2 h255 (allP1 h255)))))) ?_
               obtain rfl := Option.some.inj h
               refine wf [(1, .one (.ptr 1 0)), (38, aD (.slice (.slice t3)) a0.2.2), (39, aI (List.length a0.2.2 : Int)), (40, aI i185), (44, aD (.slice t3) v188), (45, aI (List.length v188 : Int)), (46, aI i235), (70, aB (decide (v238.2.2 > a0.1)))] [(1, .one tM a0)] (by kernel_rfl) ?_
               exact exM (by kernel_rfl)
             ·intro e fr L hJ
              obtain ⟨rfl, rfl, rfl⟩ := hJ
              refine ltk [(1, .one (.ptr 1 0)), (38, aD (.slice (.slice t3)) a0.2.2), (39, aI (List.length a0.2.2 : Int)), (40, aI i185), (44, aD (.slice t3) v188), (45, aI (List.length v188 : Int)), (46, aI i235), (70, aB v256)] [(1, .one tM a0)] (by kernel_rfl) ?_
              refine seqQ_norm ?_
              refine W_cond (o := .tmp 70) (b := v256) (by kernel_rfl) (by kernel_rfl) (fun h258 => ?_) (fun h258 => ?_)
              ·replace h := ofT h258 h
               refine sr [(2, aI (2 : Int))] [] (by kernel_rfl) ?_
               obtain rfl := Option.some.inj h
               refine wtL [(2, aI (2 : Int))] (by kernel_rfl) ?_
               refine blockQ_ret ?_
               refine blockQ_ret ?_
               refine seqQ_ret ?_
               refine round_ret ?_
               refine escQ_ret ?_
               exact exM (by kernel_rfl)
              ·replace h := ofF h258 h
               refine wkL [(1, .one (.ptr 1 0)), (38, aD (.slice (.slice t3)) a0.2.2), (39, aI (List.length a0.2.2 : Int)), (40, aI i185), (44, aD (.slice t3) v188), (45, aI (List.length v188 : Int)), (46, aI i235)] (by kernel_rfl) ?_
               refine blockQ_norm ?_
               refine blockQ_norm ?_
               refine seqQ_norm ?_
               obtain rfl := Option.some.inj h
               refine swL [(1, .one (.ptr 1 0)), (38, aD (.slice (.slice t3)) a0.2.2), (39, aI (List.length a0.2.2 : Int)), (40, aI i185), (44, aD (.slice t3) v188), (45, aI (List.length v188 : Int)), (46, aI (w64 (i235 + (1 : Int))))] (by kernel_rfl) ?_
               exact round_next' (by kernel_rfl) (by kernel_rfl)
        ·obtain rfl := stepL_false h240 h
         refine wxL 2 [(1, .one (.ptr 1 0)), (38, aD (.slice (.slice t3)) a0.2.2), (39, aI (List.length a0.2.2 : Int)), (40, aI i185)] (by kernel_rfl) ?_
         refine seqQ_exit ?_
         refine round_exit ?_
         refine escQ_brk ?_
         exact exM (by kernel_rfl)
       ·intro e fr L hJ
        rcases v260 with v265 | v266
        ·obtain ⟨rfl, rfl, rfl⟩ := hJ
         obtain rfl := Option.some.inj h
         refine ltk [(2, aI v265)] [] (by kernel_rfl) ?_
         refine blockQ_ret ?_
         refine blockQ_ret ?_
         refine seqQ_ret ?_
         refine round_ret ?_
         refine escQ_ret ?_
         exact exM (by kernel_rfl)
        ·obtain ⟨rfl, rfl, rfl⟩ := hJ
         refine ltk [(1, .one (.ptr 1 0)), (38, aD (.slice (.slice t3)) a0.2.2), (39, aI (List.length a0.2.2 : Int)), (40, aI i185)] [(1, .one tM a0)] (by kernel_rfl) ?_
         refine blockQ_hit ?_
         refine blockQ_norm ?_
         refine seqQ_norm ?_
         obtain rfl := Option.some.inj h
         refine sw [(1, .one (.ptr 1 0)), (38, aD (.slice (.slice t3)) a0.2.2), (39, aI (List.length a0.2.2 : Int)), (40, aI (w64 (i185 + (1 : Int))))] [(1, .one tM a0)] (by kernel_rfl) ?_
         exact round_next' (by kernel_rfl) (by kernel_rfl)
      ·obtain rfl := stepL_false h190 h
       refine wx 0 [] [] (by kernel_rfl) ?_
       refine seqQ_exit ?_
       refine round_exit ?_
       refine escQ_brk ?_
       exact exM (by kernel_rfl)
     ·intro e fr L hJ
      rcases v268 with v273 | v274
      ·obtain ⟨rfl, rfl, rfl⟩ := hJ
       obtain rfl := Option.some.inj h
       refine ltk [(2, aI v273)] [] (by kernel_rfl) ?_
       refine blockQ_ret ?_
       refine seqQ_ret ?_
       exact retM (by kernel_rfl)
      ·obtain ⟨rfl, rfl, rfl⟩ := hJ
       refine ltk [] [] (by kernel_rfl) ?_
       refine blockQ_hit ?_
       refine seqQ_norm ?_
       refine sr [(2, aI (0 : Int))] [] (by kernel_rfl) ?_
       obtain rfl := Option.some.inj h
       refine wtL [(2, aI (0 : Int))] (by kernel_rfl) ?_
       exact retM (by kernel_rfl)

@[reducible] def unroll_wrong_s1 (a1 : Int) (a2 : Int) (v : Bool) : Fr × LL := ([(1, aI a1), (2, aI a2), (13, aB v)], [])
def unroll_wrong (a0 : (Int × (Int × (List (List (Int × (Int × Int))))))) (a1 : Int) (a2 : Int) : Option Int :=
(tape_Check a0).bind fun r1 =>
bif r1 != (0 : Int) then
(some r1)
else
((bif decide (a0.2.1 > (2 : Int)) then
(some true)
else
(some (decide (a0.1 > (2 : Int))))).bind fun v7 =>
bif v7 then
(some (3 : Int))
else
(bif (decide (a1 < (1 : Int))) || (decide (a1 > (5 : Int))) then
(some (1 : Int))
else
(bif (decide (a2 < (0 : Int))) || (decide (a2 > (6 : Int))) then
(some (7 : Int))
else
(some (0 : Int)))))
theorem unroll_wrong_ok {a0 : (Int × (Int × (List (List (Int × (Int × Int))))))} {a1 : Int} {a2 : Int} {r : Int} (h : unroll_wrong a0 a1 a2 = some r) : FnC Try.prog 65 [aD tM a0, aI a1, aI a2] [] (aI r) [] := by
 refine fnC_of_W (B := bodyOf Try.f65) (n := 36) Try.func65 (by kernel_rfl) (by kernel_rfl) (by kernel_rfl) (by kernel_rfl) (by kernel_rfl) ?_
 intro K
 refine sr [(1, aI a1), (2, aI a2), (3, .one (.ptr 3 0))] [(3, .one tM a0)] (by kernel_rfl) ?_
 refine W_seq (by kernel_rfl) ?_
 refine W_seq (by kernel_rfl) ?_
 refine W_region (by kernel_rfl) ?_
 refine woL 1 [(1, aI a1), (2, aI a2), (3, .one (.ptr 3 0)), (8, aD tM a0)] (by kernel_rfl) ?_
 obtain ⟨r1, h2, h⟩ := bind_of h
 refine WO_call0 (us := [none]) (d := 9) (p := True) (j := 2) rfl ⟨by kernel_rfl, by kernel_rfl, by kernel_rfl⟩ trivial (tape_Check_ok h2) (by kernel_rfl) ?_
 refine wo 3 [(1, aI a1), (2, aI a2), (3, .one (.ptr 3 0)), (7, aI r1)] [(3, .one tM a0)] (by kernel_rfl) ?_
 refine wfL [(1, aI a1), (2, aI a2), (3, .one (.ptr 3 0)), (7, aI r1)] (by kernel_rfl) ?_
 refine seqQ_norm ?_
 refine srL [(1, aI a1), (2, aI a2), (3, .one (.ptr 3 0)), (7, aI r1), (11, aB (r1 != (0 : Int)))] (by kernel_rfl) ?_
 refine W_cond (o := .tmp 11) (b := r1 != (0 : Int)) (by kernel_rfl) (by kernel_rfl) (fun h3 => ?_) (fun h3 => ?_)
 ·replace h := ofT h3 h
  refine sr [(6, aI r1)] [] (by kernel_rfl) ?_
  obtain rfl := Option.some.inj h
  refine wtL [(6, aI r1)] (by kernel_rfl) ?_
  refine seqQ_ret ?_
  exact retM (by kernel_rfl)
 ·replace h := ofF h3 h
  refine wkL [(1, aI a1), (2, aI a2), (3, .one (.ptr 3 0))] (by kernel_rfl) ?_
  refine seqQ_norm ?_
  refine W_seq (by kernel_rfl) ?_
  refine W_block (id := 0) (by kernel_rfl) ?_
  refine W_seq (by kernel_rfl) ?_
  obtain ⟨v7, h8, h⟩ := bind_of h
  refine W_cutK (Q' := (exQ .normal (unroll_wrong_s1 a1 a2)) v7) ?_ ?_
  ·replace h := h8
   refine W_region (by kernel_rfl) ?_
   refine wo 4 [(1, aI a1), (2, aI a2), (3, .one (.ptr 3 0)), (17, aB (decide (a0.2.1 > (2 : Int))))] [(3, .one tM a0)] (by kernel_rfl) ?_
   rcases Bool.eq_false_or_eq_true (decide (a0.2.1 > (2 : Int))) with h6 | h6
   ·replace h := ofT h6 h
    refine woo 9 [(8, .known true), (10, .known true), (12, .known true), (15, .val (.dat .bool true))] [(1, aI a1), (2, aI a2), (13, aB true)] [(3, .one tM a0)] [((decide (a0.2.1 > (2 : Int))) = true), ((decide (a0.2.1 > (2 : Int))) = true), ((decide (a0.2.1 > (2 : Int))) = true), ((decide (a0.2.1 > (2 : Int))) = true)] (by kernel_rfl) (allP2 h6 (allP2 h6 (allP2 h6 (allP1 h6)))) ?_
    obtain rfl := Option.some.inj h
    refine wf [(1, aI a1), (2, aI a2), (13, aB true)] [] (by kernel_rfl) ?_
    exact exM (by kernel_rfl)
   ·replace h := ofF h6 h
    refine woo 9 [(8, .known false), (10, .known false), (12, .known false), (15, .val (.dat .bool false))] [(1, aI a1), (2, aI a2), (13, aB (decide (a0.1 > (2 : Int))))] [(3, .one tM a0)] [((decide (a0.2.1 > (2 : Int))) = false), ((decide (a0.2.1 > (2 : Int))) = false), ((decide (a0.2.1 > (2 : Int))) = false), ((decide (a0.2.1 > (2 : Int))) = false)] (by kernel_rfl) (allP2 h6 (allP2 h6 (allP2 h6 (allP1 h6)))) ?_
    obtain rfl := Option.some.inj h
    refine wf [(1, aI a1), (2, aI a2), (13, aB (decide (a0.1 > (2 : Int))))] [] (by kernel_rfl) ?_
    exact exM (by kernel_rfl)
  ·intro e fr L hJ
   obtain ⟨rfl, rfl, rfl⟩ := hJ
   refine ltk [(1, aI a1), (2, aI a2), (13, aB v7)] [] (by kernel_rfl) ?_
   refine seqQ_norm ?_
   refine W_cond (o := .tmp 13) (b := v7) (by kernel_rfl) (by kernel_rfl) (fun h9 => ?_) (fun h9 => ?_)
   ·replace h := ofT h9 h
    refine srL [(6, aI (3 : Int))] (by kernel_rfl) ?_
    obtain rfl := Option.some.inj h
    refine wtL [(6, aI (3 : Int))] (by kernel_rfl) ?_
    refine blockQ_ret ?_
    refine seqQ_ret ?_
    exact retM (by kernel_rfl)
   ·replace h := ofF h9 h
    refine srL [(2, aI a2), (22, aB ((decide (a1 < (1 : Int))) || (decide (a1 > (5 : Int)))))] (by kernel_rfl) ?_
    refine W_cond (o := .tmp 22) (b := (decide (a1 < (1 : Int))) || (decide (a1 > (5 : Int)))) (by kernel_rfl) (by kernel_rfl) (fun h10 => ?_) (fun h10 => ?_)
    ·replace h := ofT h10 h
     refine srL [(6, aI (1 : Int))] (by kernel_rfl) ?_
     obtain rfl := Option.some.inj h
     refine wtL [(6, aI (1 : Int))] (by kernel_rfl) ?_
     refine blockQ_ret ?_
     refine seqQ_ret ?_
     exact retM (by kernel_rfl)
    ·replace h := ofF h10 h
     refine srL [(29, aB ((decide (a2 < (0 : Int))) || (decide (a2 > (6 : Int)))))] (by kernel_rfl) ?_
     refine W_cond (o := .tmp 29) (b := (decide (a2 < (0 : Int))) || (decide (a2 > (6 : Int)))) (by kernel_rfl) (by kernel_rfl) (fun h11 => ?_) (fun h11 => ?_)
     ·replace h := ofT h11 h
      refine srL [(6, aI (7 : Int))] (by kernel_rfl) ?_
      obtain rfl := Option.some.inj h
      refine wtL [(6, aI (7 : Int))] (by kernel_rfl) ?_
      refine blockQ_ret ?_
      refine seqQ_ret ?_
      exact retM (by kernel_rfl)
     ·replace h := ofF h11 h
      refine wkL [] (by kernel_rfl) ?_
      refine blockQ_norm ?_
      refine seqQ_norm ?_
      refine srL [(6, aI (0 : Int))] (by kernel_rfl) ?_
      obtain rfl := Option.some.inj h
      refine wtL [(6, aI (0 : Int))] (by kernel_rfl) ?_
      exact retM (by kernel_rfl)

def gate_Maker_Put_i3_g1 (a1 : Int) (a2 : Int) (a3 : Int) (c3 : (List (Int × (Int × Int)))) (v4 : (Option (List ((Int × (Int × Int)) × Int)))) : Option (Int × (List (Int × (Int × Int))) × (Option (List ((Int × (Int × Int)) × Int)))) :=
bif !(Option.isSome (mGet (deqT t3) (Option.getD v4 []) (a1, a2, a3))) then
((ck ((List.length c3 : Int) + 1 ≤ 4294967296)).bind fun _ =>
(ck (Option.isSome v4 = true)).bind fun _ =>
some ((List.length c3 : Int), c3 ++ [(a1, a2, a3)], Option.map (fun l => mPut (deqT t3) l (a1, a2, a3) (List.length c3 : Int)) v4))
else
(some (Option.getD (mGet (deqT t3) (Option.getD v4 []) (a1, a2, a3)) (0 : Int), c3, v4))
@[reducible] def gate_Maker_Put_i3_s2 (c0 : Int) (c1 : Int) (c2 : (List (List (Int × (Int × Int))))) (c5 : (List Int)) (c6 : (List (List Int))) (v : (Int × (List (Int × (Int × Int))) × (Option (List ((Int × (Int × Int)) × Int))))) : Fr × LL := ([(10, aI v.1)], [(1000, .cells [.slc 2001, .slc 2002, .dat tI c0, .dat tI c1, .dat (.slice (.slice t3)) c2, .slc 1003, .slc 1004]), (1003, .seq tI c5), (1004, .rows 0 (.slice tI) c6 []), (2001, .seq t3 v.2.1), (2002, .map t3 tI v.2.2)])
@[reducible] def gate_Maker_Put_i3_s3 (a1 : Int) (a2 : Int) (a3 : Int) (c0 : Int) (c1 : Int) (c2 : (List (List (Int × (Int × Int))))) (c3 : (List (Int × (Int × Int)))) (c5 : (List Int)) (c6 : (List (List Int))) (v : (Option (List ((Int × (Int × Int)) × Int)))) : Fr × LL := ([(0, .one (.ptr 1000 0)), (9, .one (.ptr 9 0))], [(1000, .cells [.slc 2001, .slc 2002, .dat tI c0, .dat tI c1, .dat (.slice (.slice t3)) c2, .slc 1003, .slc 1004]), (9, .one t3 (a1, a2, a3)), (1003, .seq tI c5), (1004, .rows 0 (.slice tI) c6 []), (2001, .seq t3 c3), (2002, .map t3 tI v)])
def gate_Maker_Put_i3 (a1 : Int) (a2 : Int) (a3 : Int) (c0 : Int) (c1 : Int) (c2 : (List (List (Int × (Int × Int))))) (c3 : (List (Int × (Int × Int)))) (c4 : (Option (List ((Int × (Int × Int)) × Int)))) (c5 : (List Int)) (c6 : (List (List Int))) : Option (Int × Int × Int × (List (List (Int × (Int × Int)))) × (List (Int × (Int × Int))) × (Option (List ((Int × (Int × Int)) × Int))) × (List Int) × (List (List Int))) :=
(bif Option.isNone c4 then
(some (some [] : Option (List ((Int × (Int × Int)) × Int))))
else
(some c4)).bind fun v4 =>
(gate_Maker_Put_i3_g1 a1 a2 a3 c3 v4).bind fun v15 =>
some (v15.1, c0, c1, c2, v15.2.1, v15.2.2, c5, c6)
theorem gate_Maker_Put_i3_ok {a1 : Int} {a2 : Int} {a3 : Int} {c0 : Int} {c1 : Int} {c2 : (List (List (Int × (Int × Int))))} {c3 : (List (Int × (Int × Int)))} {c4 : (Option (List ((Int × (Int × Int)) × Int)))} {c5 : (List Int)} {c6 : (List (List Int))} {r : (Int × Int × Int × (List (List (Int × (Int × Int)))) × (List (Int × (Int × Int))) × (Option (List ((Int × (Int × Int)) × Int))) × (List Int) × (List (List Int)))} (h : gate_Maker_Put_i3 a1 a2 a3 c0 c1 c2 c3 c4 c5 c6 = some r) : FnC Try.prog 77 [.one (.ptr 1000 0), aI a1, aI a2, aI a3] [(1000, .cells [.slc 2001, .slc 2002, .dat tI c0, .dat tI c1, .dat (.slice (.slice t3)) c2, .slc 1003, .slc 1004]), (2001, .seq t3 c3), (2002, .map t3 tI c4), (1003, .seq tI c5), (1004, .rows 0 (.slice tI) c6 [])] (aI r.1) [(1000, .cells [.slc 2001, .slc 2002, .dat tI r.2.1, .dat tI r.2.2.1, .dat (.slice (.slice t3)) r.2.2.2.1, .slc 1003, .slc 1004]), (2001, .seq t3 r.2.2.2.2.1), (2002, .map t3 tI r.2.2.2.2.2.1), (1003, .seq tI r.2.2.2.2.2.2.1), (1004, .rows 0 (.slice tI) r.2.2.2.2.2.2.2 [])] := by
 refine fnC_of_W (B := bodyOf Try.f77) (n := 58) Try.func77 (by kernel_rfl) (by kernel_rfl) (by kernel_rfl) (by kernel_rfl) (by kernel_rfl) ?_
 intro K
 refine sr [(0, .one (.ptr 1000 0)), (1, aI a1), (2, aI a2), (3, aI a3)] [(1000, .cells [.slc 2001, .slc 2002, .dat tI c0, .dat tI c1, .dat (.slice (.slice t3)) c2, .slc 1003, .slc 1004]), (1003, .seq tI c5), (1004, .rows 0 (.slice tI) c6 []), (2001, .seq t3 c3), (2002, .map t3 tI c4)] (by kernel_rfl) ?_
 refine sro [(9, .typed)] [(0, .one (.ptr 1000 0)), (9, .one (.ptr 9 0))] [(1000, .cells [.slc 2001, .slc 2002, .dat tI c0, .dat tI c1, .dat (.slice (.slice t3)) c2, .slc 1003, .slc 1004]), (9, .one t3 (a1, a2, a3)), (1003, .seq tI c5), (1004, .rows 0 (.slice tI) c6 []), (2001, .seq t3 c3), (2002, .map t3 tI c4)] [True] (by kernel_rfl) (allP1 trivial) ?_
 refine W_seq (by kernel_rfl) ?_
 obtain ⟨v4, h5, h⟩ := bind_of h
 refine W_cutK (Q' := (exQ .normal (gate_Maker_Put_i3_s3 a1 a2 a3 c0 c1 c2 c3 c5 c6)) v4) ?_ ?_
 ·replace h := h5
  refine sr [(0, .one (.ptr 1000 0)), (9, .one (.ptr 9 0)), (20, aB (Option.isNone c4))] [(1000, .cells [.slc 2001, .slc 2002, .dat tI c0, .dat tI c1, .dat (.slice (.slice t3)) c2, .slc 1003, .slc 1004]), (9, .one t3 (a1, a2, a3)), (1003, .seq tI c5), (1004, .rows 0 (.slice tI) c6 []), (2001, .seq t3 c3), (2002, .map t3 tI c4)] (by kernel_rfl) ?_
  refine W_cond (o := .tmp 20) (b := Option.isNone c4) (by kernel_rfl) (by kernel_rfl) (fun h3 => ?_) (fun h3 => ?_)
  ·replace h := ofT h3 h
   refine W_region (by kernel_rfl) ?_
   refine woo 5 [] [(0, .one (.ptr 1000 0)), (9, .one (.ptr 9 0))] [(9, .one t3 (a1, a2, a3)), (22, .map t3 tI (some [] : Option (List ((Int × (Int × Int)) × Int)))), (1000, .cells [.slc 2001, .slc 22, .dat tI c0, .dat tI c1, .dat (.slice (.slice t3)) c2, .slc 1003, .slc 1004]), (1003, .seq tI c5), (1004, .rows 0 (.slice tI) c6 []), (2001, .seq t3 c3), (2002, .map t3 tI c4)] [True] (by kernel_rfl) (allP1 trivial) ?_
   obtain rfl := Option.some.inj h
   refine WO_ren 22 2002 (by kernel_rfl) ?_
   refine wf [(0, .one (.ptr 1000 0)), (9, .one (.ptr 9 0))] [(1000, .cells [.slc 2001, .slc 2002, .dat tI c0, .dat tI c1, .dat (.slice (.slice t3)) c2, .slc 1003, .slc 1004]), (9, .one t3 (a1, a2, a3)), (1003, .seq tI c5), (1004, .rows 0 (.slice tI) c6 []), (2001, .seq t3 c3), (2002, .map t3 tI (some [] : Option (List ((Int × (Int × Int)) × Int))))] (by kernel_rfl) ?_
   exact exM (by kernel_rfl)
  ·replace h := ofF h3 h
   obtain rfl := Option.some.inj h
   refine wkL [(0, .one (.ptr 1000 0)), (9, .one (.ptr 9 0))] (by kernel_rfl) ?_
   exact exM (by kernel_rfl)
 ·intro e fr L hJ
  obtain ⟨rfl, rfl, rfl⟩ := hJ
  refine ltk [(0, .one (.ptr 1000 0)), (9, .one (.ptr 9 0))] [(1000, .cells [.slc 2001, .slc 2002, .dat tI c0, .dat tI c1, .dat (.slice (.slice t3)) c2, .slc 1003, .slc 1004]), (9, .one t3 (a1, a2, a3)), (1003, .seq tI c5), (1004, .rows 0 (.slice tI) c6 []), (2001, .seq t3 c3), (2002, .map t3 tI v4)] (by kernel_rfl) ?_
  refine seqQ_norm ?_
  refine W_seq (by kernel_rfl) ?_
  refine W_draw2 10 [] [] [0, 9, 10, 11] [1000, 9, 1003, 1004, 2001, 2002] (fr' := [(0, .one (.ptr 1000 0)), (9, .one (.ptr 9 0)), (10, aI (Option.getD (mGet (deqT t3) (Option.getD v4 []) (a1, a2, a3)) (0 : Int))), (11, aB (Option.isSome (mGet (deqT t3) (Option.getD v4 []) (a1, a2, a3))))]) (L' := [(1000, .cells [.slc 2001, .slc 2002, .dat tI c0, .dat tI c1, .dat (.slice (.slice t3)) c2, .slc 1003, .slc 1004]), (9, .one t3 (a1, a2, a3)), (1003, .seq tI c5), (1004, .rows 0 (.slice tI) c6 []), (2001, .seq t3 c3), (2002, .map t3 tI v4)]) (out := [(26, .one (.ptr 1000 0)), (27, .one (.ptr 1000 0)), (28, .one (.ptr 1000 1)), (29, .one (.slc 2002)), (30, aD t3 (a1, a2, a3)), (31, .tup [.dat tI (Option.getD (mGet (deqT t3) (Option.getD v4 []) (a1, a2, a3)) (0 : Int)), .dat .bool (Option.isSome (mGet (deqT t3) (Option.getD v4 []) (a1, a2, a3)))]), (25, .tup [.dat tI (Option.getD (mGet (deqT t3) (Option.getD v4 []) (a1, a2, a3)) (0 : Int)), .dat .bool (Option.isSome (mGet (deqT t3) (Option.getD v4 []) (a1, a2, a3)))]), (32, aI (Option.getD (mGet (deqT t3) (Option.getD v4 []) (a1, a2, a3)) (0 : Int))), (33, aB (Option.isSome (mGet (deqT t3) (Option.getD v4 []) (a1, a2, a3)))), (10, aI (Option.getD (mGet (deqT t3) (Option.getD v4 []) (a1, a2, a3)) (0 : Int)))]) (obs := []) (obs2 := []) (calls := []) (by kernel_rfl) (by kernel_rfl) (by kernel_rfl) (by kernel_rfl) allP0 allC0 (by kernel_rfl) allP0 ?_
  refine seqQ_norm ?_
  refine W_seq (by kernel_rfl) ?_
  obtain ⟨v15, h16, h⟩ := bind_of h
  refine W_cutK (Q' := (exQ .normal (gate_Maker_Put_i3_s2 c0 c1 c2 c5 c6)) v15) ?_ ?_
  ·replace h := h16
   refine sr [(0, .one (.ptr 1000 0)), (9, .one (.ptr 9 0)), (10, aI (Option.getD (mGet (deqT t3) (Option.getD v4 []) (a1, a2, a3)) (0 : Int))), (35, aB (!(Option.isSome (mGet (deqT t3) (Option.getD v4 []) (a1, a2, a3)))))] [(1000, .cells [.slc 2001, .slc 2002, .dat tI c0, .dat tI c1, .dat (.slice (.slice t3)) c2, .slc 1003, .slc 1004]), (9, .one t3 (a1, a2, a3)), (1003, .seq tI c5), (1004, .rows 0 (.slice tI) c6 []), (2001, .seq t3 c3), (2002, .map t3 tI v4)] (by kernel_rfl) ?_
   refine W_cond (o := .tmp 35) (b := !(Option.isSome (mGet (deqT t3) (Option.getD v4 []) (a1, a2, a3)))) (by kernel_rfl) (by kernel_rfl) (fun h12 => ?_) (fun h12 => ?_)
   ·replace h := ofT h12 h
    refine srL [(0, .one (.ptr 1000 0)), (9, .one (.ptr 9 0)), (10, aI (List.length c3 : Int))] (by kernel_rfl) ?_
    refine W_seq (by kernel_rfl) ?_
    obtain ⟨_, h13, h⟩ := bind_of h
    replace h13 := ck_some h13
    refine W_draw5 7 [0] [] [] [0, 9, 10] [1000, 9, 1003, 1004, 2001, 2002] (fr' := [(0, .one (.ptr 1000 0)), (9, .one (.ptr 9 0)), (10, aI (List.length c3 : Int))]) (L' := [(1000, .cells [.slc 2001, .slc 2002, .dat tI c0, .dat tI c1, .dat (.slice (.slice t3)) c2, .slc 1003, .slc 1004]), (9, .one t3 (a1, a2, a3)), (1003, .seq tI c5), (1004, .rows 0 (.slice tI) c6 []), (2001, .seq t3 (c3 ++ [(a1, a2, a3)])), (2002, .map t3 tI v4)]) (out := [(41, .one (.ptr 1000 0)), (42, .one (.ptr 1000 0)), (43, .one (.ptr 1000 0)), (44, .one (.ptr 1000 0)), (45, .one (.slc 2001)), (46, aD t3 (a1, a2, a3)), (47, aD (.slice t3) [(a1, a2, a3)])]) (obs := [True]) (obs2 := [SmallLen (List.length c3 + List.length [(a1, a2, a3)]), True]) (calls := []) (by kernel_rfl) (by kernel_rfl) (by kernel_rfl) (by kernel_rfl) (allP1 trivial) allD0 (by kernel_rfl) (allP2 h13 (allP1 trivial)) ?_
    refine seqQ_norm ?_
    obtain ⟨_, h14, h⟩ := bind_of h
    replace h14 := ck_some h14
    obtain rfl := Option.some.inj h
    refine W_draw2 6 [] [] [10] [1000, 1003, 1004, 2001, 2002] (fr' := [(10, aI (List.length c3 : Int))]) (L' := [(1000, .cells [.slc 2001, .slc 2002, .dat tI c0, .dat tI c1, .dat (.slice (.slice t3)) c2, .slc 1003, .slc 1004]), (1003, .seq tI c5), (1004, .rows 0 (.slice tI) c6 []), (2001, .seq t3 (c3 ++ [(a1, a2, a3)])), (2002, .map t3 tI (Option.map (fun l => mPut (deqT t3) l (a1, a2, a3) (List.length c3 : Int)) v4))]) (out := [(51, .one (.ptr 1000 0)), (52, .one (.ptr 1000 0)), (53, .one (.ptr 1000 1)), (54, .one (.slc 2002)), (55, aD t3 (a1, a2, a3)), (56, aI (List.length c3 : Int))]) (obs := []) (obs2 := [Option.isSome v4 = true]) (calls := []) (by kernel_rfl) (by kernel_rfl) (by kernel_rfl) (by kernel_rfl) allP0 allC0 (by kernel_rfl) (allP1 h14) ?_
    exact exM (by kernel_rfl)
   ·replace h := ofF h12 h
    obtain rfl := Option.some.inj h
    refine wk [(10, aI (Option.getD (mGet (deqT t3) (Option.getD v4 []) (a1, a2, a3)) (0 : Int)))] [(1000, .cells [.slc 2001, .slc 2002, .dat tI c0, .dat tI c1, .dat (.slice (.slice t3)) c2, .slc 1003, .slc 1004]), (1003, .seq tI c5), (1004, .rows 0 (.slice tI) c6 []), (2001, .seq t3 c3), (2002, .map t3 tI v4)] (by kernel_rfl) ?_
    exact exM (by kernel_rfl)
  ·intro e fr L hJ
   obtain ⟨rfl, rfl, rfl⟩ := hJ
   refine ltk [(10, aI v15.1)] [(1000, .cells [.slc 2001, .slc 2002, .dat tI c0, .dat tI c1, .dat (.slice (.slice t3)) c2, .slc 1003, .slc 1004]), (1003, .seq tI c5), (1004, .rows 0 (.slice tI) c6 []), (2001, .seq t3 v15.2.1), (2002, .map t3 tI v15.2.2)] (by kernel_rfl) ?_
   refine seqQ_norm ?_
   refine srL [(8, aI v15.1)] (by kernel_rfl) ?_
   obtain rfl := Option.some.inj h
   refine wt [(8, aI v15.1)] [(1000, .cells [.slc 2001, .slc 2002, .dat tI c0, .dat tI c1, .dat (.slice (.slice t3)) c2, .slc 1003, .slc 1004]), (2001, .seq t3 v15.2.1), (2002, .map t3 tI v15.2.2), (1003, .seq tI c5), (1004, .rows 0 (.slice tI) c6 [])] (by kernel_rfl) ?_
   exact retM (by kernel_rfl)

def math_bits_Mul64 (a0 : Int) (a1 : Int) : Option (Int × Int) :=
some (IntKind.wrap .u64 ((IntKind.wrap .u64 ((IntKind.wrap .u64 ((bShr .u64 a0 (32 : Int)) * (bShr .u64 a1 (32 : Int)))) + (bShr .u64 (IntKind.wrap .u64 ((IntKind.wrap .u64 ((bShr .u64 a0 (32 : Int)) * (bAnd .u64 a1 (4294967295 : Int)))) + (bShr .u64 (IntKind.wrap .u64 ((bAnd .u64 a0 (4294967295 : Int)) * (bAnd .u64 a1 (4294967295 : Int)))) (32 : Int)))) (32 : Int)))) + (bShr .u64 (IntKind.wrap .u64 ((bAnd .u64 (IntKind.wrap .u64 ((IntKind.wrap .u64 ((bShr .u64 a0 (32 : Int)) * (bAnd .u64 a1 (4294967295 : Int)))) + (bShr .u64 (IntKind.wrap .u64 ((bAnd .u64 a0 (4294967295 : Int)) * (bAnd .u64 a1 (4294967295 : Int)))) (32 : Int)))) (4294967295 : Int)) + (IntKind.wrap .u64 ((bAnd .u64 a0 (4294967295 : Int)) * (bShr .u64 a1 (32 : Int)))))) (32 : Int))), IntKind.wrap .u64 (a0 * a1))
theorem math_bits_Mul64_ok {a0 : Int} {a1 : Int} {r : (Int × Int)} (h : math_bits_Mul64 a0 a1 = some r) : FnC Try.prog 106 [aD (.int .u64) a0, aD (.int .u64) a1] [] (.tup [.dat (.int .u64) r.1, .dat (.int .u64) r.2]) [] := by
 refine fnC_of_W (B := bodyOf Try.f106) (n := 51) Try.func106 (by kernel_rfl) (by kernel_rfl) (by kernel_rfl) (by kernel_rfl) (by kernel_rfl) ?_
 intro K
 refine sr [(0, aD (.int .u64) a0), (1, aD (.int .u64) a1)] [] (by kernel_rfl) ?_
 refine srL [(0, aD (.int .u64) a0), (1, aD (.int .u64) a1), (6, aD (.int .u64) (bAnd .u64 a0 (4294967295 : Int)))] (by kernel_rfl) ?_
 refine sro [] [(0, aD (.int .u64) a0), (1, aD (.int .u64) a1), (6, aD (.int .u64) (bAnd .u64 a0 (4294967295 : Int))), (7, aD (.int .u64) (bShr .u64 a0 (32 : Int)))] [] [(0 ≤ (32 : Int))] (by kernel_rfl) (allP1 (by decide)) ?_
 refine srL [(0, aD (.int .u64) a0), (1, aD (.int .u64) a1), (6, aD (.int .u64) (bAnd .u64 a0 (4294967295 : Int))), (7, aD (.int .u64) (bShr .u64 a0 (32 : Int))), (8, aD (.int .u64) (bAnd .u64 a1 (4294967295 : Int)))] (by kernel_rfl) ?_
 refine sro [] [(0, aD (.int .u64) a0), (1, aD (.int .u64) a1), (6, aD (.int .u64) (bAnd .u64 a0 (4294967295 : Int))), (7, aD (.int .u64) (bShr .u64 a0 (32 : Int))), (8, aD (.int .u64) (bAnd .u64 a1 (4294967295 : Int))), (9, aD (.int .u64) (bShr .u64 a1 (32 : Int)))] [] [(0 ≤ (32 : Int))] (by kernel_rfl) (allP1 (by decide)) ?_
 refine srL [(0, aD (.int .u64) a0), (1, aD (.int .u64) a1), (6, aD (.int .u64) (bAnd .u64 a0 (4294967295 : Int))), (7, aD (.int .u64) (bShr .u64 a0 (32 : Int))), (8, aD (.int .u64) (bAnd .u64 a1 (4294967295 : Int))), (9, aD (.int .u64) (bShr .u64 a1 (32 : Int))), (10, aD (.int .u64) (IntKind.wrap .u64 ((bAnd .u64 a0 (4294967295 : Int)) * (bAnd .u64 a1 (4294967295 : Int)))))] (by kernel_rfl) ?_
 refine sro [] [(0, aD (.int .u64) a0), (1, aD (.int .u64) a1), (6, aD (.int .u64) (bAnd .u64 a0 (4294967295 : Int))), (7, aD (.int .u64) (bShr .u64 a0 (32 : Int))), (9, aD (.int .u64) (bShr .u64 a1 (32 : Int))), (11, aD (.int .u64) (IntKind.wrap .u64 ((IntKind.wrap .u64 ((bShr .u64 a0 (32 : Int)) * (bAnd .u64 a1 (4294967295 : Int)))) + (bShr .u64 (IntKind.wrap .u64 ((bAnd .u64 a0 (4294967295 : Int)) * (bAnd .u64 a1 (4294967295 : Int)))) (32 : Int)))))] [] [(0 ≤ (32 : Int))] (by kernel_rfl) (allP1 (by decide)) ?_
 refine srL [(0, aD (.int .u64) a0), (1, aD (.int .u64) a1), (6, aD (.int .u64) (bAnd .u64 a0 (4294967295 : Int))), (7, aD (.int .u64) (bShr .u64 a0 (32 : Int))), (9, aD (.int .u64) (bShr .u64 a1 (32 : Int))), (11, aD (.int .u64) (IntKind.wrap .u64 ((IntKind.wrap .u64 ((bShr .u64 a0 (32 : Int)) * (bAnd .u64 a1 (4294967295 : Int)))) + (bShr .u64 (IntKind.wrap .u64 ((bAnd .u64 a0 (4294967295 : Int)) * (bAnd .u64 a1 (4294967295 : Int)))) (32 : Int))))), (12, aD (.int .u64) (bAnd .u64 (IntKind.wrap .u64 ((IntKind.wrap .u64 ((bShr .u64 a0 (32 : Int)) * (bAnd .u64 a1 (4294967295 : Int)))) + (bShr .u64 (IntKind.wrap .u64 ((bAnd .u64 a0 (4294967295 : Int)) * (bAnd .u64 a1 (4294967295 : Int)))) (32 : Int)))) (4294967295 : Int)))] (by kernel_rfl) ?_
 refine sro [] [(0, aD (.int .u64) a0), (1, aD (.int .u64) a1), (6, aD (.int .u64) (bAnd .u64 a0 (4294967295 : Int))), (7, aD (.int .u64) (bShr .u64 a0 (32 : Int))), (9, aD (.int .u64) (bShr .u64 a1 (32 : Int))), (12, aD (.int .u64) (bAnd .u64 (IntKind.wrap .u64 ((IntKind.wrap .u64 ((bShr .u64 a0 (32 : Int)) * (bAnd .u64 a1 (4294967295 : Int)))) + (bShr .u64 (IntKind.wrap .u64 ((bAnd .u64 a0 (4294967295 : Int)) * (bAnd .u64 a1 (4294967295 : Int)))) (32 : Int)))) (4294967295 : Int))), (13, aD (.int .u64) (bShr .u64 (IntKind.wrap .u64 ((IntKind.wrap .u64 ((bShr .u64 a0 (32 : Int)) * (bAnd .u64 a1 (4294967295 : Int)))) + (bShr .u64 (IntKind.wrap .u64 ((bAnd .u64 a0 (4294967295 : Int)) * (bAnd .u64 a1 (4294967295 : Int)))) (32 : Int)))) (32 : Int)))] [] [(0 ≤ (32 : Int))] (by kernel_rfl) (allP1 (by decide)) ?_
 refine srL [(0, aD (.int .u64) a0), (1, aD (.int .u64) a1), (7, aD (.int .u64) (bShr .u64 a0 (32 : Int))), (9, aD (.int .u64) (bShr .u64 a1 (32 : Int))), (12, aD (.int .u64) (IntKind.wrap .u64 ((bAnd .u64 (IntKind.wrap .u64 ((IntKind.wrap .u64 ((bShr .u64 a0 (32 : Int)) * (bAnd .u64 a1 (4294967295 : Int)))) + (bShr .u64 (IntKind.wrap .u64 ((bAnd .u64 a0 (4294967295 : Int)) * (bAnd .u64 a1 (4294967295 : Int)))) (32 : Int)))) (4294967295 : Int)) + (IntKind.wrap .u64 ((bAnd .u64 a0 (4294967295 : Int)) * (bShr .u64 a1 (32 : Int))))))), (13, aD (.int .u64) (bShr .u64 (IntKind.wrap .u64 ((IntKind.wrap .u64 ((bShr .u64 a0 (32 : Int)) * (bAnd .u64 a1 (4294967295 : Int)))) + (bShr .u64 (IntKind.wrap .u64 ((bAnd .u64 a0 (4294967295 : Int)) * (bAnd .u64 a1 (4294967295 : Int)))) (32 : Int)))) (32 : Int)))] (by kernel_rfl) ?_
 refine sro [] [(0, aD (.int .u64) a0), (1, aD (.int .u64) a1), (4, aD (.int .u64) (IntKind.wrap .u64 ((IntKind.wrap .u64 ((IntKind.wrap .u64 ((bShr .u64 a0 (32 : Int)) * (bShr .u64 a1 (32 : Int)))) + (bShr .u64 (IntKind.wrap .u64 ((IntKind.wrap .u64 ((bShr .u64 a0 (32 : Int)) * (bAnd .u64 a1 (4294967295 : Int)))) + (bShr .u64 (IntKind.wrap .u64 ((bAnd .u64 a0 (4294967295 : Int)) * (bAnd .u64 a1 (4294967295 : Int)))) (32 : Int)))) (32 : Int)))) + (bShr .u64 (IntKind.wrap .u64 ((bAnd .u64 (IntKind.wrap .u64 ((IntKind.wrap .u64 ((bShr .u64 a0 (32 : Int)) * (bAnd .u64 a1 (4294967295 : Int)))) + (bShr .u64 (IntKind.wrap .u64 ((bAnd .u64 a0 (4294967295 : Int)) * (bAnd .u64 a1 (4294967295 : Int)))) (32 : Int)))) (4294967295 : Int)) + (IntKind.wrap .u64 ((bAnd .u64 a0 (4294967295 : Int)) * (bShr .u64 a1 (32 : Int)))))) (32 : Int)))))] [] [(0 ≤ (32 : Int))] (by kernel_rfl) (allP1 (by decide)) ?_
 refine srL [(4, aD (.int .u64) (IntKind.wrap .u64 ((IntKind.wrap .u64 ((IntKind.wrap .u64 ((bShr .u64 a0 (32 : Int)) * (bShr .u64 a1 (32 : Int)))) + (bShr .u64 (IntKind.wrap .u64 ((IntKind.wrap .u64 ((bShr .u64 a0 (32 : Int)) * (bAnd .u64 a1 (4294967295 : Int)))) + (bShr .u64 (IntKind.wrap .u64 ((bAnd .u64 a0 (4294967295 : Int)) * (bAnd .u64 a1 (4294967295 : Int)))) (32 : Int)))) (32 : Int)))) + (bShr .u64 (IntKind.wrap .u64 ((bAnd .u64 (IntKind.wrap .u64 ((IntKind.wrap .u64 ((bShr .u64 a0 (32 : Int)) * (bAnd .u64 a1 (4294967295 : Int)))) + (bShr .u64 (IntKind.wrap .u64 ((bAnd .u64 a0 (4294967295 : Int)) * (bAnd .u64 a1 (4294967295 : Int)))) (32 : Int)))) (4294967295 : Int)) + (IntKind.wrap .u64 ((bAnd .u64 a0 (4294967295 : Int)) * (bShr .u64 a1 (32 : Int)))))) (32 : Int))))), (5, aD (.int .u64) (IntKind.wrap .u64 (a0 * a1)))] (by kernel_rfl) ?_
 obtain rfl := Option.some.inj h
 refine wtL [(4, aD (.int .u64) (IntKind.wrap .u64 ((IntKind.wrap .u64 ((IntKind.wrap .u64 ((bShr .u64 a0 (32 : Int)) * (bShr .u64 a1 (32 : Int)))) + (bShr .u64 (IntKind.wrap .u64 ((IntKind.wrap .u64 ((bShr .u64 a0 (32 : Int)) * (bAnd .u64 a1 (4294967295 : Int)))) + (bShr .u64 (IntKind.wrap .u64 ((bAnd .u64 a0 (4294967295 : Int)) * (bAnd .u64 a1 (4294967295 : Int)))) (32 : Int)))) (32 : Int)))) + (bShr .u64 (IntKind.wrap .u64 ((bAnd .u64 (IntKind.wrap .u64 ((IntKind.wrap .u64 ((bShr .u64 a0 (32 : Int)) * (bAnd .u64 a1 (4294967295 : Int)))) + (bShr .u64 (IntKind.wrap .u64 ((bAnd .u64 a0 (4294967295 : Int)) * (bAnd .u64 a1 (4294967295 : Int)))) (32 : Int)))) (4294967295 : Int)) + (IntKind.wrap .u64 ((bAnd .u64 a0 (4294967295 : Int)) * (bShr .u64 a1 (32 : Int)))))) (32 : Int))))), (5, aD (.int .u64) (IntKind.wrap .u64 (a0 * a1)))] (by kernel_rfl) ?_
 exact retM (by kernel_rfl)

def math_bits_Mul (a0 : Int) (a1 : Int) : Option (Int × Int) :=
(math_bits_Mul64 a0 a1).bind fun r2 =>
some (r2.1, r2.2)
theorem math_bits_Mul_ok {a0 : Int} {a1 : Int} {r : (Int × Int)} (h : math_bits_Mul a0 a1 = some r) : FnC Try.prog 97 [aD (.int .u64) a0, aD (.int .u64) a1] [] (.tup [.dat (.int .u64) r.1, .dat (.int .u64) r.2]) [] := by
 refine fnC_of_W (B := bodyOf Try.f97) (n := 30) Try.func97 (by kernel_rfl) (by kernel_rfl) (by kernel_rfl) (by kernel_rfl) (by kernel_rfl) ?_
 intro K
 refine sr [(0, aD (.int .u64) a0), (1, aD (.int .u64) a1)] [] (by kernel_rfl) ?_
 refine W_seq (by kernel_rfl) ?_
 refine W_cond (o := .const (.bool false)) (b := false) (by kernel_rfl) (by kernel_rfl) (fun h1 => by have := (rfl : false = false).symm.trans h1; cases this) (fun h1 => ?_)
 refine wkL [(0, aD (.int .u64) a0), (1, aD (.int .u64) a1)] (by kernel_rfl) ?_
 refine seqQ_norm ?_
 refine W_seq (by kernel_rfl) ?_
 refine W_region (by kernel_rfl) ?_
 refine woL 2 [(23, aD (.int .u64) a0), (24, aD (.int .u64) a1)] (by kernel_rfl) ?_
 obtain ⟨r2, h3, h⟩ := bind_of h
 refine WO_call0 (us := [none, none]) (d := 25) (p := True) (j := 3) rfl ⟨by kernel_rfl, by kernel_rfl, by kernel_rfl⟩ trivial (math_bits_Mul64_ok h3) (by kernel_rfl) ?_
 refine wo 8 [(8, aD (.int .u64) r2.1), (9, aD (.int .u64) r2.2)] [] (by kernel_rfl) ?_
 refine wfL [(8, aD (.int .u64) r2.1), (9, aD (.int .u64) r2.2)] (by kernel_rfl) ?_
 refine seqQ_norm ?_
 refine srL [(4, aD (.int .u64) r2.1), (5, aD (.int .u64) r2.2)] (by kernel_rfl) ?_
 obtain rfl := Option.some.inj h
 refine wtL [(4, aD (.int .u64) r2.1), (5, aD (.int .u64) r2.2)] (by kernel_rfl) ?_
 exact retM (by kernel_rfl)

def slices_Repeat_Lintint_b4 (x42 : (Int × (List Int))) : Option (Flow (Int × (List Int)) (List Int)) :=
bif decide (x42.1 < (List.length x42.2 : Int)) then
((ck (0 ≤ x42.1 ∧ x42.1 ≤ (List.length x42.2 : Int) ∧ (List.length x42.2 : Int) ≤ (List.length x42.2 : Int))).bind fun _ =>
(ck (0 ≤ (0 : Int) ∧ (0 : Int) ≤ x42.1 ∧ x42.1 ≤ (List.length x42.2 : Int))).bind fun _ =>
some (.next (w64 (x42.1 + (min (x42.1 - (0 : Int)) ((List.length x42.2 : Int) - x42.1) : Int)), over x42.2 (Int.toNat x42.1) (List.take (Int.toNat (List.length x42.2 : Int) - Int.toNat x42.1) (List.take (Int.toNat x42.1 - Int.toNat (0 : Int)) (List.drop (Int.toNat (0 : Int)) x42.2))))))
else
(some (.done x42.2))
@[reducible] def slices_Repeat_Lintint_s5 (v : (Int × (List Int))) : Fr × LL := ([(7, .one (.slc 30)), (8, aI v.1)], [(30, .seq tI v.2)])
@[reducible] def slices_Repeat_Lintint_s6 (v : (List Int)) : Fr × LL := ([(7, .one (.slc 30))], [(30, .seq tI v)])
def slices_Repeat_Lintint (fuel : Nat) (a0 : (List Int)) (a1 : Int) : Option (List Int) :=
bif decide (a1 < (0 : Int)) then
(none)
else
((math_bits_Mul (IntKind.wrap .u64 ((List.length a0 : Int))) (IntKind.wrap .u64 (a1))).bind fun r30 =>
bif (decide (r30.1 > (0 : Int))) || (decide (r30.2 > (9223372036854775807 : Int))) then
(none)
else
((ck (0 ≤ w64 (r30.2) ∧ w64 (r30.2) = w64 (r30.2) ∧ w64 (r30.2) ≤ 4294967296)).bind fun _ =>
(ck (List.length (a0 : (List Int)) ≤ List.length (List.replicate (Int.toNat (w64 (r30.2))) (0 : Int) : (List Int)))).bind fun _ =>
(iter slices_Repeat_Lintint_b4 fuel ((List.length a0 : Int), over (List.replicate (Int.toNat (w64 (r30.2))) (0 : Int)) 0 a0)).bind fun v53 =>
some v53))
theorem slices_Repeat_Lintint_ok {fuel : Nat} {a0 : (List Int)} {a1 : Int} {r : (List Int)} (h : slices_Repeat_Lintint fuel a0 a1 = some r) : FnC Try.prog 78 [aD (.slice tI) a0, aI a1] [] (.one (.slc 30)) [(30, .seq tI r)] := by
 refine fnC_of_W (B := bodyOf Try.f78) (n := 48) Try.func78 (by kernel_rfl) (by kernel_rfl) (by kernel_rfl) (by kernel_rfl) (by kernel_rfl) ?_
 intro K
 refine sr [(0, aD (.slice tI) a0), (1, aI a1)] [] (by kernel_rfl) ?_
 refine W_seq (by kernel_rfl) ?_
 refine srL [(0, aD (.slice tI) a0), (1, aI a1), (10, aB (decide (a1 < (0 : Int))))] (by kernel_rfl) ?_
 refine W_cond (o := .tmp 10) (b := decide (a1 < (0 : Int))) (by kernel_rfl) (by kernel_rfl) (fun h29 => ?_) (fun h29 => ?_)
 ·replace h := ofT h29 h
  cases h
 ·replace h := ofF h29 h
  refine wkL [(0, aD (.slice tI) a0), (1, aI a1)] (by kernel_rfl) ?_
  refine seqQ_norm ?_
  refine W_seq (by kernel_rfl) ?_
  refine W_region (by kernel_rfl) ?_
  refine woL 5 [(0, aD (.slice tI) a0), (15, aD (.int .u64) (IntKind.wrap .u64 ((List.length a0 : Int)))), (17, aD (.int .u64) (IntKind.wrap .u64 (a1)))] (by kernel_rfl) ?_
  obtain ⟨r30, h31, h⟩ := bind_of h
  refine WO_call0 (us := [none, none]) (d := 18) (p := True) (j := 6) rfl ⟨by kernel_rfl, by kernel_rfl, by kernel_rfl⟩ trivial (math_bits_Mul_ok h31) (by kernel_rfl) ?_
  refine wo 11 [(0, aD (.slice tI) a0), (5, aD (.int .u64) r30.1), (6, aD (.int .u64) r30.2)] [] (by kernel_rfl) ?_
  refine wfL [(0, aD (.slice tI) a0), (5, aD (.int .u64) r30.1), (6, aD (.int .u64) r30.2)] (by kernel_rfl) ?_
  refine seqQ_norm ?_
  refine W_seq (by kernel_rfl) ?_
  refine srL [(0, aD (.slice tI) a0), (6, aD (.int .u64) r30.2), (26, aB ((decide (r30.1 > (0 : Int))) || (decide (r30.2 > (9223372036854775807 : Int)))))] (by kernel_rfl) ?_
  refine W_cond (o := .tmp 26) (b := (decide (r30.1 > (0 : Int))) || (decide (r30.2 > (9223372036854775807 : Int)))) (by kernel_rfl) (by kernel_rfl) (fun h33 => ?_) (fun h33 => ?_)
  ·replace h := ofT h33 h
   cases h
  ·replace h := ofF h33 h
   refine wkL [(0, aD (.slice tI) a0), (6, aD (.int .u64) r30.2)] (by kernel_rfl) ?_
   refine seqQ_norm ?_
   refine W_seq (by kernel_rfl) ?_
   obtain ⟨_, h34, h⟩ := bind_of h
   replace h34 := ck_some h34
   refine W_run 4 [] [0, 7] [30] (fr' := [(0, aD (.slice tI) a0), (7, .one (.slc 30))]) (L' := [(30, .seq tI (List.replicate (Int.toNat (w64 (r30.2))) (0 : Int)))]) (obs := [0 ≤ w64 (r30.2) ∧ w64 (r30.2) = w64 (r30.2) ∧ SmallLen (w64 (r30.2))]) (by kernel_rfl) (by kernel_rfl) (by kernel_rfl) (allP1 h34) ?_
   refine seqQ_norm ?_
   refine W_seq (by kernel_rfl) ?_
   obtain ⟨_, h35, h⟩ := bind_of h
   replace h35 := ck_some h35
   refine W_region (by kernel_rfl) ?_
   refine woL 2 [(7, .one (.slc 30)), (31, .one (.slc 30)), (32, aD (.slice tI) a0)] (by kernel_rfl) ?_
   refine WO_copy (d := 33) (s := 30) (o' := .seq tI (over (List.replicate (Int.toNat (w64 (r30.2))) (0 : Int)) 0 a0)) (r := (List.length a0 : Int)) (p := List.length (a0 : (List Int)) ≤ List.length (List.replicate (Int.toNat (w64 (r30.2))) (0 : Int) : (List Int))) (j := 3) rfl (by kernel_rfl) h35 ?_
   refine wo 4 [(7, .one (.slc 30)), (8, aI (List.length a0 : Int))] [(30, .seq tI (over (List.replicate (Int.toNat (w64 (r30.2))) (0 : Int)) 0 a0))] (by kernel_rfl) ?_
   refine wfL [(7, .one (.slc 30)), (8, aI (List.length a0 : Int))] (by kernel_rfl) ?_
   refine seqQ_norm ?_
   refine W_seq (by kernel_rfl) ?_
   refine W_block (id := 0) (by kernel_rfl) ?_
   obtain ⟨v53, h54, h⟩ := bind_of h
   refine W_weaken [7, 8] [30] (fr' := (slices_Repeat_Lintint_s5 ((List.length a0 : Int), over (List.replicate (Int.toNat (w64 (r30.2))) (0 : Int)) 0 a0)).1) (L' := (slices_Repeat_Lintint_s5 ((List.length a0 : Int), over (List.replicate (Int.toNat (w64 (r30.2))) (0 : Int)) 0 a0)).2) (by kernel_rfl) ?_
   refine W_cutK (W_loop (S := slices_Repeat_Lintint_s5) (J := (exQ (.exit 0) slices_Repeat_Lintint_s6)) (by kernel_rfl) ?_ fuel _ v53 h54) ?_
   ·rintro x42 s h
    refine W_seq (by kernel_rfl) ?_
    refine sr [(7, .one (.slc 30)), (8, aI x42.1), (37, aB (decide (x42.1 < (List.length x42.2 : Int))))] [(30, .seq tI x42.2)] (by kernel_rfl) ?_
    refine W_cond (o := .tmp 37) (b := decide (x42.1 < (List.length x42.2 : Int))) (by kernel_rfl) (by kernel_rfl) (fun h48 => ?_) (fun h48 => ?_)
    ·replace h := ofT h48 h
     refine wkL [(7, .one (.slc 30)), (8, aI x42.1)] (by kernel_rfl) ?_
     refine seqQ_norm ?_
     refine W_block (id := 1) (by kernel_rfl) ?_
     obtain ⟨_, h51, h⟩ := bind_of h
     replace h51 := ck_some h51
     obtain ⟨_, h52, h⟩ := bind_of h
     replace h52 := ck_some h52
     refine W_drawT5 7 [0] [] [] [7, 8, 38, 41, 44] [30] (out := [(38, aI x42.1), (39, .one (.slc 30)), (40, aI x42.1), (41, .one (.sub 30 1 x42.1 (List.length x42.2 : Int))), (42, .one (.slc 30)), (43, aI x42.1), (44, .one (.sub 30 1 (0 : Int) x42.1))]) (obs := [Cuts x42.1 (List.length x42.2 : Int) (List.length x42.2), Cuts (0 : Int) x42.1 (List.length x42.2)]) (calls := []) (fr' := [(7, .one (.slc 30)), (8, aI x42.1), (38, aI x42.1), (41, .one (.sub 30 1 x42.1 (List.length x42.2 : Int))), (44, .one (.sub 30 1 (0 : Int) x42.1))]) (L' := [(30, .seq tI x42.2)]) (by kernel_rfl) (by kernel_rfl) (by kernel_rfl) (by kernel_rfl) (allP2 h51 (allP1 h52)) allD0 (by kernel_rfl) ?_
     refine WO_copy (d := 45) (s := 30) (o' := .seq tI (over x42.2 (Int.toNat x42.1) (List.take (Int.toNat (List.length x42.2 : Int) - Int.toNat x42.1) (List.take (Int.toNat x42.1 - Int.toNat (0 : Int)) (List.drop (Int.toNat (0 : Int)) x42.2))))) (r := (min (x42.1 - (0 : Int)) ((List.length x42.2 : Int) - x42.1) : Int)) (p := True) (j := 8) rfl (by kernel_rfl) trivial ?_
     refine wo 10 [(7, .one (.slc 30)), (8, aI (w64 (x42.1 + (min (x42.1 - (0 : Int)) ((List.length x42.2 : Int) - x42.1) : Int))))] [(30, .seq tI (over x42.2 (Int.toNat x42.1) (List.take (Int.toNat (List.length x42.2 : Int) - Int.toNat x42.1) (List.take (Int.toNat x42.1 - Int.toNat (0 : Int)) (List.drop (Int.toNat (0 : Int)) x42.2)))))] (by kernel_rfl) ?_
     obtain rfl := Option.some.inj h
     refine wfL [(7, .one (.slc 30)), (8, aI (w64 (x42.1 + (min (x42.1 - (0 : Int)) ((List.length x42.2 : Int) - x42.1) : Int))))] (by kernel_rfl) ?_
     refine ⟨rfl, ?_⟩
     refine blockQ_norm ?_
     exact round_next' (by kernel_rfl) (by kernel_rfl)
    ·replace h := ofF h48 h
     obtain rfl := Option.some.inj h
     refine wxL 0 [(7, .one (.slc 30))] (by kernel_rfl) ?_
     refine seqQ_exit ?_
     refine round_exit ?_
     exact exM (by kernel_rfl)
   ·intro e fr L hJ
    obtain ⟨rfl, rfl, rfl⟩ := hJ
    refine ltk [(7, .one (.slc 30))] [(30, .seq tI v53)] (by kernel_rfl) ?_
    refine blockQ_hit ?_
    refine seqQ_norm ?_
    refine sr [(4, .one (.slc 30))] [(30, .seq tI v53)] (by kernel_rfl) ?_
    obtain rfl := Option.some.inj h
    refine wtL [(4, .one (.slc 30))] (by kernel_rfl) ?_
    exact retM (by kernel_rfl)

def gate_Maker_Put_i5_g1 (a1 : Int) (a2 : Int) (a3 : Int) (c5 : (List (Int × (Int × Int)))) (v4 : (Option (List ((Int × (Int × Int)) × Int)))) : Option (Int × (List (Int × (Int × Int))) × (Option (List ((Int × (Int × Int)) × Int)))) :=
bif !(Option.isSome (mGet (deqT t3) (Option.getD v4 []) (a1, a2, a3))) then
((ck ((List.length c5 : Int) + 1 ≤ 4294967296)).bind fun _ =>
(ck (Option.isSome v4 = true)).bind fun _ =>
some ((List.length c5 : Int), c5 ++ [(a1, a2, a3)], Option.map (fun l => mPut (deqT t3) l (a1, a2, a3) (List.length c5 : Int)) v4))
else
(some (Option.getD (mGet (deqT t3) (Option.getD v4 []) (a1, a2, a3)) (0 : Int), c5, v4))
@[reducible] def gate_Maker_Put_i5_s2 (c0 : Int) (c1 : Int) (c2 : (List (List (Int × (Int × Int))))) (c3 : (List Int)) (c4 : (List (List Int))) (v : (Int × (List (Int × (Int × Int))) × (Option (List ((Int × (Int × Int)) × Int))))) : Fr × LL := ([(10, aI v.1)], [(1000, .cells [.slc 2001, .slc 2002, .dat tI c0, .dat tI c1, .dat (.slice (.slice t3)) c2, .dat (.slice tI) c3, .dat (.slice (.slice tI)) c4]), (2001, .seq t3 v.2.1), (2002, .map t3 tI v.2.2)])
@[reducible] def gate_Maker_Put_i5_s3 (a1 : Int) (a2 : Int) (a3 : Int) (c0 : Int) (c1 : Int) (c2 : (List (List (Int × (Int × Int))))) (c3 : (List Int)) (c4 : (List (List Int))) (c5 : (List (Int × (Int × Int)))) (v : (Option (List ((Int × (Int × Int)) × Int)))) : Fr × LL := ([(0, .one (.ptr 1000 0)), (9, .one (.ptr 9 0))], [(1000, .cells [.slc 2001, .slc 2002, .dat tI c0, .dat tI c1, .dat (.slice (.slice t3)) c2, .dat (.slice tI) c3, .dat (.slice (.slice tI)) c4]), (9, .one t3 (a1, a2, a3)), (2001, .seq t3 c5), (2002, .map t3 tI v)])
def gate_Maker_Put_i5 (a1 : Int) (a2 : Int) (a3 : Int) (c0 : Int) (c1 : Int) (c2 : (List (List (Int × (Int × Int))))) (c3 : (List Int)) (c4 : (List (List Int))) (c5 : (List (Int × (Int × Int)))) (c6 : (Option (List ((Int × (Int × Int)) × Int)))) : Option (Int × Int × Int × (List (List (Int × (Int × Int)))) × (List Int) × (List (List Int)) × (List (Int × (Int × Int))) × (Option (List ((Int × (Int × Int)) × Int)))) :=
(bif Option.isNone c6 then
(some (some [] : Option (List ((Int × (Int × Int)) × Int))))
else
(some c6)).bind fun v4 =>
(gate_Maker_Put_i5_g1 a1 a2 a3 c5 v4).bind fun v15 =>
some (v15.1, c0, c1, c2, c3, c4, v15.2.1, v15.2.2)
theorem gate_Maker_Put_i5_ok {a1 : Int} {a2 : Int} {a3 : Int} {c0 : Int} {c1 : Int} {c2 : (List (List (Int × (Int × Int))))} {c3 : (List Int)} {c4 : (List (List Int))} {c5 : (List (Int × (Int × Int)))} {c6 : (Option (List ((Int × (Int × Int)) × Int)))} {r : (Int × Int × Int × (List (List (Int × (Int × Int)))) × (List Int) × (List (List Int)) × (List (Int × (Int × Int))) × (Option (List ((Int × (Int × Int)) × Int))))} (h : gate_Maker_Put_i5 a1 a2 a3 c0 c1 c2 c3 c4 c5 c6 = some r) : FnC Try.prog 77 [.one (.ptr 1000 0), aI a1, aI a2, aI a3] [(1000, .cells [.slc 2001, .slc 2002, .dat tI c0, .dat tI c1, .dat (.slice (.slice t3)) c2, .dat (.slice tI) c3, .dat (.slice (.slice tI)) c4]), (2001, .seq t3 c5), (2002, .map t3 tI c6)] (aI r.1) [(1000, .cells [.slc 2001, .slc 2002, .dat tI r.2.1, .dat tI r.2.2.1, .dat (.slice (.slice t3)) r.2.2.2.1, .dat (.slice tI) r.2.2.2.2.1, .dat (.slice (.slice tI)) r.2.2.2.2.2.1]), (2001, .seq t3 r.2.2.2.2.2.2.1), (2002, .map t3 tI r.2.2.2.2.2.2.2)] := by
 refine fnC_of_W (B := bodyOf Try.f77) (n := 58) Try.func77 (by kernel_rfl) (by kernel_rfl) (by kernel_rfl) (by kernel_rfl) (by kernel_rfl) ?_
 intro K
 refine sr [(0, .one (.ptr 1000 0)), (1, aI a1), (2, aI a2), (3, aI a3)] [(1000, .cells [.slc 2001, .slc 2002, .dat tI c0, .dat tI c1, .dat (.slice (.slice t3)) c2, .dat (.slice tI) c3, .dat (.slice (.slice tI)) c4]), (2001, .seq t3 c5), (2002, .map t3 tI c6)] (by kernel_rfl) ?_
 refine sro [(9, .typed)] [(0, .one (.ptr 1000 0)), (9, .one (.ptr 9 0))] [(1000, .cells [.slc 2001, .slc 2002, .dat tI c0, .dat tI c1, .dat (.slice (.slice t3)) c2, .dat (.slice tI) c3, .dat (.slice (.slice tI)) c4]), (9, .one t3 (a1, a2, a3)), (2001, .seq t3 c5), (2002, .map t3 tI c6)] [True] (by kernel_rfl) (allP1 trivial) ?_
 refine W_seq (by kernel_rfl) ?_
 obtain ⟨v4, h5, h⟩ := bind_of h
 refine W_cutK (Q' := (exQ .normal (gate_Maker_Put_i5_s3 a1 a2 a3 c0 c1 c2 c3 c4 c5)) v4) ?_ ?_
 ·replace h := h5
  refine sr [(0, .one (.ptr 1000 0)), (9, .one (.ptr 9 0)), (20, aB (Option.isNone c6))] [(1000, .cells [.slc 2001, .slc 2002, .dat tI c0, .dat tI c1, .dat (.slice (.slice t3)) c2, .dat (.slice tI) c3, .dat (.slice (.slice tI)) c4]), (9, .one t3 (a1, a2, a3)), (2001, .seq t3 c5), (2002, .map t3 tI c6)] (by kernel_rfl) ?_
  refine W_cond (o := .tmp 20) (b := Option.isNone c6) (by kernel_rfl) (by kernel_rfl) (fun h3 => ?_) (fun h3 => ?_)
  ·replace h := ofT h3 h
   refine W_region (by kernel_rfl) ?_
   refine woo 5 [] [(0, .one (.ptr 1000 0)), (9, .one (.ptr 9 0))] [(9, .one t3 (a1, a2, a3)), (22, .map t3 tI (some [] : Option (List ((Int × (Int × Int)) × Int)))), (1000, .cells [.slc 2001, .slc 22, .dat tI c0, .dat tI c1, .dat (.slice (.slice t3)) c2, .dat (.slice tI) c3, .dat (.slice (.slice tI)) c4]), (2001, .seq t3 c5), (2002, .map t3 tI c6)] [True] (by kernel_rfl) (allP1 trivial) ?_
   obtain rfl := Option.some.inj h
   refine WO_ren 22 2002 (by kernel_rfl) ?_
   refine wf [(0, .one (.ptr 1000 0)), (9, .one (.ptr 9 0))] [(1000, .cells [.slc 2001, .slc 2002, .dat tI c0, .dat tI c1, .dat (.slice (.slice t3)) c2, .dat (.slice tI) c3, .dat (.slice (.slice tI)) c4]), (9, .one t3 (a1, a2, a3)), (2001, .seq t3 c5), (2002, .map t3 tI (some [] : Option (List ((Int × (Int × Int)) × Int))))] (by kernel_rfl) ?_
   exact exM (by kernel_rfl)
  ·replace h := ofF h3 h
   obtain rfl := Option.some.inj h
   refine wkL [(0, .one (.ptr 1000 0)), (9, .one (.ptr 9 0))] (by kernel_rfl) ?_
   exact exM (by kernel_rfl)
 ·intro e fr L hJ
  obtain ⟨rfl, rfl, rfl⟩ := hJ
  refine ltk [(0, .one (.ptr 1000 0)), (9, .one (.ptr 9 0))] [(1000, .cells [.slc 2001, .slc 2002, .dat tI c0, .dat tI c1, .dat (.slice (.slice t3)) c2, .dat (.slice tI) c3, .dat (.slice (.slice tI)) c4]), (9, .one t3 (a1, a2, a3)), (2001, .seq t3 c5), (2002, .map t3 tI v4)] (by kernel_rfl) ?_
  refine seqQ_norm ?_
  refine W_seq (by kernel_rfl) ?_
  refine W_draw2 10 [] [] [0, 9, 10, 11] [1000, 9, 2001, 2002] (fr' := [(0, .one (.ptr 1000 0)), (9, .one (.ptr 9 0)), (10, aI (Option.getD (mGet (deqT t3) (Option.getD v4 []) (a1, a2, a3)) (0 : Int))), (11, aB (Option.isSome (mGet (deqT t3) (Option.getD v4 []) (a1, a2, a3))))]) (L' := [(1000, .cells [.slc 2001, .slc 2002, .dat tI c0, .dat tI c1, .dat (.slice (.slice t3)) c2, .dat (.slice tI) c3, .dat (.slice (.slice tI)) c4]), (9, .one t3 (a1, a2, a3)), (2001, .seq t3 c5), (2002, .map t3 tI v4)]) (out := [(26, .one (.ptr 1000 0)), (27, .one (.ptr 1000 0)), (28, .one (.ptr 1000 1)), (29, .one (.slc 2002)), (30, aD t3 (a1, a2, a3)), (31, .tup [.dat tI (Option.getD (mGet (deqT t3) (Option.getD v4 []) (a1, a2, a3)) (0 : Int)), .dat .bool (Option.isSome (mGet (deqT t3) (Option.getD v4 []) (a1, a2, a3)))]), (25, .tup [.dat tI (Option.getD (mGet (deqT t3) (Option.getD v4 []) (a1, a2, a3)) (0 : Int)), .dat .bool (Option.isSome (mGet (deqT t3) (Option.getD v4 []) (a1, a2, a3)))]), (32, aI (Option.getD (mGet (deqT t3) (Option.getD v4 []) (a1, a2, a3)) (0 : Int))), (33, aB (Option.isSome (mGet (deqT t3) (Option.getD v4 []) (a1, a2, a3)))), (10, aI (Option.getD (mGet (deqT t3) (Option.getD v4 []) (a1, a2, a3)) (0 : Int)))]) (obs := []) (obs2 := []) (calls := []) (by kernel_rfl) (by kernel_rfl) (by kernel_rfl) (by kernel_rfl) allP0 allC0 (by kernel_rfl) allP0 ?_
  refine seqQ_norm ?_
  refine W_seq (by kernel_rfl) ?_
  obtain ⟨v15, h16, h⟩ := bind_of h
  refine W_cutK (Q' := (exQ .normal (gate_Maker_Put_i5_s2 c0 c1 c2 c3 c4)) v15) ?_ ?_
  ·replace h := h16
   refine sr [(0, .one (.ptr 1000 0)), (9, .one (.ptr 9 0)), (10, aI (Option.getD (mGet (deqT t3) (Option.getD v4 []) (a1, a2, a3)) (0 : Int))), (35, aB (!(Option.isSome (mGet (deqT t3) (Option.getD v4 []) (a1, a2, a3)))))] [(1000, .cells [.slc 2001, .slc 2002, .dat tI c0, .dat tI c1, .dat (.slice (.slice t3)) c2, .dat (.slice tI) c3, .dat (.slice (.slice tI)) c4]), (9, .one t3 (a1, a2, a3)), (2001, .seq t3 c5), (2002, .map t3 tI v4)] (by kernel_rfl) ?_
   refine W_cond (o := .tmp 35) (b := !(Option.isSome (mGet (deqT t3) (Option.getD v4 []) (a1, a2, a3)))) (by kernel_rfl) (by kernel_rfl) (fun h12 => ?_) (fun h12 => ?_)
   ·replace h := ofT h12 h
    refine srL [(0, .one (.ptr 1000 0)), (9, .one (.ptr 9 0)), (10, aI (List.length c5 : Int))] (by kernel_rfl) ?_
    refine W_seq (by kernel_rfl) ?_
    obtain ⟨_, h13, h⟩ := bind_of h
    replace h13 := ck_some h13
    refine W_draw5 7 [0] [] [] [0, 9, 10] [1000, 9, 2001, 2002] (fr' := [(0, .one (.ptr 1000 0)), (9, .one (.ptr 9 0)), (10, aI (List.length c5 : Int))]) (L' := [(1000, .cells [.slc 2001, .slc 2002, .dat tI c0, .dat tI c1, .dat (.slice (.slice t3)) c2, .dat (.slice tI) c3, .dat (.slice (.slice tI)) c4]), (9, .one t3 (a1, a2, a3)), (2001, .seq t3 (c5 ++ [(a1, a2, a3)])), (2002, .map t3 tI v4)]) (out := [(41, .one (.ptr 1000 0)), (42, .one (.ptr 1000 0)), (43, .one (.ptr 1000 0)), (44, .one (.ptr 1000 0)), (45, .one (.slc 2001)), (46, aD t3 (a1, a2, a3)), (47, aD (.slice t3) [(a1, a2, a3)])]) (obs := [True]) (obs2 := [SmallLen (List.length c5 + List.length [(a1, a2, a3)]), True]) (calls := []) (by kernel_rfl) (by kernel_rfl) (by kernel_rfl) (by kernel_rfl) (allP1 trivial) allD0 (by kernel_rfl) (allP2 h13 (allP1 trivial)) ?_
    refine seqQ_norm ?_
    obtain ⟨_, h14, h⟩ := bind_of h
    replace h14 := ck_some h14
    obtain rfl := Option.some.inj h
    refine W_draw2 6 [] [] [10] [1000, 2001, 2002] (fr' := [(10, aI (List.length c5 : Int))]) (L' := [(1000, .cells [.slc 2001, .slc 2002, .dat tI c0, .dat tI c1, .dat (.slice (.slice t3)) c2, .dat (.slice tI) c3, .dat (.slice (.slice tI)) c4]), (2001, .seq t3 (c5 ++ [(a1, a2, a3)])), (2002, .map t3 tI (Option.map (fun l => mPut (deqT t3) l (a1, a2, a3) (List.length c5 : Int)) v4))]) (out := [(51, .one (.ptr 1000 0)), (52, .one (.ptr 1000 0)), (53, .one (.ptr 1000 1)), (54, .one (.slc 2002)), (55, aD t3 (a1, a2, a3)), (56, aI (List.length c5 : Int))]) (obs := []) (obs2 := [Option.isSome v4 = true]) (calls := []) (by kernel_rfl) (by kernel_rfl) (by kernel_rfl) (by kernel_rfl) allP0 allC0 (by kernel_rfl) (allP1 h14) ?_
    exact exM (by kernel_rfl)
   ·replace h := ofF h12 h
    obtain rfl := Option.some.inj h
    refine wk [(10, aI (Option.getD (mGet (deqT t3) (Option.getD v4 []) (a1, a2, a3)) (0 : Int)))] [(1000, .cells [.slc 2001, .slc 2002, .dat tI c0, .dat tI c1, .dat (.slice (.slice t3)) c2, .dat (.slice tI) c3, .dat (.slice (.slice tI)) c4]), (2001, .seq t3 c5), (2002, .map t3 tI v4)] (by kernel_rfl) ?_
    exact exM (by kernel_rfl)
  ·intro e fr L hJ
   obtain ⟨rfl, rfl, rfl⟩ := hJ
   refine ltk [(10, aI v15.1)] [(1000, .cells [.slc 2001, .slc 2002, .dat tI c0, .dat tI c1, .dat (.slice (.slice t3)) c2, .dat (.slice tI) c3, .dat (.slice (.slice tI)) c4]), (2001, .seq t3 v15.2.1), (2002, .map t3 tI v15.2.2)] (by kernel_rfl) ?_
   refine seqQ_norm ?_
   refine srL [(8, aI v15.1)] (by kernel_rfl) ?_
   obtain rfl := Option.some.inj h
   refine wtL [(8, aI v15.1)] (by kernel_rfl) ?_
   exact retM (by kernel_rfl)

def unroll_build_both_i2 (a1 : Int) (a2 : Int) (c0 : Int) (c1 : Int) (c2 : (List (List (Int × (Int × Int))))) (c3 : (List Int)) (c4 : (List (List Int))) (c5 : (List (Int × (Int × Int)))) (c6 : (Option (List ((Int × (Int × Int)) × Int)))) : Option (Int × Int × Int × (List (List (Int × (Int × Int)))) × (List Int) × (List (List Int)) × (List (Int × (Int × Int))) × (Option (List ((Int × (Int × Int)) × Int)))) :=
bif (decide (a1 < (0 : Int))) || (decide (a2 < (0 : Int))) then
(some ((-1 : Int), c0, c1, c2, c3, c4, c5, c6))
else
((gate_Maker_Put_i5 (3 : Int) a1 a2 c0 c1 c2 c3 c4 c5 c6).bind fun r2 =>
some (r2.1, r2.2.1, r2.2.2.1, r2.2.2.2.1, r2.2.2.2.2.1, r2.2.2.2.2.2.1, r2.2.2.2.2.2.2.1, r2.2.2.2.2.2.2.2))
theorem unroll_build_both_i2_ok {a1 : Int} {a2 : Int} {c0 : Int} {c1 : Int} {c2 : (List (List (Int × (Int × Int))))} {c3 : (List Int)} {c4 : (List (List Int))} {c5 : (List (Int × (Int × Int)))} {c6 : (Option (List ((Int × (Int × Int)) × Int)))} {r : (Int × Int × Int × (List (List (Int × (Int × Int)))) × (List Int) × (List (List Int)) × (List (Int × (Int × Int))) × (Option (List ((Int × (Int × Int)) × Int))))} (h : unroll_build_both_i2 a1 a2 c0 c1 c2 c3 c4 c5 c6 = some r) : FnC Try.prog 80 [.one (.ptr 1000 0), aI a1, aI a2] [(1000, .cells [.slc 2001, .slc 2002, .dat tI c0, .dat tI c1, .dat (.slice (.slice t3)) c2, .dat (.slice tI) c3, .dat (.slice (.slice tI)) c4]), (2001, .seq t3 c5), (2002, .map t3 tI c6)] (aI r.1) [(1000, .cells [.slc 2001, .slc 2002, .dat tI r.2.1, .dat tI r.2.2.1, .dat (.slice (.slice t3)) r.2.2.2.1, .dat (.slice tI) r.2.2.2.2.1, .dat (.slice (.slice tI)) r.2.2.2.2.2.1]), (2001, .seq t3 r.2.2.2.2.2.2.1), (2002, .map t3 tI r.2.2.2.2.2.2.2)] := by
 refine fnC_of_W (B := bodyOf Try.f80) (n := 19) Try.func80 (by kernel_rfl) (by kernel_rfl) (by kernel_rfl) (by kernel_rfl) (by kernel_rfl) ?_
 intro K
 refine sr [(0, .one (.ptr 1000 0)), (1, aI a1), (2, aI a2)] [(1000, .cells [.slc 2001, .slc 2002, .dat tI c0, .dat tI c1, .dat (.slice (.slice t3)) c2, .dat (.slice tI) c3, .dat (.slice (.slice tI)) c4]), (2001, .seq t3 c5), (2002, .map t3 tI c6)] (by kernel_rfl) ?_
 refine W_seq (by kernel_rfl) ?_
 refine srL [(0, .one (.ptr 1000 0)), (1, aI a1), (2, aI a2), (12, aB ((decide (a1 < (0 : Int))) || (decide (a2 < (0 : Int)))))] (by kernel_rfl) ?_
 refine W_cond (o := .tmp 12) (b := (decide (a1 < (0 : Int))) || (decide (a2 < (0 : Int)))) (by kernel_rfl) (by kernel_rfl) (fun h1 => ?_) (fun h1 => ?_)
 ·replace h := ofT h1 h
  refine srL [(6, aI (-1 : Int))] (by kernel_rfl) ?_
  obtain rfl := Option.some.inj h
  refine wtL [(6, aI (-1 : Int))] (by kernel_rfl) ?_
  refine seqQ_ret ?_
  exact retM (by kernel_rfl)
 ·replace h := ofF h1 h
  refine wkL [(0, .one (.ptr 1000 0)), (1, aI a1), (2, aI a2)] (by kernel_rfl) ?_
  refine seqQ_norm ?_
  refine W_seq (by kernel_rfl) ?_
  refine W_region (by kernel_rfl) ?_
  refine woL 5 [(15, .one (.ptr 1000 0)), (16, aI a1), (17, aI a2)] (by kernel_rfl) ?_
  obtain ⟨r2, h3, h⟩ := bind_of h
  refine WO_lend2 [(1000, 1000), (2001, 2001), (2002, 2002)] (us := [none, none, none, none]) (d := 18) (p := True) (j := 6) rfl ⟨by kernel_rfl, by kernel_rfl, by kernel_rfl⟩ trivial (gate_Maker_Put_i5_ok h3) (by kernel_rfl) (by kernel_rfl) ?_
  refine wo 7 [(6, aI r2.1)] [(1000, .cells [.slc 2001, .slc 2002, .dat tI r2.2.1, .dat tI r2.2.2.1, .dat (.slice (.slice t3)) r2.2.2.2.1, .dat (.slice tI) r2.2.2.2.2.1, .dat (.slice (.slice tI)) r2.2.2.2.2.2.1]), (2001, .seq t3 r2.2.2.2.2.2.2.1), (2002, .map t3 tI r2.2.2.2.2.2.2.2)] (by kernel_rfl) ?_
  refine wfL [(6, aI r2.1)] (by kernel_rfl) ?_
  refine seqQ_norm ?_
  obtain rfl := Option.some.inj h
  refine wtL [(6, aI r2.1)] (by kernel_rfl) ?_
  exact retM (by kernel_rfl)

def unroll_build_some_i2_g6 (x62 : (Int × Int × Int × (List (List (Int × (Int × Int)))) × (List Int) × (List (List Int)) × (List (Int × (Int × Int))) × (Option (List ((Int × (Int × Int)) × Int))))) (v64 : Int) : Option (Int × Int × Int × (List (List (Int × (Int × Int)))) × (List Int) × (List (List Int)) × (List (Int × (Int × Int))) × (Option (List ((Int × (Int × Int)) × Int)))) :=
bif decide (v64 < (0 : Int)) then
(some (x62.1, x62.2.1, x62.2.2.1, x62.2.2.2.1, x62.2.2.2.2.1, x62.2.2.2.2.2.1, x62.2.2.2.2.2.2.1, x62.2.2.2.2.2.2.2))
else
(bif decide (x62.1 < (0 : Int)) then
(some (v64, x62.2.1, x62.2.2.1, x62.2.2.2.1, x62.2.2.2.2.1, x62.2.2.2.2.2.1, x62.2.2.2.2.2.2.1, x62.2.2.2.2.2.2.2))
else
((gate_Maker_Put_i5 (4 : Int) x62.1 v64 x62.2.1 x62.2.2.1 x62.2.2.2.1 x62.2.2.2.2.1 x62.2.2.2.2.2.1 x62.2.2.2.2.2.2.1 x62.2.2.2.2.2.2.2).bind fun r77 =>
some (r77.1, r77.2.1, r77.2.2.1, r77.2.2.2.1, r77.2.2.2.2.1, r77.2.2.2.2.2.1, r77.2.2.2.2.2.2.1, r77.2.2.2.2.2.2.2)))
@[reducible] def unroll_build_some_i2_s7 (c5 : (List Int)) (i61 : Int) (v : (Int × Int × Int × (List (List (Int × (Int × Int)))) × (List Int) × (List (List Int)) × (List (Int × (Int × Int))) × (Option (List ((Int × (Int × Int)) × Int))))) : Fr × LL := ([(0, .one (.ptr 1000 0)), (5, aI v.1), (8, .one (.slc 1001)), (9, aI (List.length c5 : Int)), (10, aI i61)], [(1000, .cells [.slc 2002, .slc 2003, .dat tI v.2.1, .dat tI v.2.2.1, .dat (.slice (.slice t3)) v.2.2.2.1, .dat (.slice tI) v.2.2.2.2.1, .dat (.slice (.slice tI)) v.2.2.2.2.2.1]), (1001, .seq tI c5), (2002, .seq t3 v.2.2.2.2.2.2.1), (2003, .map t3 tI v.2.2.2.2.2.2.2)])
def unroll_build_some_i2_b8 (i61 : Int) (v64 : Int) (x62 : (Int × Int × Int × (List (List (Int × (Int × Int)))) × (List Int) × (List (List Int)) × (List (Int × (Int × Int))) × (Option (List ((Int × (Int × Int)) × Int))))) : Option (Flow (Int × Int × Int × (List (List (Int × (Int × Int)))) × (List Int) × (List (List Int)) × (List (Int × (Int × Int))) × (Option (List ((Int × (Int × Int)) × Int)))) (Int × Int × Int × (List (List (Int × (Int × Int)))) × (List Int) × (List (List Int)) × (List (Int × (Int × Int))) × (Option (List ((Int × (Int × Int)) × Int))))) :=
(unroll_build_some_i2_g6 x62 v64).bind fun v79 =>
some (.next (v79.1, v79.2.1, v79.2.2.1, v79.2.2.2.1, v79.2.2.2.2.1, v79.2.2.2.2.2.1, v79.2.2.2.2.2.2.1, v79.2.2.2.2.2.2.2))
@[reducible] def unroll_build_some_i2_s9 (c5 : (List Int)) (v : Int × (Int × Int × Int × (List (List (Int × (Int × Int)))) × (List Int) × (List (List Int)) × (List (Int × (Int × Int))) × (Option (List ((Int × (Int × Int)) × Int))))) : Fr × LL := ([(0, .one (.ptr 1000 0)), (5, aI v.2.1), (8, .one (.slc 1001)), (9, aI (List.length c5 : Int)), (10, aI v.1)], [(1000, .cells [.slc 2002, .slc 2003, .dat tI v.2.2.1, .dat tI v.2.2.2.1, .dat (.slice (.slice t3)) v.2.2.2.2.1, .dat (.slice tI) v.2.2.2.2.2.1, .dat (.slice (.slice tI)) v.2.2.2.2.2.2.1]), (1001, .seq tI c5), (2002, .seq t3 v.2.2.2.2.2.2.2.1), (2003, .map t3 tI v.2.2.2.2.2.2.2.2)])
@[reducible] def unroll_build_some_i2_s10 (c5 : (List Int)) (v : (Int × Int × Int × (List (List (Int × (Int × Int)))) × (List Int) × (List (List Int)) × (List (Int × (Int × Int))) × (Option (List ((Int × (Int × Int)) × Int))))) : Fr × LL := ([(5, aI v.1)], [(1000, .cells [.slc 2002, .slc 2003, .dat tI v.2.1, .dat tI v.2.2.1, .dat (.slice (.slice t3)) v.2.2.2.1, .dat (.slice tI) v.2.2.2.2.1, .dat (.slice (.slice tI)) v.2.2.2.2.2.1]), (1001, .seq tI c5), (2002, .seq t3 v.2.2.2.2.2.2.1), (2003, .map t3 tI v.2.2.2.2.2.2.2)])
def unroll_build_some_i2 (c0 : Int) (c1 : Int) (c2 : (List (List (Int × (Int × Int))))) (c3 : (List Int)) (c4 : (List (List Int))) (c5 : (List Int)) (c6 : (List (Int × (Int × Int)))) (c7 : (Option (List ((Int × (Int × Int)) × Int)))) : Option (Int × Int × Int × (List (List (Int × (Int × Int)))) × (List Int) × (List (List Int)) × (List Int) × (List (Int × (Int × Int))) × (Option (List ((Int × (Int × Int)) × Int)))) :=
(forL unroll_build_some_i2_b8 (fun x62 => (x62.1, x62.2.1, x62.2.2.1, x62.2.2.2.1, x62.2.2.2.2.1, x62.2.2.2.2.2.1, x62.2.2.2.2.2.2.1, x62.2.2.2.2.2.2.2)) c5 0 ((-1 : Int), c0, c1, c2, c3, c4, c6, c7)).bind fun v82 =>
some (v82.1, v82.2.1, v82.2.2.1, v82.2.2.2.1, v82.2.2.2.2.1, v82.2.2.2.2.2.1, c5, v82.2.2.2.2.2.2.1, v82.2.2.2.2.2.2.2)
theorem unroll_build_some_i2_ok {c0 : Int} {c1 : Int} {c2 : (List (List (Int × (Int × Int))))} {c3 : (List Int)} {c4 : (List (List Int))} {c5 : (List Int)} {c6 : (List (Int × (Int × Int)))} {c7 : (Option (List ((Int × (Int × Int)) × Int)))} {r : (Int × Int × Int × (List (List (Int × (Int × Int)))) × (List Int) × (List (List Int)) × (List Int) × (List (Int × (Int × Int))) × (Option (List ((Int × (Int × Int)) × Int))))} (h : unroll_build_some_i2 c0 c1 c2 c3 c4 c5 c6 c7 = some r) : FnC Try.prog 81 [.one (.ptr 1000 0), .one (.slc 1001)] [(1000, .cells [.slc 2002, .slc 2003, .dat tI c0, .dat tI c1, .dat (.slice (.slice t3)) c2, .dat (.slice tI) c3, .dat (.slice (.slice tI)) c4]), (1001, .seq tI c5), (2002, .seq t3 c6), (2003, .map t3 tI c7)] (aI r.1) [(1000, .cells [.slc 2002, .slc 2003, .dat tI r.2.1, .dat tI r.2.2.1, .dat (.slice (.slice t3)) r.2.2.2.1, .dat (.slice tI) r.2.2.2.2.1, .dat (.slice (.slice tI)) r.2.2.2.2.2.1]), (1001, .seq tI r.2.2.2.2.2.2.1), (2002, .seq t3 r.2.2.2.2.2.2.2.1), (2003, .map t3 tI r.2.2.2.2.2.2.2.2)] := by
 refine fnC_of_W (B := bodyOf Try.f81) (n := 29) Try.func81 (by kernel_rfl) (by kernel_rfl) (by kernel_rfl) (by kernel_rfl) (by kernel_rfl) ?_
 intro K
 refine sr [(0, .one (.ptr 1000 0)), (1, .one (.slc 1001))] [(1000, .cells [.slc 2002, .slc 2003, .dat tI c0, .dat tI c1, .dat (.slice (.slice t3)) c2, .dat (.slice tI) c3, .dat (.slice (.slice tI)) c4]), (1001, .seq tI c5), (2002, .seq t3 c6), (2003, .map t3 tI c7)] (by kernel_rfl) ?_
 refine srL [(0, .one (.ptr 1000 0)), (1, .one (.slc 1001)), (5, aI (-1 : Int))] (by kernel_rfl) ?_
 refine W_seq (by kernel_rfl) ?_
 refine srL [(0, .one (.ptr 1000 0)), (5, aI (-1 : Int)), (8, .one (.slc 1001)), (9, aI (List.length c5 : Int)), (10, aI (0 : Int))] (by kernel_rfl) ?_
 refine W_block (id := 0) (by kernel_rfl) ?_
 obtain ⟨v82, h83, h⟩ := bind_of h
 refine W_lenS (s := 1001) (u := tI) (xs := c5) (by kernel_rfl) (fun h86 => ?_)
 obtain ⟨h84, h85⟩ := forL_iter h86 h83
 refine W_weaken [0, 5, 8, 9, 10] [1000, 1001, 2002, 2003] (fr' := ((unroll_build_some_i2_s9 c5) ((0 : Int), ((-1 : Int), c0, c1, c2, c3, c4, c6, c7))).1) (L' := ((unroll_build_some_i2_s9 c5) ((0 : Int), ((-1 : Int), c0, c1, c2, c3, c4, c6, c7))).2) (by kernel_rfl) ?_
 refine W_cutK (W_loop (S := (unroll_build_some_i2_s9 c5)) (J := (exQ (.exit 0) (unroll_build_some_i2_s10 c5))) (by kernel_rfl) ?_ h84 _ v82 h85) ?_
 ·rintro ⟨i61, x62⟩ s h
  refine sr [(0, .one (.ptr 1000 0)), (5, aI x62.1), (8, .one (.slc 1001)), (9, aI (List.length c5 : Int)), (10, aI i61), (11, aB (decide (i61 < (List.length c5 : Int))))] [(1000, .cells [.slc 2002, .slc 2003, .dat tI x62.2.1, .dat tI x62.2.2.1, .dat (.slice (.slice t3)) x62.2.2.2.1, .dat (.slice tI) x62.2.2.2.2.1, .dat (.slice (.slice tI)) x62.2.2.2.2.2.1]), (1001, .seq tI c5), (2002, .seq t3 x62.2.2.2.2.2.2.1), (2003, .map t3 tI x62.2.2.2.2.2.2.2)] (by kernel_rfl) ?_
  refine W_seq (by kernel_rfl) ?_
  refine W_cond (o := .tmp 11) (b := decide (i61 < (List.length c5 : Int))) (by kernel_rfl) (by kernel_rfl) (fun h66 => ?_) (fun h66 => ?_)
  ·replace h := stepL_true h66 h
   obtain ⟨v64, _, h65, h, rfl⟩ := h
   refine wkL [(0, .one (.ptr 1000 0)), (5, aI x62.1), (8, .one (.slc 1001)), (9, aI (List.length c5 : Int)), (10, aI i61)] (by kernel_rfl) ?_
   refine seqQ_norm ?_
   refine W_seq (by kernel_rfl) ?_
   obtain ⟨v79, h80, h⟩ := bind_of h
   refine W_cutK (Q' := (exQ .normal (unroll_build_some_i2_s7 c5 i61)) v79) ?_ ?_
   ·replace h := h80
    refine W_block (id := 1) (by kernel_rfl) ?_
    refine sro [(3, .val (.dat tI v64))] [(0, .one (.ptr 1000 0)), (5, aI x62.1), (7, aI v64), (8, .one (.slc 1001)), (9, aI (List.length c5 : Int)), (10, aI i61)] [(1000, .cells [.slc 2002, .slc 2003, .dat tI x62.2.1, .dat tI x62.2.2.1, .dat (.slice (.slice t3)) x62.2.2.2.1, .dat (.slice tI) x62.2.2.2.2.1, .dat (.slice (.slice tI)) x62.2.2.2.2.2.1]), (1001, .seq tI c5), (2002, .seq t3 x62.2.2.2.2.2.2.1), (2003, .map t3 tI x62.2.2.2.2.2.2.2)] [InR i61 (List.length c5), Idx c5 i61 v64] (by kernel_rfl) (allP2 (InR.of h65) (allP1 (Idx.of h65))) ?_
    refine W_block (id := 2) (by kernel_rfl) ?_
    refine srL [(0, .one (.ptr 1000 0)), (5, aI x62.1), (7, aI v64), (8, .one (.slc 1001)), (9, aI (List.length c5 : Int)), (10, aI i61), (20, aB (decide (v64 < (0 : Int))))] (by kernel_rfl) ?_
    refine W_cond (o := .tmp 20) (b := decide (v64 < (0 : Int))) (by kernel_rfl) (by kernel_rfl) (fun h75 => ?_) (fun h75 => ?_)
    ·replace h := ofT h75 h
     obtain rfl := Option.some.inj h
     refine wkL [(0, .one (.ptr 1000 0)), (5, aI x62.1), (8, .one (.slc 1001)), (9, aI (List.length c5 : Int)), (10, aI i61)] (by kernel_rfl) ?_
     refine blockQ_norm ?_
     refine blockQ_norm ?_
     exact exM (by kernel_rfl)
    ·replace h := ofF h75 h
     refine srL [(0, .one (.ptr 1000 0)), (5, aI x62.1), (7, aI v64), (8, .one (.slc 1001)), (9, aI (List.length c5 : Int)), (10, aI i61), (23, aB (decide (x62.1 < (0 : Int))))] (by kernel_rfl) ?_
     refine W_cond (o := .tmp 23) (b := decide (x62.1 < (0 : Int))) (by kernel_rfl) (by kernel_rfl) (fun h76 => ?_) (fun h76 => ?_)
     ·replace h := ofT h76 h
      obtain rfl := Option.some.inj h
      refine swL [(0, .one (.ptr 1000 0)), (5, aI v64), (8, .one (.slc 1001)), (9, aI (List.length c5 : Int)), (10, aI i61)] (by kernel_rfl) ?_
      refine blockQ_norm ?_
      refine blockQ_norm ?_
      exact exM (by kernel_rfl)
     ·replace h := ofF h76 h
      refine W_region (by kernel_rfl) ?_
      refine woL 5 [(0, .one (.ptr 1000 0)), (5, aI x62.1), (8, .one (.slc 1001)), (9, aI (List.length c5 : Int)), (10, aI i61), (16, .one (.ptr 1000 0)), (17, aI x62.1), (18, aI v64)] (by kernel_rfl) ?_
      obtain ⟨r77, h78, h⟩ := bind_of h
      refine WO_lend2 [(1000, 1000), (2001, 2002), (2002, 2003)] (us := [none, none, none, none]) (d := 19) (p := True) (j := 6) rfl ⟨by kernel_rfl, by kernel_rfl, by kernel_rfl⟩ trivial (gate_Maker_Put_i5_ok h78) (by kernel_rfl) (by kernel_rfl) ?_
      refine wo 7 [(0, .one (.ptr 1000 0)), (5, aI r77.1), (8, .one (.slc 1001)), (9, aI (List.length c5 : Int)), (10, aI i61)] [(1000, .cells [.slc 2002, .slc 2003, .dat tI r77.2.1, .dat tI r77.2.2.1, .dat (.slice (.slice t3)) r77.2.2.2.1, .dat (.slice tI) r77.2.2.2.2.1, .dat (.slice (.slice tI)) r77.2.2.2.2.2.1]), (1001, .seq tI c5), (2002, .seq t3 r77.2.2.2.2.2.2.1), (2003, .map t3 tI r77.2.2.2.2.2.2.2)] (by kernel_rfl) ?_
      obtain rfl := Option.some.inj h
      refine wfL [(0, .one (.ptr 1000 0)), (5, aI r77.1), (8, .one (.slc 1001)), (9, aI (List.length c5 : Int)), (10, aI i61)] (by kernel_rfl) ?_
      refine blockQ_norm ?_
      refine blockQ_norm ?_
      exact exM (by kernel_rfl)
   ·intro e fr L hJ
    obtain ⟨rfl, rfl, rfl⟩ := hJ
    refine ltk [(0, .one (.ptr 1000 0)), (5, aI v79.1), (8, .one (.slc 1001)), (9, aI (List.length c5 : Int)), (10, aI i61)] [(1000, .cells [.slc 2002, .slc 2003, .dat tI v79.2.1, .dat tI v79.2.2.1, .dat (.slice (.slice t3)) v79.2.2.2.1, .dat (.slice tI) v79.2.2.2.2.1, .dat (.slice (.slice tI)) v79.2.2.2.2.2.1]), (1001, .seq tI c5), (2002, .seq t3 v79.2.2.2.2.2.2.1), (2003, .map t3 tI v79.2.2.2.2.2.2.2)] (by kernel_rfl) ?_
    refine seqQ_norm ?_
    obtain rfl := Option.some.inj h
    refine swL [(0, .one (.ptr 1000 0)), (5, aI v79.1), (8, .one (.slc 1001)), (9, aI (List.length c5 : Int)), (10, aI (w64 (i61 + (1 : Int))))] (by kernel_rfl) ?_
    exact round_next' (by kernel_rfl) (by kernel_rfl)
  ·obtain rfl := stepL_false h66 h
   refine wxL 0 [(5, aI x62.1)] (by kernel_rfl) ?_
   refine seqQ_exit ?_
   refine round_exit ?_
   exact exM (by kernel_rfl)
 ·intro e fr L hJ
  obtain ⟨rfl, rfl, rfl⟩ := hJ
  refine ltk [(5, aI v82.1)] [(1000, .cells [.slc 2002, .slc 2003, .dat tI v82.2.1, .dat tI v82.2.2.1, .dat (.slice (.slice t3)) v82.2.2.2.1, .dat (.slice tI) v82.2.2.2.2.1, .dat (.slice (.slice tI)) v82.2.2.2.2.2.1]), (1001, .seq tI c5), (2002, .seq t3 v82.2.2.2.2.2.2.1), (2003, .map t3 tI v82.2.2.2.2.2.2.2)] (by kernel_rfl) ?_
  refine blockQ_hit ?_
  refine seqQ_norm ?_
  refine sr [(4, aI v82.1)] [(1000, .cells [.slc 2002, .slc 2003, .dat tI v82.2.1, .dat tI v82.2.2.1, .dat (.slice (.slice t3)) v82.2.2.2.1, .dat (.slice tI) v82.2.2.2.2.1, .dat (.slice (.slice tI)) v82.2.2.2.2.2.1]), (1001, .seq tI c5), (2002, .seq t3 v82.2.2.2.2.2.2.1), (2003, .map t3 tI v82.2.2.2.2.2.2.2)] (by kernel_rfl) ?_
  obtain rfl := Option.some.inj h
  refine wtL [(4, aI v82.1)] (by kernel_rfl) ?_
  exact retM (by kernel_rfl)

def unroll_build_keep_i2 (a1 : Int) (a2 : Int) (c0 : Int) (c1 : Int) (c2 : (List (List (Int × (Int × Int))))) (c3 : (List Int)) (c4 : (List (List Int))) (c5 : (List (Int × (Int × Int)))) (c6 : (Option (List ((Int × (Int × Int)) × Int)))) : Option (Int × Int × Int × (List (List (Int × (Int × Int)))) × (List Int) × (List (List Int)) × (List (Int × (Int × Int))) × (Option (List ((Int × (Int × Int)) × Int)))) :=
bif decide (a2 < (0 : Int)) then
(some (a1, c0, c1, c2, c3, c4, c5, c6))
else
((gate_Maker_Put_i5 (2 : Int) a2 (0 : Int) c0 c1 c2 c3 c4 c5 c6).bind fun r2 =>
(unroll_build_both_i2 a1 r2.1 r2.2.1 r2.2.2.1 r2.2.2.2.1 r2.2.2.2.2.1 r2.2.2.2.2.2.1 r2.2.2.2.2.2.2.1 r2.2.2.2.2.2.2.2).bind fun r4 =>
some (r4.1, r4.2.1, r4.2.2.1, r4.2.2.2.1, r4.2.2.2.2.1, r4.2.2.2.2.2.1, r4.2.2.2.2.2.2.1, r4.2.2.2.2.2.2.2))
theorem unroll_build_keep_i2_ok {a1 : Int} {a2 : Int} {c0 : Int} {c1 : Int} {c2 : (List (List (Int × (Int × Int))))} {c3 : (List Int)} {c4 : (List (List Int))} {c5 : (List (Int × (Int × Int)))} {c6 : (Option (List ((Int × (Int × Int)) × Int)))} {r : (Int × Int × Int × (List (List (Int × (Int × Int)))) × (List Int) × (List (List Int)) × (List (Int × (Int × Int))) × (Option (List ((Int × (Int × Int)) × Int))))} (h : unroll_build_keep_i2 a1 a2 c0 c1 c2 c3 c4 c5 c6 = some r) : FnC Try.prog 98 [.one (.ptr 1000 0), aI a1, aI a2] [(1000, .cells [.slc 2001, .slc 2002, .dat tI c0, .dat tI c1, .dat (.slice (.slice t3)) c2, .dat (.slice tI) c3, .dat (.slice (.slice tI)) c4]), (2001, .seq t3 c5), (2002, .map t3 tI c6)] (aI r.1) [(1000, .cells [.slc 2001, .slc 2002, .dat tI r.2.1, .dat tI r.2.2.1, .dat (.slice (.slice t3)) r.2.2.2.1, .dat (.slice tI) r.2.2.2.2.1, .dat (.slice (.slice tI)) r.2.2.2.2.2.1]), (2001, .seq t3 r.2.2.2.2.2.2.1), (2002, .map t3 tI r.2.2.2.2.2.2.2)] := by
 refine fnC_of_W (B := bodyOf Try.f98) (n := 18) Try.func98 (by kernel_rfl) (by kernel_rfl) (by kernel_rfl) (by kernel_rfl) (by kernel_rfl) ?_
 intro K
 refine sr [(0, .one (.ptr 1000 0)), (1, aI a1), (2, aI a2)] [(1000, .cells [.slc 2001, .slc 2002, .dat tI c0, .dat tI c1, .dat (.slice (.slice t3)) c2, .dat (.slice tI) c3, .dat (.slice (.slice tI)) c4]), (2001, .seq t3 c5), (2002, .map t3 tI c6)] (by kernel_rfl) ?_
 refine W_seq (by kernel_rfl) ?_
 refine srL [(0, .one (.ptr 1000 0)), (1, aI a1), (2, aI a2), (8, aB (decide (a2 < (0 : Int))))] (by kernel_rfl) ?_
 refine W_cond (o := .tmp 8) (b := decide (a2 < (0 : Int))) (by kernel_rfl) (by kernel_rfl) (fun h1 => ?_) (fun h1 => ?_)
 ·replace h := ofT h1 h
  refine srL [(6, aI a1)] (by kernel_rfl) ?_
  obtain rfl := Option.some.inj h
  refine wtL [(6, aI a1)] (by kernel_rfl) ?_
  refine seqQ_ret ?_
  exact retM (by kernel_rfl)
 ·replace h := ofF h1 h
  refine wkL [(0, .one (.ptr 1000 0)), (1, aI a1), (2, aI a2)] (by kernel_rfl) ?_
  refine seqQ_norm ?_
  refine W_seq (by kernel_rfl) ?_
  refine W_region (by kernel_rfl) ?_
  refine woL 6 [(10, .one (.ptr 1000 0)), (11, aI a1), (14, .one (.ptr 1000 0)), (15, aI a2)] (by kernel_rfl) ?_
  obtain ⟨r2, h3, h⟩ := bind_of h
  refine WO_lend2 [(1000, 1000), (2001, 2001), (2002, 2002)] (us := [none, none, none, none]) (d := 16) (p := True) (j := 7) rfl ⟨by kernel_rfl, by kernel_rfl, by kernel_rfl⟩ trivial (gate_Maker_Put_i5_ok h3) (by kernel_rfl) (by kernel_rfl) ?_
  obtain ⟨r4, h5, h⟩ := bind_of h
  refine WO_lend2 [(1000, 1000), (2001, 2001), (2002, 2002)] (us := [none, none, none]) (d := 17) (p := True) (j := 8) rfl ⟨by kernel_rfl, by kernel_rfl, by kernel_rfl⟩ trivial (unroll_build_both_i2_ok h5) (by kernel_rfl) (by kernel_rfl) ?_
  refine wo 9 [(6, aI r4.1)] [(1000, .cells [.slc 2001, .slc 2002, .dat tI r4.2.1, .dat tI r4.2.2.1, .dat (.slice (.slice t3)) r4.2.2.2.1, .dat (.slice tI) r4.2.2.2.2.1, .dat (.slice (.slice tI)) r4.2.2.2.2.2.1]), (2001, .seq t3 r4.2.2.2.2.2.2.1), (2002, .map t3 tI r4.2.2.2.2.2.2.2)] (by kernel_rfl) ?_
  refine wfL [(6, aI r4.1)] (by kernel_rfl) ?_
  refine seqQ_norm ?_
  obtain rfl := Option.some.inj h
  refine wtL [(6, aI r4.1)] (by kernel_rfl) ?_
  exact retM (by kernel_rfl)
end Go.Proofs.Ytnblafiefaalgaa.topFaces
