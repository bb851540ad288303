/- What the functions that HardFrees calls compute, as models, and that they compute it: written by a program of mine. -/
import Derived.Test.YtcallckeeohoaaaProg
import Derived.Test.YtcallckeeohoaaaSl4
set_option linter.all false
set_option maxRecDepth 100000
namespace Go.Proofs.Ytcallckeeohoaaa.hardFrees
open Go Go.Sl
def hard_graph_1 (a0 : (List Int)) : Option Bool :=
(idx a0 (0 : Int)).bind fun v1 =>
(idx a0 (1 : Int)).bind fun v3 =>
some (v1 == v3)
theorem hard_graph_1_ok {a0 : (List Int)} {r : Bool} (h : hard_graph_1 a0 = some r) : FnC Try.prog 70 [aD (.arr 2 tI) a0] [] (aB r) [] := by
  refine fnC_of_W (B := bodyOf Try.f70) (n := 8) Try.func70 (by kernel_rfl) (by kernel_rfl) (by kernel_rfl) (by kernel_rfl) (by kernel_rfl) ?_
  intro K
  refine W_seq (by kernel_rfl) ?_
  refine W_run 2 [] [1] [1] (fr' := [(1, .one (.ptr 1 0))]) (L' := [(1, .one (.arr 2 tI) a0)]) (obs := []) (by kernel_rfl) (by kernel_rfl) (by kernel_rfl) allP0 ?_
  refine seqQ_norm ?_
  refine W_seq (by kernel_rfl) ?_
  obtain ⟨v1, h2, h⟩ := bind_of h
  obtain ⟨v3, h4, h⟩ := bind_of h
  refine W_run 6 [(3, .val (.dat tI v1)), (7, .val (.dat tI v3))] [2] [] (fr' := [(2, aB (v1 == v3))]) (L' := []) (obs := [InR (0 : Int) 2, Idx a0 (0 : Int) v1, InR (1 : Int) 2, Idx a0 (1 : Int) v3]) (by kernel_rfl) (by kernel_rfl) (by kernel_rfl) (allP2 (by unfold InR; decide) (allP2 (Idx.of h2) (allP2 (by unfold InR; decide) (allP1 (Idx.of h4))))) ?_
  refine seqQ_norm ?_
  obtain rfl := Option.some.inj h
  refine W_ret [2] [] (fr' := [(2, aB (v1 == v3))]) (L' := []) (by kernel_rfl) (by kernel_rfl) ?_
  exact retQ_mk (by kernel_rfl) (by kernel_rfl) (by kernel_rfl)

def slices_IndexFunc_L2int2int_with_hard_graph_1_b1 (i15 : Int) (v18 : (List Int)) (x16 : Unit) : Option (Flow Unit (Esc Int Unit)) :=
(hard_graph_1 v18).bind fun r21 =>
bif r21 then
(some (.done (.ret i15)))
else
(some (.next ()))
@[reducible] def slices_IndexFunc_L2int2int_with_hard_graph_1_s2 (a0 : (List (List Int))) (v : Int × Unit) : Fr × LL := ([(0, aD (.slice (.arr 2 tI)) a0), (1, .one (.fn 70 [])), (7, aI (List.length a0 : Int)), (8, aI v.1)], [])
@[reducible] def slices_IndexFunc_L2int2int_with_hard_graph_1_s3 (v : Int) : Fr × LL := ([(4, aI v)], [])
@[reducible] def slices_IndexFunc_L2int2int_with_hard_graph_1_s4 (v : Unit) : Fr × LL := ([], [])
def slices_IndexFunc_L2int2int_with_hard_graph_1 (a0 : (List (List Int))) : Option Int :=
(forL slices_IndexFunc_L2int2int_with_hard_graph_1_b1 (fun x16 => (.brk ())) a0 0 ()).bind fun v25 =>
match v25 with
| .ret v30 =>
(some v30)
| .brk v31 =>
(some (-1 : Int))
theorem slices_IndexFunc_L2int2int_with_hard_graph_1_ok {a0 : (List (List Int))} {r : Int} (h : slices_IndexFunc_L2int2int_with_hard_graph_1 a0 = some r) : FnC Try.prog 71 [aD (.slice (.arr 2 tI)) a0, .one (.fn 70 [])] [] (aI r) [] := by
  refine fnC_of_W (B := bodyOf Try.f71) (n := 19) Try.func71 (by kernel_rfl) (by kernel_rfl) (by kernel_rfl) (by kernel_rfl) (by kernel_rfl) ?_
  intro K
  refine W_seq (by kernel_rfl) ?_
  refine W_run 1 [] [0, 1] [] (fr' := [(0, aD (.slice (.arr 2 tI)) a0), (1, .one (.fn 70 []))]) (L' := []) (obs := []) (by kernel_rfl) (by kernel_rfl) (by kernel_rfl) allP0 ?_
  refine seqQ_norm ?_
  refine W_seq (by kernel_rfl) ?_
  refine W_seq (by kernel_rfl) ?_
  refine W_run 3 [] [0, 1, 7, 8] [] (fr' := [(0, aD (.slice (.arr 2 tI)) a0), (1, .one (.fn 70 [])), (7, aI (List.length a0 : Int)), (8, aI (0 : Int))]) (L' := []) (obs := []) (by kernel_rfl) (by kernel_rfl) (by kernel_rfl) allP0 ?_
  refine seqQ_norm ?_
  refine W_block (id := 0) (by kernel_rfl) ?_
  obtain ⟨v25, h26, h⟩ := bind_of h
  refine W_len (t := 0) (u := (.arr 2 tI)) (xs := a0) (by kernel_rfl) (fun h29 => ?_)
  obtain ⟨h27, h28⟩ := forL_iter h29 h26
  refine W_weaken [0, 1, 7, 8] [] (fr' := ((slices_IndexFunc_L2int2int_with_hard_graph_1_s2 a0) ((0 : Int), ())).1) (L' := ((slices_IndexFunc_L2int2int_with_hard_graph_1_s2 a0) ((0 : Int), ())).2) (by kernel_rfl) ?_
  refine W_cutK (W_loop (S := (slices_IndexFunc_L2int2int_with_hard_graph_1_s2 a0)) (J := (escQ (exQ .ret slices_IndexFunc_L2int2int_with_hard_graph_1_s3) (exQ (.exit 0) slices_IndexFunc_L2int2int_with_hard_graph_1_s4))) (by kernel_rfl) ?_ h27 _ v25 h28) ?_
  · rintro ⟨i15, x16⟩ s h
    refine W_seq (by kernel_rfl) ?_
    refine W_run 1 [] [0, 1, 7, 8, 9] [] (fr' := [(0, aD (.slice (.arr 2 tI)) a0), (1, .one (.fn 70 [])), (7, aI (List.length a0 : Int)), (8, aI i15), (9, aB (decide (i15 < (List.length a0 : Int))))]) (L' := []) (obs := []) (by kernel_rfl) (by kernel_rfl) (by kernel_rfl) allP0 ?_
    refine seqQ_norm ?_
    refine W_seq (by kernel_rfl) ?_
    refine W_cond (o := .tmp 9) (b := decide (i15 < (List.length a0 : Int))) (by kernel_rfl) (by kernel_rfl) (fun h20 => ?_) (fun h20 => ?_)
    · replace h := stepL_true h20 h
      obtain ⟨v18, _, h19, h, rfl⟩ := h
      refine W_skip [0, 1, 7, 8] [] (fr' := [(0, aD (.slice (.arr 2 tI)) a0), (1, .one (.fn 70 [])), (7, aI (List.length a0 : Int)), (8, aI i15)]) (L' := []) (by kernel_rfl) (by kernel_rfl) ?_
      refine seqQ_norm ?_
      refine W_seq (by kernel_rfl) ?_
      refine W_block (id := 1) (by kernel_rfl) ?_
      refine W_seq (by kernel_rfl) ?_
      refine W_run 2 [] [0, 1, 5, 7, 8] [] (fr' := [(0, aD (.slice (.arr 2 tI)) a0), (1, .one (.fn 70 [])), (5, aI i15), (7, aI (List.length a0 : Int)), (8, aI i15)]) (L' := []) (obs := []) (by kernel_rfl) (by kernel_rfl) (by kernel_rfl) allP0 ?_
      refine seqQ_norm ?_
      refine W_seq (by kernel_rfl) ?_
      refine W_region (by kernel_rfl) ?_
      refine WO_run (j := 5) (k := 5) (orcs := [(7, .val (.dat (.arr 2 tI) v18))]) (kF := [0, 1, 5, 7, 8, 11, 15]) (kL := []) (fr' := [(0, aD (.slice (.arr 2 tI)) a0), (1, .one (.fn 70 [])), (5, aI i15), (7, aI (List.length a0 : Int)), (8, aI i15), (11, .one (.fn 70 [])), (15, aD (.arr 2 tI) v18)]) (L' := []) (obs := [Idx a0 i15 v18]) rfl (by kernel_rfl) (allP1 (Idx.of h19)) ?_
      obtain ⟨r21, h22, h⟩ := bind_of h
      refine WO_call0 (us := [none]) (d := 16) (p := True) (j := 6) rfl ⟨by kernel_rfl, by kernel_rfl, by kernel_rfl⟩ trivial (hard_graph_1_ok h22) (by kernel_rfl) ?_
      refine WO_fin [0, 1, 5, 7, 8, 16] [] (fr' := [(0, aD (.slice (.arr 2 tI)) a0), (1, .one (.fn 70 [])), (5, aI i15), (7, aI (List.length a0 : Int)), (8, aI i15), (16, aB r21)]) (L' := []) (by kernel_rfl) (by kernel_rfl) ?_
      refine seqQ_norm ?_
      refine W_cond (o := .tmp 16) (b := r21) (by kernel_rfl) (by kernel_rfl) (fun h23 => ?_) (fun h23 => ?_)
      · replace h := ofT h23 h
        refine W_seq (by kernel_rfl) ?_
        refine W_run 2 [] [4] [] (fr' := [(4, aI i15)]) (L' := []) (obs := []) (by kernel_rfl) (by kernel_rfl) (by kernel_rfl) allP0 ?_
        refine seqQ_norm ?_
        obtain rfl := Option.some.inj h
        refine W_ret [4] [] (fr' := [(4, aI i15)]) (L' := []) (by kernel_rfl) (by kernel_rfl) ?_
        refine blockQ_ret ?_
        refine seqQ_ret ?_
        refine round_ret ?_
        refine escQ_ret ?_
        exact exQ_mk (by kernel_rfl) (by kernel_rfl)
      · replace h := ofF h23 h
        refine W_skip [0, 1, 7, 8] [] (fr' := [(0, aD (.slice (.arr 2 tI)) a0), (1, .one (.fn 70 [])), (7, aI (List.length a0 : Int)), (8, aI i15)]) (L' := []) (by kernel_rfl) (by kernel_rfl) ?_
        refine blockQ_norm ?_
        refine seqQ_norm ?_
        obtain rfl := Option.some.inj h
        refine W_run 2 [] [0, 1, 7, 8] [] (fr' := [(0, aD (.slice (.arr 2 tI)) a0), (1, .one (.fn 70 [])), (7, aI (List.length a0 : Int)), (8, aI (w64 (i15 + (1 : Int))))]) (L' := []) (obs := []) (by kernel_rfl) (by kernel_rfl) (by kernel_rfl) allP0 ?_
        exact round_next' (by kernel_rfl) (by kernel_rfl)
    · obtain rfl := stepL_false h20 h
      refine W_exit (id := 0) [] [] (fr' := []) (L' := []) (by kernel_rfl) (by kernel_rfl) ?_
      refine seqQ_exit ?_
      refine round_exit ?_
      refine escQ_brk ?_
      exact exQ_mk (by kernel_rfl) (by kernel_rfl)
  · intro e fr L hJ
    rcases v25 with v30 | v31
    · obtain ⟨rfl, rfl, rfl⟩ := hJ
      obtain rfl := Option.some.inj h
      refine LT_keep [4] [] (fr' := [(4, aI v30)]) (L' := []) (by kernel_rfl) ?_
      refine blockQ_ret ?_
      refine seqQ_ret ?_
      exact retQ_mk (by kernel_rfl) (by kernel_rfl) (by kernel_rfl)
    · obtain ⟨rfl, rfl, rfl⟩ := hJ
      refine LT_keep [] [] (fr' := []) (L' := []) (by kernel_rfl) ?_
      refine blockQ_hit ?_
      refine seqQ_norm ?_
      refine W_seq (by kernel_rfl) ?_
      refine W_run 1 [] [4] [] (fr' := [(4, aI (-1 : Int))]) (L' := []) (obs := []) (by kernel_rfl) (by kernel_rfl) (by kernel_rfl) allP0 ?_
      refine seqQ_norm ?_
      obtain rfl := Option.some.inj h
      refine W_ret [4] [] (fr' := [(4, aI (-1 : Int))]) (L' := []) (by kernel_rfl) (by kernel_rfl) ?_
      exact retQ_mk (by kernel_rfl) (by kernel_rfl) (by kernel_rfl)

def slices_ContainsFunc_L2int2int_with_hard_graph_1 (a0 : (List (List Int))) : Option Bool :=
(slices_IndexFunc_L2int2int_with_hard_graph_1 a0).bind fun r1 =>
some (decide (r1 ≥ (0 : Int)))
theorem slices_ContainsFunc_L2int2int_with_hard_graph_1_ok {a0 : (List (List Int))} {r : Bool} (h : slices_ContainsFunc_L2int2int_with_hard_graph_1 a0 = some r) : FnC Try.prog 56 [aD (.slice (.arr 2 tI)) a0, .one (.fn 70 [])] [] (aB r) [] := by
  refine fnC_of_W (B := bodyOf Try.f56) (n := 9) Try.func56 (by kernel_rfl) (by kernel_rfl) (by kernel_rfl) (by kernel_rfl) (by kernel_rfl) ?_
  intro K
  refine W_seq (by kernel_rfl) ?_
  refine W_run 1 [] [0, 1] [] (fr' := [(0, aD (.slice (.arr 2 tI)) a0), (1, .one (.fn 70 []))]) (L' := []) (obs := []) (by kernel_rfl) (by kernel_rfl) (by kernel_rfl) allP0 ?_
  refine seqQ_norm ?_
  refine W_seq (by kernel_rfl) ?_
  refine W_region (by kernel_rfl) ?_
  refine WO_run (j := 2) (k := 2) (orcs := []) (kF := [5, 6]) (kL := []) (fr' := [(5, aD (.slice (.arr 2 tI)) a0), (6, .one (.fn 70 []))]) (L' := []) (obs := []) rfl (by kernel_rfl) allP0 ?_
  obtain ⟨r1, h2, h⟩ := bind_of h
  refine WO_call0 (us := [none, none]) (d := 7) (p := True) (j := 3) rfl ⟨by kernel_rfl, by kernel_rfl, by kernel_rfl⟩ trivial (slices_IndexFunc_L2int2int_with_hard_graph_1_ok h2) (by kernel_rfl) ?_
  refine WO_run (j := 5) (k := 2) (orcs := []) (kF := [4]) (kL := []) (fr' := [(4, aB (decide (r1 ≥ (0 : Int))))]) (L' := []) (obs := []) rfl (by kernel_rfl) allP0 ?_
  refine WO_fin [4] [] (fr' := [(4, aB (decide (r1 ≥ (0 : Int))))]) (L' := []) (by kernel_rfl) (by kernel_rfl) ?_
  refine seqQ_norm ?_
  obtain rfl := Option.some.inj h
  refine W_ret [4] [] (fr' := [(4, aB (decide (r1 ≥ (0 : Int))))]) (L' := []) (by kernel_rfl) (by kernel_rfl) ?_
  exact retQ_mk (by kernel_rfl) (by kernel_rfl) (by kernel_rfl)

def hard_graph_g5 (a0 : Int) (v49 : (List Int)) : Option Bool :=
(idx v49 (0 : Int)).bind fun v62 =>
(idx v49 (1 : Int)).bind fun v64 =>
bif decide ((imin v62 v64) < (0 : Int)) then
(some true)
else
(some (decide ((imax v62 v64) ≥ a0)))
@[reducible] def hard_graph_s6 (a0 : Int) (a1 : (List (List Int))) (a2 : Int) (i46 : Int) (v : Bool) : Fr × LL := ([(0, aI a0), (1, aD (.slice (.arr 2 tI)) a1), (2, aI a2), (20, aD (.slice (.arr 2 tI)) a1), (21, aI (List.length a1 : Int)), (22, aI i46), (40, aB v)], [])
def hard_graph_b7 (a0 : Int) (i46 : Int) (v49 : (List Int)) (x47 : Unit) : Option (Flow Unit (Esc Int Unit)) :=
(hard_graph_g5 a0 v49).bind fun v67 =>
bif v67 then
(some (.done (.ret (2 : Int))))
else
(some (.next ()))
@[reducible] def hard_graph_s8 (a0 : Int) (a1 : (List (List Int))) (a2 : Int) (v : Int × Unit) : Fr × LL := ([(0, aI a0), (1, aD (.slice (.arr 2 tI)) a1), (2, aI a2), (20, aD (.slice (.arr 2 tI)) a1), (21, aI (List.length a1 : Int)), (22, aI v.1)], [])
@[reducible] def hard_graph_s9 (v : Int) : Fr × LL := ([(6, aI v)], [])
@[reducible] def hard_graph_s10 (a0 : Int) (a1 : (List (List Int))) (a2 : Int) (v : Unit) : Fr × LL := ([(0, aI a0), (1, aD (.slice (.arr 2 tI)) a1), (2, aI a2)], [])
def hard_graph (a0 : Int) (a1 : (List (List Int))) (a2 : Int) : Option Int :=
bif ((decide (a0 < (0 : Int))) || (decide (a0 > (16 : Int)))) || (decide ((List.length a1 : Int) > (200 : Int))) then
(some (1 : Int))
else
((forL (hard_graph_b7 a0) (fun x47 => (.brk ())) a1 0 ()).bind fun v71 =>
match v71 with
| .ret v76 =>
(some v76)
| .brk v77 =>
((slices_ContainsFunc_L2int2int_with_hard_graph_1 a1).bind fun r78 =>
bif r78 then
(some (3 : Int))
else
(bif (decide (a2 < (0 : Int))) || (decide (a2 > a0)) then
(some (4 : Int))
else
(some (0 : Int)))))
theorem hard_graph_ok {a0 : Int} {a1 : (List (List Int))} {a2 : Int} {r : Int} (h : hard_graph a0 a1 a2 = some r) : FnC Try.prog 54 [aI a0, aD (.slice (.arr 2 tI)) a1, aI a2] [] (aI r) [] := by
  refine fnC_of_W (B := bodyOf Try.f54) (n := 51) Try.func54 (by kernel_rfl) (by kernel_rfl) (by kernel_rfl) (by kernel_rfl) (by kernel_rfl) ?_
  intro K
  refine W_seq (by kernel_rfl) ?_
  refine W_run 1 [] [0, 1, 2] [] (fr' := [(0, aI a0), (1, aD (.slice (.arr 2 tI)) a1), (2, aI a2)]) (L' := []) (obs := []) (by kernel_rfl) (by kernel_rfl) (by kernel_rfl) allP0 ?_
  refine seqQ_norm ?_
  refine W_seq (by kernel_rfl) ?_
  refine W_seq (by kernel_rfl) ?_
  refine W_run 11 [] [0, 1, 2, 19] [] (fr' := [(0, aI a0), (1, aD (.slice (.arr 2 tI)) a1), (2, aI a2), (19, aB (((decide (a0 < (0 : Int))) || (decide (a0 > (16 : Int)))) || (decide ((List.length a1 : Int) > (200 : Int)))))]) (L' := []) (obs := []) (by kernel_rfl) (by kernel_rfl) (by kernel_rfl) allP0 ?_
  refine seqQ_norm ?_
  refine W_cond (o := .tmp 19) (b := ((decide (a0 < (0 : Int))) || (decide (a0 > (16 : Int)))) || (decide ((List.length a1 : Int) > (200 : Int)))) (by kernel_rfl) (by kernel_rfl) (fun h1 => ?_) (fun h1 => ?_)
  · replace h := ofT h1 h
    refine W_seq (by kernel_rfl) ?_
    refine W_run 1 [] [6] [] (fr' := [(6, aI (1 : Int))]) (L' := []) (obs := []) (by kernel_rfl) (by kernel_rfl) (by kernel_rfl) allP0 ?_
    refine seqQ_norm ?_
    obtain rfl := Option.some.inj h
    refine W_ret [6] [] (fr' := [(6, aI (1 : Int))]) (L' := []) (by kernel_rfl) (by kernel_rfl) ?_
    refine seqQ_ret ?_
    exact retQ_mk (by kernel_rfl) (by kernel_rfl) (by kernel_rfl)
  · replace h := ofF h1 h
    refine W_skip [0, 1, 2] [] (fr' := [(0, aI a0), (1, aD (.slice (.arr 2 tI)) a1), (2, aI a2)]) (L' := []) (by kernel_rfl) (by kernel_rfl) ?_
    refine seqQ_norm ?_
    refine W_seq (by kernel_rfl) ?_
    refine W_seq (by kernel_rfl) ?_
    refine W_run 3 [] [0, 1, 2, 20, 21, 22] [] (fr' := [(0, aI a0), (1, aD (.slice (.arr 2 tI)) a1), (2, aI a2), (20, aD (.slice (.arr 2 tI)) a1), (21, aI (List.length a1 : Int)), (22, aI (0 : Int))]) (L' := []) (obs := []) (by kernel_rfl) (by kernel_rfl) (by kernel_rfl) allP0 ?_
    refine seqQ_norm ?_
    refine W_block (id := 0) (by kernel_rfl) ?_
    obtain ⟨v71, h72, h⟩ := bind_of h
    refine W_len (t := 20) (u := (.arr 2 tI)) (xs := a1) (by kernel_rfl) (fun h75 => ?_)
    obtain ⟨h73, h74⟩ := forL_iter h75 h72
    refine W_weaken [0, 1, 2, 20, 21, 22] [] (fr' := ((hard_graph_s8 a0 a1 a2) ((0 : Int), ())).1) (L' := ((hard_graph_s8 a0 a1 a2) ((0 : Int), ())).2) (by kernel_rfl) ?_
    refine W_cutK (W_loop (S := (hard_graph_s8 a0 a1 a2)) (J := (escQ (exQ .ret hard_graph_s9) (exQ (.exit 0) (hard_graph_s10 a0 a1 a2)))) (by kernel_rfl) ?_ h73 _ v71 h74) ?_
    · rintro ⟨i46, x47⟩ s h
      refine W_seq (by kernel_rfl) ?_
      refine W_run 1 [] [0, 1, 2, 20, 21, 22, 23] [] (fr' := [(0, aI a0), (1, aD (.slice (.arr 2 tI)) a1), (2, aI a2), (20, aD (.slice (.arr 2 tI)) a1), (21, aI (List.length a1 : Int)), (22, aI i46), (23, aB (decide (i46 < (List.length a1 : Int))))]) (L' := []) (obs := []) (by kernel_rfl) (by kernel_rfl) (by kernel_rfl) allP0 ?_
      refine seqQ_norm ?_
      refine W_seq (by kernel_rfl) ?_
      refine W_cond (o := .tmp 23) (b := decide (i46 < (List.length a1 : Int))) (by kernel_rfl) (by kernel_rfl) (fun h51 => ?_) (fun h51 => ?_)
      · replace h := stepL_true h51 h
        obtain ⟨v49, _, h50, h, rfl⟩ := h
        refine W_skip [0, 1, 2, 20, 21, 22] [] (fr' := [(0, aI a0), (1, aD (.slice (.arr 2 tI)) a1), (2, aI a2), (20, aD (.slice (.arr 2 tI)) a1), (21, aI (List.length a1 : Int)), (22, aI i46)]) (L' := []) (by kernel_rfl) (by kernel_rfl) ?_
        refine seqQ_norm ?_
        refine W_seq (by kernel_rfl) ?_
        refine W_block (id := 1) (by kernel_rfl) ?_
        refine W_seq (by kernel_rfl) ?_
        refine W_run 4 [(1, .val (.dat (.arr 2 tI) v49)), (5, .typed)] [0, 1, 2, 8, 20, 21, 22] [8] (fr' := [(0, aI a0), (1, aD (.slice (.arr 2 tI)) a1), (2, aI a2), (8, .one (.ptr 8 0)), (20, aD (.slice (.arr 2 tI)) a1), (21, aI (List.length a1 : Int)), (22, aI i46)]) (L' := [(8, .one (.arr 2 tI) v49)]) (obs := [Idx a1 i46 v49, True]) (by kernel_rfl) (by kernel_rfl) (by kernel_rfl) (allP2 (Idx.of h50) (allP1 trivial)) ?_
        refine seqQ_norm ?_
        refine W_seq (by kernel_rfl) ?_
        obtain ⟨v67, h68, h⟩ := bind_of h
        refine W_cutK (Q' := (exQ .normal (hard_graph_s6 a0 a1 a2 i46)) v67) ?_ ?_
        · replace h := h68
          obtain ⟨v62, h63, h⟩ := bind_of h
          obtain ⟨v64, h65, h⟩ := bind_of h
          refine W_region (by kernel_rfl) ?_
          refine WO_run (j := 7) (k := 7) (orcs := [(3, .val (.dat tI v62)), (7, .val (.dat tI v64))]) (kF := [0, 1, 2, 8, 20, 21, 22, 32]) (kL := [8]) (fr' := [(0, aI a0), (1, aD (.slice (.arr 2 tI)) a1), (2, aI a2), (8, .one (.ptr 8 0)), (20, aD (.slice (.arr 2 tI)) a1), (21, aI (List.length a1 : Int)), (22, aI i46), (32, aB (decide ((imin v62 v64) < (0 : Int))))]) (L' := [(8, .one (.arr 2 tI) v49)]) (obs := [InR (0 : Int) 2, Idx v49 (0 : Int) v62, InR (1 : Int) 2, Idx v49 (1 : Int) v64]) rfl (by kernel_rfl) (allP2 (by unfold InR; decide) (allP2 (Idx.of h63) (allP2 (by unfold InR; decide) (allP1 (Idx.of h65))))) ?_
          rcases Bool.eq_false_or_eq_true (decide ((imin v62 v64) < (0 : Int))) with h66 | h66
          · replace h := ofT h66 h
            refine WO_run (j := 15) (k := 8) (orcs := [(14, .known true), (16, .known true), (18, .known true), (20, .known true), (22, .known true), (24, .known true), (26, .known true), (29, .val (.dat .bool true))]) (kF := [0, 1, 2, 20, 21, 22, 40]) (kL := [8]) (fr' := [(0, aI a0), (1, aD (.slice (.arr 2 tI)) a1), (2, aI a2), (20, aD (.slice (.arr 2 tI)) a1), (21, aI (List.length a1 : Int)), (22, aI i46), (40, aB true)]) (L' := [(8, .one (.arr 2 tI) v49)]) (obs := [((decide ((imin v62 v64) < (0 : Int))) = true), ((decide ((imin v62 v64) < (0 : Int))) = true), ((decide ((imin v62 v64) < (0 : Int))) = true), ((decide ((imin v62 v64) < (0 : Int))) = true), ((decide ((imin v62 v64) < (0 : Int))) = true), ((decide ((imin v62 v64) < (0 : Int))) = true), ((decide ((imin v62 v64) < (0 : Int))) = true), ((decide ((imin v62 v64) < (0 : Int))) = true)]) rfl (by kernel_rfl) (allP2 h66 (allP2 h66 (allP2 h66 (allP2 h66 (allP2 h66 (allP2 h66 (allP2 h66 (allP1 h66)))))))) ?_
            obtain rfl := Option.some.inj h
            refine WO_fin [0, 1, 2, 20, 21, 22, 40] [] (fr' := [(0, aI a0), (1, aD (.slice (.arr 2 tI)) a1), (2, aI a2), (20, aD (.slice (.arr 2 tI)) a1), (21, aI (List.length a1 : Int)), (22, aI i46), (40, aB true)]) (L' := []) (by kernel_rfl) (by kernel_rfl) ?_
            exact exQ_mk (by kernel_rfl) (by kernel_rfl)
          · replace h := ofF h66 h
            refine WO_run (j := 15) (k := 8) (orcs := [(14, .known false), (16, .known false), (17, .val (.dat tI v62)), (18, .known false), (20, .known false), (21, .val (.dat tI v64)), (22, .known false), (24, .known false), (26, .known false), (29, .val (.dat .bool false))]) (kF := [0, 1, 2, 20, 21, 22, 40]) (kL := [8]) (fr' := [(0, aI a0), (1, aD (.slice (.arr 2 tI)) a1), (2, aI a2), (20, aD (.slice (.arr 2 tI)) a1), (21, aI (List.length a1 : Int)), (22, aI i46), (40, aB (decide ((imax v62 v64) ≥ a0)))]) (L' := [(8, .one (.arr 2 tI) v49)]) (obs := [((decide ((imin v62 v64) < (0 : Int))) = false), InR (0 : Int) 2, ((decide ((imin v62 v64) < (0 : Int))) = false), Idx v49 (0 : Int) v62, ((decide ((imin v62 v64) < (0 : Int))) = false), InR (1 : Int) 2, ((decide ((imin v62 v64) < (0 : Int))) = false), Idx v49 (1 : Int) v64, ((decide ((imin v62 v64) < (0 : Int))) = false), ((decide ((imin v62 v64) < (0 : Int))) = false), ((decide ((imin v62 v64) < (0 : Int))) = false), ((decide ((imin v62 v64) < (0 : Int))) = false)]) rfl (by kernel_rfl) (allP2 h66 (allP2 (by unfold InR; decide) (allP2 h66 (allP2 (Idx.of h63) (allP2 h66 (allP2 (by unfold InR; decide) (allP2 h66 (allP2 (Idx.of h65) (allP2 h66 (allP2 h66 (allP2 h66 (allP1 h66)))))))))))) ?_
            obtain rfl := Option.some.inj h
            refine WO_fin [0, 1, 2, 20, 21, 22, 40] [] (fr' := [(0, aI a0), (1, aD (.slice (.arr 2 tI)) a1), (2, aI a2), (20, aD (.slice (.arr 2 tI)) a1), (21, aI (List.length a1 : Int)), (22, aI i46), (40, aB (decide ((imax v62 v64) ≥ a0)))]) (L' := []) (by kernel_rfl) (by kernel_rfl) ?_
            exact exQ_mk (by kernel_rfl) (by kernel_rfl)
        · intro e fr L hJ
          obtain ⟨rfl, rfl, rfl⟩ := hJ
          refine LT_keep [0, 1, 2, 20, 21, 22, 40] [] (fr' := [(0, aI a0), (1, aD (.slice (.arr 2 tI)) a1), (2, aI a2), (20, aD (.slice (.arr 2 tI)) a1), (21, aI (List.length a1 : Int)), (22, aI i46), (40, aB v67)]) (L' := []) (by kernel_rfl) ?_
          refine seqQ_norm ?_
          refine W_cond (o := .tmp 40) (b := v67) (by kernel_rfl) (by kernel_rfl) (fun h69 => ?_) (fun h69 => ?_)
          · replace h := ofT h69 h
            refine W_seq (by kernel_rfl) ?_
            refine W_run 1 [] [6] [] (fr' := [(6, aI (2 : Int))]) (L' := []) (obs := []) (by kernel_rfl) (by kernel_rfl) (by kernel_rfl) allP0 ?_
            refine seqQ_norm ?_
            obtain rfl := Option.some.inj h
            refine W_ret [6] [] (fr' := [(6, aI (2 : Int))]) (L' := []) (by kernel_rfl) (by kernel_rfl) ?_
            refine blockQ_ret ?_
            refine seqQ_ret ?_
            refine round_ret ?_
            refine escQ_ret ?_
            exact exQ_mk (by kernel_rfl) (by kernel_rfl)
          · replace h := ofF h69 h
            refine W_skip [0, 1, 2, 20, 21, 22] [] (fr' := [(0, aI a0), (1, aD (.slice (.arr 2 tI)) a1), (2, aI a2), (20, aD (.slice (.arr 2 tI)) a1), (21, aI (List.length a1 : Int)), (22, aI i46)]) (L' := []) (by kernel_rfl) (by kernel_rfl) ?_
            refine blockQ_norm ?_
            refine seqQ_norm ?_
            obtain rfl := Option.some.inj h
            refine W_run 2 [] [0, 1, 2, 20, 21, 22] [] (fr' := [(0, aI a0), (1, aD (.slice (.arr 2 tI)) a1), (2, aI a2), (20, aD (.slice (.arr 2 tI)) a1), (21, aI (List.length a1 : Int)), (22, aI (w64 (i46 + (1 : Int))))]) (L' := []) (obs := []) (by kernel_rfl) (by kernel_rfl) (by kernel_rfl) allP0 ?_
            exact round_next' (by kernel_rfl) (by kernel_rfl)
      · obtain rfl := stepL_false h51 h
        refine W_exit (id := 0) [0, 1, 2] [] (fr' := [(0, aI a0), (1, aD (.slice (.arr 2 tI)) a1), (2, aI a2)]) (L' := []) (by kernel_rfl) (by kernel_rfl) ?_
        refine seqQ_exit ?_
        refine round_exit ?_
        refine escQ_brk ?_
        exact exQ_mk (by kernel_rfl) (by kernel_rfl)
    · intro e fr L hJ
      rcases v71 with v76 | v77
      · obtain ⟨rfl, rfl, rfl⟩ := hJ
        obtain rfl := Option.some.inj h
        refine LT_keep [6] [] (fr' := [(6, aI v76)]) (L' := []) (by kernel_rfl) ?_
        refine blockQ_ret ?_
        refine seqQ_ret ?_
        exact retQ_mk (by kernel_rfl) (by kernel_rfl) (by kernel_rfl)
      · obtain ⟨rfl, rfl, rfl⟩ := hJ
        refine LT_keep [0, 1, 2] [] (fr' := [(0, aI a0), (1, aD (.slice (.arr 2 tI)) a1), (2, aI a2)]) (L' := []) (by kernel_rfl) ?_
        refine blockQ_hit ?_
        refine seqQ_norm ?_
        refine W_seq (by kernel_rfl) ?_
        refine W_seq (by kernel_rfl) ?_
        refine W_region (by kernel_rfl) ?_
        refine WO_run (j := 1) (k := 1) (orcs := []) (kF := [0, 2, 42]) (kL := []) (fr' := [(0, aI a0), (2, aI a2), (42, aD (.slice (.arr 2 tI)) a1)]) (L' := []) (obs := []) rfl (by kernel_rfl) allP0 ?_
        obtain ⟨r78, h79, h⟩ := bind_of h
        refine WO_call0 (us := [none, none]) (d := 43) (p := True) (j := 2) rfl ⟨by kernel_rfl, by kernel_rfl, by kernel_rfl⟩ trivial (slices_ContainsFunc_L2int2int_with_hard_graph_1_ok h79) (by kernel_rfl) ?_
        refine WO_fin [0, 2, 43] [] (fr' := [(0, aI a0), (2, aI a2), (43, aB r78)]) (L' := []) (by kernel_rfl) (by kernel_rfl) ?_
        refine seqQ_norm ?_
        refine W_cond (o := .tmp 43) (b := r78) (by kernel_rfl) (by kernel_rfl) (fun h80 => ?_) (fun h80 => ?_)
        · replace h := ofT h80 h
          refine W_seq (by kernel_rfl) ?_
          refine W_run 1 [] [6] [] (fr' := [(6, aI (3 : Int))]) (L' := []) (obs := []) (by kernel_rfl) (by kernel_rfl) (by kernel_rfl) allP0 ?_
          refine seqQ_norm ?_
          obtain rfl := Option.some.inj h
          refine W_ret [6] [] (fr' := [(6, aI (3 : Int))]) (L' := []) (by kernel_rfl) (by kernel_rfl) ?_
          refine seqQ_ret ?_
          exact retQ_mk (by kernel_rfl) (by kernel_rfl) (by kernel_rfl)
        · replace h := ofF h80 h
          refine W_skip [0, 2] [] (fr' := [(0, aI a0), (2, aI a2)]) (L' := []) (by kernel_rfl) (by kernel_rfl) ?_
          refine seqQ_norm ?_
          refine W_seq (by kernel_rfl) ?_
          refine W_seq (by kernel_rfl) ?_
          refine W_run 7 [] [50] [] (fr' := [(50, aB ((decide (a2 < (0 : Int))) || (decide (a2 > a0))))]) (L' := []) (obs := []) (by kernel_rfl) (by kernel_rfl) (by kernel_rfl) allP0 ?_
          refine seqQ_norm ?_
          refine W_cond (o := .tmp 50) (b := (decide (a2 < (0 : Int))) || (decide (a2 > a0))) (by kernel_rfl) (by kernel_rfl) (fun h81 => ?_) (fun h81 => ?_)
          · replace h := ofT h81 h
            refine W_seq (by kernel_rfl) ?_
            refine W_run 1 [] [6] [] (fr' := [(6, aI (4 : Int))]) (L' := []) (obs := []) (by kernel_rfl) (by kernel_rfl) (by kernel_rfl) allP0 ?_
            refine seqQ_norm ?_
            obtain rfl := Option.some.inj h
            refine W_ret [6] [] (fr' := [(6, aI (4 : Int))]) (L' := []) (by kernel_rfl) (by kernel_rfl) ?_
            refine seqQ_ret ?_
            exact retQ_mk (by kernel_rfl) (by kernel_rfl) (by kernel_rfl)
          · replace h := ofF h81 h
            refine W_skip [] [] (fr' := []) (L' := []) (by kernel_rfl) (by kernel_rfl) ?_
            refine seqQ_norm ?_
            refine W_seq (by kernel_rfl) ?_
            refine W_run 1 [] [6] [] (fr' := [(6, aI (0 : Int))]) (L' := []) (obs := []) (by kernel_rfl) (by kernel_rfl) (by kernel_rfl) allP0 ?_
            refine seqQ_norm ?_
            obtain rfl := Option.some.inj h
            refine W_ret [6] [] (fr' := [(6, aI (0 : Int))]) (L' := []) (by kernel_rfl) (by kernel_rfl) ?_
            exact retQ_mk (by kernel_rfl) (by kernel_rfl) (by kernel_rfl)

def hard_Free_2 (a0 : (List Int)) : Option Bool :=
some true
theorem hard_Free_2_ok {a0 : (List Int)} {r : Bool} (h : hard_Free_2 a0 = some r) : FnC Try.prog 60 [aD (.slice tI) a0] [] (aB r) [] := by
  refine fnC_of_W (B := bodyOf Try.f60) (n := 3) Try.func60 (by kernel_rfl) (by kernel_rfl) (by kernel_rfl) (by kernel_rfl) (by kernel_rfl) ?_
  intro K
  refine W_seq (by kernel_rfl) ?_
  refine W_run 1 [] [] [] (fr' := []) (L' := []) (obs := []) (by kernel_rfl) (by kernel_rfl) (by kernel_rfl) allP0 ?_
  refine seqQ_norm ?_
  refine W_seq (by kernel_rfl) ?_
  refine W_run 1 [] [2] [] (fr' := [(2, aB true)]) (L' := []) (obs := []) (by kernel_rfl) (by kernel_rfl) (by kernel_rfl) allP0 ?_
  refine seqQ_norm ?_
  obtain rfl := Option.some.inj h
  refine W_ret [2] [] (fr' := [(2, aB true)]) (L' := []) (by kernel_rfl) (by kernel_rfl) ?_
  exact retQ_mk (by kernel_rfl) (by kernel_rfl) (by kernel_rfl)

def slices_Index_Lintint_b1 (a1 : Int) (i11 : Int) (v14 : Int) (x12 : Unit) : Option (Flow Unit (Esc Int Unit)) :=
bif a1 == v14 then
(some (.done (.ret i11)))
else
(some (.next ()))
@[reducible] def slices_Index_Lintint_s2 (a0 : (List Int)) (a1 : Int) (v : Int × Unit) : Fr × LL := ([(0, aD (.slice tI) a0), (1, aI a1), (7, aI (List.length a0 : Int)), (8, aI v.1)], [])
@[reducible] def slices_Index_Lintint_s3 (v : Int) : Fr × LL := ([(4, aI v)], [])
@[reducible] def slices_Index_Lintint_s4 (v : Unit) : Fr × LL := ([], [])
def slices_Index_Lintint (a0 : (List Int)) (a1 : Int) : Option Int :=
(forL (slices_Index_Lintint_b1 a1) (fun x12 => (.brk ())) a0 0 ()).bind fun v19 =>
match v19 with
| .ret v24 =>
(some v24)
| .brk v25 =>
(some (-1 : Int))
theorem slices_Index_Lintint_ok {a0 : (List Int)} {a1 : Int} {r : Int} (h : slices_Index_Lintint a0 a1 = some r) : FnC Try.prog 72 [aD (.slice tI) a0, aI a1] [] (aI r) [] := by
  refine fnC_of_W (B := bodyOf Try.f72) (n := 19) Try.func72 (by kernel_rfl) (by kernel_rfl) (by kernel_rfl) (by kernel_rfl) (by kernel_rfl) ?_
  intro K
  refine W_seq (by kernel_rfl) ?_
  refine W_run 1 [] [0, 1] [] (fr' := [(0, aD (.slice tI) a0), (1, aI a1)]) (L' := []) (obs := []) (by kernel_rfl) (by kernel_rfl) (by kernel_rfl) allP0 ?_
  refine seqQ_norm ?_
  refine W_seq (by kernel_rfl) ?_
  refine W_seq (by kernel_rfl) ?_
  refine W_run 3 [] [0, 1, 7, 8] [] (fr' := [(0, aD (.slice tI) a0), (1, aI a1), (7, aI (List.length a0 : Int)), (8, aI (0 : Int))]) (L' := []) (obs := []) (by kernel_rfl) (by kernel_rfl) (by kernel_rfl) allP0 ?_
  refine seqQ_norm ?_
  refine W_block (id := 0) (by kernel_rfl) ?_
  obtain ⟨v19, h20, h⟩ := bind_of h
  refine W_len (t := 0) (u := tI) (xs := a0) (by kernel_rfl) (fun h23 => ?_)
  obtain ⟨h21, h22⟩ := forL_iter h23 h20
  refine W_weaken [0, 1, 7, 8] [] (fr' := ((slices_Index_Lintint_s2 a0 a1) ((0 : Int), ())).1) (L' := ((slices_Index_Lintint_s2 a0 a1) ((0 : Int), ())).2) (by kernel_rfl) ?_
  refine W_cutK (W_loop (S := (slices_Index_Lintint_s2 a0 a1)) (J := (escQ (exQ .ret slices_Index_Lintint_s3) (exQ (.exit 0) slices_Index_Lintint_s4))) (by kernel_rfl) ?_ h21 _ v19 h22) ?_
  · rintro ⟨i11, x12⟩ s h
    refine W_seq (by kernel_rfl) ?_
    refine W_run 1 [] [0, 1, 7, 8, 9] [] (fr' := [(0, aD (.slice tI) a0), (1, aI a1), (7, aI (List.length a0 : Int)), (8, aI i11), (9, aB (decide (i11 < (List.length a0 : Int))))]) (L' := []) (obs := []) (by kernel_rfl) (by kernel_rfl) (by kernel_rfl) allP0 ?_
    refine seqQ_norm ?_
    refine W_seq (by kernel_rfl) ?_
    refine W_cond (o := .tmp 9) (b := decide (i11 < (List.length a0 : Int))) (by kernel_rfl) (by kernel_rfl) (fun h16 => ?_) (fun h16 => ?_)
    · replace h := stepL_true h16 h
      obtain ⟨v14, _, h15, h, rfl⟩ := h
      refine W_skip [0, 1, 7, 8] [] (fr' := [(0, aD (.slice tI) a0), (1, aI a1), (7, aI (List.length a0 : Int)), (8, aI i11)]) (L' := []) (by kernel_rfl) (by kernel_rfl) ?_
      refine seqQ_norm ?_
      refine W_seq (by kernel_rfl) ?_
      refine W_block (id := 1) (by kernel_rfl) ?_
      refine W_seq (by kernel_rfl) ?_
      refine W_run 2 [] [0, 1, 5, 7, 8] [] (fr' := [(0, aD (.slice tI) a0), (1, aI a1), (5, aI i11), (7, aI (List.length a0 : Int)), (8, aI i11)]) (L' := []) (obs := []) (by kernel_rfl) (by kernel_rfl) (by kernel_rfl) allP0 ?_
      refine seqQ_norm ?_
      refine W_seq (by kernel_rfl) ?_
      refine W_run 6 [(7, .val (.dat tI v14))] [0, 1, 5, 7, 8, 16] [] (fr' := [(0, aD (.slice tI) a0), (1, aI a1), (5, aI i11), (7, aI (List.length a0 : Int)), (8, aI i11), (16, aB (a1 == v14))]) (L' := []) (obs := [Idx a0 i11 v14]) (by kernel_rfl) (by kernel_rfl) (by kernel_rfl) (allP1 (Idx.of h15)) ?_
      refine seqQ_norm ?_
      refine W_cond (o := .tmp 16) (b := a1 == v14) (by kernel_rfl) (by kernel_rfl) (fun h17 => ?_) (fun h17 => ?_)
      · replace h := ofT h17 h
        refine W_seq (by kernel_rfl) ?_
        refine W_run 2 [] [4] [] (fr' := [(4, aI i11)]) (L' := []) (obs := []) (by kernel_rfl) (by kernel_rfl) (by kernel_rfl) allP0 ?_
        refine seqQ_norm ?_
        obtain rfl := Option.some.inj h
        refine W_ret [4] [] (fr' := [(4, aI i11)]) (L' := []) (by kernel_rfl) (by kernel_rfl) ?_
        refine blockQ_ret ?_
        refine seqQ_ret ?_
        refine round_ret ?_
        refine escQ_ret ?_
        exact exQ_mk (by kernel_rfl) (by kernel_rfl)
      · replace h := ofF h17 h
        refine W_skip [0, 1, 7, 8] [] (fr' := [(0, aD (.slice tI) a0), (1, aI a1), (7, aI (List.length a0 : Int)), (8, aI i11)]) (L' := []) (by kernel_rfl) (by kernel_rfl) ?_
        refine blockQ_norm ?_
        refine seqQ_norm ?_
        obtain rfl := Option.some.inj h
        refine W_run 2 [] [0, 1, 7, 8] [] (fr' := [(0, aD (.slice tI) a0), (1, aI a1), (7, aI (List.length a0 : Int)), (8, aI (w64 (i11 + (1 : Int))))]) (L' := []) (obs := []) (by kernel_rfl) (by kernel_rfl) (by kernel_rfl) allP0 ?_
        exact round_next' (by kernel_rfl) (by kernel_rfl)
    · obtain rfl := stepL_false h16 h
      refine W_exit (id := 0) [] [] (fr' := []) (L' := []) (by kernel_rfl) (by kernel_rfl) ?_
      refine seqQ_exit ?_
      refine round_exit ?_
      refine escQ_brk ?_
      exact exQ_mk (by kernel_rfl) (by kernel_rfl)
  · intro e fr L hJ
    rcases v19 with v24 | v25
    · obtain ⟨rfl, rfl, rfl⟩ := hJ
      obtain rfl := Option.some.inj h
      refine LT_keep [4] [] (fr' := [(4, aI v24)]) (L' := []) (by kernel_rfl) ?_
      refine blockQ_ret ?_
      refine seqQ_ret ?_
      exact retQ_mk (by kernel_rfl) (by kernel_rfl) (by kernel_rfl)
    · obtain ⟨rfl, rfl, rfl⟩ := hJ
      refine LT_keep [] [] (fr' := []) (L' := []) (by kernel_rfl) ?_
      refine blockQ_hit ?_
      refine seqQ_norm ?_
      refine W_seq (by kernel_rfl) ?_
      refine W_run 1 [] [4] [] (fr' := [(4, aI (-1 : Int))]) (L' := []) (obs := []) (by kernel_rfl) (by kernel_rfl) (by kernel_rfl) allP0 ?_
      refine seqQ_norm ?_
      obtain rfl := Option.some.inj h
      refine W_ret [4] [] (fr' := [(4, aI (-1 : Int))]) (L' := []) (by kernel_rfl) (by kernel_rfl) ?_
      exact retQ_mk (by kernel_rfl) (by kernel_rfl) (by kernel_rfl)

def slices_Contains_Lintint (a0 : (List Int)) (a1 : Int) : Option Bool :=
(slices_Index_Lintint a0 a1).bind fun r1 =>
some (decide (r1 ≥ (0 : Int)))
theorem slices_Contains_Lintint_ok {a0 : (List Int)} {a1 : Int} {r : Bool} (h : slices_Contains_Lintint a0 a1 = some r) : FnC Try.prog 58 [aD (.slice tI) a0, aI a1] [] (aB r) [] := by
  refine fnC_of_W (B := bodyOf Try.f58) (n := 9) Try.func58 (by kernel_rfl) (by kernel_rfl) (by kernel_rfl) (by kernel_rfl) (by kernel_rfl) ?_
  intro K
  refine W_seq (by kernel_rfl) ?_
  refine W_run 1 [] [0, 1] [] (fr' := [(0, aD (.slice tI) a0), (1, aI a1)]) (L' := []) (obs := []) (by kernel_rfl) (by kernel_rfl) (by kernel_rfl) allP0 ?_
  refine seqQ_norm ?_
  refine W_seq (by kernel_rfl) ?_
  refine W_region (by kernel_rfl) ?_
  refine WO_run (j := 2) (k := 2) (orcs := []) (kF := [5, 6]) (kL := []) (fr' := [(5, aD (.slice tI) a0), (6, aI a1)]) (L' := []) (obs := []) rfl (by kernel_rfl) allP0 ?_
  obtain ⟨r1, h2, h⟩ := bind_of h
  refine WO_call0 (us := [none, none]) (d := 7) (p := True) (j := 3) rfl ⟨by kernel_rfl, by kernel_rfl, by kernel_rfl⟩ trivial (slices_Index_Lintint_ok h2) (by kernel_rfl) ?_
  refine WO_run (j := 5) (k := 2) (orcs := []) (kF := [4]) (kL := []) (fr' := [(4, aB (decide (r1 ≥ (0 : Int))))]) (L' := []) (obs := []) rfl (by kernel_rfl) allP0 ?_
  refine WO_fin [4] [] (fr' := [(4, aB (decide (r1 ≥ (0 : Int))))]) (L' := []) (by kernel_rfl) (by kernel_rfl) ?_
  refine seqQ_norm ?_
  obtain rfl := Option.some.inj h
  refine W_ret [4] [] (fr' := [(4, aB (decide (r1 ≥ (0 : Int))))]) (L' := []) (by kernel_rfl) (by kernel_rfl) ?_
  exact retQ_mk (by kernel_rfl) (by kernel_rfl) (by kernel_rfl)

def hard_Free_1_1_g1 (a0 : (List Int)) (c0 : Int) (c1 : (List Int)) : Option Bool :=
(idx a0 (0 : Int)).bind fun v33 =>
bif v33 == c0 then
((idx a0 (1 : Int)).bind fun v36 =>
(slices_Contains_Lintint c1 v36).bind fun r38 =>
bif r38 then
(some true)
else
(bif v36 == c0 then
((slices_Contains_Lintint c1 v33).bind fun r42 =>
some r42)
else
(some false)))
else
((idx a0 (1 : Int)).bind fun v44 =>
bif v44 == c0 then
((slices_Contains_Lintint c1 v33).bind fun r47 =>
some r47)
else
(some false))
@[reducible] def hard_Free_1_1_s2 (c0 : Int) (c1 : (List Int)) (v : Bool) : Fr × LL := ([(4, aB v)], [(1000, .cells [.dat tI c0]), (1001, .cells [.dat (.slice tI) c1])])
def hard_Free_1_1 (a0 : (List Int)) (c0 : Int) (c1 : (List Int)) : Option Bool :=
(hard_Free_1_1_g1 a0 c0 c1).bind fun v49 =>
some v49
theorem hard_Free_1_1_ok {a0 : (List Int)} {c0 : Int} {c1 : (List Int)} {r : Bool} (h : hard_Free_1_1 a0 c0 c1 = some r) : FnC Try.prog 57 [aD (.arr 2 tI) a0, .one (.ptr 1000 0), .one (.ptr 1001 0)] [(1000, .cells [.dat tI c0]), (1001, .cells [.dat (.slice tI) c1])] (aB r) [(1000, .cells [.dat tI c0]), (1001, .cells [.dat (.slice tI) c1])] := by
  refine fnC_of_W (B := bodyOf Try.f57) (n := 27) Try.func57 (by kernel_rfl) (by kernel_rfl) (by kernel_rfl) (by kernel_rfl) (by kernel_rfl) ?_
  intro K
  refine W_seq (by kernel_rfl) ?_
  refine W_run 2 [] [1, 2, 3] [1000, 1001, 3] (fr' := [(1, .one (.ptr 1000 0)), (2, .one (.ptr 1001 0)), (3, .one (.ptr 3 0))]) (L' := [(1000, .cells [.dat tI c0]), (1001, .cells [.dat (.slice tI) c1]), (3, .one (.arr 2 tI) a0)]) (obs := []) (by kernel_rfl) (by kernel_rfl) (by kernel_rfl) allP0 ?_
  refine seqQ_norm ?_
  refine W_seq (by kernel_rfl) ?_
  obtain ⟨v49, h50, h⟩ := bind_of h
  refine W_cutK (Q' := (exQ .normal (hard_Free_1_1_s2 c0 c1)) v49) ?_ ?_
  · replace h := h50
    obtain ⟨v33, h34, h⟩ := bind_of h
    refine W_region (by kernel_rfl) ?_
    refine WO_run (j := 5) (k := 5) (orcs := [(3, .val (.dat tI v33))]) (kF := [1, 2, 3, 9]) (kL := [3, 1000, 1001]) (fr' := [(1, .one (.ptr 1000 0)), (2, .one (.ptr 1001 0)), (3, .one (.ptr 3 0)), (9, aB (v33 == c0))]) (L' := [(3, .one (.arr 2 tI) a0), (1000, .cells [.dat tI c0]), (1001, .cells [.dat (.slice tI) c1])]) (obs := [InR (0 : Int) 2, Idx a0 (0 : Int) v33]) rfl (by kernel_rfl) (allP2 (by unfold InR; decide) (allP1 (Idx.of h34))) ?_
    rcases Bool.eq_false_or_eq_true (v33 == c0) with h35 | h35
    · replace h := ofT h35 h
      obtain ⟨v36, h37, h⟩ := bind_of h
      refine WO_run (j := 8) (k := 3) (orcs := [(10, .known true), (12, .known true), (14, .known true), (15, .val (.dat tI v36))]) (kF := [1, 2, 3, 9, 10, 12]) (kL := [3, 1000, 1001]) (fr' := [(1, .one (.ptr 1000 0)), (2, .one (.ptr 1001 0)), (3, .one (.ptr 3 0)), (9, aB (v33 == c0)), (10, aD (.slice tI) c1), (12, aI v36)]) (L' := [(3, .one (.arr 2 tI) a0), (1000, .cells [.dat tI c0]), (1001, .cells [.dat (.slice tI) c1])]) (obs := [((v33 == c0) = true), ((v33 == c0) = true), InR (1 : Int) 2, ((v33 == c0) = true), Idx a0 (1 : Int) v36]) rfl (by kernel_rfl) (allP2 h35 (allP2 h35 (allP2 (by unfold InR; decide) (allP2 h35 (allP1 (Idx.of h37)))))) ?_
      obtain ⟨r38, h39, h⟩ := bind_of h
      refine WO_call0 (us := [none, none]) (d := 13) (p := ((v33 == c0) = true)) (j := 9) rfl ⟨by kernel_rfl, by kernel_rfl, by kernel_rfl⟩ h35 (slices_Contains_Lintint_ok h39) (by kernel_rfl) ?_
      refine WO_run (j := 11) (k := 2) (orcs := [(19, .val (.dat .bool true))]) (kF := [1, 2, 3, 15]) (kL := [3, 1000, 1001]) (fr' := [(1, .one (.ptr 1000 0)), (2, .one (.ptr 1001 0)), (3, .one (.ptr 3 0)), (15, aB r38)]) (L' := [(3, .one (.arr 2 tI) a0), (1000, .cells [.dat tI c0]), (1001, .cells [.dat (.slice tI) c1])]) (obs := [((v33 == c0) = true)]) rfl (by kernel_rfl) (allP1 h35) ?_
      rcases Bool.eq_false_or_eq_true (r38) with h40 | h40
      · replace h := ofT h40 h
        refine WO_run (j := 23) (k := 12) (orcs := [(22, .known true), (24, .known true), (26, .known true), (28, .known true), (30, .known true), (32, .known true), (34, .known true), (36, .known true), (38, .known true), (40, .known true), (43, .val (.dat .bool true))]) (kF := [4]) (kL := [3, 1000, 1001]) (fr' := [(4, aB true)]) (L' := [(3, .one (.arr 2 tI) a0), (1000, .cells [.dat tI c0]), (1001, .cells [.dat (.slice tI) c1])]) (obs := [(r38 = true), (r38 = true), (r38 = true), (r38 = true), (r38 = true), (r38 = true), (r38 = true)]) rfl (by kernel_rfl) (allP2 h40 (allP2 h40 (allP2 h40 (allP2 h40 (allP2 h40 (allP2 h40 (allP1 h40))))))) ?_
        obtain rfl := Option.some.inj h
        refine WO_fin [4] [1000, 1001] (fr' := [(4, aB true)]) (L' := [(1000, .cells [.dat tI c0]), (1001, .cells [.dat (.slice tI) c1])]) (by kernel_rfl) (by kernel_rfl) ?_
        exact exQ_mk (by kernel_rfl) (by kernel_rfl)
      · replace h := ofF h40 h
        refine WO_run (j := 16) (k := 5) (orcs := [(22, .known false), (24, .known false), (25, .val (.dat tI v36)), (26, .known false), (28, .known false), (30, .known false)]) (kF := [2, 3, 15, 20]) (kL := [3, 1000, 1001]) (fr' := [(2, .one (.ptr 1001 0)), (3, .one (.ptr 3 0)), (15, aB r38), (20, aB (v36 == c0))]) (L' := [(3, .one (.arr 2 tI) a0), (1000, .cells [.dat tI c0]), (1001, .cells [.dat (.slice tI) c1])]) (obs := [(r38 = false), InR (1 : Int) 2, (r38 = false), Idx a0 (1 : Int) v36, (r38 = false), (r38 = false), (r38 = false)]) rfl (by kernel_rfl) (allP2 h40 (allP2 (by unfold InR; decide) (allP2 h40 (allP2 (Idx.of h37) (allP2 h40 (allP2 h40 (allP1 h40))))))) ?_
        rcases Bool.eq_false_or_eq_true (v36 == c0) with h41 | h41
        · replace h := ofT h41 h
          refine WO_run (j := 19) (k := 3) (orcs := [(32, .known true), (34, .known true), (36, .known true), (37, .val (.dat tI v33))]) (kF := [15, 20, 21, 23]) (kL := [3, 1000, 1001]) (fr' := [(15, aB r38), (20, aB (v36 == c0)), (21, aD (.slice tI) c1), (23, aI v33)]) (L' := [(3, .one (.arr 2 tI) a0), (1000, .cells [.dat tI c0]), (1001, .cells [.dat (.slice tI) c1])]) (obs := [((v36 == c0) = true), ((v36 == c0) = true), InR (0 : Int) 2, ((v36 == c0) = true), Idx a0 (0 : Int) v33]) rfl (by kernel_rfl) (allP2 h41 (allP2 h41 (allP2 (by unfold InR; decide) (allP2 h41 (allP1 (Idx.of h34)))))) ?_
          obtain ⟨r42, h43, h⟩ := bind_of h
          refine WO_call0 (us := [none, none]) (d := 24) (p := ((v36 == c0) = true)) (j := 20) rfl ⟨by kernel_rfl, by kernel_rfl, by kernel_rfl⟩ h41 (slices_Contains_Lintint_ok h43) (by kernel_rfl) ?_
          refine WO_run (j := 23) (k := 3) (orcs := [(40, .known false), (41, .val (.dat .bool true)), (43, .val (.dat .bool false))]) (kF := [4]) (kL := [3, 1000, 1001]) (fr' := [(4, aB r42)]) (L' := [(3, .one (.arr 2 tI) a0), (1000, .cells [.dat tI c0]), (1001, .cells [.dat (.slice tI) c1])]) (obs := [(r38 = false), ((v36 == c0) = true), (r38 = false)]) rfl (by kernel_rfl) (allP2 h40 (allP2 h41 (allP1 h40))) ?_
          obtain rfl := Option.some.inj h
          refine WO_fin [4] [1000, 1001] (fr' := [(4, aB r42)]) (L' := [(1000, .cells [.dat tI c0]), (1001, .cells [.dat (.slice tI) c1])]) (by kernel_rfl) (by kernel_rfl) ?_
          exact exQ_mk (by kernel_rfl) (by kernel_rfl)
        · replace h := ofF h41 h
          refine WO_run (j := 23) (k := 7) (orcs := [(32, .known false), (34, .known false), (36, .known false), (38, .known false), (40, .known false), (41, .val (.dat .bool false)), (43, .val (.dat .bool false))]) (kF := [4]) (kL := [3, 1000, 1001]) (fr' := [(4, aB false)]) (L' := [(3, .one (.arr 2 tI) a0), (1000, .cells [.dat tI c0]), (1001, .cells [.dat (.slice tI) c1])]) (obs := [((v36 == c0) = false), ((v36 == c0) = false), ((v36 == c0) = false), ((v36 == c0) = false), (r38 = false), ((v36 == c0) = false), (r38 = false)]) rfl (by kernel_rfl) (allP2 h41 (allP2 h41 (allP2 h41 (allP2 h41 (allP2 h40 (allP2 h41 (allP1 h40))))))) ?_
          obtain rfl := Option.some.inj h
          refine WO_fin [4] [1000, 1001] (fr' := [(4, aB false)]) (L' := [(1000, .cells [.dat tI c0]), (1001, .cells [.dat (.slice tI) c1])]) (by kernel_rfl) (by kernel_rfl) ?_
          exact exQ_mk (by kernel_rfl) (by kernel_rfl)
    · replace h := ofF h35 h
      obtain ⟨v44, h45, h⟩ := bind_of h
      refine WO_run (j := 16) (k := 11) (orcs := [(10, .known false), (12, .known false), (14, .known false), (16, .known false), (19, .val (.dat .bool false)), (22, .known false), (24, .known false), (25, .val (.dat tI v44)), (26, .known false), (28, .known false), (30, .known false)]) (kF := [2, 3, 15, 20]) (kL := [3, 1000, 1001]) (fr' := [(2, .one (.ptr 1001 0)), (3, .one (.ptr 3 0)), (15, aB false), (20, aB (v44 == c0))]) (L' := [(3, .one (.arr 2 tI) a0), (1000, .cells [.dat tI c0]), (1001, .cells [.dat (.slice tI) c1])]) (obs := [((v33 == c0) = false), ((v33 == c0) = false), ((v33 == c0) = false), ((v33 == c0) = false), ((v33 == c0) = false), (false = false), InR (1 : Int) 2, (false = false), Idx a0 (1 : Int) v44, (false = false), (false = false), (false = false)]) rfl (by kernel_rfl) (allP2 h35 (allP2 h35 (allP2 h35 (allP2 h35 (allP2 h35 (allP2 rfl (allP2 (by unfold InR; decide) (allP2 rfl (allP2 (Idx.of h45) (allP2 rfl (allP2 rfl (allP1 rfl)))))))))))) ?_
      rcases Bool.eq_false_or_eq_true (v44 == c0) with h46 | h46
      · replace h := ofT h46 h
        refine WO_run (j := 19) (k := 3) (orcs := [(32, .known true), (34, .known true), (36, .known true), (37, .val (.dat tI v33))]) (kF := [15, 20, 21, 23]) (kL := [3, 1000, 1001]) (fr' := [(15, aB false), (20, aB (v44 == c0)), (21, aD (.slice tI) c1), (23, aI v33)]) (L' := [(3, .one (.arr 2 tI) a0), (1000, .cells [.dat tI c0]), (1001, .cells [.dat (.slice tI) c1])]) (obs := [((v44 == c0) = true), ((v44 == c0) = true), InR (0 : Int) 2, ((v44 == c0) = true), Idx a0 (0 : Int) v33]) rfl (by kernel_rfl) (allP2 h46 (allP2 h46 (allP2 (by unfold InR; decide) (allP2 h46 (allP1 (Idx.of h34)))))) ?_
        obtain ⟨r47, h48, h⟩ := bind_of h
        refine WO_call0 (us := [none, none]) (d := 24) (p := ((v44 == c0) = true)) (j := 20) rfl ⟨by kernel_rfl, by kernel_rfl, by kernel_rfl⟩ h46 (slices_Contains_Lintint_ok h48) (by kernel_rfl) ?_
        refine WO_run (j := 23) (k := 3) (orcs := [(40, .known false), (41, .val (.dat .bool true)), (43, .val (.dat .bool false))]) (kF := [4]) (kL := [3, 1000, 1001]) (fr' := [(4, aB r47)]) (L' := [(3, .one (.arr 2 tI) a0), (1000, .cells [.dat tI c0]), (1001, .cells [.dat (.slice tI) c1])]) (obs := [(false = false), ((v44 == c0) = true), (false = false)]) rfl (by kernel_rfl) (allP2 rfl (allP2 h46 (allP1 rfl))) ?_
        obtain rfl := Option.some.inj h
        refine WO_fin [4] [1000, 1001] (fr' := [(4, aB r47)]) (L' := [(1000, .cells [.dat tI c0]), (1001, .cells [.dat (.slice tI) c1])]) (by kernel_rfl) (by kernel_rfl) ?_
        exact exQ_mk (by kernel_rfl) (by kernel_rfl)
      · replace h := ofF h46 h
        refine WO_run (j := 23) (k := 7) (orcs := [(32, .known false), (34, .known false), (36, .known false), (38, .known false), (40, .known false), (41, .val (.dat .bool false)), (43, .val (.dat .bool false))]) (kF := [4]) (kL := [3, 1000, 1001]) (fr' := [(4, aB false)]) (L' := [(3, .one (.arr 2 tI) a0), (1000, .cells [.dat tI c0]), (1001, .cells [.dat (.slice tI) c1])]) (obs := [((v44 == c0) = false), ((v44 == c0) = false), ((v44 == c0) = false), ((v44 == c0) = false), (false = false), ((v44 == c0) = false), (false = false)]) rfl (by kernel_rfl) (allP2 h46 (allP2 h46 (allP2 h46 (allP2 h46 (allP2 rfl (allP2 h46 (allP1 rfl))))))) ?_
        obtain rfl := Option.some.inj h
        refine WO_fin [4] [1000, 1001] (fr' := [(4, aB false)]) (L' := [(1000, .cells [.dat tI c0]), (1001, .cells [.dat (.slice tI) c1])]) (by kernel_rfl) (by kernel_rfl) ?_
        exact exQ_mk (by kernel_rfl) (by kernel_rfl)
  · intro e fr L hJ
    obtain ⟨rfl, rfl, rfl⟩ := hJ
    refine LT_keep [4] [1000, 1001] (fr' := [(4, aB v49)]) (L' := [(1000, .cells [.dat tI c0]), (1001, .cells [.dat (.slice tI) c1])]) (by kernel_rfl) ?_
    refine seqQ_norm ?_
    obtain rfl := Option.some.inj h
    refine W_ret [4] [1000, 1001] (fr' := [(4, aB v49)]) (L' := [(1000, .cells [.dat tI c0]), (1001, .cells [.dat (.slice tI) c1])]) (by kernel_rfl) (by kernel_rfl) ?_
    exact retQ_mk (by kernel_rfl) (by kernel_rfl) (by kernel_rfl)

def slices_IndexFunc_L2int2int_with_hard_Free_1_1_b1 (c0 : Int) (c1 : (List Int)) (i15 : Int) (v18 : (List Int)) (x16 : Unit) : Option (Flow Unit (Esc Int Unit)) :=
(hard_Free_1_1 v18 c0 c1).bind fun r21 =>
bif r21 then
(some (.done (.ret i15)))
else
(some (.next ()))
@[reducible] def slices_IndexFunc_L2int2int_with_hard_Free_1_1_s2 (a0 : (List (List Int))) (c0 : Int) (c1 : (List Int)) (v : Int × Unit) : Fr × LL := ([(0, aD (.slice (.arr 2 tI)) a0), (1, .one (.fn 57 [(1000, 0), (1001, 0)])), (7, aI (List.length a0 : Int)), (8, aI v.1)], [(1000, .cells [.dat tI c0]), (1001, .cells [.dat (.slice tI) c1])])
@[reducible] def slices_IndexFunc_L2int2int_with_hard_Free_1_1_s3 (c0 : Int) (c1 : (List Int)) (v : Int) : Fr × LL := ([(4, aI v)], [(1000, .cells [.dat tI c0]), (1001, .cells [.dat (.slice tI) c1])])
@[reducible] def slices_IndexFunc_L2int2int_with_hard_Free_1_1_s4 (c0 : Int) (c1 : (List Int)) (v : Unit) : Fr × LL := ([], [(1000, .cells [.dat tI c0]), (1001, .cells [.dat (.slice tI) c1])])
def slices_IndexFunc_L2int2int_with_hard_Free_1_1 (a0 : (List (List Int))) (c0 : Int) (c1 : (List Int)) : Option Int :=
(forL (slices_IndexFunc_L2int2int_with_hard_Free_1_1_b1 c0 c1) (fun x16 => (.brk ())) a0 0 ()).bind fun v25 =>
match v25 with
| .ret v30 =>
(some v30)
| .brk v31 =>
(some (-1 : Int))
theorem slices_IndexFunc_L2int2int_with_hard_Free_1_1_ok {a0 : (List (List Int))} {c0 : Int} {c1 : (List Int)} {r : Int} (h : slices_IndexFunc_L2int2int_with_hard_Free_1_1 a0 c0 c1 = some r) : FnC Try.prog 71 [aD (.slice (.arr 2 tI)) a0, .one (.fn 57 [(1000, 0), (1001, 0)])] [(1000, .cells [.dat tI c0]), (1001, .cells [.dat (.slice tI) c1])] (aI r) [(1000, .cells [.dat tI c0]), (1001, .cells [.dat (.slice tI) c1])] := by
  refine fnC_of_W (B := bodyOf Try.f71) (n := 19) Try.func71 (by kernel_rfl) (by kernel_rfl) (by kernel_rfl) (by kernel_rfl) (by kernel_rfl) ?_
  intro K
  refine W_seq (by kernel_rfl) ?_
  refine W_run 1 [] [0, 1] [1000, 1001] (fr' := [(0, aD (.slice (.arr 2 tI)) a0), (1, .one (.fn 57 [(1000, 0), (1001, 0)]))]) (L' := [(1000, .cells [.dat tI c0]), (1001, .cells [.dat (.slice tI) c1])]) (obs := []) (by kernel_rfl) (by kernel_rfl) (by kernel_rfl) allP0 ?_
  refine seqQ_norm ?_
  refine W_seq (by kernel_rfl) ?_
  refine W_seq (by kernel_rfl) ?_
  refine W_run 3 [] [0, 1, 7, 8] [1000, 1001] (fr' := [(0, aD (.slice (.arr 2 tI)) a0), (1, .one (.fn 57 [(1000, 0), (1001, 0)])), (7, aI (List.length a0 : Int)), (8, aI (0 : Int))]) (L' := [(1000, .cells [.dat tI c0]), (1001, .cells [.dat (.slice tI) c1])]) (obs := []) (by kernel_rfl) (by kernel_rfl) (by kernel_rfl) allP0 ?_
  refine seqQ_norm ?_
  refine W_block (id := 0) (by kernel_rfl) ?_
  obtain ⟨v25, h26, h⟩ := bind_of h
  refine W_len (t := 0) (u := (.arr 2 tI)) (xs := a0) (by kernel_rfl) (fun h29 => ?_)
  obtain ⟨h27, h28⟩ := forL_iter h29 h26
  refine W_weaken [0, 1, 7, 8] [1000, 1001] (fr' := ((slices_IndexFunc_L2int2int_with_hard_Free_1_1_s2 a0 c0 c1) ((0 : Int), ())).1) (L' := ((slices_IndexFunc_L2int2int_with_hard_Free_1_1_s2 a0 c0 c1) ((0 : Int), ())).2) (by kernel_rfl) ?_
  refine W_cutK (W_loop (S := (slices_IndexFunc_L2int2int_with_hard_Free_1_1_s2 a0 c0 c1)) (J := (escQ (exQ .ret (slices_IndexFunc_L2int2int_with_hard_Free_1_1_s3 c0 c1)) (exQ (.exit 0) (slices_IndexFunc_L2int2int_with_hard_Free_1_1_s4 c0 c1)))) (by kernel_rfl) ?_ h27 _ v25 h28) ?_
  · rintro ⟨i15, x16⟩ s h
    refine W_seq (by kernel_rfl) ?_
    refine W_run 1 [] [0, 1, 7, 8, 9] [1000, 1001] (fr' := [(0, aD (.slice (.arr 2 tI)) a0), (1, .one (.fn 57 [(1000, 0), (1001, 0)])), (7, aI (List.length a0 : Int)), (8, aI i15), (9, aB (decide (i15 < (List.length a0 : Int))))]) (L' := [(1000, .cells [.dat tI c0]), (1001, .cells [.dat (.slice tI) c1])]) (obs := []) (by kernel_rfl) (by kernel_rfl) (by kernel_rfl) allP0 ?_
    refine seqQ_norm ?_
    refine W_seq (by kernel_rfl) ?_
    refine W_cond (o := .tmp 9) (b := decide (i15 < (List.length a0 : Int))) (by kernel_rfl) (by kernel_rfl) (fun h20 => ?_) (fun h20 => ?_)
    · replace h := stepL_true h20 h
      obtain ⟨v18, _, h19, h, rfl⟩ := h
      refine W_skip [0, 1, 7, 8] [1000, 1001] (fr' := [(0, aD (.slice (.arr 2 tI)) a0), (1, .one (.fn 57 [(1000, 0), (1001, 0)])), (7, aI (List.length a0 : Int)), (8, aI i15)]) (L' := [(1000, .cells [.dat tI c0]), (1001, .cells [.dat (.slice tI) c1])]) (by kernel_rfl) (by kernel_rfl) ?_
      refine seqQ_norm ?_
      refine W_seq (by kernel_rfl) ?_
      refine W_block (id := 1) (by kernel_rfl) ?_
      refine W_seq (by kernel_rfl) ?_
      refine W_run 2 [] [0, 1, 5, 7, 8] [1000, 1001] (fr' := [(0, aD (.slice (.arr 2 tI)) a0), (1, .one (.fn 57 [(1000, 0), (1001, 0)])), (5, aI i15), (7, aI (List.length a0 : Int)), (8, aI i15)]) (L' := [(1000, .cells [.dat tI c0]), (1001, .cells [.dat (.slice tI) c1])]) (obs := []) (by kernel_rfl) (by kernel_rfl) (by kernel_rfl) allP0 ?_
      refine seqQ_norm ?_
      refine W_seq (by kernel_rfl) ?_
      refine W_region (by kernel_rfl) ?_
      refine WO_run (j := 5) (k := 5) (orcs := [(7, .val (.dat (.arr 2 tI) v18))]) (kF := [0, 1, 5, 7, 8, 11, 15]) (kL := [1000, 1001]) (fr' := [(0, aD (.slice (.arr 2 tI)) a0), (1, .one (.fn 57 [(1000, 0), (1001, 0)])), (5, aI i15), (7, aI (List.length a0 : Int)), (8, aI i15), (11, .one (.fn 57 [(1000, 0), (1001, 0)])), (15, aD (.arr 2 tI) v18)]) (L' := [(1000, .cells [.dat tI c0]), (1001, .cells [.dat (.slice tI) c1])]) (obs := [Idx a0 i15 v18]) rfl (by kernel_rfl) (allP1 (Idx.of h19)) ?_
      obtain ⟨r21, h22, h⟩ := bind_of h
      refine WO_lend [(1000, 1000), (1001, 1001)] (us := [none, none, none]) (d := 16) (p := True) (j := 6) rfl ⟨by kernel_rfl, by kernel_rfl, by kernel_rfl⟩ trivial (hard_Free_1_1_ok h22) (by kernel_rfl) (by kernel_rfl) ?_
      refine WO_fin [0, 1, 5, 7, 8, 16] [1000, 1001] (fr' := [(0, aD (.slice (.arr 2 tI)) a0), (1, .one (.fn 57 [(1000, 0), (1001, 0)])), (5, aI i15), (7, aI (List.length a0 : Int)), (8, aI i15), (16, aB r21)]) (L' := [(1000, .cells [.dat tI c0]), (1001, .cells [.dat (.slice tI) c1])]) (by kernel_rfl) (by kernel_rfl) ?_
      refine seqQ_norm ?_
      refine W_cond (o := .tmp 16) (b := r21) (by kernel_rfl) (by kernel_rfl) (fun h23 => ?_) (fun h23 => ?_)
      · replace h := ofT h23 h
        refine W_seq (by kernel_rfl) ?_
        refine W_run 2 [] [4] [1000, 1001] (fr' := [(4, aI i15)]) (L' := [(1000, .cells [.dat tI c0]), (1001, .cells [.dat (.slice tI) c1])]) (obs := []) (by kernel_rfl) (by kernel_rfl) (by kernel_rfl) allP0 ?_
        refine seqQ_norm ?_
        obtain rfl := Option.some.inj h
        refine W_ret [4] [1000, 1001] (fr' := [(4, aI i15)]) (L' := [(1000, .cells [.dat tI c0]), (1001, .cells [.dat (.slice tI) c1])]) (by kernel_rfl) (by kernel_rfl) ?_
        refine blockQ_ret ?_
        refine seqQ_ret ?_
        refine round_ret ?_
        refine escQ_ret ?_
        exact exQ_mk (by kernel_rfl) (by kernel_rfl)
      · replace h := ofF h23 h
        refine W_skip [0, 1, 7, 8] [1000, 1001] (fr' := [(0, aD (.slice (.arr 2 tI)) a0), (1, .one (.fn 57 [(1000, 0), (1001, 0)])), (7, aI (List.length a0 : Int)), (8, aI i15)]) (L' := [(1000, .cells [.dat tI c0]), (1001, .cells [.dat (.slice tI) c1])]) (by kernel_rfl) (by kernel_rfl) ?_
        refine blockQ_norm ?_
        refine seqQ_norm ?_
        obtain rfl := Option.some.inj h
        refine W_run 2 [] [0, 1, 7, 8] [1000, 1001] (fr' := [(0, aD (.slice (.arr 2 tI)) a0), (1, .one (.fn 57 [(1000, 0), (1001, 0)])), (7, aI (List.length a0 : Int)), (8, aI (w64 (i15 + (1 : Int))))]) (L' := [(1000, .cells [.dat tI c0]), (1001, .cells [.dat (.slice tI) c1])]) (obs := []) (by kernel_rfl) (by kernel_rfl) (by kernel_rfl) allP0 ?_
        exact round_next' (by kernel_rfl) (by kernel_rfl)
    · obtain rfl := stepL_false h20 h
      refine W_exit (id := 0) [] [1000, 1001] (fr' := []) (L' := [(1000, .cells [.dat tI c0]), (1001, .cells [.dat (.slice tI) c1])]) (by kernel_rfl) (by kernel_rfl) ?_
      refine seqQ_exit ?_
      refine round_exit ?_
      refine escQ_brk ?_
      exact exQ_mk (by kernel_rfl) (by kernel_rfl)
  · intro e fr L hJ
    rcases v25 with v30 | v31
    · obtain ⟨rfl, rfl, rfl⟩ := hJ
      obtain rfl := Option.some.inj h
      refine LT_keep [4] [1000, 1001] (fr' := [(4, aI v30)]) (L' := [(1000, .cells [.dat tI c0]), (1001, .cells [.dat (.slice tI) c1])]) (by kernel_rfl) ?_
      refine blockQ_ret ?_
      refine seqQ_ret ?_
      exact retQ_mk (by kernel_rfl) (by kernel_rfl) (by kernel_rfl)
    · obtain ⟨rfl, rfl, rfl⟩ := hJ
      refine LT_keep [] [1000, 1001] (fr' := []) (L' := [(1000, .cells [.dat tI c0]), (1001, .cells [.dat (.slice tI) c1])]) (by kernel_rfl) ?_
      refine blockQ_hit ?_
      refine seqQ_norm ?_
      refine W_seq (by kernel_rfl) ?_
      refine W_run 1 [] [4] [1000, 1001] (fr' := [(4, aI (-1 : Int))]) (L' := [(1000, .cells [.dat tI c0]), (1001, .cells [.dat (.slice tI) c1])]) (obs := []) (by kernel_rfl) (by kernel_rfl) (by kernel_rfl) allP0 ?_
      refine seqQ_norm ?_
      obtain rfl := Option.some.inj h
      refine W_ret [4] [1000, 1001] (fr' := [(4, aI (-1 : Int))]) (L' := [(1000, .cells [.dat tI c0]), (1001, .cells [.dat (.slice tI) c1])]) (by kernel_rfl) (by kernel_rfl) ?_
      exact retQ_mk (by kernel_rfl) (by kernel_rfl) (by kernel_rfl)

def slices_ContainsFunc_L2int2int_with_hard_Free_1_1 (a0 : (List (List Int))) (c0 : Int) (c1 : (List Int)) : Option Bool :=
(slices_IndexFunc_L2int2int_with_hard_Free_1_1 a0 c0 c1).bind fun r1 =>
some (decide (r1 ≥ (0 : Int)))
theorem slices_ContainsFunc_L2int2int_with_hard_Free_1_1_ok {a0 : (List (List Int))} {c0 : Int} {c1 : (List Int)} {r : Bool} (h : slices_ContainsFunc_L2int2int_with_hard_Free_1_1 a0 c0 c1 = some r) : FnC Try.prog 56 [aD (.slice (.arr 2 tI)) a0, .one (.fn 57 [(1000, 0), (1001, 0)])] [(1000, .cells [.dat tI c0]), (1001, .cells [.dat (.slice tI) c1])] (aB r) [(1000, .cells [.dat tI c0]), (1001, .cells [.dat (.slice tI) c1])] := by
  refine fnC_of_W (B := bodyOf Try.f56) (n := 9) Try.func56 (by kernel_rfl) (by kernel_rfl) (by kernel_rfl) (by kernel_rfl) (by kernel_rfl) ?_
  intro K
  refine W_seq (by kernel_rfl) ?_
  refine W_run 1 [] [0, 1] [1000, 1001] (fr' := [(0, aD (.slice (.arr 2 tI)) a0), (1, .one (.fn 57 [(1000, 0), (1001, 0)]))]) (L' := [(1000, .cells [.dat tI c0]), (1001, .cells [.dat (.slice tI) c1])]) (obs := []) (by kernel_rfl) (by kernel_rfl) (by kernel_rfl) allP0 ?_
  refine seqQ_norm ?_
  refine W_seq (by kernel_rfl) ?_
  refine W_region (by kernel_rfl) ?_
  refine WO_run (j := 2) (k := 2) (orcs := []) (kF := [5, 6]) (kL := [1000, 1001]) (fr' := [(5, aD (.slice (.arr 2 tI)) a0), (6, .one (.fn 57 [(1000, 0), (1001, 0)]))]) (L' := [(1000, .cells [.dat tI c0]), (1001, .cells [.dat (.slice tI) c1])]) (obs := []) rfl (by kernel_rfl) allP0 ?_
  obtain ⟨r1, h2, h⟩ := bind_of h
  refine WO_lend [(1000, 1000), (1001, 1001)] (us := [none, none]) (d := 7) (p := True) (j := 3) rfl ⟨by kernel_rfl, by kernel_rfl, by kernel_rfl⟩ trivial (slices_IndexFunc_L2int2int_with_hard_Free_1_1_ok h2) (by kernel_rfl) (by kernel_rfl) ?_
  refine WO_run (j := 5) (k := 2) (orcs := []) (kF := [4]) (kL := [1000, 1001]) (fr' := [(4, aB (decide (r1 ≥ (0 : Int))))]) (L' := [(1000, .cells [.dat tI c0]), (1001, .cells [.dat (.slice tI) c1])]) (obs := []) rfl (by kernel_rfl) allP0 ?_
  refine WO_fin [4] [1000, 1001] (fr' := [(4, aB (decide (r1 ≥ (0 : Int))))]) (L' := [(1000, .cells [.dat tI c0]), (1001, .cells [.dat (.slice tI) c1])]) (by kernel_rfl) (by kernel_rfl) ?_
  refine seqQ_norm ?_
  obtain rfl := Option.some.inj h
  refine W_ret [4] [1000, 1001] (fr' := [(4, aB (decide (r1 ≥ (0 : Int))))]) (L' := [(1000, .cells [.dat tI c0]), (1001, .cells [.dat (.slice tI) c1])]) (by kernel_rfl) (by kernel_rfl) ?_
  exact retQ_mk (by kernel_rfl) (by kernel_rfl) (by kernel_rfl)

def hard_Free_1 (a0 : (List Int)) (a1 : Int) (c0 : (List (List Int))) : Option Bool :=
(slices_ContainsFunc_L2int2int_with_hard_Free_1_1 c0 a1 a0).bind fun r1 =>
some (!r1)
theorem hard_Free_1_ok {a0 : (List Int)} {a1 : Int} {c0 : (List (List Int))} {r : Bool} (h : hard_Free_1 a0 a1 c0 = some r) : FnC Try.prog 55 [aD (.slice tI) a0, aI a1, .one (.ptr 1000 0)] [(1000, .cells [.dat (.slice (.arr 2 tI)) c0])] (aB r) [(1000, .cells [.dat (.slice (.arr 2 tI)) c0])] := by
  refine fnC_of_W (B := bodyOf Try.f55) (n := 10) Try.func55 (by kernel_rfl) (by kernel_rfl) (by kernel_rfl) (by kernel_rfl) (by kernel_rfl) ?_
  intro K
  refine W_seq (by kernel_rfl) ?_
  refine W_run 3 [] [2, 3, 4] [1000, 3, 4] (fr' := [(2, .one (.ptr 1000 0)), (3, .one (.ptr 3 0)), (4, .one (.ptr 4 0))]) (L' := [(1000, .cells [.dat (.slice (.arr 2 tI)) c0]), (3, .cells [.dat (.slice tI) a0]), (4, .cells [.dat tI a1])]) (obs := []) (by kernel_rfl) (by kernel_rfl) (by kernel_rfl) allP0 ?_
  refine seqQ_norm ?_
  refine W_seq (by kernel_rfl) ?_
  refine W_region (by kernel_rfl) ?_
  refine WO_run (j := 2) (k := 2) (orcs := []) (kF := [6, 7]) (kL := [3, 4, 1000]) (fr' := [(6, aD (.slice (.arr 2 tI)) c0), (7, .one (.fn 57 [(4, 0), (3, 0)]))]) (L' := [(3, .cells [.dat (.slice tI) a0]), (4, .cells [.dat tI a1]), (1000, .cells [.dat (.slice (.arr 2 tI)) c0])]) (obs := []) rfl (by kernel_rfl) allP0 ?_
  obtain ⟨r1, h2, h⟩ := bind_of h
  refine WO_lend [(1000, 4), (1001, 3)] (us := [none, none]) (d := 8) (p := True) (j := 3) rfl ⟨by kernel_rfl, by kernel_rfl, by kernel_rfl⟩ trivial (slices_ContainsFunc_L2int2int_with_hard_Free_1_1_ok h2) (by kernel_rfl) (by kernel_rfl) ?_
  refine WO_run (j := 5) (k := 2) (orcs := []) (kF := [5]) (kL := [3, 4, 1000]) (fr' := [(5, aB (!r1))]) (L' := [(3, .cells [.dat (.slice tI) a0]), (4, .cells [.dat tI a1]), (1000, .cells [.dat (.slice (.arr 2 tI)) c0])]) (obs := []) rfl (by kernel_rfl) allP0 ?_
  refine WO_fin [5] [1000] (fr' := [(5, aB (!r1))]) (L' := [(1000, .cells [.dat (.slice (.arr 2 tI)) c0])]) (by kernel_rfl) (by kernel_rfl) ?_
  refine seqQ_norm ?_
  obtain rfl := Option.some.inj h
  refine W_ret [5] [1000] (fr' := [(5, aB (!r1))]) (L' := [(1000, .cells [.dat (.slice (.arr 2 tI)) c0])]) (by kernel_rfl) (by kernel_rfl) ?_
  exact retQ_mk (by kernel_rfl) (by kernel_rfl) (by kernel_rfl)

def hard_search_with_hard_Free_1_with_hard_Free_2_g1 (a2 : (List Int)) : Option Int :=
bif decide ((List.length a2 : Int) > (0 : Int)) then
((idx a2 (w64 ((List.length a2 : Int) - (1 : Int)))).bind fun v11 =>
some (w64 (v11 + (1 : Int))))
else
(some (0 : Int))
def hard_search_with_hard_Free_1_with_hard_Free_2_g7 (a0 : Int) (a1 : Int) (a2 : (List Int)) (c0 : (List (List Int))) (rf_hard_search_with_hard_Free_1_with_hard_Free_2 : Int → Int → (List Int) → (List (List Int)) → Option ((List Int) × Bool)) (x45 : Int) : Option (Esc ((List Int) × Bool) Unit) :=
(hard_Free_1 a2 x45 c0).bind fun r92 =>
bif !r92 then
(some (.brk ()))
else
((ck (0 ≤ (0 : Int) ∧ (0 : Int) ≤ (List.length a2 : Int) ∧ (List.length a2 : Int) ≤ (List.length a2 : Int) ∧ (List.length a2 : Int) = (List.length a2 : Int))).bind fun _ =>
(ck ((List.length (sub a2 (0 : Int) (List.length a2 : Int)) : Int) + 1 ≤ 4294967296)).bind fun _ =>
(rf_hard_search_with_hard_Free_1_with_hard_Free_2 a0 (w64 (a1 - (1 : Int))) ((sub a2 (0 : Int) (List.length a2 : Int)) ++ [x45]) c0).bind fun r97 =>
bif r97.2 then
(some (.ret (r97.1, true)))
else
(some (.brk ())))
@[reducible] def hard_search_with_hard_Free_1_with_hard_Free_2_s8 (c0 : (List (List Int))) (v : ((List Int) × Bool)) : Fr × LL := ([(10, aD (.slice tI) v.1), (11, aB v.2)], [(1000, .cells [.dat (.slice (.arr 2 tI)) c0])])
@[reducible] def hard_search_with_hard_Free_1_with_hard_Free_2_s9 (a0 : Int) (a1 : Int) (a2 : (List Int)) (c0 : (List (List Int))) (x45 : Int) (v : Unit) : Fr × LL := ([(0, aI a0), (1, aI a1), (2, aD (.slice tI) a2), (3, .one (.fn 55 [(1000, 0)])), (4, .one (.fn 60 [])), (13, aI x45)], [(1000, .cells [.dat (.slice (.arr 2 tI)) c0])])
def hard_search_with_hard_Free_1_with_hard_Free_2_b10 (a0 : Int) (a1 : Int) (a2 : (List Int)) (c0 : (List (List Int))) (rf_hard_search_with_hard_Free_1_with_hard_Free_2 : Int → Int → (List Int) → (List (List Int)) → Option ((List Int) × Bool)) (x45 : Int) : Option (Flow Int (Esc ((List Int) × Bool) Unit)) :=
bif decide ((w64 (x45 + a1)) ≤ a0) then
((hard_search_with_hard_Free_1_with_hard_Free_2_g7 a0 a1 a2 c0 rf_hard_search_with_hard_Free_1_with_hard_Free_2 x45).bind fun v100 =>
match v100 with
| .ret v102 =>
(some (.done (.ret (v102.1, v102.2))))
| .brk v103 =>
(some (.next (w64 (x45 + (1 : Int))))))
else
(some (.done (.brk ())))
@[reducible] def hard_search_with_hard_Free_1_with_hard_Free_2_s11 (a0 : Int) (a1 : Int) (a2 : (List Int)) (c0 : (List (List Int))) (v : Int) : Fr × LL := ([(0, aI a0), (1, aI a1), (2, aD (.slice tI) a2), (3, .one (.fn 55 [(1000, 0)])), (4, .one (.fn 60 [])), (13, aI v)], [(1000, .cells [.dat (.slice (.arr 2 tI)) c0])])
@[reducible] def hard_search_with_hard_Free_1_with_hard_Free_2_s12 (c0 : (List (List Int))) (v : ((List Int) × Bool)) : Fr × LL := ([(10, aD (.slice tI) v.1), (11, aB v.2)], [(1000, .cells [.dat (.slice (.arr 2 tI)) c0])])
@[reducible] def hard_search_with_hard_Free_1_with_hard_Free_2_s13 (c0 : (List (List Int))) (v : Unit) : Fr × LL := ([], [(1000, .cells [.dat (.slice (.arr 2 tI)) c0])])
@[reducible] def hard_search_with_hard_Free_1_with_hard_Free_2_s14 (a0 : Int) (a1 : Int) (a2 : (List Int)) (c0 : (List (List Int))) (v : Int) : Fr × LL := ([(0, aI a0), (1, aI a1), (2, aD (.slice tI) a2), (3, .one (.fn 55 [(1000, 0)])), (4, .one (.fn 60 [])), (12, aI v)], [(1000, .cells [.dat (.slice (.arr 2 tI)) c0])])
def hard_search_with_hard_Free_1_with_hard_Free_2_step (rf_hard_search_with_hard_Free_1_with_hard_Free_2 : Int → Int → (List Int) → (List (List Int)) → Option ((List Int) × Bool)) (fuel : Nat) (a0 : Int) (a1 : Int) (a2 : (List Int)) (c0 : (List (List Int))) : Option ((List Int) × Bool) :=
bif a1 == (0 : Int) then
((hard_Free_2 a2).bind fun r2 =>
some (a2, r2))
else
((hard_search_with_hard_Free_1_with_hard_Free_2_g1 a2).bind fun v13 =>
(iter (hard_search_with_hard_Free_1_with_hard_Free_2_b10 a0 a1 a2 c0 rf_hard_search_with_hard_Free_1_with_hard_Free_2) fuel v13).bind fun v104 =>
match v104 with
| .ret v108 =>
(some (v108.1, v108.2))
| .brk v109 =>
(some ([], false)))
def hard_search_with_hard_Free_1_with_hard_Free_2 : Nat → Int → Int → (List Int) → (List (List Int)) → Option ((List Int) × Bool)
  | 0 => fun _ _ _ _ => none
  | fuel + 1 => fun a0 a1 a2 c0 => hard_search_with_hard_Free_1_with_hard_Free_2_step (hard_search_with_hard_Free_1_with_hard_Free_2 fuel) fuel a0 a1 a2 c0
theorem hard_search_with_hard_Free_1_with_hard_Free_2_step_ok {rf_hard_search_with_hard_Free_1_with_hard_Free_2 : Int → Int → (List Int) → (List (List Int)) → Option ((List Int) × Bool)} (ih_hard_search_with_hard_Free_1_with_hard_Free_2 : ∀ {a0 : Int} {a1 : Int} {a2 : (List Int)} {c0 : (List (List Int))} {r : ((List Int) × Bool)}, rf_hard_search_with_hard_Free_1_with_hard_Free_2 a0 a1 a2 c0 = some r → FnC Try.prog 59 [aI a0, aI a1, aD (.slice tI) a2, .one (.fn 55 [(1000, 0)]), .one (.fn 60 [])] [(1000, .cells [.dat (.slice (.arr 2 tI)) c0])] (.tup [.dat (.slice tI) r.1, .dat .bool r.2]) [(1000, .cells [.dat (.slice (.arr 2 tI)) c0])]) {fuel : Nat} {a0 : Int} {a1 : Int} {a2 : (List Int)} {c0 : (List (List Int))} {r : ((List Int) × Bool)} (h : hard_search_with_hard_Free_1_with_hard_Free_2_step rf_hard_search_with_hard_Free_1_with_hard_Free_2 fuel a0 a1 a2 c0 = some r) : FnC Try.prog 59 [aI a0, aI a1, aD (.slice tI) a2, .one (.fn 55 [(1000, 0)]), .one (.fn 60 [])] [(1000, .cells [.dat (.slice (.arr 2 tI)) c0])] (.tup [.dat (.slice tI) r.1, .dat .bool r.2]) [(1000, .cells [.dat (.slice (.arr 2 tI)) c0])] := by
  refine fnC_of_W (B := bodyOf Try.f59) (n := 65) Try.func59 (by kernel_rfl) (by kernel_rfl) (by kernel_rfl) (by kernel_rfl) (by kernel_rfl) ?_
  intro K
  refine W_seq (by kernel_rfl) ?_
  refine W_run 2 [] [0, 1, 2, 3, 4] [1000] (fr' := [(0, aI a0), (1, aI a1), (2, aD (.slice tI) a2), (3, .one (.fn 55 [(1000, 0)])), (4, .one (.fn 60 []))]) (L' := [(1000, .cells [.dat (.slice (.arr 2 tI)) c0])]) (obs := []) (by kernel_rfl) (by kernel_rfl) (by kernel_rfl) allP0 ?_
  refine seqQ_norm ?_
  refine W_seq (by kernel_rfl) ?_
  refine W_seq (by kernel_rfl) ?_
  refine W_run 2 [] [0, 1, 2, 3, 4, 17] [1000] (fr' := [(0, aI a0), (1, aI a1), (2, aD (.slice tI) a2), (3, .one (.fn 55 [(1000, 0)])), (4, .one (.fn 60 [])), (17, aB (a1 == (0 : Int)))]) (L' := [(1000, .cells [.dat (.slice (.arr 2 tI)) c0])]) (obs := []) (by kernel_rfl) (by kernel_rfl) (by kernel_rfl) allP0 ?_
  refine seqQ_norm ?_
  refine W_cond (o := .tmp 17) (b := a1 == (0 : Int)) (by kernel_rfl) (by kernel_rfl) (fun h1 => ?_) (fun h1 => ?_)
  · replace h := ofT h1 h
    refine W_seq (by kernel_rfl) ?_
    refine W_region (by kernel_rfl) ?_
    refine WO_run (j := 3) (k := 3) (orcs := []) (kF := [18, 19, 20]) (kL := [1000]) (fr' := [(18, aD (.slice tI) a2), (19, .one (.fn 60 [])), (20, aD (.slice tI) a2)]) (L' := [(1000, .cells [.dat (.slice (.arr 2 tI)) c0])]) (obs := []) rfl (by kernel_rfl) allP0 ?_
    obtain ⟨r2, h3, h⟩ := bind_of h
    refine WO_call0 (us := [none]) (d := 21) (p := True) (j := 4) rfl ⟨by kernel_rfl, by kernel_rfl, by kernel_rfl⟩ trivial (hard_Free_2_ok h3) (by kernel_rfl) ?_
    refine WO_run (j := 6) (k := 2) (orcs := []) (kF := [10, 11]) (kL := [1000]) (fr' := [(10, aD (.slice tI) a2), (11, aB r2)]) (L' := [(1000, .cells [.dat (.slice (.arr 2 tI)) c0])]) (obs := []) rfl (by kernel_rfl) allP0 ?_
    refine WO_fin [10, 11] [1000] (fr' := [(10, aD (.slice tI) a2), (11, aB r2)]) (L' := [(1000, .cells [.dat (.slice (.arr 2 tI)) c0])]) (by kernel_rfl) (by kernel_rfl) ?_
    refine seqQ_norm ?_
    obtain rfl := Option.some.inj h
    refine W_ret [10, 11] [1000] (fr' := [(10, aD (.slice tI) a2), (11, aB r2)]) (L' := [(1000, .cells [.dat (.slice (.arr 2 tI)) c0])]) (by kernel_rfl) (by kernel_rfl) ?_
    refine seqQ_ret ?_
    exact retQ_mk (by kernel_rfl) (by kernel_rfl) (by kernel_rfl)
  · replace h := ofF h1 h
    refine W_skip [0, 1, 2, 3, 4] [1000] (fr' := [(0, aI a0), (1, aI a1), (2, aD (.slice tI) a2), (3, .one (.fn 55 [(1000, 0)])), (4, .one (.fn 60 []))]) (L' := [(1000, .cells [.dat (.slice (.arr 2 tI)) c0])]) (by kernel_rfl) (by kernel_rfl) ?_
    refine seqQ_norm ?_
    refine W_seq (by kernel_rfl) ?_
    refine W_run 1 [] [0, 1, 2, 3, 4, 12] [1000] (fr' := [(0, aI a0), (1, aI a1), (2, aD (.slice tI) a2), (3, .one (.fn 55 [(1000, 0)])), (4, .one (.fn 60 [])), (12, aI (0 : Int))]) (L' := [(1000, .cells [.dat (.slice (.arr 2 tI)) c0])]) (obs := []) (by kernel_rfl) (by kernel_rfl) (by kernel_rfl) allP0 ?_
    refine seqQ_norm ?_
    refine W_seq (by kernel_rfl) ?_
    obtain ⟨v13, h14, h⟩ := bind_of h
    refine W_cutK (Q' := (exQ .normal (hard_search_with_hard_Free_1_with_hard_Free_2_s14 a0 a1 a2 c0)) v13) ?_ ?_
    · replace h := h14
      refine W_seq (by kernel_rfl) ?_
      refine W_run 3 [] [0, 1, 2, 3, 4, 12, 24] [1000] (fr' := [(0, aI a0), (1, aI a1), (2, aD (.slice tI) a2), (3, .one (.fn 55 [(1000, 0)])), (4, .one (.fn 60 [])), (12, aI (0 : Int)), (24, aB (decide ((List.length a2 : Int) > (0 : Int))))]) (L' := [(1000, .cells [.dat (.slice (.arr 2 tI)) c0])]) (obs := []) (by kernel_rfl) (by kernel_rfl) (by kernel_rfl) allP0 ?_
      refine seqQ_norm ?_
      refine W_cond (o := .tmp 24) (b := decide ((List.length a2 : Int) > (0 : Int))) (by kernel_rfl) (by kernel_rfl) (fun h10 => ?_) (fun h10 => ?_)
      · replace h := ofT h10 h
        obtain ⟨v11, h12, h⟩ := bind_of h
        obtain rfl := Option.some.inj h
        refine W_run 8 [(9, .val (.dat tI v11))] [0, 1, 2, 3, 4, 12] [1000] (fr' := [(0, aI a0), (1, aI a1), (2, aD (.slice tI) a2), (3, .one (.fn 55 [(1000, 0)])), (4, .one (.fn 60 [])), (12, aI (w64 (v11 + (1 : Int))))]) (L' := [(1000, .cells [.dat (.slice (.arr 2 tI)) c0])]) (obs := [Idx a2 (w64 ((List.length a2 : Int) - (1 : Int))) v11]) (by kernel_rfl) (by kernel_rfl) (by kernel_rfl) (allP1 (Idx.of h12)) ?_
        exact exQ_mk (by kernel_rfl) (by kernel_rfl)
      · replace h := ofF h10 h
        obtain rfl := Option.some.inj h
        refine W_skip [0, 1, 2, 3, 4, 12] [1000] (fr' := [(0, aI a0), (1, aI a1), (2, aD (.slice tI) a2), (3, .one (.fn 55 [(1000, 0)])), (4, .one (.fn 60 [])), (12, aI (0 : Int))]) (L' := [(1000, .cells [.dat (.slice (.arr 2 tI)) c0])]) (by kernel_rfl) (by kernel_rfl) ?_
        exact exQ_mk (by kernel_rfl) (by kernel_rfl)
    · intro e fr L hJ
      obtain ⟨rfl, rfl, rfl⟩ := hJ
      refine LT_keep [0, 1, 2, 3, 4, 12] [1000] (fr' := [(0, aI a0), (1, aI a1), (2, aD (.slice tI) a2), (3, .one (.fn 55 [(1000, 0)])), (4, .one (.fn 60 [])), (12, aI v13)]) (L' := [(1000, .cells [.dat (.slice (.arr 2 tI)) c0])]) (by kernel_rfl) ?_
      refine seqQ_norm ?_
      refine W_seq (by kernel_rfl) ?_
      refine W_seq (by kernel_rfl) ?_
      refine W_run 2 [] [0, 1, 2, 3, 4, 13] [1000] (fr' := [(0, aI a0), (1, aI a1), (2, aD (.slice tI) a2), (3, .one (.fn 55 [(1000, 0)])), (4, .one (.fn 60 [])), (13, aI v13)]) (L' := [(1000, .cells [.dat (.slice (.arr 2 tI)) c0])]) (obs := []) (by kernel_rfl) (by kernel_rfl) (by kernel_rfl) allP0 ?_
      refine seqQ_norm ?_
      refine W_block (id := 0) (by kernel_rfl) ?_
      obtain ⟨v104, h105, h⟩ := bind_of h
      refine W_weaken [0, 1, 2, 3, 4, 13] [1000] (fr' := ((hard_search_with_hard_Free_1_with_hard_Free_2_s11 a0 a1 a2 c0) v13).1) (L' := ((hard_search_with_hard_Free_1_with_hard_Free_2_s11 a0 a1 a2 c0) v13).2) (by kernel_rfl) ?_
      refine W_cutK (W_loop (S := (hard_search_with_hard_Free_1_with_hard_Free_2_s11 a0 a1 a2 c0)) (J := (escQ (exQ .ret (hard_search_with_hard_Free_1_with_hard_Free_2_s12 c0)) (exQ (.exit 0) (hard_search_with_hard_Free_1_with_hard_Free_2_s13 c0)))) (by kernel_rfl) ?_ fuel _ v104 h105) ?_
      · rintro x45 s h
        refine W_seq (by kernel_rfl) ?_
        refine W_seq (by kernel_rfl) ?_
        refine W_run 5 [] [0, 1, 2, 3, 4, 13, 37] [1000] (fr' := [(0, aI a0), (1, aI a1), (2, aD (.slice tI) a2), (3, .one (.fn 55 [(1000, 0)])), (4, .one (.fn 60 [])), (13, aI x45), (37, aB (decide ((w64 (x45 + a1)) ≤ a0)))]) (L' := [(1000, .cells [.dat (.slice (.arr 2 tI)) c0])]) (obs := []) (by kernel_rfl) (by kernel_rfl) (by kernel_rfl) allP0 ?_
        refine seqQ_norm ?_
        refine W_cond (o := .tmp 37) (b := decide ((w64 (x45 + a1)) ≤ a0)) (by kernel_rfl) (by kernel_rfl) (fun h75 => ?_) (fun h75 => ?_)
        · replace h := ofT h75 h
          refine W_skip [0, 1, 2, 3, 4, 13] [1000] (fr' := [(0, aI a0), (1, aI a1), (2, aD (.slice tI) a2), (3, .one (.fn 55 [(1000, 0)])), (4, .one (.fn 60 [])), (13, aI x45)]) (L' := [(1000, .cells [.dat (.slice (.arr 2 tI)) c0])]) (by kernel_rfl) (by kernel_rfl) ?_
          refine seqQ_norm ?_
          refine W_seq (by kernel_rfl) ?_
          obtain ⟨v100, h101, h⟩ := bind_of h
          refine W_cutK (Q' := (escQ (exQ .ret (hard_search_with_hard_Free_1_with_hard_Free_2_s8 c0)) (exQ .normal (hard_search_with_hard_Free_1_with_hard_Free_2_s9 a0 a1 a2 c0 x45))) v100) ?_ ?_
          · replace h := h101
            refine W_block (id := 1) (by kernel_rfl) ?_
            refine W_seq (by kernel_rfl) ?_
            refine W_seq (by kernel_rfl) ?_
            refine W_region (by kernel_rfl) ?_
            refine WO_run (j := 3) (k := 3) (orcs := []) (kF := [0, 1, 2, 3, 4, 13, 40, 41, 42]) (kL := [1000]) (fr' := [(0, aI a0), (1, aI a1), (2, aD (.slice tI) a2), (3, .one (.fn 55 [(1000, 0)])), (4, .one (.fn 60 [])), (13, aI x45), (40, .one (.fn 55 [(1000, 0)])), (41, aD (.slice tI) a2), (42, aI x45)]) (L' := [(1000, .cells [.dat (.slice (.arr 2 tI)) c0])]) (obs := []) rfl (by kernel_rfl) allP0 ?_
            obtain ⟨r92, h93, h⟩ := bind_of h
            refine WO_lend [(1000, 1000)] (us := [none, none, none]) (d := 43) (p := True) (j := 4) rfl ⟨by kernel_rfl, by kernel_rfl, by kernel_rfl⟩ trivial (hard_Free_1_ok h93) (by kernel_rfl) (by kernel_rfl) ?_
            refine WO_run (j := 5) (k := 1) (orcs := []) (kF := [0, 1, 2, 3, 4, 13, 44]) (kL := [1000]) (fr' := [(0, aI a0), (1, aI a1), (2, aD (.slice tI) a2), (3, .one (.fn 55 [(1000, 0)])), (4, .one (.fn 60 [])), (13, aI x45), (44, aB (!r92))]) (L' := [(1000, .cells [.dat (.slice (.arr 2 tI)) c0])]) (obs := []) rfl (by kernel_rfl) allP0 ?_
            refine WO_fin [0, 1, 2, 3, 4, 13, 44] [1000] (fr' := [(0, aI a0), (1, aI a1), (2, aD (.slice tI) a2), (3, .one (.fn 55 [(1000, 0)])), (4, .one (.fn 60 [])), (13, aI x45), (44, aB (!r92))]) (L' := [(1000, .cells [.dat (.slice (.arr 2 tI)) c0])]) (by kernel_rfl) (by kernel_rfl) ?_
            refine seqQ_norm ?_
            refine W_cond (o := .tmp 44) (b := !r92) (by kernel_rfl) (by kernel_rfl) (fun h94 => ?_) (fun h94 => ?_)
            · replace h := ofT h94 h
              obtain rfl := Option.some.inj h
              refine W_exit (id := 1) [0, 1, 2, 3, 4, 13] [1000] (fr' := [(0, aI a0), (1, aI a1), (2, aD (.slice tI) a2), (3, .one (.fn 55 [(1000, 0)])), (4, .one (.fn 60 [])), (13, aI x45)]) (L' := [(1000, .cells [.dat (.slice (.arr 2 tI)) c0])]) (by kernel_rfl) (by kernel_rfl) ?_
              refine seqQ_exit ?_
              refine blockQ_hit ?_
              refine escQ_brk ?_
              exact exQ_mk (by kernel_rfl) (by kernel_rfl)
            · replace h := ofF h94 h
              refine W_skip [0, 1, 2, 3, 4, 13] [1000] (fr' := [(0, aI a0), (1, aI a1), (2, aD (.slice tI) a2), (3, .one (.fn 55 [(1000, 0)])), (4, .one (.fn 60 [])), (13, aI x45)]) (L' := [(1000, .cells [.dat (.slice (.arr 2 tI)) c0])]) (by kernel_rfl) (by kernel_rfl) ?_
              refine seqQ_norm ?_
              refine W_seq (by kernel_rfl) ?_
              obtain ⟨_, h95, h⟩ := bind_of h
              replace h95 := ck_some h95
              obtain ⟨_, h96, h⟩ := bind_of h
              replace h96 := ck_some h96
              refine W_region (by kernel_rfl) ?_
              refine WO_run (j := 14) (k := 14) (orcs := []) (kF := [0, 1, 2, 3, 4, 13, 46, 48, 57, 58, 59]) (kL := [56, 57, 1000]) (fr' := [(0, aI a0), (1, aI a1), (2, aD (.slice tI) a2), (3, .one (.fn 55 [(1000, 0)])), (4, .one (.fn 60 [])), (13, aI x45), (46, aI a0), (48, aI (w64 (a1 - (1 : Int)))), (57, .one (.slc 57)), (58, .one (.fn 55 [(1000, 0)])), (59, .one (.fn 60 []))]) (L' := [(56, .seq tI [x45]), (57, .seq tI ((sub a2 (0 : Int) (List.length a2 : Int)) ++ [x45])), (1000, .cells [.dat (.slice (.arr 2 tI)) c0])]) (obs := [Cuts (0 : Int) (List.length a2 : Int) (List.length a2) ∧ (List.length a2 : Int) = (List.length a2 : Int), 0 < List.length [x45] ∧ SmallLen (List.length (sub a2 (0 : Int) (List.length a2 : Int)) + List.length [x45])]) rfl (by kernel_rfl) (allP2 ⟨⟨h95.1, h95.2.1, h95.2.2.1⟩, h95.2.2.2⟩ (allP1 ⟨(Nat.succ_pos _), h96⟩)) ?_
              obtain ⟨r97, h98, h⟩ := bind_of h
              refine WO_frz 57 (by kernel_rfl) ?_
              refine WO_lend [(1000, 1000)] (us := [none, none, none, none, none]) (d := 60) (p := True) (j := 15) rfl ⟨by kernel_rfl, by kernel_rfl, by kernel_rfl⟩ trivial (ih_hard_search_with_hard_Free_1_with_hard_Free_2 h98) (by kernel_rfl) (by kernel_rfl) ?_
              refine WO_run (j := 20) (k := 5) (orcs := []) (kF := [0, 1, 2, 3, 4, 13, 14, 15]) (kL := [56, 1000]) (fr' := [(0, aI a0), (1, aI a1), (2, aD (.slice tI) a2), (3, .one (.fn 55 [(1000, 0)])), (4, .one (.fn 60 [])), (13, aI x45), (14, aD (.slice tI) r97.1), (15, aB r97.2)]) (L' := [(56, .seq tI [x45]), (1000, .cells [.dat (.slice (.arr 2 tI)) c0])]) (obs := []) rfl (by kernel_rfl) allP0 ?_
              refine WO_fin [0, 1, 2, 3, 4, 13, 14, 15] [1000] (fr' := [(0, aI a0), (1, aI a1), (2, aD (.slice tI) a2), (3, .one (.fn 55 [(1000, 0)])), (4, .one (.fn 60 [])), (13, aI x45), (14, aD (.slice tI) r97.1), (15, aB r97.2)]) (L' := [(1000, .cells [.dat (.slice (.arr 2 tI)) c0])]) (by kernel_rfl) (by kernel_rfl) ?_
              refine seqQ_norm ?_
              refine W_seq (by kernel_rfl) ?_
              refine W_run 1 [] [0, 1, 2, 3, 4, 13, 14, 63] [1000] (fr' := [(0, aI a0), (1, aI a1), (2, aD (.slice tI) a2), (3, .one (.fn 55 [(1000, 0)])), (4, .one (.fn 60 [])), (13, aI x45), (14, aD (.slice tI) r97.1), (63, aB r97.2)]) (L' := [(1000, .cells [.dat (.slice (.arr 2 tI)) c0])]) (obs := []) (by kernel_rfl) (by kernel_rfl) (by kernel_rfl) allP0 ?_
              refine seqQ_norm ?_
              refine W_cond (o := .tmp 63) (b := r97.2) (by kernel_rfl) (by kernel_rfl) (fun h99 => ?_) (fun h99 => ?_)
              · replace h := ofT h99 h
                refine W_seq (by kernel_rfl) ?_
                refine W_run 3 [] [10, 11] [1000] (fr' := [(10, aD (.slice tI) r97.1), (11, aB true)]) (L' := [(1000, .cells [.dat (.slice (.arr 2 tI)) c0])]) (obs := []) (by kernel_rfl) (by kernel_rfl) (by kernel_rfl) allP0 ?_
                refine seqQ_norm ?_
                obtain rfl := Option.some.inj h
                refine W_ret [10, 11] [1000] (fr' := [(10, aD (.slice tI) r97.1), (11, aB true)]) (L' := [(1000, .cells [.dat (.slice (.arr 2 tI)) c0])]) (by kernel_rfl) (by kernel_rfl) ?_
                refine blockQ_ret ?_
                refine escQ_ret ?_
                exact exQ_mk (by kernel_rfl) (by kernel_rfl)
              · replace h := ofF h99 h
                obtain rfl := Option.some.inj h
                refine W_skip [0, 1, 2, 3, 4, 13] [1000] (fr' := [(0, aI a0), (1, aI a1), (2, aD (.slice tI) a2), (3, .one (.fn 55 [(1000, 0)])), (4, .one (.fn 60 [])), (13, aI x45)]) (L' := [(1000, .cells [.dat (.slice (.arr 2 tI)) c0])]) (by kernel_rfl) (by kernel_rfl) ?_
                refine blockQ_norm ?_
                refine escQ_brk ?_
                exact exQ_mk (by kernel_rfl) (by kernel_rfl)
          · intro e fr L hJ
            rcases v100 with v102 | v103
            · obtain ⟨rfl, rfl, rfl⟩ := hJ
              obtain rfl := Option.some.inj h
              refine LT_keep [10, 11] [1000] (fr' := [(10, aD (.slice tI) v102.1), (11, aB v102.2)]) (L' := [(1000, .cells [.dat (.slice (.arr 2 tI)) c0])]) (by kernel_rfl) ?_
              refine seqQ_ret ?_
              refine round_ret ?_
              refine escQ_ret ?_
              exact exQ_mk (by kernel_rfl) (by kernel_rfl)
            · obtain ⟨rfl, rfl, rfl⟩ := hJ
              refine LT_keep [0, 1, 2, 3, 4, 13] [1000] (fr' := [(0, aI a0), (1, aI a1), (2, aD (.slice tI) a2), (3, .one (.fn 55 [(1000, 0)])), (4, .one (.fn 60 [])), (13, aI x45)]) (L' := [(1000, .cells [.dat (.slice (.arr 2 tI)) c0])]) (by kernel_rfl) ?_
              refine seqQ_norm ?_
              obtain rfl := Option.some.inj h
              refine W_run 3 [] [0, 1, 2, 3, 4, 13] [1000] (fr' := [(0, aI a0), (1, aI a1), (2, aD (.slice tI) a2), (3, .one (.fn 55 [(1000, 0)])), (4, .one (.fn 60 [])), (13, aI (w64 (x45 + (1 : Int))))]) (L' := [(1000, .cells [.dat (.slice (.arr 2 tI)) c0])]) (obs := []) (by kernel_rfl) (by kernel_rfl) (by kernel_rfl) allP0 ?_
              exact round_next' (by kernel_rfl) (by kernel_rfl)
        · replace h := ofF h75 h
          obtain rfl := Option.some.inj h
          refine W_exit (id := 0) [] [1000] (fr' := []) (L' := [(1000, .cells [.dat (.slice (.arr 2 tI)) c0])]) (by kernel_rfl) (by kernel_rfl) ?_
          refine seqQ_exit ?_
          refine round_exit ?_
          refine escQ_brk ?_
          exact exQ_mk (by kernel_rfl) (by kernel_rfl)
      · intro e fr L hJ
        rcases v104 with v108 | v109
        · obtain ⟨rfl, rfl, rfl⟩ := hJ
          obtain rfl := Option.some.inj h
          refine LT_keep [10, 11] [1000] (fr' := [(10, aD (.slice tI) v108.1), (11, aB v108.2)]) (L' := [(1000, .cells [.dat (.slice (.arr 2 tI)) c0])]) (by kernel_rfl) ?_
          refine blockQ_ret ?_
          refine seqQ_ret ?_
          exact retQ_mk (by kernel_rfl) (by kernel_rfl) (by kernel_rfl)
        · obtain ⟨rfl, rfl, rfl⟩ := hJ
          refine LT_keep [] [1000] (fr' := []) (L' := [(1000, .cells [.dat (.slice (.arr 2 tI)) c0])]) (by kernel_rfl) ?_
          refine blockQ_hit ?_
          refine seqQ_norm ?_
          refine W_seq (by kernel_rfl) ?_
          refine W_run 2 [] [10, 11] [1000] (fr' := [(10, .one (.nilS)), (11, aB false)]) (L' := [(1000, .cells [.dat (.slice (.arr 2 tI)) c0])]) (obs := []) (by kernel_rfl) (by kernel_rfl) (by kernel_rfl) allP0 ?_
          refine seqQ_norm ?_
          obtain rfl := Option.some.inj h
          refine W_cnv 10 (.slice tI) (by kernel_rfl) ?_
          refine W_ret [10, 11] [1000] (fr' := [(10, aD (.slice tI) []), (11, aB false)]) (L' := [(1000, .cells [.dat (.slice (.arr 2 tI)) c0])]) (by kernel_rfl) (by kernel_rfl) ?_
          exact retQ_mk (by kernel_rfl) (by kernel_rfl) (by kernel_rfl)
theorem hard_search_with_hard_Free_1_with_hard_Free_2_ok : ∀ {fuel : Nat} {a0 : Int} {a1 : Int} {a2 : (List Int)} {c0 : (List (List Int))} {r : ((List Int) × Bool)}, hard_search_with_hard_Free_1_with_hard_Free_2 fuel a0 a1 a2 c0 = some r → FnC Try.prog 59 [aI a0, aI a1, aD (.slice tI) a2, .one (.fn 55 [(1000, 0)]), .one (.fn 60 [])] [(1000, .cells [.dat (.slice (.arr 2 tI)) c0])] (.tup [.dat (.slice tI) r.1, .dat .bool r.2]) [(1000, .cells [.dat (.slice (.arr 2 tI)) c0])] := by
  intro fuel
  induction fuel with
  | zero => intros a0 a1 a2 c0 r h; cases h
  | succ fuel ih => intros a0 a1 a2 c0 r h; exact hard_search_with_hard_Free_1_with_hard_Free_2_step_ok (fun h => ih h) (show hard_search_with_hard_Free_1_with_hard_Free_2_step (hard_search_with_hard_Free_1_with_hard_Free_2 fuel) fuel a0 a1 a2 c0 = some r from h)

def hard_Free (fuel : Nat) (a0 : Int) (a1 : (List (List Int))) (a2 : Int) : Option ((List Int) × Int) :=
(hard_graph a0 a1 a2).bind fun r1 =>
bif r1 != (0 : Int) then
(some ([], r1))
else
((hard_search_with_hard_Free_1_with_hard_Free_2 fuel a0 a2 [] a1).bind fun r4 =>
bif !r4.2 then
(some ([], (5 : Int)))
else
(some (r4.1, (0 : Int))))
theorem hard_Free_ok {fuel : Nat} {a0 : Int} {a1 : (List (List Int))} {a2 : Int} {r : ((List Int) × Int)} (h : hard_Free fuel a0 a1 a2 = some r) : FnC Try.prog 31 [aI a0, aD (.slice (.arr 2 tI)) a1, aI a2] [] (.tup [.dat (.slice tI) r.1, .dat tI r.2]) [] := by
  refine fnC_of_W (B := bodyOf Try.f31) (n := 30) Try.func31 (by kernel_rfl) (by kernel_rfl) (by kernel_rfl) (by kernel_rfl) (by kernel_rfl) ?_
  intro K
  refine W_seq (by kernel_rfl) ?_
  refine W_run 3 [] [0, 2, 4] [4] (fr' := [(0, aI a0), (2, aI a2), (4, .one (.ptr 4 0))]) (L' := [(4, .cells [.dat (.slice (.arr 2 tI)) a1])]) (obs := []) (by kernel_rfl) (by kernel_rfl) (by kernel_rfl) allP0 ?_
  refine seqQ_norm ?_
  refine W_seq (by kernel_rfl) ?_
  refine W_seq (by kernel_rfl) ?_
  refine W_region (by kernel_rfl) ?_
  refine WO_run (j := 3) (k := 3) (orcs := []) (kF := [0, 2, 4, 12, 13, 14]) (kL := [4]) (fr' := [(0, aI a0), (2, aI a2), (4, .one (.ptr 4 0)), (12, aI a0), (13, aD (.slice (.arr 2 tI)) a1), (14, aI a2)]) (L' := [(4, .cells [.dat (.slice (.arr 2 tI)) a1])]) (obs := []) rfl (by kernel_rfl) allP0 ?_
  obtain ⟨r1, h2, h⟩ := bind_of h
  refine WO_call0 (us := [none, none, none]) (d := 15) (p := True) (j := 4) rfl ⟨by kernel_rfl, by kernel_rfl, by kernel_rfl⟩ trivial (hard_graph_ok h2) (by kernel_rfl) ?_
  refine WO_run (j := 5) (k := 1) (orcs := []) (kF := [0, 2, 4, 8]) (kL := [4]) (fr' := [(0, aI a0), (2, aI a2), (4, .one (.ptr 4 0)), (8, aI r1)]) (L' := [(4, .cells [.dat (.slice (.arr 2 tI)) a1])]) (obs := []) rfl (by kernel_rfl) allP0 ?_
  refine WO_fin [0, 2, 4, 8] [4] (fr' := [(0, aI a0), (2, aI a2), (4, .one (.ptr 4 0)), (8, aI r1)]) (L' := [(4, .cells [.dat (.slice (.arr 2 tI)) a1])]) (by kernel_rfl) (by kernel_rfl) ?_
  refine seqQ_norm ?_
  refine W_seq (by kernel_rfl) ?_
  refine W_run 2 [] [0, 2, 4, 8, 17] [4] (fr' := [(0, aI a0), (2, aI a2), (4, .one (.ptr 4 0)), (8, aI r1), (17, aB (r1 != (0 : Int)))]) (L' := [(4, .cells [.dat (.slice (.arr 2 tI)) a1])]) (obs := []) (by kernel_rfl) (by kernel_rfl) (by kernel_rfl) allP0 ?_
  refine seqQ_norm ?_
  refine W_cond (o := .tmp 17) (b := r1 != (0 : Int)) (by kernel_rfl) (by kernel_rfl) (fun h3 => ?_) (fun h3 => ?_)
  · replace h := ofT h3 h
    refine W_seq (by kernel_rfl) ?_
    refine W_run 3 [] [6, 7] [] (fr' := [(6, .one (.nilS)), (7, aI r1)]) (L' := []) (obs := []) (by kernel_rfl) (by kernel_rfl) (by kernel_rfl) allP0 ?_
    refine seqQ_norm ?_
    obtain rfl := Option.some.inj h
    refine W_cnv 6 (.slice tI) (by kernel_rfl) ?_
    refine W_ret [6, 7] [] (fr' := [(6, aD (.slice tI) []), (7, aI r1)]) (L' := []) (by kernel_rfl) (by kernel_rfl) ?_
    refine seqQ_ret ?_
    exact retQ_mk (by kernel_rfl) (by kernel_rfl) (by kernel_rfl)
  · replace h := ofF h3 h
    refine W_skip [0, 2, 4] [4] (fr' := [(0, aI a0), (2, aI a2), (4, .one (.ptr 4 0))]) (L' := [(4, .cells [.dat (.slice (.arr 2 tI)) a1])]) (by kernel_rfl) (by kernel_rfl) ?_
    refine seqQ_norm ?_
    refine W_seq (by kernel_rfl) ?_
    refine W_run 2 [] [0, 2, 9] [4] (fr' := [(0, aI a0), (2, aI a2), (9, .one (.fn 55 [(4, 0)]))]) (L' := [(4, .cells [.dat (.slice (.arr 2 tI)) a1])]) (obs := []) (by kernel_rfl) (by kernel_rfl) (by kernel_rfl) allP0 ?_
    refine seqQ_norm ?_
    refine W_seq (by kernel_rfl) ?_
    refine W_region (by kernel_rfl) ?_
    refine WO_run (j := 3) (k := 3) (orcs := []) (kF := [21, 22, 23]) (kL := [4]) (fr' := [(21, aI a0), (22, aI a2), (23, .one (.fn 55 [(4, 0)]))]) (L' := [(4, .cells [.dat (.slice (.arr 2 tI)) a1])]) (obs := []) rfl (by kernel_rfl) allP0 ?_
    obtain ⟨r4, h5, h⟩ := bind_of h
    refine WO_lend [(1000, 4)] (us := [none, none, some (.slice tI), none, none]) (d := 24) (p := True) (j := 4) rfl ⟨by kernel_rfl, by kernel_rfl, by kernel_rfl⟩ trivial (hard_search_with_hard_Free_1_with_hard_Free_2_ok h5) (by kernel_rfl) (by kernel_rfl) ?_
    refine WO_run (j := 9) (k := 5) (orcs := []) (kF := [10, 11]) (kL := [4]) (fr' := [(10, aD (.slice tI) r4.1), (11, aB r4.2)]) (L' := [(4, .cells [.dat (.slice (.arr 2 tI)) a1])]) (obs := []) rfl (by kernel_rfl) allP0 ?_
    refine WO_fin [10, 11] [] (fr' := [(10, aD (.slice tI) r4.1), (11, aB r4.2)]) (L' := []) (by kernel_rfl) (by kernel_rfl) ?_
    refine seqQ_norm ?_
    refine W_seq (by kernel_rfl) ?_
    refine W_seq (by kernel_rfl) ?_
    refine W_run 2 [] [10, 28] [] (fr' := [(10, aD (.slice tI) r4.1), (28, aB (!r4.2))]) (L' := []) (obs := []) (by kernel_rfl) (by kernel_rfl) (by kernel_rfl) allP0 ?_
    refine seqQ_norm ?_
    refine W_cond (o := .tmp 28) (b := !r4.2) (by kernel_rfl) (by kernel_rfl) (fun h6 => ?_) (fun h6 => ?_)
    · replace h := ofT h6 h
      refine W_seq (by kernel_rfl) ?_
      refine W_run 2 [] [6, 7] [] (fr' := [(6, .one (.nilS)), (7, aI (5 : Int))]) (L' := []) (obs := []) (by kernel_rfl) (by kernel_rfl) (by kernel_rfl) allP0 ?_
      refine seqQ_norm ?_
      obtain rfl := Option.some.inj h
      refine W_cnv 6 (.slice tI) (by kernel_rfl) ?_
      refine W_ret [6, 7] [] (fr' := [(6, aD (.slice tI) []), (7, aI (5 : Int))]) (L' := []) (by kernel_rfl) (by kernel_rfl) ?_
      refine seqQ_ret ?_
      exact retQ_mk (by kernel_rfl) (by kernel_rfl) (by kernel_rfl)
    · replace h := ofF h6 h
      refine W_skip [10] [] (fr' := [(10, aD (.slice tI) r4.1)]) (L' := []) (by kernel_rfl) (by kernel_rfl) ?_
      refine seqQ_norm ?_
      refine W_seq (by kernel_rfl) ?_
      refine W_run 3 [] [6, 7] [] (fr' := [(6, aD (.slice tI) r4.1), (7, aI (0 : Int))]) (L' := []) (obs := []) (by kernel_rfl) (by kernel_rfl) (by kernel_rfl) allP0 ?_
      refine seqQ_norm ?_
      obtain rfl := Option.some.inj h
      refine W_ret [6, 7] [] (fr' := [(6, aD (.slice tI) r4.1), (7, aI (0 : Int))]) (L' := []) (by kernel_rfl) (by kernel_rfl) ?_
      exact retQ_mk (by kernel_rfl) (by kernel_rfl) (by kernel_rfl)

def ref_Within (a0 : Int) (a1 : Int) (a2 : Int) : Option Bool :=
some ((decide (a0 ≤ a1)) && (decide (a1 ≤ a2)))
theorem ref_Within_ok {a0 : Int} {a1 : Int} {a2 : Int} {r : Bool} (h : ref_Within a0 a1 a2 = some r) : FnC Try.prog 13 [aI a0, aI a1, aI a2] [] (aB r) [] := by
  refine fnC_of_W (B := bodyOf Try.f13) (n := 15) Try.func13 (by kernel_rfl) (by kernel_rfl) (by kernel_rfl) (by kernel_rfl) (by kernel_rfl) ?_
  intro K
  refine W_seq (by kernel_rfl) ?_
  refine W_run 1 [] [0, 1, 2] [] (fr' := [(0, aI a0), (1, aI a1), (2, aI a2)]) (L' := []) (obs := []) (by kernel_rfl) (by kernel_rfl) (by kernel_rfl) allP0 ?_
  refine seqQ_norm ?_
  refine W_seq (by kernel_rfl) ?_
  refine W_run 9 [] [6] [] (fr' := [(6, aB ((decide (a0 ≤ a1)) && (decide (a1 ≤ a2))))]) (L' := []) (obs := []) (by kernel_rfl) (by kernel_rfl) (by kernel_rfl) allP0 ?_
  refine seqQ_norm ?_
  obtain rfl := Option.some.inj h
  refine W_ret [6] [] (fr' := [(6, aB ((decide (a0 ≤ a1)) && (decide (a1 ≤ a2))))]) (L' := []) (by kernel_rfl) (by kernel_rfl) ?_
  exact retQ_mk (by kernel_rfl) (by kernel_rfl) (by kernel_rfl)

def ref_Inside_b1 (a0 : Int) (i11 : Int) (v14 : Int) (x12 : Unit) : Option (Flow Unit (Esc Bool Unit)) :=
bif (decide (v14 < (0 : Int))) || (decide (v14 ≥ a0)) then
(some (.done (.ret false)))
else
(some (.next ()))
@[reducible] def ref_Inside_s2 (a0 : Int) (a1 : (List Int)) (v : Int × Unit) : Fr × LL := ([(0, aI a0), (7, aD (.slice tI) a1), (8, aI (List.length a1 : Int)), (9, aI v.1)], [])
@[reducible] def ref_Inside_s3 (v : Bool) : Fr × LL := ([(4, aB v)], [])
@[reducible] def ref_Inside_s4 (v : Unit) : Fr × LL := ([], [])
def ref_Inside (a0 : Int) (a1 : (List Int)) : Option Bool :=
(forL (ref_Inside_b1 a0) (fun x12 => (.brk ())) a1 0 ()).bind fun v19 =>
match v19 with
| .ret v24 =>
(some v24)
| .brk v25 =>
(some true)
theorem ref_Inside_ok {a0 : Int} {a1 : (List Int)} {r : Bool} (h : ref_Inside a0 a1 = some r) : FnC Try.prog 14 [aI a0, aD (.slice tI) a1] [] (aB r) [] := by
  refine fnC_of_W (B := bodyOf Try.f14) (n := 21) Try.func14 (by kernel_rfl) (by kernel_rfl) (by kernel_rfl) (by kernel_rfl) (by kernel_rfl) ?_
  intro K
  refine W_seq (by kernel_rfl) ?_
  refine W_run 1 [] [0, 1] [] (fr' := [(0, aI a0), (1, aD (.slice tI) a1)]) (L' := []) (obs := []) (by kernel_rfl) (by kernel_rfl) (by kernel_rfl) allP0 ?_
  refine seqQ_norm ?_
  refine W_seq (by kernel_rfl) ?_
  refine W_seq (by kernel_rfl) ?_
  refine W_run 3 [] [0, 7, 8, 9] [] (fr' := [(0, aI a0), (7, aD (.slice tI) a1), (8, aI (List.length a1 : Int)), (9, aI (0 : Int))]) (L' := []) (obs := []) (by kernel_rfl) (by kernel_rfl) (by kernel_rfl) allP0 ?_
  refine seqQ_norm ?_
  refine W_block (id := 0) (by kernel_rfl) ?_
  obtain ⟨v19, h20, h⟩ := bind_of h
  refine W_len (t := 7) (u := tI) (xs := a1) (by kernel_rfl) (fun h23 => ?_)
  obtain ⟨h21, h22⟩ := forL_iter h23 h20
  refine W_weaken [0, 7, 8, 9] [] (fr' := ((ref_Inside_s2 a0 a1) ((0 : Int), ())).1) (L' := ((ref_Inside_s2 a0 a1) ((0 : Int), ())).2) (by kernel_rfl) ?_
  refine W_cutK (W_loop (S := (ref_Inside_s2 a0 a1)) (J := (escQ (exQ .ret ref_Inside_s3) (exQ (.exit 0) ref_Inside_s4))) (by kernel_rfl) ?_ h21 _ v19 h22) ?_
  · rintro ⟨i11, x12⟩ s h
    refine W_seq (by kernel_rfl) ?_
    refine W_run 1 [] [0, 7, 8, 9, 10] [] (fr' := [(0, aI a0), (7, aD (.slice tI) a1), (8, aI (List.length a1 : Int)), (9, aI i11), (10, aB (decide (i11 < (List.length a1 : Int))))]) (L' := []) (obs := []) (by kernel_rfl) (by kernel_rfl) (by kernel_rfl) allP0 ?_
    refine seqQ_norm ?_
    refine W_seq (by kernel_rfl) ?_
    refine W_cond (o := .tmp 10) (b := decide (i11 < (List.length a1 : Int))) (by kernel_rfl) (by kernel_rfl) (fun h16 => ?_) (fun h16 => ?_)
    · replace h := stepL_true h16 h
      obtain ⟨v14, _, h15, h, rfl⟩ := h
      refine W_skip [0, 7, 8, 9] [] (fr' := [(0, aI a0), (7, aD (.slice tI) a1), (8, aI (List.length a1 : Int)), (9, aI i11)]) (L' := []) (by kernel_rfl) (by kernel_rfl) ?_
      refine seqQ_norm ?_
      refine W_seq (by kernel_rfl) ?_
      refine W_block (id := 1) (by kernel_rfl) ?_
      refine W_seq (by kernel_rfl) ?_
      refine W_run 3 [(1, .val (.dat tI v14))] [0, 6, 7, 8, 9] [] (fr' := [(0, aI a0), (6, aI v14), (7, aD (.slice tI) a1), (8, aI (List.length a1 : Int)), (9, aI i11)]) (L' := []) (obs := [Idx a1 i11 v14]) (by kernel_rfl) (by kernel_rfl) (by kernel_rfl) (allP1 (Idx.of h15)) ?_
      refine seqQ_norm ?_
      refine W_seq (by kernel_rfl) ?_
      refine W_run 7 [] [0, 7, 8, 9, 19] [] (fr' := [(0, aI a0), (7, aD (.slice tI) a1), (8, aI (List.length a1 : Int)), (9, aI i11), (19, aB ((decide (v14 < (0 : Int))) || (decide (v14 ≥ a0))))]) (L' := []) (obs := []) (by kernel_rfl) (by kernel_rfl) (by kernel_rfl) allP0 ?_
      refine seqQ_norm ?_
      refine W_cond (o := .tmp 19) (b := (decide (v14 < (0 : Int))) || (decide (v14 ≥ a0))) (by kernel_rfl) (by kernel_rfl) (fun h17 => ?_) (fun h17 => ?_)
      · replace h := ofT h17 h
        refine W_seq (by kernel_rfl) ?_
        refine W_run 1 [] [4] [] (fr' := [(4, aB false)]) (L' := []) (obs := []) (by kernel_rfl) (by kernel_rfl) (by kernel_rfl) allP0 ?_
        refine seqQ_norm ?_
        obtain rfl := Option.some.inj h
        refine W_ret [4] [] (fr' := [(4, aB false)]) (L' := []) (by kernel_rfl) (by kernel_rfl) ?_
        refine blockQ_ret ?_
        refine seqQ_ret ?_
        refine round_ret ?_
        refine escQ_ret ?_
        exact exQ_mk (by kernel_rfl) (by kernel_rfl)
      · replace h := ofF h17 h
        refine W_skip [0, 7, 8, 9] [] (fr' := [(0, aI a0), (7, aD (.slice tI) a1), (8, aI (List.length a1 : Int)), (9, aI i11)]) (L' := []) (by kernel_rfl) (by kernel_rfl) ?_
        refine blockQ_norm ?_
        refine seqQ_norm ?_
        obtain rfl := Option.some.inj h
        refine W_run 2 [] [0, 7, 8, 9] [] (fr' := [(0, aI a0), (7, aD (.slice tI) a1), (8, aI (List.length a1 : Int)), (9, aI (w64 (i11 + (1 : Int))))]) (L' := []) (obs := []) (by kernel_rfl) (by kernel_rfl) (by kernel_rfl) allP0 ?_
        exact round_next' (by kernel_rfl) (by kernel_rfl)
    · obtain rfl := stepL_false h16 h
      refine W_exit (id := 0) [] [] (fr' := []) (L' := []) (by kernel_rfl) (by kernel_rfl) ?_
      refine seqQ_exit ?_
      refine round_exit ?_
      refine escQ_brk ?_
      exact exQ_mk (by kernel_rfl) (by kernel_rfl)
  · intro e fr L hJ
    rcases v19 with v24 | v25
    · obtain ⟨rfl, rfl, rfl⟩ := hJ
      obtain rfl := Option.some.inj h
      refine LT_keep [4] [] (fr' := [(4, aB v24)]) (L' := []) (by kernel_rfl) ?_
      refine blockQ_ret ?_
      refine seqQ_ret ?_
      exact retQ_mk (by kernel_rfl) (by kernel_rfl) (by kernel_rfl)
    · obtain ⟨rfl, rfl, rfl⟩ := hJ
      refine LT_keep [] [] (fr' := []) (L' := []) (by kernel_rfl) ?_
      refine blockQ_hit ?_
      refine seqQ_norm ?_
      refine W_seq (by kernel_rfl) ?_
      refine W_run 1 [] [4] [] (fr' := [(4, aB true)]) (L' := []) (obs := []) (by kernel_rfl) (by kernel_rfl) (by kernel_rfl) allP0 ?_
      refine seqQ_norm ?_
      obtain rfl := Option.some.inj h
      refine W_ret [4] [] (fr' := [(4, aB true)]) (L' := []) (by kernel_rfl) (by kernel_rfl) ?_
      exact retQ_mk (by kernel_rfl) (by kernel_rfl) (by kernel_rfl)

def ref_DotsCheck_b1 (a0 : Int) (i28 : Int) (v31 : (List Int)) (x29 : Unit) : Option (Flow Unit (Esc Int Unit)) :=
(idx v31 (0 : Int)).bind fun v34 =>
(idx v31 (1 : Int)).bind fun v36 =>
(ref_Inside a0 [v34, v36]).bind fun r38 =>
bif !r38 then
(some (.done (.ret (2 : Int))))
else
(some (.next ()))
@[reducible] def ref_DotsCheck_s2 (a0 : Int) (a1 : (List (List Int))) (a2 : Int) (v : Int × Unit) : Fr × LL := ([(0, aI a0), (1, aD (.slice (.arr 2 tI)) a1), (2, aI a2), (19, aD (.slice (.arr 2 tI)) a1), (20, aI (List.length a1 : Int)), (21, aI v.1)], [])
@[reducible] def ref_DotsCheck_s3 (v : Int) : Fr × LL := ([(6, aI v)], [])
@[reducible] def ref_DotsCheck_s4 (a0 : Int) (a1 : (List (List Int))) (a2 : Int) (v : Unit) : Fr × LL := ([(0, aI a0), (1, aD (.slice (.arr 2 tI)) a1), (2, aI a2)], [])
def ref_DotsCheck_b5 (i67 : Int) (v70 : (List Int)) (x68 : Unit) : Option (Flow Unit (Esc Int Unit)) :=
(idx v70 (0 : Int)).bind fun v73 =>
(idx v70 (1 : Int)).bind fun v75 =>
bif v73 == v75 then
(some (.done (.ret (3 : Int))))
else
(some (.next ()))
@[reducible] def ref_DotsCheck_s6 (a0 : Int) (a1 : (List (List Int))) (a2 : Int) (v : Int × Unit) : Fr × LL := ([(0, aI a0), (2, aI a2), (34, aD (.slice (.arr 2 tI)) a1), (35, aI (List.length a1 : Int)), (36, aI v.1)], [])
@[reducible] def ref_DotsCheck_s7 (v : Int) : Fr × LL := ([(6, aI v)], [])
@[reducible] def ref_DotsCheck_s8 (a0 : Int) (a2 : Int) (v : Unit) : Fr × LL := ([(0, aI a0), (2, aI a2)], [])
def ref_DotsCheck (a0 : Int) (a1 : (List (List Int))) (a2 : Int) : Option Int :=
(ref_Within (0 : Int) a0 (16 : Int)).bind fun r3 =>
bif (!r3) || (decide ((List.length a1 : Int) > (200 : Int))) then
(some (1 : Int))
else
((forL (ref_DotsCheck_b1 a0) (fun x29 => (.brk ())) a1 0 ()).bind fun v42 =>
match v42 with
| .ret v47 =>
(some v47)
| .brk v48 =>
((forL ref_DotsCheck_b5 (fun x68 => (.brk ())) a1 0 ()).bind fun v79 =>
match v79 with
| .ret v84 =>
(some v84)
| .brk v85 =>
((ref_Within (0 : Int) a2 a0).bind fun r86 =>
bif !r86 then
(some (4 : Int))
else
(some (0 : Int)))))
theorem ref_DotsCheck_ok {a0 : Int} {a1 : (List (List Int))} {a2 : Int} {r : Int} (h : ref_DotsCheck a0 a1 a2 = some r) : FnC Try.prog 32 [aI a0, aD (.slice (.arr 2 tI)) a1, aI a2] [] (aI r) [] := by
  refine fnC_of_W (B := bodyOf Try.f32) (n := 50) Try.func32 (by kernel_rfl) (by kernel_rfl) (by kernel_rfl) (by kernel_rfl) (by kernel_rfl) ?_
  intro K
  refine W_seq (by kernel_rfl) ?_
  refine W_run 1 [] [0, 1, 2] [] (fr' := [(0, aI a0), (1, aD (.slice (.arr 2 tI)) a1), (2, aI a2)]) (L' := []) (obs := []) (by kernel_rfl) (by kernel_rfl) (by kernel_rfl) allP0 ?_
  refine seqQ_norm ?_
  refine W_seq (by kernel_rfl) ?_
  refine W_seq (by kernel_rfl) ?_
  refine W_region (by kernel_rfl) ?_
  refine WO_run (j := 1) (k := 1) (orcs := []) (kF := [0, 1, 2, 11]) (kL := []) (fr' := [(0, aI a0), (1, aD (.slice (.arr 2 tI)) a1), (2, aI a2), (11, aI a0)]) (L' := []) (obs := []) rfl (by kernel_rfl) allP0 ?_
  obtain ⟨r3, h4, h⟩ := bind_of h
  refine WO_call0 (us := [none, none, none]) (d := 12) (p := True) (j := 2) rfl ⟨by kernel_rfl, by kernel_rfl, by kernel_rfl⟩ trivial (ref_Within_ok h4) (by kernel_rfl) ?_
  refine WO_run (j := 8) (k := 6) (orcs := []) (kF := [0, 1, 2, 18]) (kL := []) (fr' := [(0, aI a0), (1, aD (.slice (.arr 2 tI)) a1), (2, aI a2), (18, aB ((!r3) || (decide ((List.length a1 : Int) > (200 : Int)))))]) (L' := []) (obs := []) rfl (by kernel_rfl) allP0 ?_
  refine WO_fin [0, 1, 2, 18] [] (fr' := [(0, aI a0), (1, aD (.slice (.arr 2 tI)) a1), (2, aI a2), (18, aB ((!r3) || (decide ((List.length a1 : Int) > (200 : Int)))))]) (L' := []) (by kernel_rfl) (by kernel_rfl) ?_
  refine seqQ_norm ?_
  refine W_cond (o := .tmp 18) (b := (!r3) || (decide ((List.length a1 : Int) > (200 : Int)))) (by kernel_rfl) (by kernel_rfl) (fun h5 => ?_) (fun h5 => ?_)
  · replace h := ofT h5 h
    refine W_seq (by kernel_rfl) ?_
    refine W_run 1 [] [6] [] (fr' := [(6, aI (1 : Int))]) (L' := []) (obs := []) (by kernel_rfl) (by kernel_rfl) (by kernel_rfl) allP0 ?_
    refine seqQ_norm ?_
    obtain rfl := Option.some.inj h
    refine W_ret [6] [] (fr' := [(6, aI (1 : Int))]) (L' := []) (by kernel_rfl) (by kernel_rfl) ?_
    refine seqQ_ret ?_
    exact retQ_mk (by kernel_rfl) (by kernel_rfl) (by kernel_rfl)
  · replace h := ofF h5 h
    refine W_skip [0, 1, 2] [] (fr' := [(0, aI a0), (1, aD (.slice (.arr 2 tI)) a1), (2, aI a2)]) (L' := []) (by kernel_rfl) (by kernel_rfl) ?_
    refine seqQ_norm ?_
    refine W_seq (by kernel_rfl) ?_
    refine W_seq (by kernel_rfl) ?_
    refine W_run 3 [] [0, 1, 2, 19, 20, 21] [] (fr' := [(0, aI a0), (1, aD (.slice (.arr 2 tI)) a1), (2, aI a2), (19, aD (.slice (.arr 2 tI)) a1), (20, aI (List.length a1 : Int)), (21, aI (0 : Int))]) (L' := []) (obs := []) (by kernel_rfl) (by kernel_rfl) (by kernel_rfl) allP0 ?_
    refine seqQ_norm ?_
    refine W_block (id := 0) (by kernel_rfl) ?_
    obtain ⟨v42, h43, h⟩ := bind_of h
    refine W_len (t := 19) (u := (.arr 2 tI)) (xs := a1) (by kernel_rfl) (fun h46 => ?_)
    obtain ⟨h44, h45⟩ := forL_iter h46 h43
    refine W_weaken [0, 1, 2, 19, 20, 21] [] (fr' := ((ref_DotsCheck_s2 a0 a1 a2) ((0 : Int), ())).1) (L' := ((ref_DotsCheck_s2 a0 a1 a2) ((0 : Int), ())).2) (by kernel_rfl) ?_
    refine W_cutK (W_loop (S := (ref_DotsCheck_s2 a0 a1 a2)) (J := (escQ (exQ .ret ref_DotsCheck_s3) (exQ (.exit 0) (ref_DotsCheck_s4 a0 a1 a2)))) (by kernel_rfl) ?_ h44 _ v42 h45) ?_
    · rintro ⟨i28, x29⟩ s h
      refine W_seq (by kernel_rfl) ?_
      refine W_run 1 [] [0, 1, 2, 19, 20, 21, 22] [] (fr' := [(0, aI a0), (1, aD (.slice (.arr 2 tI)) a1), (2, aI a2), (19, aD (.slice (.arr 2 tI)) a1), (20, aI (List.length a1 : Int)), (21, aI i28), (22, aB (decide (i28 < (List.length a1 : Int))))]) (L' := []) (obs := []) (by kernel_rfl) (by kernel_rfl) (by kernel_rfl) allP0 ?_
      refine seqQ_norm ?_
      refine W_seq (by kernel_rfl) ?_
      refine W_cond (o := .tmp 22) (b := decide (i28 < (List.length a1 : Int))) (by kernel_rfl) (by kernel_rfl) (fun h33 => ?_) (fun h33 => ?_)
      · replace h := stepL_true h33 h
        obtain ⟨v31, _, h32, h, rfl⟩ := h
        refine W_skip [0, 1, 2, 19, 20, 21] [] (fr' := [(0, aI a0), (1, aD (.slice (.arr 2 tI)) a1), (2, aI a2), (19, aD (.slice (.arr 2 tI)) a1), (20, aI (List.length a1 : Int)), (21, aI i28)]) (L' := []) (by kernel_rfl) (by kernel_rfl) ?_
        refine seqQ_norm ?_
        refine W_seq (by kernel_rfl) ?_
        refine W_block (id := 1) (by kernel_rfl) ?_
        refine W_seq (by kernel_rfl) ?_
        refine W_run 4 [(1, .val (.dat (.arr 2 tI) v31)), (5, .typed)] [0, 1, 2, 8, 19, 20, 21] [8] (fr' := [(0, aI a0), (1, aD (.slice (.arr 2 tI)) a1), (2, aI a2), (8, .one (.ptr 8 0)), (19, aD (.slice (.arr 2 tI)) a1), (20, aI (List.length a1 : Int)), (21, aI i28)]) (L' := [(8, .one (.arr 2 tI) v31)]) (obs := [Idx a1 i28 v31, True]) (by kernel_rfl) (by kernel_rfl) (by kernel_rfl) (allP2 (Idx.of h32) (allP1 trivial)) ?_
        refine seqQ_norm ?_
        refine W_seq (by kernel_rfl) ?_
        obtain ⟨v34, h35, h⟩ := bind_of h
        obtain ⟨v36, h37, h⟩ := bind_of h
        refine W_region (by kernel_rfl) ?_
        refine WO_run (j := 6) (k := 6) (orcs := [(5, .val (.dat tI v34)), (9, .val (.dat tI v36))]) (kF := [0, 1, 2, 19, 20, 21, 25, 30]) (kL := [8, 30]) (fr' := [(0, aI a0), (1, aD (.slice (.arr 2 tI)) a1), (2, aI a2), (19, aD (.slice (.arr 2 tI)) a1), (20, aI (List.length a1 : Int)), (21, aI i28), (25, aI a0), (30, .one (.slc 30))]) (L' := [(8, .one (.arr 2 tI) v31), (30, .seq tI [v34, v36])]) (obs := [InR (0 : Int) 2, Idx v31 (0 : Int) v34, InR (1 : Int) 2, Idx v31 (1 : Int) v36]) rfl (by kernel_rfl) (allP2 (by unfold InR; decide) (allP2 (Idx.of h35) (allP2 (by unfold InR; decide) (allP1 (Idx.of h37))))) ?_
        obtain ⟨r38, h39, h⟩ := bind_of h
        refine WO_frz 30 (by kernel_rfl) ?_
        refine WO_call0 (us := [none, none]) (d := 31) (p := True) (j := 7) rfl ⟨by kernel_rfl, by kernel_rfl, by kernel_rfl⟩ trivial (ref_Inside_ok h39) (by kernel_rfl) ?_
        refine WO_run (j := 8) (k := 1) (orcs := []) (kF := [0, 1, 2, 19, 20, 21, 32]) (kL := [8]) (fr' := [(0, aI a0), (1, aD (.slice (.arr 2 tI)) a1), (2, aI a2), (19, aD (.slice (.arr 2 tI)) a1), (20, aI (List.length a1 : Int)), (21, aI i28), (32, aB (!r38))]) (L' := [(8, .one (.arr 2 tI) v31)]) (obs := []) rfl (by kernel_rfl) allP0 ?_
        refine WO_fin [0, 1, 2, 19, 20, 21, 32] [] (fr' := [(0, aI a0), (1, aD (.slice (.arr 2 tI)) a1), (2, aI a2), (19, aD (.slice (.arr 2 tI)) a1), (20, aI (List.length a1 : Int)), (21, aI i28), (32, aB (!r38))]) (L' := []) (by kernel_rfl) (by kernel_rfl) ?_
        refine seqQ_norm ?_
        refine W_cond (o := .tmp 32) (b := !r38) (by kernel_rfl) (by kernel_rfl) (fun h40 => ?_) (fun h40 => ?_)
        · replace h := ofT h40 h
          refine W_seq (by kernel_rfl) ?_
          refine W_run 1 [] [6] [] (fr' := [(6, aI (2 : Int))]) (L' := []) (obs := []) (by kernel_rfl) (by kernel_rfl) (by kernel_rfl) allP0 ?_
          refine seqQ_norm ?_
          obtain rfl := Option.some.inj h
          refine W_ret [6] [] (fr' := [(6, aI (2 : Int))]) (L' := []) (by kernel_rfl) (by kernel_rfl) ?_
          refine blockQ_ret ?_
          refine seqQ_ret ?_
          refine round_ret ?_
          refine escQ_ret ?_
          exact exQ_mk (by kernel_rfl) (by kernel_rfl)
        · replace h := ofF h40 h
          refine W_skip [0, 1, 2, 19, 20, 21] [] (fr' := [(0, aI a0), (1, aD (.slice (.arr 2 tI)) a1), (2, aI a2), (19, aD (.slice (.arr 2 tI)) a1), (20, aI (List.length a1 : Int)), (21, aI i28)]) (L' := []) (by kernel_rfl) (by kernel_rfl) ?_
          refine blockQ_norm ?_
          refine seqQ_norm ?_
          obtain rfl := Option.some.inj h
          refine W_run 2 [] [0, 1, 2, 19, 20, 21] [] (fr' := [(0, aI a0), (1, aD (.slice (.arr 2 tI)) a1), (2, aI a2), (19, aD (.slice (.arr 2 tI)) a1), (20, aI (List.length a1 : Int)), (21, aI (w64 (i28 + (1 : Int))))]) (L' := []) (obs := []) (by kernel_rfl) (by kernel_rfl) (by kernel_rfl) allP0 ?_
          exact round_next' (by kernel_rfl) (by kernel_rfl)
      · obtain rfl := stepL_false h33 h
        refine W_exit (id := 0) [0, 1, 2] [] (fr' := [(0, aI a0), (1, aD (.slice (.arr 2 tI)) a1), (2, aI a2)]) (L' := []) (by kernel_rfl) (by kernel_rfl) ?_
        refine seqQ_exit ?_
        refine round_exit ?_
        refine escQ_brk ?_
        exact exQ_mk (by kernel_rfl) (by kernel_rfl)
    · intro e fr L hJ
      rcases v42 with v47 | v48
      · obtain ⟨rfl, rfl, rfl⟩ := hJ
        obtain rfl := Option.some.inj h
        refine LT_keep [6] [] (fr' := [(6, aI v47)]) (L' := []) (by kernel_rfl) ?_
        refine blockQ_ret ?_
        refine seqQ_ret ?_
        exact retQ_mk (by kernel_rfl) (by kernel_rfl) (by kernel_rfl)
      · obtain ⟨rfl, rfl, rfl⟩ := hJ
        refine LT_keep [0, 1, 2] [] (fr' := [(0, aI a0), (1, aD (.slice (.arr 2 tI)) a1), (2, aI a2)]) (L' := []) (by kernel_rfl) ?_
        refine blockQ_hit ?_
        refine seqQ_norm ?_
        refine W_seq (by kernel_rfl) ?_
        refine W_seq (by kernel_rfl) ?_
        refine W_run 3 [] [0, 2, 34, 35, 36] [] (fr' := [(0, aI a0), (2, aI a2), (34, aD (.slice (.arr 2 tI)) a1), (35, aI (List.length a1 : Int)), (36, aI (0 : Int))]) (L' := []) (obs := []) (by kernel_rfl) (by kernel_rfl) (by kernel_rfl) allP0 ?_
        refine seqQ_norm ?_
        refine W_block (id := 2) (by kernel_rfl) ?_
        obtain ⟨v79, h80, h⟩ := bind_of h
        refine W_len (t := 34) (u := (.arr 2 tI)) (xs := a1) (by kernel_rfl) (fun h83 => ?_)
        obtain ⟨h81, h82⟩ := forL_iter h83 h80
        refine W_weaken [0, 2, 34, 35, 36] [] (fr' := ((ref_DotsCheck_s6 a0 a1 a2) ((0 : Int), ())).1) (L' := ((ref_DotsCheck_s6 a0 a1 a2) ((0 : Int), ())).2) (by kernel_rfl) ?_
        refine W_cutK (W_loop (S := (ref_DotsCheck_s6 a0 a1 a2)) (J := (escQ (exQ .ret ref_DotsCheck_s7) (exQ (.exit 2) (ref_DotsCheck_s8 a0 a2)))) (by kernel_rfl) ?_ h81 _ v79 h82) ?_
        · rintro ⟨i67, x68⟩ s h
          refine W_seq (by kernel_rfl) ?_
          refine W_run 1 [] [0, 2, 34, 35, 36, 37] [] (fr' := [(0, aI a0), (2, aI a2), (34, aD (.slice (.arr 2 tI)) a1), (35, aI (List.length a1 : Int)), (36, aI i67), (37, aB (decide (i67 < (List.length a1 : Int))))]) (L' := []) (obs := []) (by kernel_rfl) (by kernel_rfl) (by kernel_rfl) allP0 ?_
          refine seqQ_norm ?_
          refine W_seq (by kernel_rfl) ?_
          refine W_cond (o := .tmp 37) (b := decide (i67 < (List.length a1 : Int))) (by kernel_rfl) (by kernel_rfl) (fun h72 => ?_) (fun h72 => ?_)
          · replace h := stepL_true h72 h
            obtain ⟨v70, _, h71, h, rfl⟩ := h
            refine W_skip [0, 2, 34, 35, 36] [] (fr' := [(0, aI a0), (2, aI a2), (34, aD (.slice (.arr 2 tI)) a1), (35, aI (List.length a1 : Int)), (36, aI i67)]) (L' := []) (by kernel_rfl) (by kernel_rfl) ?_
            refine seqQ_norm ?_
            refine W_seq (by kernel_rfl) ?_
            refine W_block (id := 3) (by kernel_rfl) ?_
            refine W_seq (by kernel_rfl) ?_
            refine W_run 4 [(1, .val (.dat (.arr 2 tI) v70)), (5, .typed)] [0, 2, 10, 34, 35, 36] [10] (fr' := [(0, aI a0), (2, aI a2), (10, .one (.ptr 10 0)), (34, aD (.slice (.arr 2 tI)) a1), (35, aI (List.length a1 : Int)), (36, aI i67)]) (L' := [(10, .one (.arr 2 tI) v70)]) (obs := [Idx a1 i67 v70, True]) (by kernel_rfl) (by kernel_rfl) (by kernel_rfl) (allP2 (Idx.of h71) (allP1 trivial)) ?_
            refine seqQ_norm ?_
            refine W_seq (by kernel_rfl) ?_
            obtain ⟨v73, h74, h⟩ := bind_of h
            obtain ⟨v75, h76, h⟩ := bind_of h
            refine W_run 5 [(3, .val (.dat tI v73)), (7, .val (.dat tI v75))] [0, 2, 34, 35, 36, 44] [] (fr' := [(0, aI a0), (2, aI a2), (34, aD (.slice (.arr 2 tI)) a1), (35, aI (List.length a1 : Int)), (36, aI i67), (44, aB (v73 == v75))]) (L' := []) (obs := [InR (0 : Int) 2, Idx v70 (0 : Int) v73, InR (1 : Int) 2, Idx v70 (1 : Int) v75]) (by kernel_rfl) (by kernel_rfl) (by kernel_rfl) (allP2 (by unfold InR; decide) (allP2 (Idx.of h74) (allP2 (by unfold InR; decide) (allP1 (Idx.of h76))))) ?_
            refine seqQ_norm ?_
            refine W_cond (o := .tmp 44) (b := v73 == v75) (by kernel_rfl) (by kernel_rfl) (fun h77 => ?_) (fun h77 => ?_)
            · replace h := ofT h77 h
              refine W_seq (by kernel_rfl) ?_
              refine W_run 1 [] [6] [] (fr' := [(6, aI (3 : Int))]) (L' := []) (obs := []) (by kernel_rfl) (by kernel_rfl) (by kernel_rfl) allP0 ?_
              refine seqQ_norm ?_
              obtain rfl := Option.some.inj h
              refine W_ret [6] [] (fr' := [(6, aI (3 : Int))]) (L' := []) (by kernel_rfl) (by kernel_rfl) ?_
              refine blockQ_ret ?_
              refine seqQ_ret ?_
              refine round_ret ?_
              refine escQ_ret ?_
              exact exQ_mk (by kernel_rfl) (by kernel_rfl)
            · replace h := ofF h77 h
              refine W_skip [0, 2, 34, 35, 36] [] (fr' := [(0, aI a0), (2, aI a2), (34, aD (.slice (.arr 2 tI)) a1), (35, aI (List.length a1 : Int)), (36, aI i67)]) (L' := []) (by kernel_rfl) (by kernel_rfl) ?_
              refine blockQ_norm ?_
              refine seqQ_norm ?_
              obtain rfl := Option.some.inj h
              refine W_run 2 [] [0, 2, 34, 35, 36] [] (fr' := [(0, aI a0), (2, aI a2), (34, aD (.slice (.arr 2 tI)) a1), (35, aI (List.length a1 : Int)), (36, aI (w64 (i67 + (1 : Int))))]) (L' := []) (obs := []) (by kernel_rfl) (by kernel_rfl) (by kernel_rfl) allP0 ?_
              exact round_next' (by kernel_rfl) (by kernel_rfl)
          · obtain rfl := stepL_false h72 h
            refine W_exit (id := 2) [0, 2] [] (fr' := [(0, aI a0), (2, aI a2)]) (L' := []) (by kernel_rfl) (by kernel_rfl) ?_
            refine seqQ_exit ?_
            refine round_exit ?_
            refine escQ_brk ?_
            exact exQ_mk (by kernel_rfl) (by kernel_rfl)
        · intro e fr L hJ
          rcases v79 with v84 | v85
          · obtain ⟨rfl, rfl, rfl⟩ := hJ
            obtain rfl := Option.some.inj h
            refine LT_keep [6] [] (fr' := [(6, aI v84)]) (L' := []) (by kernel_rfl) ?_
            refine blockQ_ret ?_
            refine seqQ_ret ?_
            exact retQ_mk (by kernel_rfl) (by kernel_rfl) (by kernel_rfl)
          · obtain ⟨rfl, rfl, rfl⟩ := hJ
            refine LT_keep [0, 2] [] (fr' := [(0, aI a0), (2, aI a2)]) (L' := []) (by kernel_rfl) ?_
            refine blockQ_hit ?_
            refine seqQ_norm ?_
            refine W_seq (by kernel_rfl) ?_
            refine W_seq (by kernel_rfl) ?_
            refine W_region (by kernel_rfl) ?_
            refine WO_run (j := 2) (k := 2) (orcs := []) (kF := [46, 47]) (kL := []) (fr' := [(46, aI a2), (47, aI a0)]) (L' := []) (obs := []) rfl (by kernel_rfl) allP0 ?_
            obtain ⟨r86, h87, h⟩ := bind_of h
            refine WO_call0 (us := [none, none, none]) (d := 48) (p := True) (j := 3) rfl ⟨by kernel_rfl, by kernel_rfl, by kernel_rfl⟩ trivial (ref_Within_ok h87) (by kernel_rfl) ?_
            refine WO_run (j := 4) (k := 1) (orcs := []) (kF := [49]) (kL := []) (fr' := [(49, aB (!r86))]) (L' := []) (obs := []) rfl (by kernel_rfl) allP0 ?_
            refine WO_fin [49] [] (fr' := [(49, aB (!r86))]) (L' := []) (by kernel_rfl) (by kernel_rfl) ?_
            refine seqQ_norm ?_
            refine W_cond (o := .tmp 49) (b := !r86) (by kernel_rfl) (by kernel_rfl) (fun h88 => ?_) (fun h88 => ?_)
            · replace h := ofT h88 h
              refine W_seq (by kernel_rfl) ?_
              refine W_run 1 [] [6] [] (fr' := [(6, aI (4 : Int))]) (L' := []) (obs := []) (by kernel_rfl) (by kernel_rfl) (by kernel_rfl) allP0 ?_
              refine seqQ_norm ?_
              obtain rfl := Option.some.inj h
              refine W_ret [6] [] (fr' := [(6, aI (4 : Int))]) (L' := []) (by kernel_rfl) (by kernel_rfl) ?_
              refine seqQ_ret ?_
              exact retQ_mk (by kernel_rfl) (by kernel_rfl) (by kernel_rfl)
            · replace h := ofF h88 h
              refine W_skip [] [] (fr' := []) (L' := []) (by kernel_rfl) (by kernel_rfl) ?_
              refine seqQ_norm ?_
              refine W_seq (by kernel_rfl) ?_
              refine W_run 1 [] [6] [] (fr' := [(6, aI (0 : Int))]) (L' := []) (obs := []) (by kernel_rfl) (by kernel_rfl) (by kernel_rfl) allP0 ?_
              refine seqQ_norm ?_
              obtain rfl := Option.some.inj h
              refine W_ret [6] [] (fr' := [(6, aI (0 : Int))]) (L' := []) (by kernel_rfl) (by kernel_rfl) ?_
              exact retQ_mk (by kernel_rfl) (by kernel_rfl) (by kernel_rfl)

def ref_Bit (a0 : Int) (a1 : Int) : Option Bool :=
bif (decide (a1 ≥ (0 : Int))) && (decide (a1 < (63 : Int))) then
((ck (0 ≤ IntKind.wrap .u64 (a1))).bind fun _ =>
some ((bAnd .i64 a0 (bShl .i64 (1 : Int) (IntKind.wrap .u64 (a1)))) != (0 : Int)))
else
(some false)
theorem ref_Bit_ok {a0 : Int} {a1 : Int} {r : Bool} (h : ref_Bit a0 a1 = some r) : FnC Try.prog 27 [aI a0, aI a1] [] (aB r) [] := by
  refine fnC_of_W (B := bodyOf Try.f27) (n := 19) Try.func27 (by kernel_rfl) (by kernel_rfl) (by kernel_rfl) (by kernel_rfl) (by kernel_rfl) ?_
  intro K
  refine W_seq (by kernel_rfl) ?_
  refine W_run 1 [] [0, 1] [] (fr' := [(0, aI a0), (1, aI a1)]) (L' := []) (obs := []) (by kernel_rfl) (by kernel_rfl) (by kernel_rfl) allP0 ?_
  refine seqQ_norm ?_
  refine W_seq (by kernel_rfl) ?_
  refine W_region (by kernel_rfl) ?_
  refine WO_run (j := 7) (k := 7) (orcs := []) (kF := [0, 1, 11]) (kL := []) (fr' := [(0, aI a0), (1, aI a1), (11, aB ((decide (a1 ≥ (0 : Int))) && (decide (a1 < (63 : Int)))))]) (L' := []) (obs := []) rfl (by kernel_rfl) allP0 ?_
  rcases Bool.eq_false_or_eq_true ((decide (a1 ≥ (0 : Int))) && (decide (a1 < (63 : Int)))) with h1 | h1
  · replace h := ofT h1 h
    obtain ⟨_, h2, h⟩ := bind_of h
    replace h2 := ck_some h2
    refine WO_run (j := 15) (k := 8) (orcs := [(14, .known true), (16, .known true), (18, .known true), (20, .known true), (22, .known true), (24, .known true), (27, .val (.dat .bool true))]) (kF := [4]) (kL := []) (fr' := [(4, aB ((bAnd .i64 a0 (bShl .i64 (1 : Int) (IntKind.wrap .u64 (a1)))) != (0 : Int)))]) (L' := []) (obs := [(((decide (a1 ≥ (0 : Int))) && (decide (a1 < (63 : Int)))) = true), (((decide (a1 ≥ (0 : Int))) && (decide (a1 < (63 : Int)))) = true), (((decide (a1 ≥ (0 : Int))) && (decide (a1 < (63 : Int)))) = true), (((decide (a1 ≥ (0 : Int))) && (decide (a1 < (63 : Int)))) = true), (0 ≤ IntKind.wrap .u64 (a1)), (((decide (a1 ≥ (0 : Int))) && (decide (a1 < (63 : Int)))) = true), (((decide (a1 ≥ (0 : Int))) && (decide (a1 < (63 : Int)))) = true), (((decide (a1 ≥ (0 : Int))) && (decide (a1 < (63 : Int)))) = true)]) rfl (by kernel_rfl) (allP2 h1 (allP2 h1 (allP2 h1 (allP2 h1 (allP2 h2 (allP2 h1 (allP2 h1 (allP1 h1)))))))) ?_
    refine WO_fin [4] [] (fr' := [(4, aB ((bAnd .i64 a0 (bShl .i64 (1 : Int) (IntKind.wrap .u64 (a1)))) != (0 : Int)))]) (L' := []) (by kernel_rfl) (by kernel_rfl) ?_
    refine seqQ_norm ?_
    obtain rfl := Option.some.inj h
    refine W_ret [4] [] (fr' := [(4, aB ((bAnd .i64 a0 (bShl .i64 (1 : Int) (IntKind.wrap .u64 (a1)))) != (0 : Int)))]) (L' := []) (by kernel_rfl) (by kernel_rfl) ?_
    exact retQ_mk (by kernel_rfl) (by kernel_rfl) (by kernel_rfl)
  · replace h := ofF h1 h
    refine WO_run (j := 15) (k := 8) (orcs := [(14, .known false), (16, .known false), (18, .known false), (20, .known false), (22, .known false), (24, .known false), (27, .val (.dat .bool false))]) (kF := [4]) (kL := []) (fr' := [(4, aB false)]) (L' := []) (obs := [(((decide (a1 ≥ (0 : Int))) && (decide (a1 < (63 : Int)))) = false), (((decide (a1 ≥ (0 : Int))) && (decide (a1 < (63 : Int)))) = false), (((decide (a1 ≥ (0 : Int))) && (decide (a1 < (63 : Int)))) = false), (((decide (a1 ≥ (0 : Int))) && (decide (a1 < (63 : Int)))) = false), (((decide (a1 ≥ (0 : Int))) && (decide (a1 < (63 : Int)))) = false), (((decide (a1 ≥ (0 : Int))) && (decide (a1 < (63 : Int)))) = false), (((decide (a1 ≥ (0 : Int))) && (decide (a1 < (63 : Int)))) = false)]) rfl (by kernel_rfl) (allP2 h1 (allP2 h1 (allP2 h1 (allP2 h1 (allP2 h1 (allP2 h1 (allP1 h1))))))) ?_
    refine WO_fin [4] [] (fr' := [(4, aB false)]) (L' := []) (by kernel_rfl) (by kernel_rfl) ?_
    refine seqQ_norm ?_
    obtain rfl := Option.some.inj h
    refine W_ret [4] [] (fr' := [(4, aB false)]) (L' := []) (by kernel_rfl) (by kernel_rfl) ?_
    exact retQ_mk (by kernel_rfl) (by kernel_rfl) (by kernel_rfl)

@[reducible] def ref_Size_s3 (a0 : Int) (i27 : Int) (v : Int) : Fr × LL := ([(0, aI a0), (3, aI v), (4, aI i27)], [])
def ref_Size_b4 (a0 : Int) (i27 : Int) (x28 : Int) : Option (Flow Int Int) :=
((ref_Bit a0 i27).bind fun r37 =>
bif r37 then
(some (w64 (x28 + (1 : Int))))
else
(some x28)).bind fun v40 =>
some (.next v40)
@[reducible] def ref_Size_s5 (a0 : Int) (v : Int × Int) : Fr × LL := ([(0, aI a0), (3, aI v.2), (4, aI v.1)], [])
@[reducible] def ref_Size_s6 (v : Int) : Fr × LL := ([(3, aI v)], [])
def ref_Size (a0 : Int) : Option Int :=
(forI (0 : Int) (63 : Int) (ref_Size_b4 a0) (fun x28 => x28) (0 : Int)).bind fun v43 =>
some v43
theorem ref_Size_ok {a0 : Int} {r : Int} (h : ref_Size a0 = some r) : FnC Try.prog 33 [aI a0] [] (aI r) [] := by
  refine fnC_of_W (B := bodyOf Try.f33) (n := 15) Try.func33 (by kernel_rfl) (by kernel_rfl) (by kernel_rfl) (by kernel_rfl) (by kernel_rfl) ?_
  intro K
  refine W_seq (by kernel_rfl) ?_
  refine W_run 1 [] [0] [] (fr' := [(0, aI a0)]) (L' := []) (obs := []) (by kernel_rfl) (by kernel_rfl) (by kernel_rfl) allP0 ?_
  refine seqQ_norm ?_
  refine W_seq (by kernel_rfl) ?_
  refine W_run 1 [] [0, 3] [] (fr' := [(0, aI a0), (3, aI (0 : Int))]) (L' := []) (obs := []) (by kernel_rfl) (by kernel_rfl) (by kernel_rfl) allP0 ?_
  refine seqQ_norm ?_
  refine W_seq (by kernel_rfl) ?_
  refine W_seq (by kernel_rfl) ?_
  refine W_run 1 [] [0, 3, 4] [] (fr' := [(0, aI a0), (3, aI (0 : Int)), (4, aI (0 : Int))]) (L' := []) (obs := []) (by kernel_rfl) (by kernel_rfl) (by kernel_rfl) allP0 ?_
  refine seqQ_norm ?_
  refine W_block (id := 0) (by kernel_rfl) ?_
  obtain ⟨v43, h44, h⟩ := bind_of h
  obtain ⟨h45, h46⟩ := forI_iter h44
  refine W_weaken [0, 3, 4] [] (fr' := ((ref_Size_s5 a0) ((0 : Int), (0 : Int))).1) (L' := ((ref_Size_s5 a0) ((0 : Int), (0 : Int))).2) (by kernel_rfl) ?_
  refine W_cutK (W_loop (S := (ref_Size_s5 a0)) (J := (exQ (.exit 0) ref_Size_s6)) (by kernel_rfl) ?_ h45 _ v43 h46) ?_
  · rintro ⟨i27, x28⟩ s h
    refine W_seq (by kernel_rfl) ?_
    refine W_seq (by kernel_rfl) ?_
    refine W_run 2 [] [0, 3, 4, 6] [] (fr' := [(0, aI a0), (3, aI x28), (4, aI i27), (6, aB (decide (i27 < (63 : Int))))]) (L' := []) (obs := []) (by kernel_rfl) (by kernel_rfl) (by kernel_rfl) allP0 ?_
    refine seqQ_norm ?_
    refine W_cond (o := .tmp 6) (b := decide (i27 < (63 : Int))) (by kernel_rfl) (by kernel_rfl) (fun h30 => ?_) (fun h30 => ?_)
    · replace h := stepI_true h30 h
      obtain ⟨_, h, rfl⟩ := h
      refine W_skip [0, 3, 4] [] (fr' := [(0, aI a0), (3, aI x28), (4, aI i27)]) (L' := []) (by kernel_rfl) (by kernel_rfl) ?_
      refine seqQ_norm ?_
      refine W_seq (by kernel_rfl) ?_
      obtain ⟨v40, h41, h⟩ := bind_of h
      refine W_cutK (Q' := (exQ .normal (ref_Size_s3 a0 i27)) v40) ?_ ?_
      · replace h := h41
        refine W_block (id := 1) (by kernel_rfl) ?_
        refine W_seq (by kernel_rfl) ?_
        refine W_region (by kernel_rfl) ?_
        refine WO_run (j := 2) (k := 2) (orcs := []) (kF := [0, 3, 4, 9, 10]) (kL := []) (fr' := [(0, aI a0), (3, aI x28), (4, aI i27), (9, aI a0), (10, aI i27)]) (L' := []) (obs := []) rfl (by kernel_rfl) allP0 ?_
        obtain ⟨r37, h38, h⟩ := bind_of h
        refine WO_call0 (us := [none, none]) (d := 11) (p := True) (j := 3) rfl ⟨by kernel_rfl, by kernel_rfl, by kernel_rfl⟩ trivial (ref_Bit_ok h38) (by kernel_rfl) ?_
        refine WO_fin [0, 3, 4, 11] [] (fr' := [(0, aI a0), (3, aI x28), (4, aI i27), (11, aB r37)]) (L' := []) (by kernel_rfl) (by kernel_rfl) ?_
        refine seqQ_norm ?_
        refine W_cond (o := .tmp 11) (b := r37) (by kernel_rfl) (by kernel_rfl) (fun h39 => ?_) (fun h39 => ?_)
        · replace h := ofT h39 h
          obtain rfl := Option.some.inj h
          refine W_run 3 [] [0, 3, 4] [] (fr' := [(0, aI a0), (3, aI (w64 (x28 + (1 : Int)))), (4, aI i27)]) (L' := []) (obs := []) (by kernel_rfl) (by kernel_rfl) (by kernel_rfl) allP0 ?_
          refine blockQ_norm ?_
          exact exQ_mk (by kernel_rfl) (by kernel_rfl)
        · replace h := ofF h39 h
          obtain rfl := Option.some.inj h
          refine W_skip [0, 3, 4] [] (fr' := [(0, aI a0), (3, aI x28), (4, aI i27)]) (L' := []) (by kernel_rfl) (by kernel_rfl) ?_
          refine blockQ_norm ?_
          exact exQ_mk (by kernel_rfl) (by kernel_rfl)
      · intro e fr L hJ
        obtain ⟨rfl, rfl, rfl⟩ := hJ
        refine LT_keep [0, 3, 4] [] (fr' := [(0, aI a0), (3, aI v40), (4, aI i27)]) (L' := []) (by kernel_rfl) ?_
        refine seqQ_norm ?_
        obtain rfl := Option.some.inj h
        refine W_run 3 [] [0, 3, 4] [] (fr' := [(0, aI a0), (3, aI v40), (4, aI (w64 (i27 + (1 : Int))))]) (L' := []) (obs := []) (by kernel_rfl) (by kernel_rfl) (by kernel_rfl) allP0 ?_
        exact round_next' (by kernel_rfl) (by kernel_rfl)
    · obtain rfl := stepI_false h30 h
      refine W_exit (id := 0) [3] [] (fr' := [(3, aI x28)]) (L' := []) (by kernel_rfl) (by kernel_rfl) ?_
      refine seqQ_exit ?_
      refine round_exit ?_
      exact exQ_mk (by kernel_rfl) (by kernel_rfl)
  · intro e fr L hJ
    obtain ⟨rfl, rfl, rfl⟩ := hJ
    refine LT_keep [3] [] (fr' := [(3, aI v43)]) (L' := []) (by kernel_rfl) ?_
    refine blockQ_hit ?_
    refine seqQ_norm ?_
    refine W_seq (by kernel_rfl) ?_
    refine W_run 2 [] [2] [] (fr' := [(2, aI v43)]) (L' := []) (obs := []) (by kernel_rfl) (by kernel_rfl) (by kernel_rfl) allP0 ?_
    refine seqQ_norm ?_
    obtain rfl := Option.some.inj h
    refine W_ret [2] [] (fr' := [(2, aI v43)]) (L' := []) (by kernel_rfl) (by kernel_rfl) ?_
    exact retQ_mk (by kernel_rfl) (by kernel_rfl) (by kernel_rfl)

def ref_FreeSet_g5 (a1 : Int) (v72 : (List Int)) : Option Bool :=
(idx v72 (0 : Int)).bind fun v93 =>
(ref_Bit a1 v93).bind fun r95 =>
bif r95 then
((idx v72 (1 : Int)).bind fun v98 =>
(ref_Bit a1 v98).bind fun r100 =>
some r100)
else
(some false)
@[reducible] def ref_FreeSet_s6 (a0 : (List (List Int))) (a1 : Int) (i69 : Int) (v : Bool) : Fr × LL := ([(1, aI a1), (7, aD (.slice (.arr 2 tI)) a0), (8, aI (List.length a0 : Int)), (9, aI i69), (22, aB v)], [])
def ref_FreeSet_b7 (a1 : Int) (i69 : Int) (v72 : (List Int)) (x70 : Unit) : Option (Flow Unit (Esc Bool Unit)) :=
(ref_FreeSet_g5 a1 v72).bind fun v102 =>
bif v102 then
(some (.done (.ret false)))
else
(some (.next ()))
@[reducible] def ref_FreeSet_s8 (a0 : (List (List Int))) (a1 : Int) (v : Int × Unit) : Fr × LL := ([(1, aI a1), (7, aD (.slice (.arr 2 tI)) a0), (8, aI (List.length a0 : Int)), (9, aI v.1)], [])
@[reducible] def ref_FreeSet_s9 (v : Bool) : Fr × LL := ([(4, aB v)], [])
@[reducible] def ref_FreeSet_s10 (v : Unit) : Fr × LL := ([], [])
def ref_FreeSet (a0 : (List (List Int))) (a1 : Int) : Option Bool :=
(forL (ref_FreeSet_b7 a1) (fun x70 => (.brk ())) a0 0 ()).bind fun v106 =>
match v106 with
| .ret v111 =>
(some v111)
| .brk v112 =>
(some true)
theorem ref_FreeSet_ok {a0 : (List (List Int))} {a1 : Int} {r : Bool} (h : ref_FreeSet a0 a1 = some r) : FnC Try.prog 34 [aD (.slice (.arr 2 tI)) a0, aI a1] [] (aB r) [] := by
  refine fnC_of_W (B := bodyOf Try.f34) (n := 24) Try.func34 (by kernel_rfl) (by kernel_rfl) (by kernel_rfl) (by kernel_rfl) (by kernel_rfl) ?_
  intro K
  refine W_seq (by kernel_rfl) ?_
  refine W_run 1 [] [0, 1] [] (fr' := [(0, aD (.slice (.arr 2 tI)) a0), (1, aI a1)]) (L' := []) (obs := []) (by kernel_rfl) (by kernel_rfl) (by kernel_rfl) allP0 ?_
  refine seqQ_norm ?_
  refine W_seq (by kernel_rfl) ?_
  refine W_seq (by kernel_rfl) ?_
  refine W_run 3 [] [1, 7, 8, 9] [] (fr' := [(1, aI a1), (7, aD (.slice (.arr 2 tI)) a0), (8, aI (List.length a0 : Int)), (9, aI (0 : Int))]) (L' := []) (obs := []) (by kernel_rfl) (by kernel_rfl) (by kernel_rfl) allP0 ?_
  refine seqQ_norm ?_
  refine W_block (id := 0) (by kernel_rfl) ?_
  obtain ⟨v106, h107, h⟩ := bind_of h
  refine W_len (t := 7) (u := (.arr 2 tI)) (xs := a0) (by kernel_rfl) (fun h110 => ?_)
  obtain ⟨h108, h109⟩ := forL_iter h110 h107
  refine W_weaken [1, 7, 8, 9] [] (fr' := ((ref_FreeSet_s8 a0 a1) ((0 : Int), ())).1) (L' := ((ref_FreeSet_s8 a0 a1) ((0 : Int), ())).2) (by kernel_rfl) ?_
  refine W_cutK (W_loop (S := (ref_FreeSet_s8 a0 a1)) (J := (escQ (exQ .ret ref_FreeSet_s9) (exQ (.exit 0) ref_FreeSet_s10))) (by kernel_rfl) ?_ h108 _ v106 h109) ?_
  · rintro ⟨i69, x70⟩ s h
    refine W_seq (by kernel_rfl) ?_
    refine W_run 1 [] [1, 7, 8, 9, 10] [] (fr' := [(1, aI a1), (7, aD (.slice (.arr 2 tI)) a0), (8, aI (List.length a0 : Int)), (9, aI i69), (10, aB (decide (i69 < (List.length a0 : Int))))]) (L' := []) (obs := []) (by kernel_rfl) (by kernel_rfl) (by kernel_rfl) allP0 ?_
    refine seqQ_norm ?_
    refine W_seq (by kernel_rfl) ?_
    refine W_cond (o := .tmp 10) (b := decide (i69 < (List.length a0 : Int))) (by kernel_rfl) (by kernel_rfl) (fun h74 => ?_) (fun h74 => ?_)
    · replace h := stepL_true h74 h
      obtain ⟨v72, _, h73, h, rfl⟩ := h
      refine W_skip [1, 7, 8, 9] [] (fr' := [(1, aI a1), (7, aD (.slice (.arr 2 tI)) a0), (8, aI (List.length a0 : Int)), (9, aI i69)]) (L' := []) (by kernel_rfl) (by kernel_rfl) ?_
      refine seqQ_norm ?_
      refine W_seq (by kernel_rfl) ?_
      refine W_block (id := 1) (by kernel_rfl) ?_
      refine W_seq (by kernel_rfl) ?_
      refine W_run 4 [(1, .val (.dat (.arr 2 tI) v72)), (5, .typed)] [1, 6, 7, 8, 9] [6] (fr' := [(1, aI a1), (6, .one (.ptr 6 0)), (7, aD (.slice (.arr 2 tI)) a0), (8, aI (List.length a0 : Int)), (9, aI i69)]) (L' := [(6, .one (.arr 2 tI) v72)]) (obs := [Idx a0 i69 v72, True]) (by kernel_rfl) (by kernel_rfl) (by kernel_rfl) (allP2 (Idx.of h73) (allP1 trivial)) ?_
      refine seqQ_norm ?_
      refine W_seq (by kernel_rfl) ?_
      obtain ⟨v102, h103, h⟩ := bind_of h
      refine W_cutK (Q' := (exQ .normal (ref_FreeSet_s6 a0 a1 i69)) v102) ?_ ?_
      · replace h := h103
        obtain ⟨v93, h94, h⟩ := bind_of h
        refine W_region (by kernel_rfl) ?_
        refine WO_run (j := 3) (k := 3) (orcs := [(5, .val (.dat tI v93))]) (kF := [1, 6, 7, 8, 9, 13, 15]) (kL := [6]) (fr' := [(1, aI a1), (6, .one (.ptr 6 0)), (7, aD (.slice (.arr 2 tI)) a0), (8, aI (List.length a0 : Int)), (9, aI i69), (13, aI a1), (15, aI v93)]) (L' := [(6, .one (.arr 2 tI) v72)]) (obs := [InR (0 : Int) 2, Idx v72 (0 : Int) v93]) rfl (by kernel_rfl) (allP2 (by unfold InR; decide) (allP1 (Idx.of h94))) ?_
        obtain ⟨r95, h96, h⟩ := bind_of h
        refine WO_call0 (us := [none, none]) (d := 16) (p := True) (j := 4) rfl ⟨by kernel_rfl, by kernel_rfl, by kernel_rfl⟩ trivial (ref_Bit_ok h96) (by kernel_rfl) ?_
        refine WO_run (j := 5) (k := 1) (orcs := []) (kF := [1, 6, 7, 8, 9, 17]) (kL := [6]) (fr' := [(1, aI a1), (6, .one (.ptr 6 0)), (7, aD (.slice (.arr 2 tI)) a0), (8, aI (List.length a0 : Int)), (9, aI i69), (17, aB r95)]) (L' := [(6, .one (.arr 2 tI) v72)]) (obs := []) rfl (by kernel_rfl) allP0 ?_
        rcases Bool.eq_false_or_eq_true (r95) with h97 | h97
        · replace h := ofT h97 h
          obtain ⟨v98, h99, h⟩ := bind_of h
          refine WO_run (j := 8) (k := 3) (orcs := [(10, .known true), (12, .known true), (14, .known true), (15, .val (.dat tI v98))]) (kF := [1, 7, 8, 9, 17, 18, 20]) (kL := [6]) (fr' := [(1, aI a1), (7, aD (.slice (.arr 2 tI)) a0), (8, aI (List.length a0 : Int)), (9, aI i69), (17, aB r95), (18, aI a1), (20, aI v98)]) (L' := [(6, .one (.arr 2 tI) v72)]) (obs := [(r95 = true), (r95 = true), InR (1 : Int) 2, (r95 = true), Idx v72 (1 : Int) v98]) rfl (by kernel_rfl) (allP2 h97 (allP2 h97 (allP2 (by unfold InR; decide) (allP2 h97 (allP1 (Idx.of h99)))))) ?_
          obtain ⟨r100, h101, h⟩ := bind_of h
          refine WO_call0 (us := [none, none]) (d := 21) (p := (r95 = true)) (j := 9) rfl ⟨by kernel_rfl, by kernel_rfl, by kernel_rfl⟩ h97 (ref_Bit_ok h101) (by kernel_rfl) ?_
          refine WO_run (j := 10) (k := 1) (orcs := [(19, .val (.dat .bool true))]) (kF := [1, 7, 8, 9, 22]) (kL := [6]) (fr' := [(1, aI a1), (7, aD (.slice (.arr 2 tI)) a0), (8, aI (List.length a0 : Int)), (9, aI i69), (22, aB r100)]) (L' := [(6, .one (.arr 2 tI) v72)]) (obs := [(r95 = true)]) rfl (by kernel_rfl) (allP1 h97) ?_
          obtain rfl := Option.some.inj h
          refine WO_fin [1, 7, 8, 9, 22] [] (fr' := [(1, aI a1), (7, aD (.slice (.arr 2 tI)) a0), (8, aI (List.length a0 : Int)), (9, aI i69), (22, aB r100)]) (L' := []) (by kernel_rfl) (by kernel_rfl) ?_
          exact exQ_mk (by kernel_rfl) (by kernel_rfl)
        · replace h := ofF h97 h
          refine WO_run (j := 10) (k := 5) (orcs := [(10, .known false), (12, .known false), (14, .known false), (16, .known false), (19, .val (.dat .bool false))]) (kF := [1, 7, 8, 9, 22]) (kL := [6]) (fr' := [(1, aI a1), (7, aD (.slice (.arr 2 tI)) a0), (8, aI (List.length a0 : Int)), (9, aI i69), (22, aB false)]) (L' := [(6, .one (.arr 2 tI) v72)]) (obs := [(r95 = false), (r95 = false), (r95 = false), (r95 = false), (r95 = false)]) rfl (by kernel_rfl) (allP2 h97 (allP2 h97 (allP2 h97 (allP2 h97 (allP1 h97))))) ?_
          obtain rfl := Option.some.inj h
          refine WO_fin [1, 7, 8, 9, 22] [] (fr' := [(1, aI a1), (7, aD (.slice (.arr 2 tI)) a0), (8, aI (List.length a0 : Int)), (9, aI i69), (22, aB false)]) (L' := []) (by kernel_rfl) (by kernel_rfl) ?_
          exact exQ_mk (by kernel_rfl) (by kernel_rfl)
      · intro e fr L hJ
        obtain ⟨rfl, rfl, rfl⟩ := hJ
        refine LT_keep [1, 7, 8, 9, 22] [] (fr' := [(1, aI a1), (7, aD (.slice (.arr 2 tI)) a0), (8, aI (List.length a0 : Int)), (9, aI i69), (22, aB v102)]) (L' := []) (by kernel_rfl) ?_
        refine seqQ_norm ?_
        refine W_cond (o := .tmp 22) (b := v102) (by kernel_rfl) (by kernel_rfl) (fun h104 => ?_) (fun h104 => ?_)
        · replace h := ofT h104 h
          refine W_seq (by kernel_rfl) ?_
          refine W_run 1 [] [4] [] (fr' := [(4, aB false)]) (L' := []) (obs := []) (by kernel_rfl) (by kernel_rfl) (by kernel_rfl) allP0 ?_
          refine seqQ_norm ?_
          obtain rfl := Option.some.inj h
          refine W_ret [4] [] (fr' := [(4, aB false)]) (L' := []) (by kernel_rfl) (by kernel_rfl) ?_
          refine blockQ_ret ?_
          refine seqQ_ret ?_
          refine round_ret ?_
          refine escQ_ret ?_
          exact exQ_mk (by kernel_rfl) (by kernel_rfl)
        · replace h := ofF h104 h
          refine W_skip [1, 7, 8, 9] [] (fr' := [(1, aI a1), (7, aD (.slice (.arr 2 tI)) a0), (8, aI (List.length a0 : Int)), (9, aI i69)]) (L' := []) (by kernel_rfl) (by kernel_rfl) ?_
          refine blockQ_norm ?_
          refine seqQ_norm ?_
          obtain rfl := Option.some.inj h
          refine W_run 2 [] [1, 7, 8, 9] [] (fr' := [(1, aI a1), (7, aD (.slice (.arr 2 tI)) a0), (8, aI (List.length a0 : Int)), (9, aI (w64 (i69 + (1 : Int))))]) (L' := []) (obs := []) (by kernel_rfl) (by kernel_rfl) (by kernel_rfl) allP0 ?_
          exact round_next' (by kernel_rfl) (by kernel_rfl)
    · obtain rfl := stepL_false h74 h
      refine W_exit (id := 0) [] [] (fr' := []) (L' := []) (by kernel_rfl) (by kernel_rfl) ?_
      refine seqQ_exit ?_
      refine round_exit ?_
      refine escQ_brk ?_
      exact exQ_mk (by kernel_rfl) (by kernel_rfl)
  · intro e fr L hJ
    rcases v106 with v111 | v112
    · obtain ⟨rfl, rfl, rfl⟩ := hJ
      obtain rfl := Option.some.inj h
      refine LT_keep [4] [] (fr' := [(4, aB v111)]) (L' := []) (by kernel_rfl) ?_
      refine blockQ_ret ?_
      refine seqQ_ret ?_
      exact retQ_mk (by kernel_rfl) (by kernel_rfl) (by kernel_rfl)
    · obtain ⟨rfl, rfl, rfl⟩ := hJ
      refine LT_keep [] [] (fr' := []) (L' := []) (by kernel_rfl) ?_
      refine blockQ_hit ?_
      refine seqQ_norm ?_
      refine W_seq (by kernel_rfl) ?_
      refine W_run 1 [] [4] [] (fr' := [(4, aB true)]) (L' := []) (obs := []) (by kernel_rfl) (by kernel_rfl) (by kernel_rfl) allP0 ?_
      refine seqQ_norm ?_
      obtain rfl := Option.some.inj h
      refine W_ret [4] [] (fr' := [(4, aB true)]) (L' := []) (by kernel_rfl) (by kernel_rfl) ?_
      exact retQ_mk (by kernel_rfl) (by kernel_rfl) (by kernel_rfl)

@[reducible] def ref_ListOf_s3 (a0 : Int) (i30 : Int) (v : (List Int)) : Fr × LL := ([(0, aI a0), (3, .one (.slc 15)), (4, aI i30)], [(15, .seq tI v)])
def ref_ListOf_b4 (a0 : Int) (i30 : Int) (x31 : (List Int)) : Option (Flow (List Int) (List Int)) :=
((ref_Bit a0 i30).bind fun r42 =>
bif r42 then
((ck ((List.length x31 : Int) + 1 ≤ 4294967296)).bind fun _ =>
some (x31 ++ [i30]))
else
(some x31)).bind fun v46 =>
some (.next v46)
@[reducible] def ref_ListOf_s5 (a0 : Int) (v : Int × (List Int)) : Fr × LL := ([(0, aI a0), (3, .one (.slc 15)), (4, aI v.1)], [(15, .seq tI v.2)])
@[reducible] def ref_ListOf_s6 (v : (List Int)) : Fr × LL := ([(3, .one (.slc 15))], [(15, .seq tI v)])
def ref_ListOf (a0 : Int) : Option (List Int) :=
(forI (0 : Int) (63 : Int) (ref_ListOf_b4 a0) (fun x31 => x31) []).bind fun v49 =>
some v49
theorem ref_ListOf_ok {a0 : Int} {r : (List Int)} (h : ref_ListOf a0 = some r) : FnC Try.prog 29 [aI a0] [] (aD (.slice tI) r) [] := by
  refine fnC_of_W (B := bodyOf Try.f29) (n := 17) Try.func29 (by kernel_rfl) (by kernel_rfl) (by kernel_rfl) (by kernel_rfl) (by kernel_rfl) ?_
  intro K
  refine W_seq (by kernel_rfl) ?_
  refine W_run 1 [] [0] [] (fr' := [(0, aI a0)]) (L' := []) (obs := []) (by kernel_rfl) (by kernel_rfl) (by kernel_rfl) allP0 ?_
  refine seqQ_norm ?_
  refine W_seq (by kernel_rfl) ?_
  refine W_run 1 [] [0, 3] [] (fr' := [(0, aI a0), (3, .one (.nilS))]) (L' := []) (obs := []) (by kernel_rfl) (by kernel_rfl) (by kernel_rfl) allP0 ?_
  refine seqQ_norm ?_
  refine W_seq (by kernel_rfl) ?_
  refine W_seq (by kernel_rfl) ?_
  refine W_run 1 [] [0, 3, 4] [] (fr' := [(0, aI a0), (3, .one (.nilS)), (4, aI (0 : Int))]) (L' := []) (obs := []) (by kernel_rfl) (by kernel_rfl) (by kernel_rfl) allP0 ?_
  refine seqQ_norm ?_
  refine W_block (id := 0) (by kernel_rfl) ?_
  obtain ⟨v49, h50, h⟩ := bind_of h
  obtain ⟨h51, h52⟩ := forI_iter h50
  refine W_mine 3 15 tI (by kernel_rfl) ?_
  refine W_weaken [0, 3, 4] [15] (fr' := ((ref_ListOf_s5 a0) ((0 : Int), [])).1) (L' := ((ref_ListOf_s5 a0) ((0 : Int), [])).2) (by kernel_rfl) ?_
  refine W_cutK (W_loop (S := (ref_ListOf_s5 a0)) (J := (exQ (.exit 0) ref_ListOf_s6)) (by kernel_rfl) ?_ h51 _ v49 h52) ?_
  · rintro ⟨i30, x31⟩ s h
    refine W_seq (by kernel_rfl) ?_
    refine W_seq (by kernel_rfl) ?_
    refine W_run 2 [] [0, 3, 4, 6] [15] (fr' := [(0, aI a0), (3, .one (.slc 15)), (4, aI i30), (6, aB (decide (i30 < (63 : Int))))]) (L' := [(15, .seq tI x31)]) (obs := []) (by kernel_rfl) (by kernel_rfl) (by kernel_rfl) allP0 ?_
    refine seqQ_norm ?_
    refine W_cond (o := .tmp 6) (b := decide (i30 < (63 : Int))) (by kernel_rfl) (by kernel_rfl) (fun h33 => ?_) (fun h33 => ?_)
    · replace h := stepI_true h33 h
      obtain ⟨_, h, rfl⟩ := h
      refine W_skip [0, 3, 4] [15] (fr' := [(0, aI a0), (3, .one (.slc 15)), (4, aI i30)]) (L' := [(15, .seq tI x31)]) (by kernel_rfl) (by kernel_rfl) ?_
      refine seqQ_norm ?_
      refine W_seq (by kernel_rfl) ?_
      obtain ⟨v46, h47, h⟩ := bind_of h
      refine W_cutK (Q' := (exQ .normal (ref_ListOf_s3 a0 i30)) v46) ?_ ?_
      · replace h := h47
        refine W_block (id := 1) (by kernel_rfl) ?_
        refine W_seq (by kernel_rfl) ?_
        refine W_region (by kernel_rfl) ?_
        refine WO_run (j := 2) (k := 2) (orcs := []) (kF := [0, 3, 4, 9, 10]) (kL := [15]) (fr' := [(0, aI a0), (3, .one (.slc 15)), (4, aI i30), (9, aI a0), (10, aI i30)]) (L' := [(15, .seq tI x31)]) (obs := []) rfl (by kernel_rfl) allP0 ?_
        obtain ⟨r42, h43, h⟩ := bind_of h
        refine WO_call0 (us := [none, none]) (d := 11) (p := True) (j := 3) rfl ⟨by kernel_rfl, by kernel_rfl, by kernel_rfl⟩ trivial (ref_Bit_ok h43) (by kernel_rfl) ?_
        refine WO_fin [0, 3, 4, 11] [15] (fr' := [(0, aI a0), (3, .one (.slc 15)), (4, aI i30), (11, aB r42)]) (L' := [(15, .seq tI x31)]) (by kernel_rfl) (by kernel_rfl) ?_
        refine seqQ_norm ?_
        refine W_cond (o := .tmp 11) (b := r42) (by kernel_rfl) (by kernel_rfl) (fun h44 => ?_) (fun h44 => ?_)
        · replace h := ofT h44 h
          obtain ⟨_, h45, h⟩ := bind_of h
          replace h45 := ck_some h45
          obtain rfl := Option.some.inj h
          refine W_run 5 [] [0, 3, 4] [15] (fr' := [(0, aI a0), (3, .one (.slc 15)), (4, aI i30)]) (L' := [(15, .seq tI (x31 ++ [i30]))]) (obs := [SmallLen (List.length x31 + List.length [i30])]) (by kernel_rfl) (by kernel_rfl) (by kernel_rfl) (allP1 h45) ?_
          refine blockQ_norm ?_
          exact exQ_mk (by kernel_rfl) (by kernel_rfl)
        · replace h := ofF h44 h
          obtain rfl := Option.some.inj h
          refine W_skip [0, 3, 4] [15] (fr' := [(0, aI a0), (3, .one (.slc 15)), (4, aI i30)]) (L' := [(15, .seq tI x31)]) (by kernel_rfl) (by kernel_rfl) ?_
          refine blockQ_norm ?_
          exact exQ_mk (by kernel_rfl) (by kernel_rfl)
      · intro e fr L hJ
        obtain ⟨rfl, rfl, rfl⟩ := hJ
        refine LT_keep [0, 3, 4] [15] (fr' := [(0, aI a0), (3, .one (.slc 15)), (4, aI i30)]) (L' := [(15, .seq tI v46)]) (by kernel_rfl) ?_
        refine seqQ_norm ?_
        obtain rfl := Option.some.inj h
        refine W_run 3 [] [0, 3, 4] [15] (fr' := [(0, aI a0), (3, .one (.slc 15)), (4, aI (w64 (i30 + (1 : Int))))]) (L' := [(15, .seq tI v46)]) (obs := []) (by kernel_rfl) (by kernel_rfl) (by kernel_rfl) allP0 ?_
        exact round_next' (by kernel_rfl) (by kernel_rfl)
    · obtain rfl := stepI_false h33 h
      refine W_exit (id := 0) [3] [15] (fr' := [(3, .one (.slc 15))]) (L' := [(15, .seq tI x31)]) (by kernel_rfl) (by kernel_rfl) ?_
      refine seqQ_exit ?_
      refine round_exit ?_
      exact exQ_mk (by kernel_rfl) (by kernel_rfl)
  · intro e fr L hJ
    obtain ⟨rfl, rfl, rfl⟩ := hJ
    refine LT_keep [3] [15] (fr' := [(3, .one (.slc 15))]) (L' := [(15, .seq tI v49)]) (by kernel_rfl) ?_
    refine blockQ_hit ?_
    refine seqQ_norm ?_
    refine W_seq (by kernel_rfl) ?_
    refine W_run 2 [] [2] [15] (fr' := [(2, .one (.slc 15))]) (L' := [(15, .seq tI v49)]) (obs := []) (by kernel_rfl) (by kernel_rfl) (by kernel_rfl) allP0 ?_
    refine seqQ_norm ?_
    obtain rfl := Option.some.inj h
    refine W_frz 15 (by kernel_rfl) ?_
    refine W_ret [2] [] (fr' := [(2, aD (.slice tI) v49)]) (L' := []) (by kernel_rfl) (by kernel_rfl) ?_
    exact retQ_mk (by kernel_rfl) (by kernel_rfl) (by kernel_rfl)

def ref_Ahead_b1 (a0 : (List Int)) (a1 : (List Int)) (x8 : Int) : Option (Flow Int (Esc Bool Unit)) :=
bif (decide (x8 < (List.length a0 : Int))) && (decide (x8 < (List.length a1 : Int))) then
((idx a0 x8).bind fun v16 =>
(idx a1 x8).bind fun v18 =>
bif v16 != v18 then
(some (.done (.ret (decide (v16 < v18)))))
else
(some (.next (w64 (x8 + (1 : Int))))))
else
(some (.done (.brk ())))
@[reducible] def ref_Ahead_s2 (a0 : (List Int)) (a1 : (List Int)) (v : Int) : Fr × LL := ([(0, aD (.slice tI) a0), (1, aD (.slice tI) a1), (5, aI v)], [])
@[reducible] def ref_Ahead_s3 (v : Bool) : Fr × LL := ([(4, aB v)], [])
@[reducible] def ref_Ahead_s4 (a0 : (List Int)) (a1 : (List Int)) (v : Unit) : Fr × LL := ([(0, aD (.slice tI) a0), (1, aD (.slice tI) a1)], [])
def ref_Ahead (fuel : Nat) (a0 : (List Int)) (a1 : (List Int)) : Option Bool :=
(iter (ref_Ahead_b1 a0 a1) fuel (0 : Int)).bind fun v21 =>
match v21 with
| .ret v25 =>
(some v25)
| .brk v26 =>
(some (decide ((List.length a0 : Int) < (List.length a1 : Int))))
theorem ref_Ahead_ok {fuel : Nat} {a0 : (List Int)} {a1 : (List Int)} {r : Bool} (h : ref_Ahead fuel a0 a1 = some r) : FnC Try.prog 28 [aD (.slice tI) a0, aD (.slice tI) a1] [] (aB r) [] := by
  refine fnC_of_W (B := bodyOf Try.f28) (n := 41) Try.func28 (by kernel_rfl) (by kernel_rfl) (by kernel_rfl) (by kernel_rfl) (by kernel_rfl) ?_
  intro K
  refine W_seq (by kernel_rfl) ?_
  refine W_run 1 [] [0, 1] [] (fr' := [(0, aD (.slice tI) a0), (1, aD (.slice tI) a1)]) (L' := []) (obs := []) (by kernel_rfl) (by kernel_rfl) (by kernel_rfl) allP0 ?_
  refine seqQ_norm ?_
  refine W_seq (by kernel_rfl) ?_
  refine W_seq (by kernel_rfl) ?_
  refine W_run 1 [] [0, 1, 5] [] (fr' := [(0, aD (.slice tI) a0), (1, aD (.slice tI) a1), (5, aI (0 : Int))]) (L' := []) (obs := []) (by kernel_rfl) (by kernel_rfl) (by kernel_rfl) allP0 ?_
  refine seqQ_norm ?_
  refine W_block (id := 0) (by kernel_rfl) ?_
  obtain ⟨v21, h22, h⟩ := bind_of h
  refine W_weaken [0, 1, 5] [] (fr' := ((ref_Ahead_s2 a0 a1) (0 : Int)).1) (L' := ((ref_Ahead_s2 a0 a1) (0 : Int)).2) (by kernel_rfl) ?_
  refine W_cutK (W_loop (S := (ref_Ahead_s2 a0 a1)) (J := (escQ (exQ .ret ref_Ahead_s3) (exQ (.exit 0) (ref_Ahead_s4 a0 a1)))) (by kernel_rfl) ?_ fuel _ v21 h22) ?_
  · rintro x8 s h
    refine W_seq (by kernel_rfl) ?_
    refine W_seq (by kernel_rfl) ?_
    refine W_run 10 [] [0, 1, 5, 15] [] (fr' := [(0, aD (.slice tI) a0), (1, aD (.slice tI) a1), (5, aI x8), (15, aB ((decide (x8 < (List.length a0 : Int))) && (decide (x8 < (List.length a1 : Int)))))]) (L' := []) (obs := []) (by kernel_rfl) (by kernel_rfl) (by kernel_rfl) allP0 ?_
    refine seqQ_norm ?_
    refine W_cond (o := .tmp 15) (b := (decide (x8 < (List.length a0 : Int))) && (decide (x8 < (List.length a1 : Int)))) (by kernel_rfl) (by kernel_rfl) (fun h15 => ?_) (fun h15 => ?_)
    · replace h := ofT h15 h
      refine W_skip [0, 1, 5] [] (fr' := [(0, aD (.slice tI) a0), (1, aD (.slice tI) a1), (5, aI x8)]) (L' := []) (by kernel_rfl) (by kernel_rfl) ?_
      refine seqQ_norm ?_
      refine W_seq (by kernel_rfl) ?_
      refine W_block (id := 1) (by kernel_rfl) ?_
      refine W_seq (by kernel_rfl) ?_
      obtain ⟨v16, h17, h⟩ := bind_of h
      obtain ⟨v18, h19, h⟩ := bind_of h
      refine W_draw2 9 [(5, .val (.dat tI v16)), (13, .val (.dat tI v18))] [] [0, 1, 5, 26] [] (fr' := [(0, aD (.slice tI) a0), (1, aD (.slice tI) a1), (5, aI x8), (26, aB (v16 != v18))]) (L' := []) (out := [(18, aD (.slice tI) a0), (19, aI x8), (20, .one (.dptr tI v16)), (21, aI v16), (22, aD (.slice tI) a1), (23, aI x8), (24, .one (.dptr tI v18)), (25, aI v18), (26, aB (v16 != v18))]) (obs := [Idx a0 x8 v16, Idx a1 x8 v18]) (obs2 := []) (calls := []) (by kernel_rfl) (by kernel_rfl) (by kernel_rfl) (by kernel_rfl) (allP2 (Idx.of h17) (allP1 (Idx.of h19))) allC0 (by kernel_rfl) allP0 ?_
      refine seqQ_norm ?_
      refine W_cond (o := .tmp 26) (b := v16 != v18) (by kernel_rfl) (by kernel_rfl) (fun h20 => ?_) (fun h20 => ?_)
      · replace h := ofT h20 h
        refine W_seq (by kernel_rfl) ?_
        refine W_draw2 9 [(5, .val (.dat tI v16)), (13, .val (.dat tI v18))] [] [4] [] (fr' := [(4, aB (decide (v16 < v18)))]) (L' := []) (out := [(27, aD (.slice tI) a0), (28, aI x8), (29, .one (.dptr tI v16)), (30, aI v16), (31, aD (.slice tI) a1), (32, aI x8), (33, .one (.dptr tI v18)), (34, aI v18), (35, aB (decide (v16 < v18)))]) (obs := [Idx a0 x8 v16, Idx a1 x8 v18]) (obs2 := []) (calls := []) (by kernel_rfl) (by kernel_rfl) (by kernel_rfl) (by kernel_rfl) (allP2 (Idx.of h17) (allP1 (Idx.of h19))) allC0 (by kernel_rfl) allP0 ?_
        refine seqQ_norm ?_
        obtain rfl := Option.some.inj h
        refine W_ret [4] [] (fr' := [(4, aB (decide (v16 < v18)))]) (L' := []) (by kernel_rfl) (by kernel_rfl) ?_
        refine blockQ_ret ?_
        refine seqQ_ret ?_
        refine round_ret ?_
        refine escQ_ret ?_
        exact exQ_mk (by kernel_rfl) (by kernel_rfl)
      · replace h := ofF h20 h
        refine W_skip [0, 1, 5] [] (fr' := [(0, aD (.slice tI) a0), (1, aD (.slice tI) a1), (5, aI x8)]) (L' := []) (by kernel_rfl) (by kernel_rfl) ?_
        refine blockQ_norm ?_
        refine seqQ_norm ?_
        obtain rfl := Option.some.inj h
        refine W_run 3 [] [0, 1, 5] [] (fr' := [(0, aD (.slice tI) a0), (1, aD (.slice tI) a1), (5, aI (w64 (x8 + (1 : Int))))]) (L' := []) (obs := []) (by kernel_rfl) (by kernel_rfl) (by kernel_rfl) allP0 ?_
        exact round_next' (by kernel_rfl) (by kernel_rfl)
    · replace h := ofF h15 h
      obtain rfl := Option.some.inj h
      refine W_exit (id := 0) [0, 1] [] (fr' := [(0, aD (.slice tI) a0), (1, aD (.slice tI) a1)]) (L' := []) (by kernel_rfl) (by kernel_rfl) ?_
      refine seqQ_exit ?_
      refine round_exit ?_
      refine escQ_brk ?_
      exact exQ_mk (by kernel_rfl) (by kernel_rfl)
  · intro e fr L hJ
    rcases v21 with v25 | v26
    · obtain ⟨rfl, rfl, rfl⟩ := hJ
      obtain rfl := Option.some.inj h
      refine LT_keep [4] [] (fr' := [(4, aB v25)]) (L' := []) (by kernel_rfl) ?_
      refine blockQ_ret ?_
      refine seqQ_ret ?_
      exact retQ_mk (by kernel_rfl) (by kernel_rfl) (by kernel_rfl)
    · obtain ⟨rfl, rfl, rfl⟩ := hJ
      refine LT_keep [0, 1] [] (fr' := [(0, aD (.slice tI) a0), (1, aD (.slice tI) a1)]) (L' := []) (by kernel_rfl) ?_
      refine blockQ_hit ?_
      refine seqQ_norm ?_
      refine W_seq (by kernel_rfl) ?_
      refine W_run 6 [] [4] [] (fr' := [(4, aB (decide ((List.length a0 : Int) < (List.length a1 : Int))))]) (L' := []) (obs := []) (by kernel_rfl) (by kernel_rfl) (by kernel_rfl) allP0 ?_
      refine seqQ_norm ?_
      obtain rfl := Option.some.inj h
      refine W_ret [4] [] (fr' := [(4, aB (decide ((List.length a0 : Int) < (List.length a1 : Int))))]) (L' := []) (by kernel_rfl) (by kernel_rfl) ?_
      exact retQ_mk (by kernel_rfl) (by kernel_rfl) (by kernel_rfl)

def ref_Ints_b1 (a1 : (List Int)) (i16 : Int) (v19 : Int) (x17 : Unit) : Option (Flow Unit (Esc Bool Unit)) :=
(idx a1 i16).bind fun v22 =>
bif v19 != v22 then
(some (.done (.ret false)))
else
(some (.next ()))
@[reducible] def ref_Ints_s2 (a0 : (List Int)) (a1 : (List Int)) (v : Int × Unit) : Fr × LL := ([(0, aD (.slice tI) a0), (1, aD (.slice tI) a1), (5, aI v.1)], [])
@[reducible] def ref_Ints_s3 (v : Bool) : Fr × LL := ([(4, aB v)], [])
@[reducible] def ref_Ints_s4 (v : Unit) : Fr × LL := ([], [])
def ref_Ints (a0 : (List Int)) (a1 : (List Int)) : Option Bool :=
bif (List.length a0 : Int) != (List.length a1 : Int) then
(some false)
else
((forL (ref_Ints_b1 a1) (fun x17 => (.brk ())) a0 0 ()).bind fun v26 =>
match v26 with
| .ret v31 =>
(some v31)
| .brk v32 =>
(some true))
theorem ref_Ints_ok {a0 : (List Int)} {a1 : (List Int)} {r : Bool} (h : ref_Ints a0 a1 = some r) : FnC Try.prog 30 [aD (.slice tI) a0, aD (.slice tI) a1] [] (aB r) [] := by
  refine fnC_of_W (B := bodyOf Try.f30) (n := 26) Try.func30 (by kernel_rfl) (by kernel_rfl) (by kernel_rfl) (by kernel_rfl) (by kernel_rfl) ?_
  intro K
  refine W_seq (by kernel_rfl) ?_
  refine W_run 1 [] [0, 1] [] (fr' := [(0, aD (.slice tI) a0), (1, aD (.slice tI) a1)]) (L' := []) (obs := []) (by kernel_rfl) (by kernel_rfl) (by kernel_rfl) allP0 ?_
  refine seqQ_norm ?_
  refine W_seq (by kernel_rfl) ?_
  refine W_seq (by kernel_rfl) ?_
  refine W_run 5 [] [0, 1, 10] [] (fr' := [(0, aD (.slice tI) a0), (1, aD (.slice tI) a1), (10, aB ((List.length a0 : Int) != (List.length a1 : Int)))]) (L' := []) (obs := []) (by kernel_rfl) (by kernel_rfl) (by kernel_rfl) allP0 ?_
  refine seqQ_norm ?_
  refine W_cond (o := .tmp 10) (b := (List.length a0 : Int) != (List.length a1 : Int)) (by kernel_rfl) (by kernel_rfl) (fun h1 => ?_) (fun h1 => ?_)
  · replace h := ofT h1 h
    refine W_seq (by kernel_rfl) ?_
    refine W_run 1 [] [4] [] (fr' := [(4, aB false)]) (L' := []) (obs := []) (by kernel_rfl) (by kernel_rfl) (by kernel_rfl) allP0 ?_
    refine seqQ_norm ?_
    obtain rfl := Option.some.inj h
    refine W_ret [4] [] (fr' := [(4, aB false)]) (L' := []) (by kernel_rfl) (by kernel_rfl) ?_
    refine seqQ_ret ?_
    exact retQ_mk (by kernel_rfl) (by kernel_rfl) (by kernel_rfl)
  · replace h := ofF h1 h
    refine W_skip [0, 1] [] (fr' := [(0, aD (.slice tI) a0), (1, aD (.slice tI) a1)]) (L' := []) (by kernel_rfl) (by kernel_rfl) ?_
    refine seqQ_norm ?_
    refine W_seq (by kernel_rfl) ?_
    refine W_seq (by kernel_rfl) ?_
    refine W_run 1 [] [0, 1, 5] [] (fr' := [(0, aD (.slice tI) a0), (1, aD (.slice tI) a1), (5, aI (0 : Int))]) (L' := []) (obs := []) (by kernel_rfl) (by kernel_rfl) (by kernel_rfl) allP0 ?_
    refine seqQ_norm ?_
    refine W_block (id := 0) (by kernel_rfl) ?_
    obtain ⟨v26, h27, h⟩ := bind_of h
    refine W_len (t := 0) (u := tI) (xs := a0) (by kernel_rfl) (fun h30 => ?_)
    obtain ⟨h28, h29⟩ := forL_iter h30 h27
    refine W_weaken [0, 1, 5] [] (fr' := ((ref_Ints_s2 a0 a1) ((0 : Int), ())).1) (L' := ((ref_Ints_s2 a0 a1) ((0 : Int), ())).2) (by kernel_rfl) ?_
    refine W_cutK (W_loop (S := (ref_Ints_s2 a0 a1)) (J := (escQ (exQ .ret ref_Ints_s3) (exQ (.exit 0) ref_Ints_s4))) (by kernel_rfl) ?_ h28 _ v26 h29) ?_
    · rintro ⟨i16, x17⟩ s h
      refine W_seq (by kernel_rfl) ?_
      refine W_seq (by kernel_rfl) ?_
      refine W_run 4 [] [0, 1, 5, 14] [] (fr' := [(0, aD (.slice tI) a0), (1, aD (.slice tI) a1), (5, aI i16), (14, aB (decide (i16 < (List.length a0 : Int))))]) (L' := []) (obs := []) (by kernel_rfl) (by kernel_rfl) (by kernel_rfl) allP0 ?_
      refine seqQ_norm ?_
      refine W_cond (o := .tmp 14) (b := decide (i16 < (List.length a0 : Int))) (by kernel_rfl) (by kernel_rfl) (fun h21 => ?_) (fun h21 => ?_)
      · replace h := stepL_true h21 h
        obtain ⟨v19, _, h20, h, rfl⟩ := h
        refine W_skip [0, 1, 5] [] (fr' := [(0, aD (.slice tI) a0), (1, aD (.slice tI) a1), (5, aI i16)]) (L' := []) (by kernel_rfl) (by kernel_rfl) ?_
        refine seqQ_norm ?_
        refine W_seq (by kernel_rfl) ?_
        refine W_block (id := 1) (by kernel_rfl) ?_
        refine W_seq (by kernel_rfl) ?_
        obtain ⟨v22, h23, h⟩ := bind_of h
        refine W_draw2 9 [(5, .val (.dat tI v19)), (13, .val (.dat tI v22))] [] [0, 1, 5, 25] [] (fr' := [(0, aD (.slice tI) a0), (1, aD (.slice tI) a1), (5, aI i16), (25, aB (v19 != v22))]) (L' := []) (out := [(17, aD (.slice tI) a0), (18, aI i16), (19, .one (.dptr tI v19)), (20, aI v19), (21, aD (.slice tI) a1), (22, aI i16), (23, .one (.dptr tI v22)), (24, aI v22), (25, aB (v19 != v22))]) (obs := [Idx a0 i16 v19, Idx a1 i16 v22]) (obs2 := []) (calls := []) (by kernel_rfl) (by kernel_rfl) (by kernel_rfl) (by kernel_rfl) (allP2 (Idx.of h20) (allP1 (Idx.of h23))) allC0 (by kernel_rfl) allP0 ?_
        refine seqQ_norm ?_
        refine W_cond (o := .tmp 25) (b := v19 != v22) (by kernel_rfl) (by kernel_rfl) (fun h24 => ?_) (fun h24 => ?_)
        · replace h := ofT h24 h
          refine W_seq (by kernel_rfl) ?_
          refine W_run 1 [] [4] [] (fr' := [(4, aB false)]) (L' := []) (obs := []) (by kernel_rfl) (by kernel_rfl) (by kernel_rfl) allP0 ?_
          refine seqQ_norm ?_
          obtain rfl := Option.some.inj h
          refine W_ret [4] [] (fr' := [(4, aB false)]) (L' := []) (by kernel_rfl) (by kernel_rfl) ?_
          refine blockQ_ret ?_
          refine seqQ_ret ?_
          refine round_ret ?_
          refine escQ_ret ?_
          exact exQ_mk (by kernel_rfl) (by kernel_rfl)
        · replace h := ofF h24 h
          refine W_skip [0, 1, 5] [] (fr' := [(0, aD (.slice tI) a0), (1, aD (.slice tI) a1), (5, aI i16)]) (L' := []) (by kernel_rfl) (by kernel_rfl) ?_
          refine blockQ_norm ?_
          refine seqQ_norm ?_
          obtain rfl := Option.some.inj h
          refine W_run 3 [] [0, 1, 5] [] (fr' := [(0, aD (.slice tI) a0), (1, aD (.slice tI) a1), (5, aI (w64 (i16 + (1 : Int))))]) (L' := []) (obs := []) (by kernel_rfl) (by kernel_rfl) (by kernel_rfl) allP0 ?_
          exact round_next' (by kernel_rfl) (by kernel_rfl)
      · obtain rfl := stepL_false h21 h
        refine W_exit (id := 0) [] [] (fr' := []) (L' := []) (by kernel_rfl) (by kernel_rfl) ?_
        refine seqQ_exit ?_
        refine round_exit ?_
        refine escQ_brk ?_
        exact exQ_mk (by kernel_rfl) (by kernel_rfl)
    · intro e fr L hJ
      rcases v26 with v31 | v32
      · obtain ⟨rfl, rfl, rfl⟩ := hJ
        obtain rfl := Option.some.inj h
        refine LT_keep [4] [] (fr' := [(4, aB v31)]) (L' := []) (by kernel_rfl) ?_
        refine blockQ_ret ?_
        refine seqQ_ret ?_
        exact retQ_mk (by kernel_rfl) (by kernel_rfl) (by kernel_rfl)
      · obtain ⟨rfl, rfl, rfl⟩ := hJ
        refine LT_keep [] [] (fr' := []) (L' := []) (by kernel_rfl) ?_
        refine blockQ_hit ?_
        refine seqQ_norm ?_
        refine W_seq (by kernel_rfl) ?_
        refine W_run 1 [] [4] [] (fr' := [(4, aB true)]) (L' := []) (obs := []) (by kernel_rfl) (by kernel_rfl) (by kernel_rfl) allP0 ?_
        refine seqQ_norm ?_
        obtain rfl := Option.some.inj h
        refine W_ret [4] [] (fr' := [(4, aB true)]) (L' := []) (by kernel_rfl) (by kernel_rfl) ?_
        exact retQ_mk (by kernel_rfl) (by kernel_rfl) (by kernel_rfl)

def law_HardFrees_g19 (a1 : (List (List Int))) (a2 : Int) (fuel : Nat) (x80 : ((List Int) × Bool × Int)) : Option Bool :=
(ref_Size x80.2.2).bind fun r299 =>
bif r299 == a2 then
((ref_FreeSet a1 x80.2.2).bind fun r302 =>
bif r302 then
(bif !x80.2.1 then
(some true)
else
((ref_ListOf x80.2.2).bind fun r306 =>
(ref_Ahead fuel r306 x80.1).bind fun r308 =>
some r308))
else
(some false))
else
(some false)
@[reducible] def law_HardFrees_s20 (a0 : Int) (a1 : (List (List Int))) (a2 : Int) (r1 : ((List Int) × Int)) (x80 : ((List Int) × Bool × Int)) (v : Bool) : Fr × LL := ([(0, aI a0), (1, aD (.slice (.arr 2 tI)) a1), (2, aI a2), (7, aD (.slice tI) r1.1), (8, aI r1.2), (10, aD (.slice tI) x80.1), (11, aB x80.2.1), (12, aI x80.2.2), (59, aB v)], [])
@[reducible] def law_HardFrees_s21 (a0 : Int) (a1 : (List (List Int))) (a2 : Int) (r1 : ((List Int) × Int)) (x80 : ((List Int) × Bool × Int)) (v : ((List Int) × Bool)) : Fr × LL := ([(0, aI a0), (1, aD (.slice (.arr 2 tI)) a1), (2, aI a2), (7, aD (.slice tI) r1.1), (8, aI r1.2), (10, aD (.slice tI) v.1), (11, aB v.2), (12, aI x80.2.2)], [])
def law_HardFrees_b22 (a0 : Int) (a1 : (List (List Int))) (a2 : Int) (fuel : Nat) (x80 : ((List Int) × Bool × Int)) : Option (Flow ((List Int) × Bool × Int) ((List Int) × Bool)) :=
(ck (0 ≤ IntKind.wrap .u64 (a0))).bind fun _ =>
bif decide (x80.2.2 < (bShl .i64 (1 : Int) (IntKind.wrap .u64 (a0)))) then
(((law_HardFrees_g19 a1 a2 fuel x80).bind fun v310 =>
bif v310 then
((ref_ListOf x80.2.2).bind fun r313 =>
some (r313, true))
else
(some (x80.1, x80.2.1))).bind fun v315 =>
some (.next (v315.1, v315.2, w64 (x80.2.2 + (1 : Int)))))
else
(some (.done (x80.1, x80.2.1)))
@[reducible] def law_HardFrees_s23 (a0 : Int) (a1 : (List (List Int))) (a2 : Int) (r1 : ((List Int) × Int)) (v : ((List Int) × Bool × Int)) : Fr × LL := ([(0, aI a0), (1, aD (.slice (.arr 2 tI)) a1), (2, aI a2), (7, aD (.slice tI) r1.1), (8, aI r1.2), (10, aD (.slice tI) v.1), (11, aB v.2.1), (12, aI v.2.2)], [])
@[reducible] def law_HardFrees_s24 (r1 : ((List Int) × Int)) (v : ((List Int) × Bool)) : Fr × LL := ([(7, aD (.slice tI) r1.1), (8, aI r1.2), (10, aD (.slice tI) v.1), (11, aB v.2)], [])
@[reducible] def law_HardFrees_s25 (v : Bool) : Fr × LL := ([(6, aB v)], [])
def law_HardFrees (fuel : Nat) (a0 : Int) (a1 : (List (List Int))) (a2 : Int) : Option Bool :=
(hard_Free fuel a0 a1 a2).bind fun r1 =>
(ref_DotsCheck a0 a1 a2).bind fun r3 =>
bif r3 != (0 : Int) then
(some ((r1.2 == r3) && ((List.length r1.1 : Int) == (0 : Int))))
else
((iter (law_HardFrees_b22 a0 a1 a2 fuel) fuel ([], false, (0 : Int))).bind fun v317 =>
bif !v317.2 then
(some ((r1.2 == (5 : Int)) && ((List.length r1.1 : Int) == (0 : Int))))
else
((bif r1.2 == (0 : Int) then
((ref_Ints r1.1 v317.1).bind fun r329 =>
some r329)
else
(some false)).bind fun v331 =>
some v331))
theorem law_HardFrees_ok {fuel : Nat} {a0 : Int} {a1 : (List (List Int))} {a2 : Int} {r : Bool} (h : law_HardFrees fuel a0 a1 a2 = some r) : FnC Try.prog 8 [aI a0, aD (.slice (.arr 2 tI)) a1, aI a2] [] (aB r) [] := by
  refine fnC_of_W (B := bodyOf Try.f8) (n := 78) Try.func8 (by kernel_rfl) (by kernel_rfl) (by kernel_rfl) (by kernel_rfl) (by kernel_rfl) ?_
  intro K
  refine W_seq (by kernel_rfl) ?_
  refine W_run 1 [] [0, 1, 2] [] (fr' := [(0, aI a0), (1, aD (.slice (.arr 2 tI)) a1), (2, aI a2)]) (L' := []) (obs := []) (by kernel_rfl) (by kernel_rfl) (by kernel_rfl) allP0 ?_
  refine seqQ_norm ?_
  refine W_seq (by kernel_rfl) ?_
  refine W_region (by kernel_rfl) ?_
  refine WO_run (j := 3) (k := 3) (orcs := []) (kF := [0, 1, 2, 14, 15, 16]) (kL := []) (fr' := [(0, aI a0), (1, aD (.slice (.arr 2 tI)) a1), (2, aI a2), (14, aI a0), (15, aD (.slice (.arr 2 tI)) a1), (16, aI a2)]) (L' := []) (obs := []) rfl (by kernel_rfl) allP0 ?_
  obtain ⟨r1, h2, h⟩ := bind_of h
  refine WO_call0 (us := [none, none, none]) (d := 17) (p := True) (j := 4) rfl ⟨by kernel_rfl, by kernel_rfl, by kernel_rfl⟩ trivial (hard_Free_ok h2) (by kernel_rfl) ?_
  refine WO_run (j := 9) (k := 5) (orcs := []) (kF := [0, 1, 2, 7, 8]) (kL := []) (fr' := [(0, aI a0), (1, aD (.slice (.arr 2 tI)) a1), (2, aI a2), (7, aD (.slice tI) r1.1), (8, aI r1.2)]) (L' := []) (obs := []) rfl (by kernel_rfl) allP0 ?_
  refine WO_fin [0, 1, 2, 7, 8] [] (fr' := [(0, aI a0), (1, aD (.slice (.arr 2 tI)) a1), (2, aI a2), (7, aD (.slice tI) r1.1), (8, aI r1.2)]) (L' := []) (by kernel_rfl) (by kernel_rfl) ?_
  refine seqQ_norm ?_
  refine W_seq (by kernel_rfl) ?_
  refine W_region (by kernel_rfl) ?_
  refine WO_run (j := 3) (k := 3) (orcs := []) (kF := [0, 1, 2, 7, 8, 20, 21, 22]) (kL := []) (fr' := [(0, aI a0), (1, aD (.slice (.arr 2 tI)) a1), (2, aI a2), (7, aD (.slice tI) r1.1), (8, aI r1.2), (20, aI a0), (21, aD (.slice (.arr 2 tI)) a1), (22, aI a2)]) (L' := []) (obs := []) rfl (by kernel_rfl) allP0 ?_
  obtain ⟨r3, h4, h⟩ := bind_of h
  refine WO_call0 (us := [none, none, none]) (d := 23) (p := True) (j := 4) rfl ⟨by kernel_rfl, by kernel_rfl, by kernel_rfl⟩ trivial (ref_DotsCheck_ok h4) (by kernel_rfl) ?_
  refine WO_run (j := 5) (k := 1) (orcs := []) (kF := [0, 1, 2, 7, 8, 9]) (kL := []) (fr' := [(0, aI a0), (1, aD (.slice (.arr 2 tI)) a1), (2, aI a2), (7, aD (.slice tI) r1.1), (8, aI r1.2), (9, aI r3)]) (L' := []) (obs := []) rfl (by kernel_rfl) allP0 ?_
  refine WO_fin [0, 1, 2, 7, 8, 9] [] (fr' := [(0, aI a0), (1, aD (.slice (.arr 2 tI)) a1), (2, aI a2), (7, aD (.slice tI) r1.1), (8, aI r1.2), (9, aI r3)]) (L' := []) (by kernel_rfl) (by kernel_rfl) ?_
  refine seqQ_norm ?_
  refine W_seq (by kernel_rfl) ?_
  refine W_seq (by kernel_rfl) ?_
  refine W_run 2 [] [0, 1, 2, 7, 8, 9, 25] [] (fr' := [(0, aI a0), (1, aD (.slice (.arr 2 tI)) a1), (2, aI a2), (7, aD (.slice tI) r1.1), (8, aI r1.2), (9, aI r3), (25, aB (r3 != (0 : Int)))]) (L' := []) (obs := []) (by kernel_rfl) (by kernel_rfl) (by kernel_rfl) allP0 ?_
  refine seqQ_norm ?_
  refine W_cond (o := .tmp 25) (b := r3 != (0 : Int)) (by kernel_rfl) (by kernel_rfl) (fun h5 => ?_) (fun h5 => ?_)
  · replace h := ofT h5 h
    refine W_seq (by kernel_rfl) ?_
    refine W_run 9 [] [6] [] (fr' := [(6, aB ((r1.2 == r3) && ((List.length r1.1 : Int) == (0 : Int))))]) (L' := []) (obs := []) (by kernel_rfl) (by kernel_rfl) (by kernel_rfl) allP0 ?_
    refine seqQ_norm ?_
    obtain rfl := Option.some.inj h
    refine W_ret [6] [] (fr' := [(6, aB ((r1.2 == r3) && ((List.length r1.1 : Int) == (0 : Int))))]) (L' := []) (by kernel_rfl) (by kernel_rfl) ?_
    refine seqQ_ret ?_
    exact retQ_mk (by kernel_rfl) (by kernel_rfl) (by kernel_rfl)
  · replace h := ofF h5 h
    refine W_skip [0, 1, 2, 7, 8] [] (fr' := [(0, aI a0), (1, aD (.slice (.arr 2 tI)) a1), (2, aI a2), (7, aD (.slice tI) r1.1), (8, aI r1.2)]) (L' := []) (by kernel_rfl) (by kernel_rfl) ?_
    refine seqQ_norm ?_
    refine W_seq (by kernel_rfl) ?_
    refine W_run 1 [] [0, 1, 2, 7, 8, 10] [] (fr' := [(0, aI a0), (1, aD (.slice (.arr 2 tI)) a1), (2, aI a2), (7, aD (.slice tI) r1.1), (8, aI r1.2), (10, .one (.nilS))]) (L' := []) (obs := []) (by kernel_rfl) (by kernel_rfl) (by kernel_rfl) allP0 ?_
    refine seqQ_norm ?_
    refine W_seq (by kernel_rfl) ?_
    refine W_run 1 [] [0, 1, 2, 7, 8, 10, 11] [] (fr' := [(0, aI a0), (1, aD (.slice (.arr 2 tI)) a1), (2, aI a2), (7, aD (.slice tI) r1.1), (8, aI r1.2), (10, .one (.nilS)), (11, aB false)]) (L' := []) (obs := []) (by kernel_rfl) (by kernel_rfl) (by kernel_rfl) allP0 ?_
    refine seqQ_norm ?_
    refine W_seq (by kernel_rfl) ?_
    refine W_seq (by kernel_rfl) ?_
    refine W_run 1 [] [0, 1, 2, 7, 8, 10, 11, 12] [] (fr' := [(0, aI a0), (1, aD (.slice (.arr 2 tI)) a1), (2, aI a2), (7, aD (.slice tI) r1.1), (8, aI r1.2), (10, .one (.nilS)), (11, aB false), (12, aI (0 : Int))]) (L' := []) (obs := []) (by kernel_rfl) (by kernel_rfl) (by kernel_rfl) allP0 ?_
    refine seqQ_norm ?_
    refine W_block (id := 0) (by kernel_rfl) ?_
    obtain ⟨v317, h318, h⟩ := bind_of h
    refine W_cnv 10 (.slice tI) (by kernel_rfl) ?_
    refine W_weaken [0, 1, 2, 7, 8, 10, 11, 12] [] (fr' := ((law_HardFrees_s23 a0 a1 a2 r1) ([], false, (0 : Int))).1) (L' := ((law_HardFrees_s23 a0 a1 a2 r1) ([], false, (0 : Int))).2) (by kernel_rfl) ?_
    refine W_cutK (W_loop (S := (law_HardFrees_s23 a0 a1 a2 r1)) (J := (exQ (.exit 0) (law_HardFrees_s24 r1))) (by kernel_rfl) ?_ fuel _ v317 h318) ?_
    · rintro x80 s h
      refine W_seq (by kernel_rfl) ?_
      refine W_seq (by kernel_rfl) ?_
      obtain ⟨_, h199, h⟩ := bind_of h
      replace h199 := ck_some h199
      refine W_run 5 [] [0, 1, 2, 7, 8, 10, 11, 12, 38] [] (fr' := [(0, aI a0), (1, aD (.slice (.arr 2 tI)) a1), (2, aI a2), (7, aD (.slice tI) r1.1), (8, aI r1.2), (10, aD (.slice tI) x80.1), (11, aB x80.2.1), (12, aI x80.2.2), (38, aB (decide (x80.2.2 < (bShl .i64 (1 : Int) (IntKind.wrap .u64 (a0))))))]) (L' := []) (obs := [(0 ≤ IntKind.wrap .u64 (a0))]) (by kernel_rfl) (by kernel_rfl) (by kernel_rfl) (allP1 h199) ?_
      refine seqQ_norm ?_
      refine W_cond (o := .tmp 38) (b := decide (x80.2.2 < (bShl .i64 (1 : Int) (IntKind.wrap .u64 (a0))))) (by kernel_rfl) (by kernel_rfl) (fun h200 => ?_) (fun h200 => ?_)
      · replace h := ofT h200 h
        refine W_skip [0, 1, 2, 7, 8, 10, 11, 12] [] (fr' := [(0, aI a0), (1, aD (.slice (.arr 2 tI)) a1), (2, aI a2), (7, aD (.slice tI) r1.1), (8, aI r1.2), (10, aD (.slice tI) x80.1), (11, aB x80.2.1), (12, aI x80.2.2)]) (L' := []) (by kernel_rfl) (by kernel_rfl) ?_
        refine seqQ_norm ?_
        refine W_seq (by kernel_rfl) ?_
        obtain ⟨v315, h316, h⟩ := bind_of h
        refine W_cutK (Q' := (exQ .normal (law_HardFrees_s21 a0 a1 a2 r1 x80)) v315) ?_ ?_
        · replace h := h316
          refine W_block (id := 1) (by kernel_rfl) ?_
          refine W_seq (by kernel_rfl) ?_
          obtain ⟨v310, h311, h⟩ := bind_of h
          refine W_cutK (Q' := (exQ .normal (law_HardFrees_s20 a0 a1 a2 r1 x80)) v310) ?_ ?_
          · replace h := h311
            refine W_region (by kernel_rfl) ?_
            refine WO_run (j := 1) (k := 1) (orcs := []) (kF := [0, 1, 2, 7, 8, 10, 11, 12, 41]) (kL := []) (fr' := [(0, aI a0), (1, aD (.slice (.arr 2 tI)) a1), (2, aI a2), (7, aD (.slice tI) r1.1), (8, aI r1.2), (10, aD (.slice tI) x80.1), (11, aB x80.2.1), (12, aI x80.2.2), (41, aI x80.2.2)]) (L' := []) (obs := []) rfl (by kernel_rfl) allP0 ?_
            obtain ⟨r299, h300, h⟩ := bind_of h
            refine WO_call0 (us := [none]) (d := 42) (p := True) (j := 2) rfl ⟨by kernel_rfl, by kernel_rfl, by kernel_rfl⟩ trivial (ref_Size_ok h300) (by kernel_rfl) ?_
            refine WO_run (j := 5) (k := 3) (orcs := []) (kF := [0, 1, 2, 7, 8, 10, 11, 12, 45]) (kL := []) (fr' := [(0, aI a0), (1, aD (.slice (.arr 2 tI)) a1), (2, aI a2), (7, aD (.slice tI) r1.1), (8, aI r1.2), (10, aD (.slice tI) x80.1), (11, aB x80.2.1), (12, aI x80.2.2), (45, aB (r299 == a2))]) (L' := []) (obs := []) rfl (by kernel_rfl) allP0 ?_
            rcases Bool.eq_false_or_eq_true (r299 == a2) with h301 | h301
            · replace h := ofT h301 h
              refine WO_run (j := 7) (k := 2) (orcs := [(10, .known true), (12, .known true)]) (kF := [0, 1, 2, 7, 8, 10, 11, 12, 45, 46, 47]) (kL := []) (fr' := [(0, aI a0), (1, aD (.slice (.arr 2 tI)) a1), (2, aI a2), (7, aD (.slice tI) r1.1), (8, aI r1.2), (10, aD (.slice tI) x80.1), (11, aB x80.2.1), (12, aI x80.2.2), (45, aB (r299 == a2)), (46, aD (.slice (.arr 2 tI)) a1), (47, aI x80.2.2)]) (L' := []) (obs := [((r299 == a2) = true), ((r299 == a2) = true)]) rfl (by kernel_rfl) (allP2 h301 (allP1 h301)) ?_
              obtain ⟨r302, h303, h⟩ := bind_of h
              refine WO_call0 (us := [none, none]) (d := 48) (p := ((r299 == a2) = true)) (j := 8) rfl ⟨by kernel_rfl, by kernel_rfl, by kernel_rfl⟩ h301 (ref_FreeSet_ok h303) (by kernel_rfl) ?_
              refine WO_run (j := 10) (k := 2) (orcs := [(17, .val (.dat .bool true))]) (kF := [0, 1, 2, 7, 8, 10, 11, 12, 50]) (kL := []) (fr' := [(0, aI a0), (1, aD (.slice (.arr 2 tI)) a1), (2, aI a2), (7, aD (.slice tI) r1.1), (8, aI r1.2), (10, aD (.slice tI) x80.1), (11, aB x80.2.1), (12, aI x80.2.2), (50, aB r302)]) (L' := []) (obs := [((r299 == a2) = true)]) rfl (by kernel_rfl) (allP1 h301) ?_
              rcases Bool.eq_false_or_eq_true (r302) with h304 | h304
              · replace h := ofT h304 h
                refine WO_run (j := 13) (k := 3) (orcs := [(20, .known true), (22, .known true), (24, .known true)]) (kF := [0, 1, 2, 7, 8, 10, 11, 12, 50, 53]) (kL := []) (fr' := [(0, aI a0), (1, aD (.slice (.arr 2 tI)) a1), (2, aI a2), (7, aD (.slice tI) r1.1), (8, aI r1.2), (10, aD (.slice tI) x80.1), (11, aB x80.2.1), (12, aI x80.2.2), (50, aB r302), (53, aB (!x80.2.1))]) (L' := []) (obs := [(r302 = true), (r302 = true), (r302 = true)]) rfl (by kernel_rfl) (allP2 h304 (allP2 h304 (allP1 h304))) ?_
                rcases Bool.eq_false_or_eq_true (!x80.2.1) with h305 | h305
                · replace h := ofT h305 h
                  refine WO_run (j := 19) (k := 6) (orcs := [(26, .known true), (28, .known true), (30, .known true), (32, .known true), (34, .known true), (35, .val (.dat .bool true)), (37, .val (.dat .bool true))]) (kF := [0, 1, 2, 7, 8, 10, 11, 12, 59]) (kL := []) (fr' := [(0, aI a0), (1, aD (.slice (.arr 2 tI)) a1), (2, aI a2), (7, aD (.slice tI) r1.1), (8, aI r1.2), (10, aD (.slice tI) x80.1), (11, aB x80.2.1), (12, aI x80.2.2), (59, aB true)]) (L' := []) (obs := [((!x80.2.1) = true), ((!x80.2.1) = true), ((!x80.2.1) = true), ((!x80.2.1) = true), (r302 = true), ((!x80.2.1) = true), (r302 = true)]) rfl (by kernel_rfl) (allP2 h305 (allP2 h305 (allP2 h305 (allP2 h305 (allP2 h304 (allP2 h305 (allP1 h304))))))) ?_
                  obtain rfl := Option.some.inj h
                  refine WO_fin [0, 1, 2, 7, 8, 10, 11, 12, 59] [] (fr' := [(0, aI a0), (1, aD (.slice (.arr 2 tI)) a1), (2, aI a2), (7, aD (.slice tI) r1.1), (8, aI r1.2), (10, aD (.slice tI) x80.1), (11, aB x80.2.1), (12, aI x80.2.2), (59, aB true)]) (L' := []) (by kernel_rfl) (by kernel_rfl) ?_
                  exact exQ_mk (by kernel_rfl) (by kernel_rfl)
                · replace h := ofF h305 h
                  refine WO_run (j := 14) (k := 1) (orcs := [(26, .known false)]) (kF := [0, 1, 2, 7, 8, 10, 11, 12, 50, 53, 54]) (kL := []) (fr' := [(0, aI a0), (1, aD (.slice (.arr 2 tI)) a1), (2, aI a2), (7, aD (.slice tI) r1.1), (8, aI r1.2), (10, aD (.slice tI) x80.1), (11, aB x80.2.1), (12, aI x80.2.2), (50, aB r302), (53, aB (!x80.2.1)), (54, aI x80.2.2)]) (L' := []) (obs := [((!x80.2.1) = false)]) rfl (by kernel_rfl) (allP1 h305) ?_
                  obtain ⟨r306, h307, h⟩ := bind_of h
                  refine WO_call0 (us := [none]) (d := 55) (p := ((!x80.2.1) = false)) (j := 15) rfl ⟨by kernel_rfl, by kernel_rfl, by kernel_rfl⟩ h305 (ref_ListOf_ok h307) (by kernel_rfl) ?_
                  refine WO_run (j := 16) (k := 1) (orcs := [(30, .known false)]) (kF := [0, 1, 2, 7, 8, 10, 11, 12, 50, 53, 55, 56]) (kL := []) (fr' := [(0, aI a0), (1, aD (.slice (.arr 2 tI)) a1), (2, aI a2), (7, aD (.slice tI) r1.1), (8, aI r1.2), (10, aD (.slice tI) x80.1), (11, aB x80.2.1), (12, aI x80.2.2), (50, aB r302), (53, aB (!x80.2.1)), (55, aD (.slice tI) r306), (56, aD (.slice tI) x80.1)]) (L' := []) (obs := [((!x80.2.1) = false)]) rfl (by kernel_rfl) (allP1 h305) ?_
                  obtain ⟨r308, h309, h⟩ := bind_of h
                  refine WO_call0 (us := [none, none]) (d := 57) (p := ((!x80.2.1) = false)) (j := 17) rfl ⟨by kernel_rfl, by kernel_rfl, by kernel_rfl⟩ h305 (ref_Ahead_ok h309) (by kernel_rfl) ?_
                  refine WO_run (j := 19) (k := 2) (orcs := [(34, .known true), (35, .val (.dat .bool false)), (37, .val (.dat .bool true))]) (kF := [0, 1, 2, 7, 8, 10, 11, 12, 59]) (kL := []) (fr' := [(0, aI a0), (1, aD (.slice (.arr 2 tI)) a1), (2, aI a2), (7, aD (.slice tI) r1.1), (8, aI r1.2), (10, aD (.slice tI) x80.1), (11, aB x80.2.1), (12, aI x80.2.2), (59, aB r308)]) (L' := []) (obs := [(r302 = true), ((!x80.2.1) = false), (r302 = true)]) rfl (by kernel_rfl) (allP2 h304 (allP2 h305 (allP1 h304))) ?_
                  obtain rfl := Option.some.inj h
                  refine WO_fin [0, 1, 2, 7, 8, 10, 11, 12, 59] [] (fr' := [(0, aI a0), (1, aD (.slice (.arr 2 tI)) a1), (2, aI a2), (7, aD (.slice tI) r1.1), (8, aI r1.2), (10, aD (.slice tI) x80.1), (11, aB x80.2.1), (12, aI x80.2.2), (59, aB r308)]) (L' := []) (by kernel_rfl) (by kernel_rfl) ?_
                  exact exQ_mk (by kernel_rfl) (by kernel_rfl)
              · replace h := ofF h304 h
                refine WO_run (j := 19) (k := 9) (orcs := [(20, .known false), (22, .known false), (24, .known false), (26, .known true), (28, .known true), (30, .known true), (32, .known true), (34, .known false), (37, .val (.dat .bool false))]) (kF := [0, 1, 2, 7, 8, 10, 11, 12, 59]) (kL := []) (fr' := [(0, aI a0), (1, aD (.slice (.arr 2 tI)) a1), (2, aI a2), (7, aD (.slice tI) r1.1), (8, aI r1.2), (10, aD (.slice tI) x80.1), (11, aB x80.2.1), (12, aI x80.2.2), (59, aB false)]) (L' := []) (obs := [(r302 = false), (r302 = false), (r302 = false), (r302 = false), (r302 = false)]) rfl (by kernel_rfl) (allP2 h304 (allP2 h304 (allP2 h304 (allP2 h304 (allP1 h304))))) ?_
                obtain rfl := Option.some.inj h
                refine WO_fin [0, 1, 2, 7, 8, 10, 11, 12, 59] [] (fr' := [(0, aI a0), (1, aD (.slice (.arr 2 tI)) a1), (2, aI a2), (7, aD (.slice tI) r1.1), (8, aI r1.2), (10, aD (.slice tI) x80.1), (11, aB x80.2.1), (12, aI x80.2.2), (59, aB false)]) (L' := []) (by kernel_rfl) (by kernel_rfl) ?_
                exact exQ_mk (by kernel_rfl) (by kernel_rfl)
            · replace h := ofF h301 h
              refine WO_run (j := 19) (k := 14) (orcs := [(10, .known false), (12, .known false), (14, .known false), (17, .val (.dat .bool false)), (20, .known false), (22, .known false), (24, .known false), (26, .known true), (28, .known true), (30, .known true), (32, .known true), (34, .known false), (37, .val (.dat .bool false))]) (kF := [0, 1, 2, 7, 8, 10, 11, 12, 59]) (kL := []) (fr' := [(0, aI a0), (1, aD (.slice (.arr 2 tI)) a1), (2, aI a2), (7, aD (.slice tI) r1.1), (8, aI r1.2), (10, aD (.slice tI) x80.1), (11, aB x80.2.1), (12, aI x80.2.2), (59, aB false)]) (L' := []) (obs := [((r299 == a2) = false), ((r299 == a2) = false), ((r299 == a2) = false), ((r299 == a2) = false), (false = false), (false = false), (false = false), (false = false), (false = false)]) rfl (by kernel_rfl) (allP2 h301 (allP2 h301 (allP2 h301 (allP2 h301 (allP2 rfl (allP2 rfl (allP2 rfl (allP2 rfl (allP1 rfl))))))))) ?_
              obtain rfl := Option.some.inj h
              refine WO_fin [0, 1, 2, 7, 8, 10, 11, 12, 59] [] (fr' := [(0, aI a0), (1, aD (.slice (.arr 2 tI)) a1), (2, aI a2), (7, aD (.slice tI) r1.1), (8, aI r1.2), (10, aD (.slice tI) x80.1), (11, aB x80.2.1), (12, aI x80.2.2), (59, aB false)]) (L' := []) (by kernel_rfl) (by kernel_rfl) ?_
              exact exQ_mk (by kernel_rfl) (by kernel_rfl)
          · intro e fr L hJ
            obtain ⟨rfl, rfl, rfl⟩ := hJ
            refine LT_keep [0, 1, 2, 7, 8, 10, 11, 12, 59] [] (fr' := [(0, aI a0), (1, aD (.slice (.arr 2 tI)) a1), (2, aI a2), (7, aD (.slice tI) r1.1), (8, aI r1.2), (10, aD (.slice tI) x80.1), (11, aB x80.2.1), (12, aI x80.2.2), (59, aB v310)]) (L' := []) (by kernel_rfl) ?_
            refine seqQ_norm ?_
            refine W_cond (o := .tmp 59) (b := v310) (by kernel_rfl) (by kernel_rfl) (fun h312 => ?_) (fun h312 => ?_)
            · replace h := ofT h312 h
              refine W_seq (by kernel_rfl) ?_
              refine W_region (by kernel_rfl) ?_
              refine WO_run (j := 1) (k := 1) (orcs := []) (kF := [0, 1, 2, 7, 8, 10, 12, 60]) (kL := []) (fr' := [(0, aI a0), (1, aD (.slice (.arr 2 tI)) a1), (2, aI a2), (7, aD (.slice tI) r1.1), (8, aI r1.2), (10, aD (.slice tI) x80.1), (12, aI x80.2.2), (60, aI x80.2.2)]) (L' := []) (obs := []) rfl (by kernel_rfl) allP0 ?_
              obtain ⟨r313, h314, h⟩ := bind_of h
              refine WO_call0 (us := [none]) (d := 61) (p := True) (j := 2) rfl ⟨by kernel_rfl, by kernel_rfl, by kernel_rfl⟩ trivial (ref_ListOf_ok h314) (by kernel_rfl) ?_
              refine WO_run (j := 3) (k := 1) (orcs := []) (kF := [0, 1, 2, 7, 8, 10, 12]) (kL := []) (fr' := [(0, aI a0), (1, aD (.slice (.arr 2 tI)) a1), (2, aI a2), (7, aD (.slice tI) r1.1), (8, aI r1.2), (10, aD (.slice tI) r313), (12, aI x80.2.2)]) (L' := []) (obs := []) rfl (by kernel_rfl) allP0 ?_
              refine WO_fin [0, 1, 2, 7, 8, 10, 12] [] (fr' := [(0, aI a0), (1, aD (.slice (.arr 2 tI)) a1), (2, aI a2), (7, aD (.slice tI) r1.1), (8, aI r1.2), (10, aD (.slice tI) r313), (12, aI x80.2.2)]) (L' := []) (by kernel_rfl) (by kernel_rfl) ?_
              refine seqQ_norm ?_
              obtain rfl := Option.some.inj h
              refine W_run 1 [] [0, 1, 2, 7, 8, 10, 11, 12] [] (fr' := [(0, aI a0), (1, aD (.slice (.arr 2 tI)) a1), (2, aI a2), (7, aD (.slice tI) r1.1), (8, aI r1.2), (10, aD (.slice tI) r313), (11, aB true), (12, aI x80.2.2)]) (L' := []) (obs := []) (by kernel_rfl) (by kernel_rfl) (by kernel_rfl) allP0 ?_
              refine blockQ_norm ?_
              exact exQ_mk (by kernel_rfl) (by kernel_rfl)
            · replace h := ofF h312 h
              obtain rfl := Option.some.inj h
              refine W_skip [0, 1, 2, 7, 8, 10, 11, 12] [] (fr' := [(0, aI a0), (1, aD (.slice (.arr 2 tI)) a1), (2, aI a2), (7, aD (.slice tI) r1.1), (8, aI r1.2), (10, aD (.slice tI) x80.1), (11, aB x80.2.1), (12, aI x80.2.2)]) (L' := []) (by kernel_rfl) (by kernel_rfl) ?_
              refine blockQ_norm ?_
              exact exQ_mk (by kernel_rfl) (by kernel_rfl)
        · intro e fr L hJ
          obtain ⟨rfl, rfl, rfl⟩ := hJ
          refine LT_keep [0, 1, 2, 7, 8, 10, 11, 12] [] (fr' := [(0, aI a0), (1, aD (.slice (.arr 2 tI)) a1), (2, aI a2), (7, aD (.slice tI) r1.1), (8, aI r1.2), (10, aD (.slice tI) v315.1), (11, aB v315.2), (12, aI x80.2.2)]) (L' := []) (by kernel_rfl) ?_
          refine seqQ_norm ?_
          obtain rfl := Option.some.inj h
          refine W_run 3 [] [0, 1, 2, 7, 8, 10, 11, 12] [] (fr' := [(0, aI a0), (1, aD (.slice (.arr 2 tI)) a1), (2, aI a2), (7, aD (.slice tI) r1.1), (8, aI r1.2), (10, aD (.slice tI) v315.1), (11, aB v315.2), (12, aI (w64 (x80.2.2 + (1 : Int))))]) (L' := []) (obs := []) (by kernel_rfl) (by kernel_rfl) (by kernel_rfl) allP0 ?_
          exact round_next' (by kernel_rfl) (by kernel_rfl)
      · replace h := ofF h200 h
        obtain rfl := Option.some.inj h
        refine W_exit (id := 0) [7, 8, 10, 11] [] (fr' := [(7, aD (.slice tI) r1.1), (8, aI r1.2), (10, aD (.slice tI) x80.1), (11, aB x80.2.1)]) (L' := []) (by kernel_rfl) (by kernel_rfl) ?_
        refine seqQ_exit ?_
        refine round_exit ?_
        exact exQ_mk (by kernel_rfl) (by kernel_rfl)
    · intro e fr L hJ
      obtain ⟨rfl, rfl, rfl⟩ := hJ
      refine LT_keep [7, 8, 10, 11] [] (fr' := [(7, aD (.slice tI) r1.1), (8, aI r1.2), (10, aD (.slice tI) v317.1), (11, aB v317.2)]) (L' := []) (by kernel_rfl) ?_
      refine blockQ_hit ?_
      refine seqQ_norm ?_
      refine W_seq (by kernel_rfl) ?_
      refine W_seq (by kernel_rfl) ?_
      refine W_run 2 [] [7, 8, 10, 63] [] (fr' := [(7, aD (.slice tI) r1.1), (8, aI r1.2), (10, aD (.slice tI) v317.1), (63, aB (!v317.2))]) (L' := []) (obs := []) (by kernel_rfl) (by kernel_rfl) (by kernel_rfl) allP0 ?_
      refine seqQ_norm ?_
      refine W_cond (o := .tmp 63) (b := !v317.2) (by kernel_rfl) (by kernel_rfl) (fun h321 => ?_) (fun h321 => ?_)
      · replace h := ofT h321 h
        refine W_seq (by kernel_rfl) ?_
        refine W_run 8 [] [6] [] (fr' := [(6, aB ((r1.2 == (5 : Int)) && ((List.length r1.1 : Int) == (0 : Int))))]) (L' := []) (obs := []) (by kernel_rfl) (by kernel_rfl) (by kernel_rfl) allP0 ?_
        refine seqQ_norm ?_
        obtain rfl := Option.some.inj h
        refine W_ret [6] [] (fr' := [(6, aB ((r1.2 == (5 : Int)) && ((List.length r1.1 : Int) == (0 : Int))))]) (L' := []) (by kernel_rfl) (by kernel_rfl) ?_
        refine seqQ_ret ?_
        exact retQ_mk (by kernel_rfl) (by kernel_rfl) (by kernel_rfl)
      · replace h := ofF h321 h
        refine W_skip [7, 8, 10] [] (fr' := [(7, aD (.slice tI) r1.1), (8, aI r1.2), (10, aD (.slice tI) v317.1)]) (L' := []) (by kernel_rfl) (by kernel_rfl) ?_
        refine seqQ_norm ?_
        refine W_seq (by kernel_rfl) ?_
        obtain ⟨v331, h332, h⟩ := bind_of h
        refine W_cutK (Q' := (exQ .normal law_HardFrees_s25) v331) ?_ ?_
        · replace h := h332
          refine W_region (by kernel_rfl) ?_
          refine WO_run (j := 3) (k := 3) (orcs := []) (kF := [7, 10, 73]) (kL := []) (fr' := [(7, aD (.slice tI) r1.1), (10, aD (.slice tI) v317.1), (73, aB (r1.2 == (0 : Int)))]) (L' := []) (obs := []) rfl (by kernel_rfl) allP0 ?_
          rcases Bool.eq_false_or_eq_true (r1.2 == (0 : Int)) with h328 | h328
          · replace h := ofT h328 h
            refine WO_run (j := 5) (k := 2) (orcs := [(6, .known true), (8, .known true)]) (kF := [73, 74, 75]) (kL := []) (fr' := [(73, aB (r1.2 == (0 : Int))), (74, aD (.slice tI) r1.1), (75, aD (.slice tI) v317.1)]) (L' := []) (obs := [((r1.2 == (0 : Int)) = true), ((r1.2 == (0 : Int)) = true)]) rfl (by kernel_rfl) (allP2 h328 (allP1 h328)) ?_
            obtain ⟨r329, h330, h⟩ := bind_of h
            refine WO_call0 (us := [none, none]) (d := 76) (p := ((r1.2 == (0 : Int)) = true)) (j := 6) rfl ⟨by kernel_rfl, by kernel_rfl, by kernel_rfl⟩ h328 (ref_Ints_ok h330) (by kernel_rfl) ?_
            refine WO_run (j := 8) (k := 2) (orcs := [(13, .val (.dat .bool true))]) (kF := [6]) (kL := []) (fr' := [(6, aB r329)]) (L' := []) (obs := [((r1.2 == (0 : Int)) = true)]) rfl (by kernel_rfl) (allP1 h328) ?_
            obtain rfl := Option.some.inj h
            refine WO_fin [6] [] (fr' := [(6, aB r329)]) (L' := []) (by kernel_rfl) (by kernel_rfl) ?_
            exact exQ_mk (by kernel_rfl) (by kernel_rfl)
          · replace h := ofF h328 h
            refine WO_run (j := 8) (k := 5) (orcs := [(6, .known false), (8, .known false), (10, .known false), (13, .val (.dat .bool false))]) (kF := [6]) (kL := []) (fr' := [(6, aB false)]) (L' := []) (obs := [((r1.2 == (0 : Int)) = false), ((r1.2 == (0 : Int)) = false), ((r1.2 == (0 : Int)) = false), ((r1.2 == (0 : Int)) = false)]) rfl (by kernel_rfl) (allP2 h328 (allP2 h328 (allP2 h328 (allP1 h328)))) ?_
            obtain rfl := Option.some.inj h
            refine WO_fin [6] [] (fr' := [(6, aB false)]) (L' := []) (by kernel_rfl) (by kernel_rfl) ?_
            exact exQ_mk (by kernel_rfl) (by kernel_rfl)
        · intro e fr L hJ
          obtain ⟨rfl, rfl, rfl⟩ := hJ
          refine LT_keep [6] [] (fr' := [(6, aB v331)]) (L' := []) (by kernel_rfl) ?_
          refine seqQ_norm ?_
          obtain rfl := Option.some.inj h
          refine W_ret [6] [] (fr' := [(6, aB v331)]) (L' := []) (by kernel_rfl) (by kernel_rfl) ?_
          exact retQ_mk (by kernel_rfl) (by kernel_rfl) (by kernel_rfl)
end Go.Proofs.Ytcallckeeohoaaa.hardFrees
