/- What the functions that HardSums calls compute, as models, and that they compute it: written by a program of mine. -/
import Derived.Test.YtcallckeeohoaaaProg
import Derived.Test.YtcallckeeohoaaaSl4
set_option linter.all false
set_option maxRecDepth 100000
namespace Go.Proofs.Ytcallckeeohoaaa.hardSums
open Go Go.Sl
def hard_Sum_1 (a0 : Int) : Option Bool :=
some ((decide (a0 < (0 : Int))) || (decide (a0 > (1000000000 : Int))))
theorem hard_Sum_1_ok {a0 : Int} {r : Bool} (h : hard_Sum_1 a0 = some r) : FnC Try.prog 52 [aI a0] [] (aB r) [] := by
  refine fnC_of_W (B := bodyOf Try.f52) (n := 9) Try.func52 (by kernel_rfl) (by kernel_rfl) (by kernel_rfl) (by kernel_rfl) (by kernel_rfl) ?_
  intro K
  refine W_seq (by kernel_rfl) ?_
  refine W_run 1 [] [0] [] (fr' := [(0, aI a0)]) (L' := []) (obs := []) (by kernel_rfl) (by kernel_rfl) (by kernel_rfl) allP0 ?_
  refine seqQ_norm ?_
  refine W_seq (by kernel_rfl) ?_
  refine W_run 7 [] [2] [] (fr' := [(2, aB ((decide (a0 < (0 : Int))) || (decide (a0 > (1000000000 : Int)))))]) (L' := []) (obs := []) (by kernel_rfl) (by kernel_rfl) (by kernel_rfl) allP0 ?_
  refine seqQ_norm ?_
  obtain rfl := Option.some.inj h
  refine W_ret [2] [] (fr' := [(2, aB ((decide (a0 < (0 : Int))) || (decide (a0 > (1000000000 : Int)))))]) (L' := []) (by kernel_rfl) (by kernel_rfl) ?_
  exact retQ_mk (by kernel_rfl) (by kernel_rfl) (by kernel_rfl)

def slices_IndexFunc_Lintint_with_hard_Sum_1_b1 (i15 : Int) (v18 : Int) (x16 : Unit) : Option (Flow Unit (Esc Int Unit)) :=
(hard_Sum_1 v18).bind fun r21 =>
bif r21 then
(some (.done (.ret i15)))
else
(some (.next ()))
@[reducible] def slices_IndexFunc_Lintint_with_hard_Sum_1_s2 (a0 : (List Int)) (v : Int × Unit) : Fr × LL := ([(0, aD (.slice tI) a0), (1, .one (.fn 52 [])), (7, aI (List.length a0 : Int)), (8, aI v.1)], [])
@[reducible] def slices_IndexFunc_Lintint_with_hard_Sum_1_s3 (v : Int) : Fr × LL := ([(4, aI v)], [])
@[reducible] def slices_IndexFunc_Lintint_with_hard_Sum_1_s4 (v : Unit) : Fr × LL := ([], [])
def slices_IndexFunc_Lintint_with_hard_Sum_1 (a0 : (List Int)) : Option Int :=
(forL slices_IndexFunc_Lintint_with_hard_Sum_1_b1 (fun x16 => (.brk ())) a0 0 ()).bind fun v25 =>
match v25 with
| .ret v30 =>
(some v30)
| .brk v31 =>
(some (-1 : Int))
theorem slices_IndexFunc_Lintint_with_hard_Sum_1_ok {a0 : (List Int)} {r : Int} (h : slices_IndexFunc_Lintint_with_hard_Sum_1 a0 = some r) : FnC Try.prog 69 [aD (.slice tI) a0, .one (.fn 52 [])] [] (aI r) [] := by
  refine fnC_of_W (B := bodyOf Try.f69) (n := 19) Try.func69 (by kernel_rfl) (by kernel_rfl) (by kernel_rfl) (by kernel_rfl) (by kernel_rfl) ?_
  intro K
  refine W_seq (by kernel_rfl) ?_
  refine W_run 1 [] [0, 1] [] (fr' := [(0, aD (.slice tI) a0), (1, .one (.fn 52 []))]) (L' := []) (obs := []) (by kernel_rfl) (by kernel_rfl) (by kernel_rfl) allP0 ?_
  refine seqQ_norm ?_
  refine W_seq (by kernel_rfl) ?_
  refine W_seq (by kernel_rfl) ?_
  refine W_run 3 [] [0, 1, 7, 8] [] (fr' := [(0, aD (.slice tI) a0), (1, .one (.fn 52 [])), (7, aI (List.length a0 : Int)), (8, aI (0 : Int))]) (L' := []) (obs := []) (by kernel_rfl) (by kernel_rfl) (by kernel_rfl) allP0 ?_
  refine seqQ_norm ?_
  refine W_block (id := 0) (by kernel_rfl) ?_
  obtain ⟨v25, h26, h⟩ := bind_of h
  refine W_len (t := 0) (u := tI) (xs := a0) (by kernel_rfl) (fun h29 => ?_)
  obtain ⟨h27, h28⟩ := forL_iter h29 h26
  refine W_weaken [0, 1, 7, 8] [] (fr' := ((slices_IndexFunc_Lintint_with_hard_Sum_1_s2 a0) ((0 : Int), ())).1) (L' := ((slices_IndexFunc_Lintint_with_hard_Sum_1_s2 a0) ((0 : Int), ())).2) (by kernel_rfl) ?_
  refine W_cutK (W_loop (S := (slices_IndexFunc_Lintint_with_hard_Sum_1_s2 a0)) (J := (escQ (exQ .ret slices_IndexFunc_Lintint_with_hard_Sum_1_s3) (exQ (.exit 0) slices_IndexFunc_Lintint_with_hard_Sum_1_s4))) (by kernel_rfl) ?_ h27 _ v25 h28) ?_
  · rintro ⟨i15, x16⟩ s h
    refine W_seq (by kernel_rfl) ?_
    refine W_run 1 [] [0, 1, 7, 8, 9] [] (fr' := [(0, aD (.slice tI) a0), (1, .one (.fn 52 [])), (7, aI (List.length a0 : Int)), (8, aI i15), (9, aB (decide (i15 < (List.length a0 : Int))))]) (L' := []) (obs := []) (by kernel_rfl) (by kernel_rfl) (by kernel_rfl) allP0 ?_
    refine seqQ_norm ?_
    refine W_seq (by kernel_rfl) ?_
    refine W_cond (o := .tmp 9) (b := decide (i15 < (List.length a0 : Int))) (by kernel_rfl) (by kernel_rfl) (fun h20 => ?_) (fun h20 => ?_)
    · replace h := stepL_true h20 h
      obtain ⟨v18, _, h19, h, rfl⟩ := h
      refine W_skip [0, 1, 7, 8] [] (fr' := [(0, aD (.slice tI) a0), (1, .one (.fn 52 [])), (7, aI (List.length a0 : Int)), (8, aI i15)]) (L' := []) (by kernel_rfl) (by kernel_rfl) ?_
      refine seqQ_norm ?_
      refine W_seq (by kernel_rfl) ?_
      refine W_block (id := 1) (by kernel_rfl) ?_
      refine W_seq (by kernel_rfl) ?_
      refine W_run 2 [] [0, 1, 5, 7, 8] [] (fr' := [(0, aD (.slice tI) a0), (1, .one (.fn 52 [])), (5, aI i15), (7, aI (List.length a0 : Int)), (8, aI i15)]) (L' := []) (obs := []) (by kernel_rfl) (by kernel_rfl) (by kernel_rfl) allP0 ?_
      refine seqQ_norm ?_
      refine W_seq (by kernel_rfl) ?_
      refine W_region (by kernel_rfl) ?_
      refine WO_run (j := 5) (k := 5) (orcs := [(7, .val (.dat tI v18))]) (kF := [0, 1, 5, 7, 8, 11, 15]) (kL := []) (fr' := [(0, aD (.slice tI) a0), (1, .one (.fn 52 [])), (5, aI i15), (7, aI (List.length a0 : Int)), (8, aI i15), (11, .one (.fn 52 [])), (15, aI v18)]) (L' := []) (obs := [Idx a0 i15 v18]) rfl (by kernel_rfl) (allP1 (Idx.of h19)) ?_
      obtain ⟨r21, h22, h⟩ := bind_of h
      refine WO_call0 (us := [none]) (d := 16) (p := True) (j := 6) rfl ⟨by kernel_rfl, by kernel_rfl, by kernel_rfl⟩ trivial (hard_Sum_1_ok h22) (by kernel_rfl) ?_
      refine WO_fin [0, 1, 5, 7, 8, 16] [] (fr' := [(0, aD (.slice tI) a0), (1, .one (.fn 52 [])), (5, aI i15), (7, aI (List.length a0 : Int)), (8, aI i15), (16, aB r21)]) (L' := []) (by kernel_rfl) (by kernel_rfl) ?_
      refine seqQ_norm ?_
      refine W_cond (o := .tmp 16) (b := r21) (by kernel_rfl) (by kernel_rfl) (fun h23 => ?_) (fun h23 => ?_)
      · replace h := ofT h23 h
        refine W_seq (by kernel_rfl) ?_
        refine W_run 2 [] [4] [] (fr' := [(4, aI i15)]) (L' := []) (obs := []) (by kernel_rfl) (by kernel_rfl) (by kernel_rfl) allP0 ?_
        refine seqQ_norm ?_
        obtain rfl := Option.some.inj h
        refine W_ret [4] [] (fr' := [(4, aI i15)]) (L' := []) (by kernel_rfl) (by kernel_rfl) ?_
        refine blockQ_ret ?_
        refine seqQ_ret ?_
        refine round_ret ?_
        refine escQ_ret ?_
        exact exQ_mk (by kernel_rfl) (by kernel_rfl)
      · replace h := ofF h23 h
        refine W_skip [0, 1, 7, 8] [] (fr' := [(0, aD (.slice tI) a0), (1, .one (.fn 52 [])), (7, aI (List.length a0 : Int)), (8, aI i15)]) (L' := []) (by kernel_rfl) (by kernel_rfl) ?_
        refine blockQ_norm ?_
        refine seqQ_norm ?_
        obtain rfl := Option.some.inj h
        refine W_run 2 [] [0, 1, 7, 8] [] (fr' := [(0, aD (.slice tI) a0), (1, .one (.fn 52 [])), (7, aI (List.length a0 : Int)), (8, aI (w64 (i15 + (1 : Int))))]) (L' := []) (obs := []) (by kernel_rfl) (by kernel_rfl) (by kernel_rfl) allP0 ?_
        exact round_next' (by kernel_rfl) (by kernel_rfl)
    · obtain rfl := stepL_false h20 h
      refine W_exit (id := 0) [] [] (fr' := []) (L' := []) (by kernel_rfl) (by kernel_rfl) ?_
      refine seqQ_exit ?_
      refine round_exit ?_
      refine escQ_brk ?_
      exact exQ_mk (by kernel_rfl) (by kernel_rfl)
  · intro e fr L hJ
    rcases v25 with v30 | v31
    · obtain ⟨rfl, rfl, rfl⟩ := hJ
      obtain rfl := Option.some.inj h
      refine LT_keep [4] [] (fr' := [(4, aI v30)]) (L' := []) (by kernel_rfl) ?_
      refine blockQ_ret ?_
      refine seqQ_ret ?_
      exact retQ_mk (by kernel_rfl) (by kernel_rfl) (by kernel_rfl)
    · obtain ⟨rfl, rfl, rfl⟩ := hJ
      refine LT_keep [] [] (fr' := []) (L' := []) (by kernel_rfl) ?_
      refine blockQ_hit ?_
      refine seqQ_norm ?_
      refine W_seq (by kernel_rfl) ?_
      refine W_run 1 [] [4] [] (fr' := [(4, aI (-1 : Int))]) (L' := []) (obs := []) (by kernel_rfl) (by kernel_rfl) (by kernel_rfl) allP0 ?_
      refine seqQ_norm ?_
      obtain rfl := Option.some.inj h
      refine W_ret [4] [] (fr' := [(4, aI (-1 : Int))]) (L' := []) (by kernel_rfl) (by kernel_rfl) ?_
      exact retQ_mk (by kernel_rfl) (by kernel_rfl) (by kernel_rfl)

def slices_ContainsFunc_Lintint_with_hard_Sum_1 (a0 : (List Int)) : Option Bool :=
(slices_IndexFunc_Lintint_with_hard_Sum_1 a0).bind fun r1 =>
some (decide (r1 ≥ (0 : Int)))
theorem slices_ContainsFunc_Lintint_with_hard_Sum_1_ok {a0 : (List Int)} {r : Bool} (h : slices_ContainsFunc_Lintint_with_hard_Sum_1 a0 = some r) : FnC Try.prog 51 [aD (.slice tI) a0, .one (.fn 52 [])] [] (aB r) [] := by
  refine fnC_of_W (B := bodyOf Try.f51) (n := 9) Try.func51 (by kernel_rfl) (by kernel_rfl) (by kernel_rfl) (by kernel_rfl) (by kernel_rfl) ?_
  intro K
  refine W_seq (by kernel_rfl) ?_
  refine W_run 1 [] [0, 1] [] (fr' := [(0, aD (.slice tI) a0), (1, .one (.fn 52 []))]) (L' := []) (obs := []) (by kernel_rfl) (by kernel_rfl) (by kernel_rfl) allP0 ?_
  refine seqQ_norm ?_
  refine W_seq (by kernel_rfl) ?_
  refine W_region (by kernel_rfl) ?_
  refine WO_run (j := 2) (k := 2) (orcs := []) (kF := [5, 6]) (kL := []) (fr' := [(5, aD (.slice tI) a0), (6, .one (.fn 52 []))]) (L' := []) (obs := []) rfl (by kernel_rfl) allP0 ?_
  obtain ⟨r1, h2, h⟩ := bind_of h
  refine WO_call0 (us := [none, none]) (d := 7) (p := True) (j := 3) rfl ⟨by kernel_rfl, by kernel_rfl, by kernel_rfl⟩ trivial (slices_IndexFunc_Lintint_with_hard_Sum_1_ok h2) (by kernel_rfl) ?_
  refine WO_run (j := 5) (k := 2) (orcs := []) (kF := [4]) (kL := []) (fr' := [(4, aB (decide (r1 ≥ (0 : Int))))]) (L' := []) (obs := []) rfl (by kernel_rfl) allP0 ?_
  refine WO_fin [4] [] (fr' := [(4, aB (decide (r1 ≥ (0 : Int))))]) (L' := []) (by kernel_rfl) (by kernel_rfl) ?_
  refine seqQ_norm ?_
  obtain rfl := Option.some.inj h
  refine W_ret [4] [] (fr' := [(4, aB (decide (r1 ≥ (0 : Int))))]) (L' := []) (by kernel_rfl) (by kernel_rfl) ?_
  exact retQ_mk (by kernel_rfl) (by kernel_rfl) (by kernel_rfl)

def hard_Sum_2_g6 (a1 : Int) (a2 : (List Int)) (c0 : (List Int)) (rf_hard_Sum_2 : Int → Int → (List Int) → (List Int) → Option ((List Int) × Bool)) (i74 : Int) : Option (Esc ((List Int) × Bool) Unit) :=
(idx c0 i74).bind fun v98 =>
bif decide (v98 > a1) then
(some (.brk ()))
else
((ck (0 ≤ (0 : Int) ∧ (0 : Int) ≤ (List.length a2 : Int) ∧ (List.length a2 : Int) ≤ (List.length a2 : Int) ∧ (List.length a2 : Int) = (List.length a2 : Int))).bind fun _ =>
(ck ((List.length (sub a2 (0 : Int) (List.length a2 : Int)) : Int) + 1 ≤ 4294967296)).bind fun _ =>
(rf_hard_Sum_2 (w64 (i74 + (1 : Int))) (w64 (a1 - v98)) ((sub a2 (0 : Int) (List.length a2 : Int)) ++ [i74]) c0).bind fun r105 =>
bif r105.2 then
(some (.ret (r105.1, true)))
else
(some (.brk ())))
@[reducible] def hard_Sum_2_s7 (c0 : (List Int)) (v : ((List Int) × Bool)) : Fr × LL := ([(8, aD (.slice tI) v.1), (9, aB v.2)], [(1000, .cells [.dat (.slice tI) c0]), (1001, .cells [.fn 53 [(1000, 0), (1001, 0)]])])
@[reducible] def hard_Sum_2_s8 (a1 : Int) (a2 : (List Int)) (c0 : (List Int)) (i74 : Int) (v : Unit) : Fr × LL := ([(1, aI a1), (2, aD (.slice tI) a2), (3, .one (.ptr 1000 0)), (4, .one (.ptr 1001 0)), (10, aI i74)], [(1000, .cells [.dat (.slice tI) c0]), (1001, .cells [.fn 53 [(1000, 0), (1001, 0)]])])
def hard_Sum_2_b9 (a1 : Int) (a2 : (List Int)) (c0 : (List Int)) (rf_hard_Sum_2 : Int → Int → (List Int) → (List Int) → Option ((List Int) × Bool)) (i74 : Int) (x75 : Unit) : Option (Flow Unit (Esc ((List Int) × Bool) Unit)) :=
(hard_Sum_2_g6 a1 a2 c0 rf_hard_Sum_2 i74).bind fun v108 =>
match v108 with
| .ret v110 =>
(some (.done (.ret (v110.1, v110.2))))
| .brk v111 =>
(some (.next ()))
@[reducible] def hard_Sum_2_s10 (a1 : Int) (a2 : (List Int)) (c0 : (List Int)) (v : Int × Unit) : Fr × LL := ([(1, aI a1), (2, aD (.slice tI) a2), (3, .one (.ptr 1000 0)), (4, .one (.ptr 1001 0)), (10, aI v.1)], [(1000, .cells [.dat (.slice tI) c0]), (1001, .cells [.fn 53 [(1000, 0), (1001, 0)]])])
@[reducible] def hard_Sum_2_s11 (c0 : (List Int)) (v : ((List Int) × Bool)) : Fr × LL := ([(8, aD (.slice tI) v.1), (9, aB v.2)], [(1000, .cells [.dat (.slice tI) c0]), (1001, .cells [.fn 53 [(1000, 0), (1001, 0)]])])
@[reducible] def hard_Sum_2_s12 (c0 : (List Int)) (v : Unit) : Fr × LL := ([], [(1000, .cells [.dat (.slice tI) c0]), (1001, .cells [.fn 53 [(1000, 0), (1001, 0)]])])
def hard_Sum_2_step (rf_hard_Sum_2 : Int → Int → (List Int) → (List Int) → Option ((List Int) × Bool)) (fuel : Nat) (a0 : Int) (a1 : Int) (a2 : (List Int)) (c0 : (List Int)) : Option ((List Int) × Bool) :=
bif a1 == (0 : Int) then
(some (a2, true))
else
((forI a0 (List.length c0 : Int) (hard_Sum_2_b9 a1 a2 c0 rf_hard_Sum_2) (fun x75 => (.brk ())) ()).bind fun v113 =>
match v113 with
| .ret v117 =>
(some (v117.1, v117.2))
| .brk v118 =>
(some ([], false)))
def hard_Sum_2 : Nat → Int → Int → (List Int) → (List Int) → Option ((List Int) × Bool)
  | 0 => fun _ _ _ _ => none
  | fuel + 1 => fun a0 a1 a2 c0 => hard_Sum_2_step (hard_Sum_2 fuel) fuel a0 a1 a2 c0
theorem hard_Sum_2_step_ok {rf_hard_Sum_2 : Int → Int → (List Int) → (List Int) → Option ((List Int) × Bool)} (ih_hard_Sum_2 : ∀ {a0 : Int} {a1 : Int} {a2 : (List Int)} {c0 : (List Int)} {r : ((List Int) × Bool)}, rf_hard_Sum_2 a0 a1 a2 c0 = some r → FnC Try.prog 53 [aI a0, aI a1, aD (.slice tI) a2, .one (.ptr 1000 0), .one (.ptr 1001 0)] [(1000, .cells [.dat (.slice tI) c0]), (1001, .cells [.fn 53 [(1000, 0), (1001, 0)]])] (.tup [.dat (.slice tI) r.1, .dat .bool r.2]) [(1000, .cells [.dat (.slice tI) c0]), (1001, .cells [.fn 53 [(1000, 0), (1001, 0)]])]) {fuel : Nat} {a0 : Int} {a1 : Int} {a2 : (List Int)} {c0 : (List Int)} {r : ((List Int) × Bool)} (h : hard_Sum_2_step rf_hard_Sum_2 fuel a0 a1 a2 c0 = some r) : FnC Try.prog 53 [aI a0, aI a1, aD (.slice tI) a2, .one (.ptr 1000 0), .one (.ptr 1001 0)] [(1000, .cells [.dat (.slice tI) c0]), (1001, .cells [.fn 53 [(1000, 0), (1001, 0)]])] (.tup [.dat (.slice tI) r.1, .dat .bool r.2]) [(1000, .cells [.dat (.slice tI) c0]), (1001, .cells [.fn 53 [(1000, 0), (1001, 0)]])] := by
  refine fnC_of_W (B := bodyOf Try.f53) (n := 53) Try.func53 (by kernel_rfl) (by kernel_rfl) (by kernel_rfl) (by kernel_rfl) (by kernel_rfl) ?_
  intro K
  refine W_seq (by kernel_rfl) ?_
  refine W_run 2 [] [0, 1, 2, 3, 4] [1000, 1001] (fr' := [(0, aI a0), (1, aI a1), (2, aD (.slice tI) a2), (3, .one (.ptr 1000 0)), (4, .one (.ptr 1001 0))]) (L' := [(1000, .cells [.dat (.slice tI) c0]), (1001, .cells [.fn 53 [(1000, 0), (1001, 0)]])]) (obs := []) (by kernel_rfl) (by kernel_rfl) (by kernel_rfl) allP0 ?_
  refine seqQ_norm ?_
  refine W_seq (by kernel_rfl) ?_
  refine W_seq (by kernel_rfl) ?_
  refine W_run 2 [] [0, 1, 2, 3, 4, 14] [1000, 1001] (fr' := [(0, aI a0), (1, aI a1), (2, aD (.slice tI) a2), (3, .one (.ptr 1000 0)), (4, .one (.ptr 1001 0)), (14, aB (a1 == (0 : Int)))]) (L' := [(1000, .cells [.dat (.slice tI) c0]), (1001, .cells [.fn 53 [(1000, 0), (1001, 0)]])]) (obs := []) (by kernel_rfl) (by kernel_rfl) (by kernel_rfl) allP0 ?_
  refine seqQ_norm ?_
  refine W_cond (o := .tmp 14) (b := a1 == (0 : Int)) (by kernel_rfl) (by kernel_rfl) (fun h1 => ?_) (fun h1 => ?_)
  · replace h := ofT h1 h
    refine W_seq (by kernel_rfl) ?_
    refine W_run 3 [] [8, 9] [1000, 1001] (fr' := [(8, aD (.slice tI) a2), (9, aB true)]) (L' := [(1000, .cells [.dat (.slice tI) c0]), (1001, .cells [.fn 53 [(1000, 0), (1001, 0)]])]) (obs := []) (by kernel_rfl) (by kernel_rfl) (by kernel_rfl) allP0 ?_
    refine seqQ_norm ?_
    obtain rfl := Option.some.inj h
    refine W_ret [8, 9] [1000, 1001] (fr' := [(8, aD (.slice tI) a2), (9, aB true)]) (L' := [(1000, .cells [.dat (.slice tI) c0]), (1001, .cells [.fn 53 [(1000, 0), (1001, 0)]])]) (by kernel_rfl) (by kernel_rfl) ?_
    refine seqQ_ret ?_
    exact retQ_mk (by kernel_rfl) (by kernel_rfl) (by kernel_rfl)
  · replace h := ofF h1 h
    refine W_skip [0, 1, 2, 3, 4] [1000, 1001] (fr' := [(0, aI a0), (1, aI a1), (2, aD (.slice tI) a2), (3, .one (.ptr 1000 0)), (4, .one (.ptr 1001 0))]) (L' := [(1000, .cells [.dat (.slice tI) c0]), (1001, .cells [.fn 53 [(1000, 0), (1001, 0)]])]) (by kernel_rfl) (by kernel_rfl) ?_
    refine seqQ_norm ?_
    refine W_seq (by kernel_rfl) ?_
    refine W_seq (by kernel_rfl) ?_
    refine W_run 2 [] [1, 2, 3, 4, 10] [1000, 1001] (fr' := [(1, aI a1), (2, aD (.slice tI) a2), (3, .one (.ptr 1000 0)), (4, .one (.ptr 1001 0)), (10, aI a0)]) (L' := [(1000, .cells [.dat (.slice tI) c0]), (1001, .cells [.fn 53 [(1000, 0), (1001, 0)]])]) (obs := []) (by kernel_rfl) (by kernel_rfl) (by kernel_rfl) allP0 ?_
    refine seqQ_norm ?_
    refine W_block (id := 0) (by kernel_rfl) ?_
    obtain ⟨v113, h114, h⟩ := bind_of h
    obtain ⟨h115, h116⟩ := forI_iter h114
    refine W_weaken [1, 2, 3, 4, 10] [1000, 1001] (fr' := ((hard_Sum_2_s10 a1 a2 c0) (a0, ())).1) (L' := ((hard_Sum_2_s10 a1 a2 c0) (a0, ())).2) (by kernel_rfl) ?_
    refine W_cutK (W_loop (S := (hard_Sum_2_s10 a1 a2 c0)) (J := (escQ (exQ .ret (hard_Sum_2_s11 c0)) (exQ (.exit 0) (hard_Sum_2_s12 c0)))) (by kernel_rfl) ?_ h115 _ v113 h116) ?_
    · rintro ⟨i74, x75⟩ s h
      refine W_seq (by kernel_rfl) ?_
      refine W_seq (by kernel_rfl) ?_
      refine W_run 4 [] [1, 2, 3, 4, 10, 20] [1000, 1001] (fr' := [(1, aI a1), (2, aD (.slice tI) a2), (3, .one (.ptr 1000 0)), (4, .one (.ptr 1001 0)), (10, aI i74), (20, aB (decide (i74 < (List.length c0 : Int))))]) (L' := [(1000, .cells [.dat (.slice tI) c0]), (1001, .cells [.fn 53 [(1000, 0), (1001, 0)]])]) (obs := []) (by kernel_rfl) (by kernel_rfl) (by kernel_rfl) allP0 ?_
      refine seqQ_norm ?_
      refine W_cond (o := .tmp 20) (b := decide (i74 < (List.length c0 : Int))) (by kernel_rfl) (by kernel_rfl) (fun h77 => ?_) (fun h77 => ?_)
      · replace h := stepI_true h77 h
        obtain ⟨_, h, rfl⟩ := h
        refine W_skip [1, 2, 3, 4, 10] [1000, 1001] (fr' := [(1, aI a1), (2, aD (.slice tI) a2), (3, .one (.ptr 1000 0)), (4, .one (.ptr 1001 0)), (10, aI i74)]) (L' := [(1000, .cells [.dat (.slice tI) c0]), (1001, .cells [.fn 53 [(1000, 0), (1001, 0)]])]) (by kernel_rfl) (by kernel_rfl) ?_
        refine seqQ_norm ?_
        refine W_seq (by kernel_rfl) ?_
        obtain ⟨v108, h109, h⟩ := bind_of h
        refine W_cutK (Q' := (escQ (exQ .ret (hard_Sum_2_s7 c0)) (exQ .normal (hard_Sum_2_s8 a1 a2 c0 i74))) v108) ?_ ?_
        · replace h := h109
          refine W_block (id := 1) (by kernel_rfl) ?_
          refine W_seq (by kernel_rfl) ?_
          refine W_seq (by kernel_rfl) ?_
          obtain ⟨v98, h99, h⟩ := bind_of h
          refine W_run 6 [(5, .val (.dat tI v98))] [1, 2, 3, 4, 10, 28] [1000, 1001] (fr' := [(1, aI a1), (2, aD (.slice tI) a2), (3, .one (.ptr 1000 0)), (4, .one (.ptr 1001 0)), (10, aI i74), (28, aB (decide (v98 > a1)))]) (L' := [(1000, .cells [.dat (.slice tI) c0]), (1001, .cells [.fn 53 [(1000, 0), (1001, 0)]])]) (obs := [Idx c0 i74 v98]) (by kernel_rfl) (by kernel_rfl) (by kernel_rfl) (allP1 (Idx.of h99)) ?_
          refine seqQ_norm ?_
          refine W_cond (o := .tmp 28) (b := decide (v98 > a1)) (by kernel_rfl) (by kernel_rfl) (fun h100 => ?_) (fun h100 => ?_)
          · replace h := ofT h100 h
            obtain rfl := Option.some.inj h
            refine W_exit (id := 1) [1, 2, 3, 4, 10] [1000, 1001] (fr' := [(1, aI a1), (2, aD (.slice tI) a2), (3, .one (.ptr 1000 0)), (4, .one (.ptr 1001 0)), (10, aI i74)]) (L' := [(1000, .cells [.dat (.slice tI) c0]), (1001, .cells [.fn 53 [(1000, 0), (1001, 0)]])]) (by kernel_rfl) (by kernel_rfl) ?_
            refine seqQ_exit ?_
            refine blockQ_hit ?_
            refine escQ_brk ?_
            exact exQ_mk (by kernel_rfl) (by kernel_rfl)
          · replace h := ofF h100 h
            refine W_skip [1, 2, 3, 4, 10] [1000, 1001] (fr' := [(1, aI a1), (2, aD (.slice tI) a2), (3, .one (.ptr 1000 0)), (4, .one (.ptr 1001 0)), (10, aI i74)]) (L' := [(1000, .cells [.dat (.slice tI) c0]), (1001, .cells [.fn 53 [(1000, 0), (1001, 0)]])]) (by kernel_rfl) (by kernel_rfl) ?_
            refine seqQ_norm ?_
            refine W_seq (by kernel_rfl) ?_
            obtain ⟨_, h103, h⟩ := bind_of h
            replace h103 := ck_some h103
            obtain ⟨_, h104, h⟩ := bind_of h
            replace h104 := ck_some h104
            refine W_drawT5 18 [] [(13, .val (.dat tI v98))] [] [1, 2, 3, 4, 10, 30, 32, 38, 47] [1000, 1001] (out := [(30, .one (.fn 53 [(1000, 0), (1001, 0)])), (31, aI i74), (32, aI (w64 (i74 + (1 : Int)))), (33, aI a1), (34, aD (.slice tI) c0), (35, aI i74), (36, .one (.dptr tI v98)), (37, aI v98), (38, aI (w64 (a1 - v98))), (39, aD (.slice tI) a2), (40, aD (.slice tI) a2), (41, aI (List.length a2 : Int)), (42, aD (.slice tI) a2), (43, aI (List.length a2 : Int)), (44, .one (.cdat tI (sub a2 (0 : Int) (List.length a2 : Int)))), (45, aI i74), (46, aD (.slice tI) [i74]), (47, aD (.slice tI) ((sub a2 (0 : Int) (List.length a2 : Int)) ++ [i74]))]) (obs := [Idx c0 i74 v98, Cuts (0 : Int) (List.length a2 : Int) (List.length a2) ∧ (List.length a2 : Int) = (List.length a2 : Int), True, True, 0 < List.length [i74] ∧ SmallLen (List.length (sub a2 (0 : Int) (List.length a2 : Int)) + List.length [i74])]) (calls := []) (fr' := [(1, aI a1), (2, aD (.slice tI) a2), (3, .one (.ptr 1000 0)), (4, .one (.ptr 1001 0)), (10, aI i74), (30, .one (.fn 53 [(1000, 0), (1001, 0)])), (32, aI (w64 (i74 + (1 : Int)))), (38, aI (w64 (a1 - v98))), (47, aD (.slice tI) ((sub a2 (0 : Int) (List.length a2 : Int)) ++ [i74]))]) (L' := [(1000, .cells [.dat (.slice tI) c0]), (1001, .cells [.fn 53 [(1000, 0), (1001, 0)]])]) (by kernel_rfl) (by kernel_rfl) (by kernel_rfl) (by kernel_rfl) (allP2 (Idx.of h99) (allP2 ⟨⟨h103.1, h103.2.1, h103.2.2.1⟩, h103.2.2.2⟩ (allP2 trivial (allP2 trivial (allP1 ⟨(Nat.succ_pos _), h104⟩))))) allD0 (by kernel_rfl) ?_
            obtain ⟨r105, h106, h⟩ := bind_of h
            refine WO_lend [(1000, 1000), (1001, 1001)] (us := [none, none, none, none, none]) (d := 48) (p := True) (j := 19) rfl ⟨by kernel_rfl, by kernel_rfl, by kernel_rfl⟩ trivial (ih_hard_Sum_2 h106) (by kernel_rfl) (by kernel_rfl) ?_
            refine WO_run (j := 24) (k := 5) (orcs := []) (kF := [1, 2, 3, 4, 10, 11, 12]) (kL := [1000, 1001]) (fr' := [(1, aI a1), (2, aD (.slice tI) a2), (3, .one (.ptr 1000 0)), (4, .one (.ptr 1001 0)), (10, aI i74), (11, aD (.slice tI) r105.1), (12, aB r105.2)]) (L' := [(1000, .cells [.dat (.slice tI) c0]), (1001, .cells [.fn 53 [(1000, 0), (1001, 0)]])]) (obs := []) rfl (by kernel_rfl) allP0 ?_
            refine WO_fin [1, 2, 3, 4, 10, 11, 12] [1000, 1001] (fr' := [(1, aI a1), (2, aD (.slice tI) a2), (3, .one (.ptr 1000 0)), (4, .one (.ptr 1001 0)), (10, aI i74), (11, aD (.slice tI) r105.1), (12, aB r105.2)]) (L' := [(1000, .cells [.dat (.slice tI) c0]), (1001, .cells [.fn 53 [(1000, 0), (1001, 0)]])]) (by kernel_rfl) (by kernel_rfl) ?_
            refine ⟨rfl, ?_⟩
            refine seqQ_norm ?_
            refine W_seq (by kernel_rfl) ?_
            refine W_run 1 [] [1, 2, 3, 4, 10, 11, 51] [1000, 1001] (fr' := [(1, aI a1), (2, aD (.slice tI) a2), (3, .one (.ptr 1000 0)), (4, .one (.ptr 1001 0)), (10, aI i74), (11, aD (.slice tI) r105.1), (51, aB r105.2)]) (L' := [(1000, .cells [.dat (.slice tI) c0]), (1001, .cells [.fn 53 [(1000, 0), (1001, 0)]])]) (obs := []) (by kernel_rfl) (by kernel_rfl) (by kernel_rfl) allP0 ?_
            refine seqQ_norm ?_
            refine W_cond (o := .tmp 51) (b := r105.2) (by kernel_rfl) (by kernel_rfl) (fun h107 => ?_) (fun h107 => ?_)
            · replace h := ofT h107 h
              refine W_seq (by kernel_rfl) ?_
              refine W_run 3 [] [8, 9] [1000, 1001] (fr' := [(8, aD (.slice tI) r105.1), (9, aB true)]) (L' := [(1000, .cells [.dat (.slice tI) c0]), (1001, .cells [.fn 53 [(1000, 0), (1001, 0)]])]) (obs := []) (by kernel_rfl) (by kernel_rfl) (by kernel_rfl) allP0 ?_
              refine seqQ_norm ?_
              obtain rfl := Option.some.inj h
              refine W_ret [8, 9] [1000, 1001] (fr' := [(8, aD (.slice tI) r105.1), (9, aB true)]) (L' := [(1000, .cells [.dat (.slice tI) c0]), (1001, .cells [.fn 53 [(1000, 0), (1001, 0)]])]) (by kernel_rfl) (by kernel_rfl) ?_
              refine blockQ_ret ?_
              refine escQ_ret ?_
              exact exQ_mk (by kernel_rfl) (by kernel_rfl)
            · replace h := ofF h107 h
              obtain rfl := Option.some.inj h
              refine W_skip [1, 2, 3, 4, 10] [1000, 1001] (fr' := [(1, aI a1), (2, aD (.slice tI) a2), (3, .one (.ptr 1000 0)), (4, .one (.ptr 1001 0)), (10, aI i74)]) (L' := [(1000, .cells [.dat (.slice tI) c0]), (1001, .cells [.fn 53 [(1000, 0), (1001, 0)]])]) (by kernel_rfl) (by kernel_rfl) ?_
              refine blockQ_norm ?_
              refine escQ_brk ?_
              exact exQ_mk (by kernel_rfl) (by kernel_rfl)
        · intro e fr L hJ
          rcases v108 with v110 | v111
          · obtain ⟨rfl, rfl, rfl⟩ := hJ
            obtain rfl := Option.some.inj h
            refine LT_keep [8, 9] [1000, 1001] (fr' := [(8, aD (.slice tI) v110.1), (9, aB v110.2)]) (L' := [(1000, .cells [.dat (.slice tI) c0]), (1001, .cells [.fn 53 [(1000, 0), (1001, 0)]])]) (by kernel_rfl) ?_
            refine seqQ_ret ?_
            refine round_ret ?_
            refine escQ_ret ?_
            exact exQ_mk (by kernel_rfl) (by kernel_rfl)
          · obtain ⟨rfl, rfl, rfl⟩ := hJ
            refine LT_keep [1, 2, 3, 4, 10] [1000, 1001] (fr' := [(1, aI a1), (2, aD (.slice tI) a2), (3, .one (.ptr 1000 0)), (4, .one (.ptr 1001 0)), (10, aI i74)]) (L' := [(1000, .cells [.dat (.slice tI) c0]), (1001, .cells [.fn 53 [(1000, 0), (1001, 0)]])]) (by kernel_rfl) ?_
            refine seqQ_norm ?_
            obtain rfl := Option.some.inj h
            refine W_run 3 [] [1, 2, 3, 4, 10] [1000, 1001] (fr' := [(1, aI a1), (2, aD (.slice tI) a2), (3, .one (.ptr 1000 0)), (4, .one (.ptr 1001 0)), (10, aI (w64 (i74 + (1 : Int))))]) (L' := [(1000, .cells [.dat (.slice tI) c0]), (1001, .cells [.fn 53 [(1000, 0), (1001, 0)]])]) (obs := []) (by kernel_rfl) (by kernel_rfl) (by kernel_rfl) allP0 ?_
            exact round_next' (by kernel_rfl) (by kernel_rfl)
      · obtain rfl := stepI_false h77 h
        refine W_exit (id := 0) [] [1000, 1001] (fr' := []) (L' := [(1000, .cells [.dat (.slice tI) c0]), (1001, .cells [.fn 53 [(1000, 0), (1001, 0)]])]) (by kernel_rfl) (by kernel_rfl) ?_
        refine seqQ_exit ?_
        refine round_exit ?_
        refine escQ_brk ?_
        exact exQ_mk (by kernel_rfl) (by kernel_rfl)
    · intro e fr L hJ
      rcases v113 with v117 | v118
      · obtain ⟨rfl, rfl, rfl⟩ := hJ
        obtain rfl := Option.some.inj h
        refine LT_keep [8, 9] [1000, 1001] (fr' := [(8, aD (.slice tI) v117.1), (9, aB v117.2)]) (L' := [(1000, .cells [.dat (.slice tI) c0]), (1001, .cells [.fn 53 [(1000, 0), (1001, 0)]])]) (by kernel_rfl) ?_
        refine blockQ_ret ?_
        refine seqQ_ret ?_
        exact retQ_mk (by kernel_rfl) (by kernel_rfl) (by kernel_rfl)
      · obtain ⟨rfl, rfl, rfl⟩ := hJ
        refine LT_keep [] [1000, 1001] (fr' := []) (L' := [(1000, .cells [.dat (.slice tI) c0]), (1001, .cells [.fn 53 [(1000, 0), (1001, 0)]])]) (by kernel_rfl) ?_
        refine blockQ_hit ?_
        refine seqQ_norm ?_
        refine W_seq (by kernel_rfl) ?_
        refine W_run 2 [] [8, 9] [1000, 1001] (fr' := [(8, .one (.nilS)), (9, aB false)]) (L' := [(1000, .cells [.dat (.slice tI) c0]), (1001, .cells [.fn 53 [(1000, 0), (1001, 0)]])]) (obs := []) (by kernel_rfl) (by kernel_rfl) (by kernel_rfl) allP0 ?_
        refine seqQ_norm ?_
        obtain rfl := Option.some.inj h
        refine W_cnv 8 (.slice tI) (by kernel_rfl) ?_
        refine W_ret [8, 9] [1000, 1001] (fr' := [(8, aD (.slice tI) []), (9, aB false)]) (L' := [(1000, .cells [.dat (.slice tI) c0]), (1001, .cells [.fn 53 [(1000, 0), (1001, 0)]])]) (by kernel_rfl) (by kernel_rfl) ?_
        exact retQ_mk (by kernel_rfl) (by kernel_rfl) (by kernel_rfl)
theorem hard_Sum_2_ok : ∀ {fuel : Nat} {a0 : Int} {a1 : Int} {a2 : (List Int)} {c0 : (List Int)} {r : ((List Int) × Bool)}, hard_Sum_2 fuel a0 a1 a2 c0 = some r → FnC Try.prog 53 [aI a0, aI a1, aD (.slice tI) a2, .one (.ptr 1000 0), .one (.ptr 1001 0)] [(1000, .cells [.dat (.slice tI) c0]), (1001, .cells [.fn 53 [(1000, 0), (1001, 0)]])] (.tup [.dat (.slice tI) r.1, .dat .bool r.2]) [(1000, .cells [.dat (.slice tI) c0]), (1001, .cells [.fn 53 [(1000, 0), (1001, 0)]])] := by
  intro fuel
  induction fuel with
  | zero => intros a0 a1 a2 c0 r h; cases h
  | succ fuel ih => intros a0 a1 a2 c0 r h; exact hard_Sum_2_step_ok (fun h => ih h) (show hard_Sum_2_step (hard_Sum_2 fuel) fuel a0 a1 a2 c0 = some r from h)

def hard_Sum (fuel : Nat) (a0 : (List Int)) (a1 : Int) : Option ((List Int) × Int) :=
bif decide ((List.length a0 : Int) > (16 : Int)) then
(some ([], (1 : Int)))
else
((slices_ContainsFunc_Lintint_with_hard_Sum_1 a0).bind fun r2 =>
bif r2 then
(some ([], (4 : Int)))
else
((hard_Sum_2 fuel (0 : Int) a1 [] a0).bind fun r5 =>
bif !r5.2 then
(some ([], (5 : Int)))
else
(some (r5.1, (0 : Int)))))
theorem hard_Sum_ok {fuel : Nat} {a0 : (List Int)} {a1 : Int} {r : ((List Int) × Int)} (h : hard_Sum fuel a0 a1 = some r) : FnC Try.prog 26 [aD (.slice tI) a0, aI a1] [] (.tup [.dat (.slice tI) r.1, .dat tI r.2]) [] := by
  refine fnC_of_W (B := bodyOf Try.f26) (n := 24) Try.func26 (by kernel_rfl) (by kernel_rfl) (by kernel_rfl) (by kernel_rfl) (by kernel_rfl) ?_
  intro K
  refine W_seq (by kernel_rfl) ?_
  refine W_run 3 [] [1, 2] [2] (fr' := [(1, aI a1), (2, .one (.ptr 2 0))]) (L' := [(2, .cells [.dat (.slice tI) a0])]) (obs := []) (by kernel_rfl) (by kernel_rfl) (by kernel_rfl) allP0 ?_
  refine seqQ_norm ?_
  refine W_seq (by kernel_rfl) ?_
  refine W_seq (by kernel_rfl) ?_
  refine W_run 3 [] [1, 2, 11] [2] (fr' := [(1, aI a1), (2, .one (.ptr 2 0)), (11, aB (decide ((List.length a0 : Int) > (16 : Int))))]) (L' := [(2, .cells [.dat (.slice tI) a0])]) (obs := []) (by kernel_rfl) (by kernel_rfl) (by kernel_rfl) allP0 ?_
  refine seqQ_norm ?_
  refine W_cond (o := .tmp 11) (b := decide ((List.length a0 : Int) > (16 : Int))) (by kernel_rfl) (by kernel_rfl) (fun h1 => ?_) (fun h1 => ?_)
  · replace h := ofT h1 h
    refine W_seq (by kernel_rfl) ?_
    refine W_run 2 [] [4, 5] [] (fr' := [(4, .one (.nilS)), (5, aI (1 : Int))]) (L' := []) (obs := []) (by kernel_rfl) (by kernel_rfl) (by kernel_rfl) allP0 ?_
    refine seqQ_norm ?_
    obtain rfl := Option.some.inj h
    refine W_cnv 4 (.slice tI) (by kernel_rfl) ?_
    refine W_ret [4, 5] [] (fr' := [(4, aD (.slice tI) []), (5, aI (1 : Int))]) (L' := []) (by kernel_rfl) (by kernel_rfl) ?_
    refine seqQ_ret ?_
    exact retQ_mk (by kernel_rfl) (by kernel_rfl) (by kernel_rfl)
  · replace h := ofF h1 h
    refine W_skip [1, 2] [2] (fr' := [(1, aI a1), (2, .one (.ptr 2 0))]) (L' := [(2, .cells [.dat (.slice tI) a0])]) (by kernel_rfl) (by kernel_rfl) ?_
    refine seqQ_norm ?_
    refine W_seq (by kernel_rfl) ?_
    refine W_seq (by kernel_rfl) ?_
    refine W_region (by kernel_rfl) ?_
    refine WO_run (j := 1) (k := 1) (orcs := []) (kF := [1, 2, 12]) (kL := [2]) (fr' := [(1, aI a1), (2, .one (.ptr 2 0)), (12, aD (.slice tI) a0)]) (L' := [(2, .cells [.dat (.slice tI) a0])]) (obs := []) rfl (by kernel_rfl) allP0 ?_
    obtain ⟨r2, h3, h⟩ := bind_of h
    refine WO_call0 (us := [none, none]) (d := 13) (p := True) (j := 2) rfl ⟨by kernel_rfl, by kernel_rfl, by kernel_rfl⟩ trivial (slices_ContainsFunc_Lintint_with_hard_Sum_1_ok h3) (by kernel_rfl) ?_
    refine WO_fin [1, 2, 13] [2] (fr' := [(1, aI a1), (2, .one (.ptr 2 0)), (13, aB r2)]) (L' := [(2, .cells [.dat (.slice tI) a0])]) (by kernel_rfl) (by kernel_rfl) ?_
    refine seqQ_norm ?_
    refine W_cond (o := .tmp 13) (b := r2) (by kernel_rfl) (by kernel_rfl) (fun h4 => ?_) (fun h4 => ?_)
    · replace h := ofT h4 h
      refine W_seq (by kernel_rfl) ?_
      refine W_run 2 [] [4, 5] [] (fr' := [(4, .one (.nilS)), (5, aI (4 : Int))]) (L' := []) (obs := []) (by kernel_rfl) (by kernel_rfl) (by kernel_rfl) allP0 ?_
      refine seqQ_norm ?_
      obtain rfl := Option.some.inj h
      refine W_cnv 4 (.slice tI) (by kernel_rfl) ?_
      refine W_ret [4, 5] [] (fr' := [(4, aD (.slice tI) []), (5, aI (4 : Int))]) (L' := []) (by kernel_rfl) (by kernel_rfl) ?_
      refine seqQ_ret ?_
      exact retQ_mk (by kernel_rfl) (by kernel_rfl) (by kernel_rfl)
    · replace h := ofF h4 h
      refine W_skip [1, 2] [2] (fr' := [(1, aI a1), (2, .one (.ptr 2 0))]) (L' := [(2, .cells [.dat (.slice tI) a0])]) (by kernel_rfl) (by kernel_rfl) ?_
      refine seqQ_norm ?_
      refine W_seq (by kernel_rfl) ?_
      refine W_run 1 [] [1, 2, 6] [2, 6] (fr' := [(1, aI a1), (2, .one (.ptr 2 0)), (6, .one (.ptr 6 0))]) (L' := [(2, .cells [.dat (.slice tI) a0]), (6, .cells [.any])]) (obs := []) (by kernel_rfl) (by kernel_rfl) (by kernel_rfl) allP0 ?_
      refine seqQ_norm ?_
      refine W_seq (by kernel_rfl) ?_
      refine W_run 2 [] [1, 6] [6, 2] (fr' := [(1, aI a1), (6, .one (.ptr 6 0))]) (L' := [(6, .cells [.fn 53 [(2, 0), (6, 0)]]), (2, .cells [.dat (.slice tI) a0])]) (obs := [True]) (by kernel_rfl) (by kernel_rfl) (by kernel_rfl) (allP1 trivial) ?_
      refine seqQ_norm ?_
      refine W_seq (by kernel_rfl) ?_
      refine W_region (by kernel_rfl) ?_
      refine WO_run (j := 2) (k := 2) (orcs := []) (kF := [16, 17]) (kL := [2, 6]) (fr' := [(16, .one (.fn 53 [(2, 0), (6, 0)])), (17, aI a1)]) (L' := [(2, .cells [.dat (.slice tI) a0]), (6, .cells [.fn 53 [(2, 0), (6, 0)]])]) (obs := []) rfl (by kernel_rfl) allP0 ?_
      obtain ⟨r5, h6, h⟩ := bind_of h
      refine WO_lend [(1000, 2), (1001, 6)] (us := [none, none, some (.slice tI), none, none]) (d := 18) (p := True) (j := 3) rfl ⟨by kernel_rfl, by kernel_rfl, by kernel_rfl⟩ trivial (hard_Sum_2_ok h6) (by kernel_rfl) (by kernel_rfl) ?_
      refine WO_run (j := 8) (k := 5) (orcs := []) (kF := [7, 8]) (kL := [2, 6]) (fr' := [(7, aD (.slice tI) r5.1), (8, aB r5.2)]) (L' := [(2, .cells [.dat (.slice tI) a0]), (6, .cells [.fn 53 [(2, 0), (6, 0)]])]) (obs := []) rfl (by kernel_rfl) allP0 ?_
      refine WO_fin [7, 8] [] (fr' := [(7, aD (.slice tI) r5.1), (8, aB r5.2)]) (L' := []) (by kernel_rfl) (by kernel_rfl) ?_
      refine seqQ_norm ?_
      refine W_seq (by kernel_rfl) ?_
      refine W_seq (by kernel_rfl) ?_
      refine W_run 2 [] [7, 22] [] (fr' := [(7, aD (.slice tI) r5.1), (22, aB (!r5.2))]) (L' := []) (obs := []) (by kernel_rfl) (by kernel_rfl) (by kernel_rfl) allP0 ?_
      refine seqQ_norm ?_
      refine W_cond (o := .tmp 22) (b := !r5.2) (by kernel_rfl) (by kernel_rfl) (fun h7 => ?_) (fun h7 => ?_)
      · replace h := ofT h7 h
        refine W_seq (by kernel_rfl) ?_
        refine W_run 2 [] [4, 5] [] (fr' := [(4, .one (.nilS)), (5, aI (5 : Int))]) (L' := []) (obs := []) (by kernel_rfl) (by kernel_rfl) (by kernel_rfl) allP0 ?_
        refine seqQ_norm ?_
        obtain rfl := Option.some.inj h
        refine W_cnv 4 (.slice tI) (by kernel_rfl) ?_
        refine W_ret [4, 5] [] (fr' := [(4, aD (.slice tI) []), (5, aI (5 : Int))]) (L' := []) (by kernel_rfl) (by kernel_rfl) ?_
        refine seqQ_ret ?_
        exact retQ_mk (by kernel_rfl) (by kernel_rfl) (by kernel_rfl)
      · replace h := ofF h7 h
        refine W_skip [7] [] (fr' := [(7, aD (.slice tI) r5.1)]) (L' := []) (by kernel_rfl) (by kernel_rfl) ?_
        refine seqQ_norm ?_
        refine W_seq (by kernel_rfl) ?_
        refine W_run 3 [] [4, 5] [] (fr' := [(4, aD (.slice tI) r5.1), (5, aI (0 : Int))]) (L' := []) (obs := []) (by kernel_rfl) (by kernel_rfl) (by kernel_rfl) allP0 ?_
        refine seqQ_norm ?_
        obtain rfl := Option.some.inj h
        refine W_ret [4, 5] [] (fr' := [(4, aD (.slice tI) r5.1), (5, aI (0 : Int))]) (L' := []) (by kernel_rfl) (by kernel_rfl) ?_
        exact retQ_mk (by kernel_rfl) (by kernel_rfl) (by kernel_rfl)

def ref_Within (a0 : Int) (a1 : Int) (a2 : Int) : Option Bool :=
some ((decide (a0 ≤ a1)) && (decide (a1 ≤ a2)))
theorem ref_Within_ok {a0 : Int} {a1 : Int} {a2 : Int} {r : Bool} (h : ref_Within a0 a1 a2 = some r) : FnC Try.prog 13 [aI a0, aI a1, aI a2] [] (aB r) [] := by
  refine fnC_of_W (B := bodyOf Try.f13) (n := 15) Try.func13 (by kernel_rfl) (by kernel_rfl) (by kernel_rfl) (by kernel_rfl) (by kernel_rfl) ?_
  intro K
  refine W_seq (by kernel_rfl) ?_
  refine W_run 1 [] [0, 1, 2] [] (fr' := [(0, aI a0), (1, aI a1), (2, aI a2)]) (L' := []) (obs := []) (by kernel_rfl) (by kernel_rfl) (by kernel_rfl) allP0 ?_
  refine seqQ_norm ?_
  refine W_seq (by kernel_rfl) ?_
  refine W_run 9 [] [6] [] (fr' := [(6, aB ((decide (a0 ≤ a1)) && (decide (a1 ≤ a2))))]) (L' := []) (obs := []) (by kernel_rfl) (by kernel_rfl) (by kernel_rfl) allP0 ?_
  refine seqQ_norm ?_
  obtain rfl := Option.some.inj h
  refine W_ret [6] [] (fr' := [(6, aB ((decide (a0 ≤ a1)) && (decide (a1 ≤ a2))))]) (L' := []) (by kernel_rfl) (by kernel_rfl) ?_
  exact retQ_mk (by kernel_rfl) (by kernel_rfl) (by kernel_rfl)

def ref_Bit (a0 : Int) (a1 : Int) : Option Bool :=
bif (decide (a1 ≥ (0 : Int))) && (decide (a1 < (63 : Int))) then
((ck (0 ≤ IntKind.wrap .u64 (a1))).bind fun _ =>
some ((bAnd .i64 a0 (bShl .i64 (1 : Int) (IntKind.wrap .u64 (a1)))) != (0 : Int)))
else
(some false)
theorem ref_Bit_ok {a0 : Int} {a1 : Int} {r : Bool} (h : ref_Bit a0 a1 = some r) : FnC Try.prog 27 [aI a0, aI a1] [] (aB r) [] := by
  refine fnC_of_W (B := bodyOf Try.f27) (n := 19) Try.func27 (by kernel_rfl) (by kernel_rfl) (by kernel_rfl) (by kernel_rfl) (by kernel_rfl) ?_
  intro K
  refine W_seq (by kernel_rfl) ?_
  refine W_run 1 [] [0, 1] [] (fr' := [(0, aI a0), (1, aI a1)]) (L' := []) (obs := []) (by kernel_rfl) (by kernel_rfl) (by kernel_rfl) allP0 ?_
  refine seqQ_norm ?_
  refine W_seq (by kernel_rfl) ?_
  refine W_region (by kernel_rfl) ?_
  refine WO_run (j := 7) (k := 7) (orcs := []) (kF := [0, 1, 11]) (kL := []) (fr' := [(0, aI a0), (1, aI a1), (11, aB ((decide (a1 ≥ (0 : Int))) && (decide (a1 < (63 : Int)))))]) (L' := []) (obs := []) rfl (by kernel_rfl) allP0 ?_
  rcases Bool.eq_false_or_eq_true ((decide (a1 ≥ (0 : Int))) && (decide (a1 < (63 : Int)))) with h1 | h1
  · replace h := ofT h1 h
    obtain ⟨_, h2, h⟩ := bind_of h
    replace h2 := ck_some h2
    refine WO_run (j := 15) (k := 8) (orcs := [(14, .known true), (16, .known true), (18, .known true), (20, .known true), (22, .known true), (24, .known true), (27, .val (.dat .bool true))]) (kF := [4]) (kL := []) (fr' := [(4, aB ((bAnd .i64 a0 (bShl .i64 (1 : Int) (IntKind.wrap .u64 (a1)))) != (0 : Int)))]) (L' := []) (obs := [(((decide (a1 ≥ (0 : Int))) && (decide (a1 < (63 : Int)))) = true), (((decide (a1 ≥ (0 : Int))) && (decide (a1 < (63 : Int)))) = true), (((decide (a1 ≥ (0 : Int))) && (decide (a1 < (63 : Int)))) = true), (((decide (a1 ≥ (0 : Int))) && (decide (a1 < (63 : Int)))) = true), (0 ≤ IntKind.wrap .u64 (a1)), (((decide (a1 ≥ (0 : Int))) && (decide (a1 < (63 : Int)))) = true), (((decide (a1 ≥ (0 : Int))) && (decide (a1 < (63 : Int)))) = true), (((decide (a1 ≥ (0 : Int))) && (decide (a1 < (63 : Int)))) = true)]) rfl (by kernel_rfl) (allP2 h1 (allP2 h1 (allP2 h1 (allP2 h1 (allP2 h2 (allP2 h1 (allP2 h1 (allP1 h1)))))))) ?_
    refine WO_fin [4] [] (fr' := [(4, aB ((bAnd .i64 a0 (bShl .i64 (1 : Int) (IntKind.wrap .u64 (a1)))) != (0 : Int)))]) (L' := []) (by kernel_rfl) (by kernel_rfl) ?_
    refine seqQ_norm ?_
    obtain rfl := Option.some.inj h
    refine W_ret [4] [] (fr' := [(4, aB ((bAnd .i64 a0 (bShl .i64 (1 : Int) (IntKind.wrap .u64 (a1)))) != (0 : Int)))]) (L' := []) (by kernel_rfl) (by kernel_rfl) ?_
    exact retQ_mk (by kernel_rfl) (by kernel_rfl) (by kernel_rfl)
  · replace h := ofF h1 h
    refine WO_run (j := 15) (k := 8) (orcs := [(14, .known false), (16, .known false), (18, .known false), (20, .known false), (22, .known false), (24, .known false), (27, .val (.dat .bool false))]) (kF := [4]) (kL := []) (fr' := [(4, aB false)]) (L' := []) (obs := [(((decide (a1 ≥ (0 : Int))) && (decide (a1 < (63 : Int)))) = false), (((decide (a1 ≥ (0 : Int))) && (decide (a1 < (63 : Int)))) = false), (((decide (a1 ≥ (0 : Int))) && (decide (a1 < (63 : Int)))) = false), (((decide (a1 ≥ (0 : Int))) && (decide (a1 < (63 : Int)))) = false), (((decide (a1 ≥ (0 : Int))) && (decide (a1 < (63 : Int)))) = false), (((decide (a1 ≥ (0 : Int))) && (decide (a1 < (63 : Int)))) = false), (((decide (a1 ≥ (0 : Int))) && (decide (a1 < (63 : Int)))) = false)]) rfl (by kernel_rfl) (allP2 h1 (allP2 h1 (allP2 h1 (allP2 h1 (allP2 h1 (allP2 h1 (allP1 h1))))))) ?_
    refine WO_fin [4] [] (fr' := [(4, aB false)]) (L' := []) (by kernel_rfl) (by kernel_rfl) ?_
    refine seqQ_norm ?_
    obtain rfl := Option.some.inj h
    refine W_ret [4] [] (fr' := [(4, aB false)]) (L' := []) (by kernel_rfl) (by kernel_rfl) ?_
    exact retQ_mk (by kernel_rfl) (by kernel_rfl) (by kernel_rfl)

@[reducible] def ref_ListOf_s3 (a0 : Int) (i30 : Int) (v : (List Int)) : Fr × LL := ([(0, aI a0), (3, .one (.slc 15)), (4, aI i30)], [(15, .seq tI v)])
def ref_ListOf_b4 (a0 : Int) (i30 : Int) (x31 : (List Int)) : Option (Flow (List Int) (List Int)) :=
((ref_Bit a0 i30).bind fun r42 =>
bif r42 then
((ck ((List.length x31 : Int) + 1 ≤ 4294967296)).bind fun _ =>
some (x31 ++ [i30]))
else
(some x31)).bind fun v46 =>
some (.next v46)
@[reducible] def ref_ListOf_s5 (a0 : Int) (v : Int × (List Int)) : Fr × LL := ([(0, aI a0), (3, .one (.slc 15)), (4, aI v.1)], [(15, .seq tI v.2)])
@[reducible] def ref_ListOf_s6 (v : (List Int)) : Fr × LL := ([(3, .one (.slc 15))], [(15, .seq tI v)])
def ref_ListOf (a0 : Int) : Option (List Int) :=
(forI (0 : Int) (63 : Int) (ref_ListOf_b4 a0) (fun x31 => x31) []).bind fun v49 =>
some v49
theorem ref_ListOf_ok {a0 : Int} {r : (List Int)} (h : ref_ListOf a0 = some r) : FnC Try.prog 29 [aI a0] [] (aD (.slice tI) r) [] := by
  refine fnC_of_W (B := bodyOf Try.f29) (n := 17) Try.func29 (by kernel_rfl) (by kernel_rfl) (by kernel_rfl) (by kernel_rfl) (by kernel_rfl) ?_
  intro K
  refine W_seq (by kernel_rfl) ?_
  refine W_run 1 [] [0] [] (fr' := [(0, aI a0)]) (L' := []) (obs := []) (by kernel_rfl) (by kernel_rfl) (by kernel_rfl) allP0 ?_
  refine seqQ_norm ?_
  refine W_seq (by kernel_rfl) ?_
  refine W_run 1 [] [0, 3] [] (fr' := [(0, aI a0), (3, .one (.nilS))]) (L' := []) (obs := []) (by kernel_rfl) (by kernel_rfl) (by kernel_rfl) allP0 ?_
  refine seqQ_norm ?_
  refine W_seq (by kernel_rfl) ?_
  refine W_seq (by kernel_rfl) ?_
  refine W_run 1 [] [0, 3, 4] [] (fr' := [(0, aI a0), (3, .one (.nilS)), (4, aI (0 : Int))]) (L' := []) (obs := []) (by kernel_rfl) (by kernel_rfl) (by kernel_rfl) allP0 ?_
  refine seqQ_norm ?_
  refine W_block (id := 0) (by kernel_rfl) ?_
  obtain ⟨v49, h50, h⟩ := bind_of h
  obtain ⟨h51, h52⟩ := forI_iter h50
  refine W_mine 3 15 tI (by kernel_rfl) ?_
  refine W_weaken [0, 3, 4] [15] (fr' := ((ref_ListOf_s5 a0) ((0 : Int), [])).1) (L' := ((ref_ListOf_s5 a0) ((0 : Int), [])).2) (by kernel_rfl) ?_
  refine W_cutK (W_loop (S := (ref_ListOf_s5 a0)) (J := (exQ (.exit 0) ref_ListOf_s6)) (by kernel_rfl) ?_ h51 _ v49 h52) ?_
  · rintro ⟨i30, x31⟩ s h
    refine W_seq (by kernel_rfl) ?_
    refine W_seq (by kernel_rfl) ?_
    refine W_run 2 [] [0, 3, 4, 6] [15] (fr' := [(0, aI a0), (3, .one (.slc 15)), (4, aI i30), (6, aB (decide (i30 < (63 : Int))))]) (L' := [(15, .seq tI x31)]) (obs := []) (by kernel_rfl) (by kernel_rfl) (by kernel_rfl) allP0 ?_
    refine seqQ_norm ?_
    refine W_cond (o := .tmp 6) (b := decide (i30 < (63 : Int))) (by kernel_rfl) (by kernel_rfl) (fun h33 => ?_) (fun h33 => ?_)
    · replace h := stepI_true h33 h
      obtain ⟨_, h, rfl⟩ := h
      refine W_skip [0, 3, 4] [15] (fr' := [(0, aI a0), (3, .one (.slc 15)), (4, aI i30)]) (L' := [(15, .seq tI x31)]) (by kernel_rfl) (by kernel_rfl) ?_
      refine seqQ_norm ?_
      refine W_seq (by kernel_rfl) ?_
      obtain ⟨v46, h47, h⟩ := bind_of h
      refine W_cutK (Q' := (exQ .normal (ref_ListOf_s3 a0 i30)) v46) ?_ ?_
      · replace h := h47
        refine W_block (id := 1) (by kernel_rfl) ?_
        refine W_seq (by kernel_rfl) ?_
        refine W_region (by kernel_rfl) ?_
        refine WO_run (j := 2) (k := 2) (orcs := []) (kF := [0, 3, 4, 9, 10]) (kL := [15]) (fr' := [(0, aI a0), (3, .one (.slc 15)), (4, aI i30), (9, aI a0), (10, aI i30)]) (L' := [(15, .seq tI x31)]) (obs := []) rfl (by kernel_rfl) allP0 ?_
        obtain ⟨r42, h43, h⟩ := bind_of h
        refine WO_call0 (us := [none, none]) (d := 11) (p := True) (j := 3) rfl ⟨by kernel_rfl, by kernel_rfl, by kernel_rfl⟩ trivial (ref_Bit_ok h43) (by kernel_rfl) ?_
        refine WO_fin [0, 3, 4, 11] [15] (fr' := [(0, aI a0), (3, .one (.slc 15)), (4, aI i30), (11, aB r42)]) (L' := [(15, .seq tI x31)]) (by kernel_rfl) (by kernel_rfl) ?_
        refine seqQ_norm ?_
        refine W_cond (o := .tmp 11) (b := r42) (by kernel_rfl) (by kernel_rfl) (fun h44 => ?_) (fun h44 => ?_)
        · replace h := ofT h44 h
          obtain ⟨_, h45, h⟩ := bind_of h
          replace h45 := ck_some h45
          obtain rfl := Option.some.inj h
          refine W_run 5 [] [0, 3, 4] [15] (fr' := [(0, aI a0), (3, .one (.slc 15)), (4, aI i30)]) (L' := [(15, .seq tI (x31 ++ [i30]))]) (obs := [SmallLen (List.length x31 + List.length [i30])]) (by kernel_rfl) (by kernel_rfl) (by kernel_rfl) (allP1 h45) ?_
          refine blockQ_norm ?_
          exact exQ_mk (by kernel_rfl) (by kernel_rfl)
        · replace h := ofF h44 h
          obtain rfl := Option.some.inj h
          refine W_skip [0, 3, 4] [15] (fr' := [(0, aI a0), (3, .one (.slc 15)), (4, aI i30)]) (L' := [(15, .seq tI x31)]) (by kernel_rfl) (by kernel_rfl) ?_
          refine blockQ_norm ?_
          exact exQ_mk (by kernel_rfl) (by kernel_rfl)
      · intro e fr L hJ
        obtain ⟨rfl, rfl, rfl⟩ := hJ
        refine LT_keep [0, 3, 4] [15] (fr' := [(0, aI a0), (3, .one (.slc 15)), (4, aI i30)]) (L' := [(15, .seq tI v46)]) (by kernel_rfl) ?_
        refine seqQ_norm ?_
        obtain rfl := Option.some.inj h
        refine W_run 3 [] [0, 3, 4] [15] (fr' := [(0, aI a0), (3, .one (.slc 15)), (4, aI (w64 (i30 + (1 : Int))))]) (L' := [(15, .seq tI v46)]) (obs := []) (by kernel_rfl) (by kernel_rfl) (by kernel_rfl) allP0 ?_
        exact round_next' (by kernel_rfl) (by kernel_rfl)
    · obtain rfl := stepI_false h33 h
      refine W_exit (id := 0) [3] [15] (fr' := [(3, .one (.slc 15))]) (L' := [(15, .seq tI x31)]) (by kernel_rfl) (by kernel_rfl) ?_
      refine seqQ_exit ?_
      refine round_exit ?_
      exact exQ_mk (by kernel_rfl) (by kernel_rfl)
  · intro e fr L hJ
    obtain ⟨rfl, rfl, rfl⟩ := hJ
    refine LT_keep [3] [15] (fr' := [(3, .one (.slc 15))]) (L' := [(15, .seq tI v49)]) (by kernel_rfl) ?_
    refine blockQ_hit ?_
    refine seqQ_norm ?_
    refine W_seq (by kernel_rfl) ?_
    refine W_run 2 [] [2] [15] (fr' := [(2, .one (.slc 15))]) (L' := [(15, .seq tI v49)]) (obs := []) (by kernel_rfl) (by kernel_rfl) (by kernel_rfl) allP0 ?_
    refine seqQ_norm ?_
    obtain rfl := Option.some.inj h
    refine W_frz 15 (by kernel_rfl) ?_
    refine W_ret [2] [] (fr' := [(2, aD (.slice tI) v49)]) (L' := []) (by kernel_rfl) (by kernel_rfl) ?_
    exact retQ_mk (by kernel_rfl) (by kernel_rfl) (by kernel_rfl)

def ref_Ahead_b1 (a0 : (List Int)) (a1 : (List Int)) (x8 : Int) : Option (Flow Int (Esc Bool Unit)) :=
bif (decide (x8 < (List.length a0 : Int))) && (decide (x8 < (List.length a1 : Int))) then
((idx a0 x8).bind fun v16 =>
(idx a1 x8).bind fun v18 =>
bif v16 != v18 then
(some (.done (.ret (decide (v16 < v18)))))
else
(some (.next (w64 (x8 + (1 : Int))))))
else
(some (.done (.brk ())))
@[reducible] def ref_Ahead_s2 (a0 : (List Int)) (a1 : (List Int)) (v : Int) : Fr × LL := ([(0, aD (.slice tI) a0), (1, aD (.slice tI) a1), (5, aI v)], [])
@[reducible] def ref_Ahead_s3 (v : Bool) : Fr × LL := ([(4, aB v)], [])
@[reducible] def ref_Ahead_s4 (a0 : (List Int)) (a1 : (List Int)) (v : Unit) : Fr × LL := ([(0, aD (.slice tI) a0), (1, aD (.slice tI) a1)], [])
def ref_Ahead (fuel : Nat) (a0 : (List Int)) (a1 : (List Int)) : Option Bool :=
(iter (ref_Ahead_b1 a0 a1) fuel (0 : Int)).bind fun v21 =>
match v21 with
| .ret v25 =>
(some v25)
| .brk v26 =>
(some (decide ((List.length a0 : Int) < (List.length a1 : Int))))
theorem ref_Ahead_ok {fuel : Nat} {a0 : (List Int)} {a1 : (List Int)} {r : Bool} (h : ref_Ahead fuel a0 a1 = some r) : FnC Try.prog 28 [aD (.slice tI) a0, aD (.slice tI) a1] [] (aB r) [] := by
  refine fnC_of_W (B := bodyOf Try.f28) (n := 41) Try.func28 (by kernel_rfl) (by kernel_rfl) (by kernel_rfl) (by kernel_rfl) (by kernel_rfl) ?_
  intro K
  refine W_seq (by kernel_rfl) ?_
  refine W_run 1 [] [0, 1] [] (fr' := [(0, aD (.slice tI) a0), (1, aD (.slice tI) a1)]) (L' := []) (obs := []) (by kernel_rfl) (by kernel_rfl) (by kernel_rfl) allP0 ?_
  refine seqQ_norm ?_
  refine W_seq (by kernel_rfl) ?_
  refine W_seq (by kernel_rfl) ?_
  refine W_run 1 [] [0, 1, 5] [] (fr' := [(0, aD (.slice tI) a0), (1, aD (.slice tI) a1), (5, aI (0 : Int))]) (L' := []) (obs := []) (by kernel_rfl) (by kernel_rfl) (by kernel_rfl) allP0 ?_
  refine seqQ_norm ?_
  refine W_block (id := 0) (by kernel_rfl) ?_
  obtain ⟨v21, h22, h⟩ := bind_of h
  refine W_weaken [0, 1, 5] [] (fr' := ((ref_Ahead_s2 a0 a1) (0 : Int)).1) (L' := ((ref_Ahead_s2 a0 a1) (0 : Int)).2) (by kernel_rfl) ?_
  refine W_cutK (W_loop (S := (ref_Ahead_s2 a0 a1)) (J := (escQ (exQ .ret ref_Ahead_s3) (exQ (.exit 0) (ref_Ahead_s4 a0 a1)))) (by kernel_rfl) ?_ fuel _ v21 h22) ?_
  · rintro x8 s h
    refine W_seq (by kernel_rfl) ?_
    refine W_seq (by kernel_rfl) ?_
    refine W_run 10 [] [0, 1, 5, 15] [] (fr' := [(0, aD (.slice tI) a0), (1, aD (.slice tI) a1), (5, aI x8), (15, aB ((decide (x8 < (List.length a0 : Int))) && (decide (x8 < (List.length a1 : Int)))))]) (L' := []) (obs := []) (by kernel_rfl) (by kernel_rfl) (by kernel_rfl) allP0 ?_
    refine seqQ_norm ?_
    refine W_cond (o := .tmp 15) (b := (decide (x8 < (List.length a0 : Int))) && (decide (x8 < (List.length a1 : Int)))) (by kernel_rfl) (by kernel_rfl) (fun h15 => ?_) (fun h15 => ?_)
    · replace h := ofT h15 h
      refine W_skip [0, 1, 5] [] (fr' := [(0, aD (.slice tI) a0), (1, aD (.slice tI) a1), (5, aI x8)]) (L' := []) (by kernel_rfl) (by kernel_rfl) ?_
      refine seqQ_norm ?_
      refine W_seq (by kernel_rfl) ?_
      refine W_block (id := 1) (by kernel_rfl) ?_
      refine W_seq (by kernel_rfl) ?_
      obtain ⟨v16, h17, h⟩ := bind_of h
      obtain ⟨v18, h19, h⟩ := bind_of h
      refine W_draw2 9 [(5, .val (.dat tI v16)), (13, .val (.dat tI v18))] [] [0, 1, 5, 26] [] (fr' := [(0, aD (.slice tI) a0), (1, aD (.slice tI) a1), (5, aI x8), (26, aB (v16 != v18))]) (L' := []) (out := [(18, aD (.slice tI) a0), (19, aI x8), (20, .one (.dptr tI v16)), (21, aI v16), (22, aD (.slice tI) a1), (23, aI x8), (24, .one (.dptr tI v18)), (25, aI v18), (26, aB (v16 != v18))]) (obs := [Idx a0 x8 v16, Idx a1 x8 v18]) (obs2 := []) (calls := []) (by kernel_rfl) (by kernel_rfl) (by kernel_rfl) (by kernel_rfl) (allP2 (Idx.of h17) (allP1 (Idx.of h19))) allC0 (by kernel_rfl) allP0 ?_
      refine seqQ_norm ?_
      refine W_cond (o := .tmp 26) (b := v16 != v18) (by kernel_rfl) (by kernel_rfl) (fun h20 => ?_) (fun h20 => ?_)
      · replace h := ofT h20 h
        refine W_seq (by kernel_rfl) ?_
        refine W_draw2 9 [(5, .val (.dat tI v16)), (13, .val (.dat tI v18))] [] [4] [] (fr' := [(4, aB (decide (v16 < v18)))]) (L' := []) (out := [(27, aD (.slice tI) a0), (28, aI x8), (29, .one (.dptr tI v16)), (30, aI v16), (31, aD (.slice tI) a1), (32, aI x8), (33, .one (.dptr tI v18)), (34, aI v18), (35, aB (decide (v16 < v18)))]) (obs := [Idx a0 x8 v16, Idx a1 x8 v18]) (obs2 := []) (calls := []) (by kernel_rfl) (by kernel_rfl) (by kernel_rfl) (by kernel_rfl) (allP2 (Idx.of h17) (allP1 (Idx.of h19))) allC0 (by kernel_rfl) allP0 ?_
        refine seqQ_norm ?_
        obtain rfl := Option.some.inj h
        refine W_ret [4] [] (fr' := [(4, aB (decide (v16 < v18)))]) (L' := []) (by kernel_rfl) (by kernel_rfl) ?_
        refine blockQ_ret ?_
        refine seqQ_ret ?_
        refine round_ret ?_
        refine escQ_ret ?_
        exact exQ_mk (by kernel_rfl) (by kernel_rfl)
      · replace h := ofF h20 h
        refine W_skip [0, 1, 5] [] (fr' := [(0, aD (.slice tI) a0), (1, aD (.slice tI) a1), (5, aI x8)]) (L' := []) (by kernel_rfl) (by kernel_rfl) ?_
        refine blockQ_norm ?_
        refine seqQ_norm ?_
        obtain rfl := Option.some.inj h
        refine W_run 3 [] [0, 1, 5] [] (fr' := [(0, aD (.slice tI) a0), (1, aD (.slice tI) a1), (5, aI (w64 (x8 + (1 : Int))))]) (L' := []) (obs := []) (by kernel_rfl) (by kernel_rfl) (by kernel_rfl) allP0 ?_
        exact round_next' (by kernel_rfl) (by kernel_rfl)
    · replace h := ofF h15 h
      obtain rfl := Option.some.inj h
      refine W_exit (id := 0) [0, 1] [] (fr' := [(0, aD (.slice tI) a0), (1, aD (.slice tI) a1)]) (L' := []) (by kernel_rfl) (by kernel_rfl) ?_
      refine seqQ_exit ?_
      refine round_exit ?_
      refine escQ_brk ?_
      exact exQ_mk (by kernel_rfl) (by kernel_rfl)
  · intro e fr L hJ
    rcases v21 with v25 | v26
    · obtain ⟨rfl, rfl, rfl⟩ := hJ
      obtain rfl := Option.some.inj h
      refine LT_keep [4] [] (fr' := [(4, aB v25)]) (L' := []) (by kernel_rfl) ?_
      refine blockQ_ret ?_
      refine seqQ_ret ?_
      exact retQ_mk (by kernel_rfl) (by kernel_rfl) (by kernel_rfl)
    · obtain ⟨rfl, rfl, rfl⟩ := hJ
      refine LT_keep [0, 1] [] (fr' := [(0, aD (.slice tI) a0), (1, aD (.slice tI) a1)]) (L' := []) (by kernel_rfl) ?_
      refine blockQ_hit ?_
      refine seqQ_norm ?_
      refine W_seq (by kernel_rfl) ?_
      refine W_run 6 [] [4] [] (fr' := [(4, aB (decide ((List.length a0 : Int) < (List.length a1 : Int))))]) (L' := []) (obs := []) (by kernel_rfl) (by kernel_rfl) (by kernel_rfl) allP0 ?_
      refine seqQ_norm ?_
      obtain rfl := Option.some.inj h
      refine W_ret [4] [] (fr' := [(4, aB (decide ((List.length a0 : Int) < (List.length a1 : Int))))]) (L' := []) (by kernel_rfl) (by kernel_rfl) ?_
      exact retQ_mk (by kernel_rfl) (by kernel_rfl) (by kernel_rfl)

def ref_Ints_b1 (a1 : (List Int)) (i16 : Int) (v19 : Int) (x17 : Unit) : Option (Flow Unit (Esc Bool Unit)) :=
(idx a1 i16).bind fun v22 =>
bif v19 != v22 then
(some (.done (.ret false)))
else
(some (.next ()))
@[reducible] def ref_Ints_s2 (a0 : (List Int)) (a1 : (List Int)) (v : Int × Unit) : Fr × LL := ([(0, aD (.slice tI) a0), (1, aD (.slice tI) a1), (5, aI v.1)], [])
@[reducible] def ref_Ints_s3 (v : Bool) : Fr × LL := ([(4, aB v)], [])
@[reducible] def ref_Ints_s4 (v : Unit) : Fr × LL := ([], [])
def ref_Ints (a0 : (List Int)) (a1 : (List Int)) : Option Bool :=
bif (List.length a0 : Int) != (List.length a1 : Int) then
(some false)
else
((forL (ref_Ints_b1 a1) (fun x17 => (.brk ())) a0 0 ()).bind fun v26 =>
match v26 with
| .ret v31 =>
(some v31)
| .brk v32 =>
(some true))
theorem ref_Ints_ok {a0 : (List Int)} {a1 : (List Int)} {r : Bool} (h : ref_Ints a0 a1 = some r) : FnC Try.prog 30 [aD (.slice tI) a0, aD (.slice tI) a1] [] (aB r) [] := by
  refine fnC_of_W (B := bodyOf Try.f30) (n := 26) Try.func30 (by kernel_rfl) (by kernel_rfl) (by kernel_rfl) (by kernel_rfl) (by kernel_rfl) ?_
  intro K
  refine W_seq (by kernel_rfl) ?_
  refine W_run 1 [] [0, 1] [] (fr' := [(0, aD (.slice tI) a0), (1, aD (.slice tI) a1)]) (L' := []) (obs := []) (by kernel_rfl) (by kernel_rfl) (by kernel_rfl) allP0 ?_
  refine seqQ_norm ?_
  refine W_seq (by kernel_rfl) ?_
  refine W_seq (by kernel_rfl) ?_
  refine W_run 5 [] [0, 1, 10] [] (fr' := [(0, aD (.slice tI) a0), (1, aD (.slice tI) a1), (10, aB ((List.length a0 : Int) != (List.length a1 : Int)))]) (L' := []) (obs := []) (by kernel_rfl) (by kernel_rfl) (by kernel_rfl) allP0 ?_
  refine seqQ_norm ?_
  refine W_cond (o := .tmp 10) (b := (List.length a0 : Int) != (List.length a1 : Int)) (by kernel_rfl) (by kernel_rfl) (fun h1 => ?_) (fun h1 => ?_)
  · replace h := ofT h1 h
    refine W_seq (by kernel_rfl) ?_
    refine W_run 1 [] [4] [] (fr' := [(4, aB false)]) (L' := []) (obs := []) (by kernel_rfl) (by kernel_rfl) (by kernel_rfl) allP0 ?_
    refine seqQ_norm ?_
    obtain rfl := Option.some.inj h
    refine W_ret [4] [] (fr' := [(4, aB false)]) (L' := []) (by kernel_rfl) (by kernel_rfl) ?_
    refine seqQ_ret ?_
    exact retQ_mk (by kernel_rfl) (by kernel_rfl) (by kernel_rfl)
  · replace h := ofF h1 h
    refine W_skip [0, 1] [] (fr' := [(0, aD (.slice tI) a0), (1, aD (.slice tI) a1)]) (L' := []) (by kernel_rfl) (by kernel_rfl) ?_
    refine seqQ_norm ?_
    refine W_seq (by kernel_rfl) ?_
    refine W_seq (by kernel_rfl) ?_
    refine W_run 1 [] [0, 1, 5] [] (fr' := [(0, aD (.slice tI) a0), (1, aD (.slice tI) a1), (5, aI (0 : Int))]) (L' := []) (obs := []) (by kernel_rfl) (by kernel_rfl) (by kernel_rfl) allP0 ?_
    refine seqQ_norm ?_
    refine W_block (id := 0) (by kernel_rfl) ?_
    obtain ⟨v26, h27, h⟩ := bind_of h
    refine W_len (t := 0) (u := tI) (xs := a0) (by kernel_rfl) (fun h30 => ?_)
    obtain ⟨h28, h29⟩ := forL_iter h30 h27
    refine W_weaken [0, 1, 5] [] (fr' := ((ref_Ints_s2 a0 a1) ((0 : Int), ())).1) (L' := ((ref_Ints_s2 a0 a1) ((0 : Int), ())).2) (by kernel_rfl) ?_
    refine W_cutK (W_loop (S := (ref_Ints_s2 a0 a1)) (J := (escQ (exQ .ret ref_Ints_s3) (exQ (.exit 0) ref_Ints_s4))) (by kernel_rfl) ?_ h28 _ v26 h29) ?_
    · rintro ⟨i16, x17⟩ s h
      refine W_seq (by kernel_rfl) ?_
      refine W_seq (by kernel_rfl) ?_
      refine W_run 4 [] [0, 1, 5, 14] [] (fr' := [(0, aD (.slice tI) a0), (1, aD (.slice tI) a1), (5, aI i16), (14, aB (decide (i16 < (List.length a0 : Int))))]) (L' := []) (obs := []) (by kernel_rfl) (by kernel_rfl) (by kernel_rfl) allP0 ?_
      refine seqQ_norm ?_
      refine W_cond (o := .tmp 14) (b := decide (i16 < (List.length a0 : Int))) (by kernel_rfl) (by kernel_rfl) (fun h21 => ?_) (fun h21 => ?_)
      · replace h := stepL_true h21 h
        obtain ⟨v19, _, h20, h, rfl⟩ := h
        refine W_skip [0, 1, 5] [] (fr' := [(0, aD (.slice tI) a0), (1, aD (.slice tI) a1), (5, aI i16)]) (L' := []) (by kernel_rfl) (by kernel_rfl) ?_
        refine seqQ_norm ?_
        refine W_seq (by kernel_rfl) ?_
        refine W_block (id := 1) (by kernel_rfl) ?_
        refine W_seq (by kernel_rfl) ?_
        obtain ⟨v22, h23, h⟩ := bind_of h
        refine W_draw2 9 [(5, .val (.dat tI v19)), (13, .val (.dat tI v22))] [] [0, 1, 5, 25] [] (fr' := [(0, aD (.slice tI) a0), (1, aD (.slice tI) a1), (5, aI i16), (25, aB (v19 != v22))]) (L' := []) (out := [(17, aD (.slice tI) a0), (18, aI i16), (19, .one (.dptr tI v19)), (20, aI v19), (21, aD (.slice tI) a1), (22, aI i16), (23, .one (.dptr tI v22)), (24, aI v22), (25, aB (v19 != v22))]) (obs := [Idx a0 i16 v19, Idx a1 i16 v22]) (obs2 := []) (calls := []) (by kernel_rfl) (by kernel_rfl) (by kernel_rfl) (by kernel_rfl) (allP2 (Idx.of h20) (allP1 (Idx.of h23))) allC0 (by kernel_rfl) allP0 ?_
        refine seqQ_norm ?_
        refine W_cond (o := .tmp 25) (b := v19 != v22) (by kernel_rfl) (by kernel_rfl) (fun h24 => ?_) (fun h24 => ?_)
        · replace h := ofT h24 h
          refine W_seq (by kernel_rfl) ?_
          refine W_run 1 [] [4] [] (fr' := [(4, aB false)]) (L' := []) (obs := []) (by kernel_rfl) (by kernel_rfl) (by kernel_rfl) allP0 ?_
          refine seqQ_norm ?_
          obtain rfl := Option.some.inj h
          refine W_ret [4] [] (fr' := [(4, aB false)]) (L' := []) (by kernel_rfl) (by kernel_rfl) ?_
          refine blockQ_ret ?_
          refine seqQ_ret ?_
          refine round_ret ?_
          refine escQ_ret ?_
          exact exQ_mk (by kernel_rfl) (by kernel_rfl)
        · replace h := ofF h24 h
          refine W_skip [0, 1, 5] [] (fr' := [(0, aD (.slice tI) a0), (1, aD (.slice tI) a1), (5, aI i16)]) (L' := []) (by kernel_rfl) (by kernel_rfl) ?_
          refine blockQ_norm ?_
          refine seqQ_norm ?_
          obtain rfl := Option.some.inj h
          refine W_run 3 [] [0, 1, 5] [] (fr' := [(0, aD (.slice tI) a0), (1, aD (.slice tI) a1), (5, aI (w64 (i16 + (1 : Int))))]) (L' := []) (obs := []) (by kernel_rfl) (by kernel_rfl) (by kernel_rfl) allP0 ?_
          exact round_next' (by kernel_rfl) (by kernel_rfl)
      · obtain rfl := stepL_false h21 h
        refine W_exit (id := 0) [] [] (fr' := []) (L' := []) (by kernel_rfl) (by kernel_rfl) ?_
        refine seqQ_exit ?_
        refine round_exit ?_
        refine escQ_brk ?_
        exact exQ_mk (by kernel_rfl) (by kernel_rfl)
    · intro e fr L hJ
      rcases v26 with v31 | v32
      · obtain ⟨rfl, rfl, rfl⟩ := hJ
        obtain rfl := Option.some.inj h
        refine LT_keep [4] [] (fr' := [(4, aB v31)]) (L' := []) (by kernel_rfl) ?_
        refine blockQ_ret ?_
        refine seqQ_ret ?_
        exact retQ_mk (by kernel_rfl) (by kernel_rfl) (by kernel_rfl)
      · obtain ⟨rfl, rfl, rfl⟩ := hJ
        refine LT_keep [] [] (fr' := []) (L' := []) (by kernel_rfl) ?_
        refine blockQ_hit ?_
        refine seqQ_norm ?_
        refine W_seq (by kernel_rfl) ?_
        refine W_run 1 [] [4] [] (fr' := [(4, aB true)]) (L' := []) (obs := []) (by kernel_rfl) (by kernel_rfl) (by kernel_rfl) allP0 ?_
        refine seqQ_norm ?_
        obtain rfl := Option.some.inj h
        refine W_ret [4] [] (fr' := [(4, aB true)]) (L' := []) (by kernel_rfl) (by kernel_rfl) ?_
        exact retQ_mk (by kernel_rfl) (by kernel_rfl) (by kernel_rfl)

@[reducible] def law_HardSums_s13 (a0 : (List Int)) (a1 : Int) (r1 : ((List Int) × Int)) (i100 : Int) (x101 : Int) (v : Bool) : Fr × LL := ([(0, aD (.slice tI) a0), (1, aI a1), (5, aD (.slice tI) r1.1), (6, aI r1.2), (7, aI x101), (25, aD (.slice tI) a0), (26, aI (List.length a0 : Int)), (27, aI i100), (37, aB v)], [])
def law_HardSums_g14 (x101 : Int) (v103 : Int) : Option Int :=
(bif x101 == (0 : Int) then
((ref_Within (0 : Int) v103 (1000000000 : Int)).bind fun r137 =>
some (!r137))
else
(some false)).bind fun v139 =>
bif v139 then
(some (4 : Int))
else
(some x101)
@[reducible] def law_HardSums_s15 (a0 : (List Int)) (a1 : Int) (r1 : ((List Int) × Int)) (i100 : Int) (v : Int) : Fr × LL := ([(0, aD (.slice tI) a0), (1, aI a1), (5, aD (.slice tI) r1.1), (6, aI r1.2), (7, aI v), (25, aD (.slice tI) a0), (26, aI (List.length a0 : Int)), (27, aI i100)], [])
def law_HardSums_b16 (i100 : Int) (v103 : Int) (x101 : Int) : Option (Flow Int Int) :=
(law_HardSums_g14 x101 v103).bind fun v142 =>
some (.next v142)
@[reducible] def law_HardSums_s17 (a0 : (List Int)) (a1 : Int) (r1 : ((List Int) × Int)) (v : Int × Int) : Fr × LL := ([(0, aD (.slice tI) a0), (1, aI a1), (5, aD (.slice tI) r1.1), (6, aI r1.2), (7, aI v.2), (25, aD (.slice tI) a0), (26, aI (List.length a0 : Int)), (27, aI v.1)], [])
@[reducible] def law_HardSums_s18 (a0 : (List Int)) (a1 : Int) (r1 : ((List Int) × Int)) (v : Int) : Fr × LL := ([(0, aD (.slice tI) a0), (1, aI a1), (5, aD (.slice tI) r1.1), (6, aI r1.2), (7, aI v)], [])
@[reducible] def law_HardSums_s86 (a0 : (List Int)) (a1 : Int) (r1 : ((List Int) × Int)) (x363 : ((List Int) × Bool × Int)) (i828 : Int) (v : Int) : Fr × LL := ([(0, aD (.slice tI) a0), (1, aI a1), (5, aD (.slice tI) r1.1), (6, aI r1.2), (10, aD (.slice tI) x363.1), (11, aB x363.2.1), (12, aI x363.2.2), (13, aI v), (57, aD (.slice tI) a0), (58, aI (List.length a0 : Int)), (59, aI i828)], [])
def law_HardSums_b87 (x363 : ((List Int) × Bool × Int)) (i828 : Int) (v831 : Int) (x829 : Int) : Option (Flow Int Int) :=
((ref_Bit x363.2.2 i828).bind fun r840 =>
bif r840 then
(some (w64 (x829 + v831)))
else
(some x829)).bind fun v843 =>
some (.next v843)
@[reducible] def law_HardSums_s88 (a0 : (List Int)) (a1 : Int) (r1 : ((List Int) × Int)) (x363 : ((List Int) × Bool × Int)) (v : Int × Int) : Fr × LL := ([(0, aD (.slice tI) a0), (1, aI a1), (5, aD (.slice tI) r1.1), (6, aI r1.2), (10, aD (.slice tI) x363.1), (11, aB x363.2.1), (12, aI x363.2.2), (13, aI v.2), (57, aD (.slice tI) a0), (58, aI (List.length a0 : Int)), (59, aI v.1)], [])
@[reducible] def law_HardSums_s89 (a0 : (List Int)) (a1 : Int) (r1 : ((List Int) × Int)) (x363 : ((List Int) × Bool × Int)) (v : Int) : Fr × LL := ([(0, aD (.slice tI) a0), (1, aI a1), (5, aD (.slice tI) r1.1), (6, aI r1.2), (10, aD (.slice tI) x363.1), (11, aB x363.2.1), (12, aI x363.2.2), (13, aI v)], [])
def law_HardSums_g90 (a1 : Int) (fuel : Nat) (x363 : ((List Int) × Bool × Int)) (v846 : Int) : Option Bool :=
bif v846 == a1 then
(bif !x363.2.1 then
(some true)
else
((ref_ListOf x363.2.2).bind fun r865 =>
(ref_Ahead fuel r865 x363.1).bind fun r867 =>
some r867))
else
(some false)
@[reducible] def law_HardSums_s91 (a0 : (List Int)) (a1 : Int) (r1 : ((List Int) × Int)) (x363 : ((List Int) × Bool × Int)) (v : Bool) : Fr × LL := ([(0, aD (.slice tI) a0), (1, aI a1), (5, aD (.slice tI) r1.1), (6, aI r1.2), (10, aD (.slice tI) x363.1), (11, aB x363.2.1), (12, aI x363.2.2), (83, aB v)], [])
def law_HardSums_g92 (a0 : (List Int)) (a1 : Int) (fuel : Nat) (x363 : ((List Int) × Bool × Int)) : Option ((List Int) × Bool) :=
(forL (law_HardSums_b87 x363) (fun x829 => x829) a0 0 (0 : Int)).bind fun v846 =>
(law_HardSums_g90 a1 fuel x363 v846).bind fun v869 =>
bif v869 then
((ref_ListOf x363.2.2).bind fun r872 =>
some (r872, true))
else
(some (x363.1, x363.2.1))
@[reducible] def law_HardSums_s93 (a0 : (List Int)) (a1 : Int) (r1 : ((List Int) × Int)) (x363 : ((List Int) × Bool × Int)) (v : ((List Int) × Bool)) : Fr × LL := ([(0, aD (.slice tI) a0), (1, aI a1), (5, aD (.slice tI) r1.1), (6, aI r1.2), (10, aD (.slice tI) v.1), (11, aB v.2), (12, aI x363.2.2)], [])
def law_HardSums_b94 (a0 : (List Int)) (a1 : Int) (fuel : Nat) (x363 : ((List Int) × Bool × Int)) : Option (Flow ((List Int) × Bool × Int) ((List Int) × Bool)) :=
(ck (0 ≤ IntKind.wrap .u64 ((List.length a0 : Int)))).bind fun _ =>
bif decide (x363.2.2 < (bShl .i64 (1 : Int) (IntKind.wrap .u64 ((List.length a0 : Int))))) then
((law_HardSums_g92 a0 a1 fuel x363).bind fun v874 =>
some (.next (v874.1, v874.2, w64 (x363.2.2 + (1 : Int)))))
else
(some (.done (x363.1, x363.2.1)))
@[reducible] def law_HardSums_s95 (a0 : (List Int)) (a1 : Int) (r1 : ((List Int) × Int)) (v : ((List Int) × Bool × Int)) : Fr × LL := ([(0, aD (.slice tI) a0), (1, aI a1), (5, aD (.slice tI) r1.1), (6, aI r1.2), (10, aD (.slice tI) v.1), (11, aB v.2.1), (12, aI v.2.2)], [])
@[reducible] def law_HardSums_s96 (r1 : ((List Int) × Int)) (v : ((List Int) × Bool)) : Fr × LL := ([(5, aD (.slice tI) r1.1), (6, aI r1.2), (10, aD (.slice tI) v.1), (11, aB v.2)], [])
@[reducible] def law_HardSums_s97 (v : Bool) : Fr × LL := ([(4, aB v)], [])
@[reducible] def law_HardSums_s98 (a0 : (List Int)) (a1 : Int) (r1 : ((List Int) × Int)) (v : Int) : Fr × LL := ([(0, aD (.slice tI) a0), (1, aI a1), (5, aD (.slice tI) r1.1), (6, aI r1.2), (7, aI v)], [])
def law_HardSums (fuel : Nat) (a0 : (List Int)) (a1 : Int) : Option Bool :=
(hard_Sum fuel a0 a1).bind fun r1 =>
(bif decide ((List.length a0 : Int) > (16 : Int)) then
(some (1 : Int))
else
(some (0 : Int))).bind fun v6 =>
(forL law_HardSums_b16 (fun x101 => x101) a0 0 v6).bind fun v145 =>
bif v145 != (0 : Int) then
(some ((r1.2 == v145) && ((List.length r1.1 : Int) == (0 : Int))))
else
((iter (law_HardSums_b94 a0 a1 fuel) fuel ([], false, (0 : Int))).bind fun v876 =>
bif !v876.2 then
(some ((r1.2 == (5 : Int)) && ((List.length r1.1 : Int) == (0 : Int))))
else
((bif r1.2 == (0 : Int) then
((ref_Ints r1.1 v876.1).bind fun r888 =>
some r888)
else
(some false)).bind fun v890 =>
some v890))
theorem law_HardSums_ok {fuel : Nat} {a0 : (List Int)} {a1 : Int} {r : Bool} (h : law_HardSums fuel a0 a1 = some r) : FnC Try.prog 7 [aD (.slice tI) a0, aI a1] [] (aB r) [] := by
  refine fnC_of_W (B := bodyOf Try.f7) (n := 102) Try.func7 (by kernel_rfl) (by kernel_rfl) (by kernel_rfl) (by kernel_rfl) (by kernel_rfl) ?_
  intro K
  refine W_seq (by kernel_rfl) ?_
  refine W_run 1 [] [0, 1] [] (fr' := [(0, aD (.slice tI) a0), (1, aI a1)]) (L' := []) (obs := []) (by kernel_rfl) (by kernel_rfl) (by kernel_rfl) allP0 ?_
  refine seqQ_norm ?_
  refine W_seq (by kernel_rfl) ?_
  refine W_region (by kernel_rfl) ?_
  refine WO_run (j := 2) (k := 2) (orcs := []) (kF := [0, 1, 17, 18]) (kL := []) (fr' := [(0, aD (.slice tI) a0), (1, aI a1), (17, aD (.slice tI) a0), (18, aI a1)]) (L' := []) (obs := []) rfl (by kernel_rfl) allP0 ?_
  obtain ⟨r1, h2, h⟩ := bind_of h
  refine WO_call0 (us := [none, none]) (d := 19) (p := True) (j := 3) rfl ⟨by kernel_rfl, by kernel_rfl, by kernel_rfl⟩ trivial (hard_Sum_ok h2) (by kernel_rfl) ?_
  refine WO_run (j := 8) (k := 5) (orcs := []) (kF := [0, 1, 5, 6]) (kL := []) (fr' := [(0, aD (.slice tI) a0), (1, aI a1), (5, aD (.slice tI) r1.1), (6, aI r1.2)]) (L' := []) (obs := []) rfl (by kernel_rfl) allP0 ?_
  refine WO_fin [0, 1, 5, 6] [] (fr' := [(0, aD (.slice tI) a0), (1, aI a1), (5, aD (.slice tI) r1.1), (6, aI r1.2)]) (L' := []) (by kernel_rfl) (by kernel_rfl) ?_
  refine seqQ_norm ?_
  refine W_seq (by kernel_rfl) ?_
  refine W_run 1 [] [0, 1, 5, 6, 7] [] (fr' := [(0, aD (.slice tI) a0), (1, aI a1), (5, aD (.slice tI) r1.1), (6, aI r1.2), (7, aI (0 : Int))]) (L' := []) (obs := []) (by kernel_rfl) (by kernel_rfl) (by kernel_rfl) allP0 ?_
  refine seqQ_norm ?_
  refine W_seq (by kernel_rfl) ?_
  obtain ⟨v6, h7, h⟩ := bind_of h
  refine W_cutK (Q' := (exQ .normal (law_HardSums_s98 a0 a1 r1)) v6) ?_ ?_
  · replace h := h7
    refine W_seq (by kernel_rfl) ?_
    refine W_run 3 [] [0, 1, 5, 6, 7, 24] [] (fr' := [(0, aD (.slice tI) a0), (1, aI a1), (5, aD (.slice tI) r1.1), (6, aI r1.2), (7, aI (0 : Int)), (24, aB (decide ((List.length a0 : Int) > (16 : Int))))]) (L' := []) (obs := []) (by kernel_rfl) (by kernel_rfl) (by kernel_rfl) allP0 ?_
    refine seqQ_norm ?_
    refine W_cond (o := .tmp 24) (b := decide ((List.length a0 : Int) > (16 : Int))) (by kernel_rfl) (by kernel_rfl) (fun h5 => ?_) (fun h5 => ?_)
    · replace h := ofT h5 h
      obtain rfl := Option.some.inj h
      refine W_run 1 [] [0, 1, 5, 6, 7] [] (fr' := [(0, aD (.slice tI) a0), (1, aI a1), (5, aD (.slice tI) r1.1), (6, aI r1.2), (7, aI (1 : Int))]) (L' := []) (obs := []) (by kernel_rfl) (by kernel_rfl) (by kernel_rfl) allP0 ?_
      exact exQ_mk (by kernel_rfl) (by kernel_rfl)
    · replace h := ofF h5 h
      obtain rfl := Option.some.inj h
      refine W_skip [0, 1, 5, 6, 7] [] (fr' := [(0, aD (.slice tI) a0), (1, aI a1), (5, aD (.slice tI) r1.1), (6, aI r1.2), (7, aI (0 : Int))]) (L' := []) (by kernel_rfl) (by kernel_rfl) ?_
      exact exQ_mk (by kernel_rfl) (by kernel_rfl)
  · intro e fr L hJ
    obtain ⟨rfl, rfl, rfl⟩ := hJ
    refine LT_keep [0, 1, 5, 6, 7] [] (fr' := [(0, aD (.slice tI) a0), (1, aI a1), (5, aD (.slice tI) r1.1), (6, aI r1.2), (7, aI v6)]) (L' := []) (by kernel_rfl) ?_
    refine seqQ_norm ?_
    refine W_seq (by kernel_rfl) ?_
    refine W_seq (by kernel_rfl) ?_
    refine W_run 3 [] [0, 1, 5, 6, 7, 25, 26, 27] [] (fr' := [(0, aD (.slice tI) a0), (1, aI a1), (5, aD (.slice tI) r1.1), (6, aI r1.2), (7, aI v6), (25, aD (.slice tI) a0), (26, aI (List.length a0 : Int)), (27, aI (0 : Int))]) (L' := []) (obs := []) (by kernel_rfl) (by kernel_rfl) (by kernel_rfl) allP0 ?_
    refine seqQ_norm ?_
    refine W_block (id := 0) (by kernel_rfl) ?_
    obtain ⟨v145, h146, h⟩ := bind_of h
    refine W_len (t := 25) (u := tI) (xs := a0) (by kernel_rfl) (fun h149 => ?_)
    obtain ⟨h147, h148⟩ := forL_iter h149 h146
    refine W_weaken [0, 1, 5, 6, 7, 25, 26, 27] [] (fr' := ((law_HardSums_s17 a0 a1 r1) ((0 : Int), v6)).1) (L' := ((law_HardSums_s17 a0 a1 r1) ((0 : Int), v6)).2) (by kernel_rfl) ?_
    refine W_cutK (W_loop (S := (law_HardSums_s17 a0 a1 r1)) (J := (exQ (.exit 0) (law_HardSums_s18 a0 a1 r1))) (by kernel_rfl) ?_ h147 _ v145 h148) ?_
    · rintro ⟨i100, x101⟩ s h
      refine W_seq (by kernel_rfl) ?_
      refine W_run 1 [] [0, 1, 5, 6, 7, 25, 26, 27, 28] [] (fr' := [(0, aD (.slice tI) a0), (1, aI a1), (5, aD (.slice tI) r1.1), (6, aI r1.2), (7, aI x101), (25, aD (.slice tI) a0), (26, aI (List.length a0 : Int)), (27, aI i100), (28, aB (decide (i100 < (List.length a0 : Int))))]) (L' := []) (obs := []) (by kernel_rfl) (by kernel_rfl) (by kernel_rfl) allP0 ?_
      refine seqQ_norm ?_
      refine W_seq (by kernel_rfl) ?_
      refine W_cond (o := .tmp 28) (b := decide (i100 < (List.length a0 : Int))) (by kernel_rfl) (by kernel_rfl) (fun h105 => ?_) (fun h105 => ?_)
      · replace h := stepL_true h105 h
        obtain ⟨v103, _, h104, h, rfl⟩ := h
        refine W_skip [0, 1, 5, 6, 7, 25, 26, 27] [] (fr' := [(0, aD (.slice tI) a0), (1, aI a1), (5, aD (.slice tI) r1.1), (6, aI r1.2), (7, aI x101), (25, aD (.slice tI) a0), (26, aI (List.length a0 : Int)), (27, aI i100)]) (L' := []) (by kernel_rfl) (by kernel_rfl) ?_
        refine seqQ_norm ?_
        refine W_seq (by kernel_rfl) ?_
        obtain ⟨v142, h143, h⟩ := bind_of h
        refine W_cutK (Q' := (exQ .normal (law_HardSums_s15 a0 a1 r1 i100)) v142) ?_ ?_
        · replace h := h143
          refine W_block (id := 1) (by kernel_rfl) ?_
          refine W_seq (by kernel_rfl) ?_
          refine W_run 3 [(1, .val (.dat tI v103))] [0, 1, 5, 6, 7, 9, 25, 26, 27] [] (fr' := [(0, aD (.slice tI) a0), (1, aI a1), (5, aD (.slice tI) r1.1), (6, aI r1.2), (7, aI x101), (9, aI v103), (25, aD (.slice tI) a0), (26, aI (List.length a0 : Int)), (27, aI i100)]) (L' := []) (obs := [Idx a0 i100 v103]) (by kernel_rfl) (by kernel_rfl) (by kernel_rfl) (allP1 (Idx.of h104)) ?_
          refine seqQ_norm ?_
          refine W_seq (by kernel_rfl) ?_
          obtain ⟨v139, h140, h⟩ := bind_of h
          refine W_cutK (Q' := (exQ .normal (law_HardSums_s13 a0 a1 r1 i100 x101)) v139) ?_ ?_
          · replace h := h140
            refine W_region (by kernel_rfl) ?_
            refine WO_run (j := 3) (k := 3) (orcs := []) (kF := [0, 1, 5, 6, 7, 9, 25, 26, 27, 33]) (kL := []) (fr' := [(0, aD (.slice tI) a0), (1, aI a1), (5, aD (.slice tI) r1.1), (6, aI r1.2), (7, aI x101), (9, aI v103), (25, aD (.slice tI) a0), (26, aI (List.length a0 : Int)), (27, aI i100), (33, aB (x101 == (0 : Int)))]) (L' := []) (obs := []) rfl (by kernel_rfl) allP0 ?_
            rcases Bool.eq_false_or_eq_true (x101 == (0 : Int)) with h136 | h136
            · replace h := ofT h136 h
              refine WO_run (j := 4) (k := 1) (orcs := [(6, .known true)]) (kF := [0, 1, 5, 6, 7, 25, 26, 27, 33, 34]) (kL := []) (fr' := [(0, aD (.slice tI) a0), (1, aI a1), (5, aD (.slice tI) r1.1), (6, aI r1.2), (7, aI x101), (25, aD (.slice tI) a0), (26, aI (List.length a0 : Int)), (27, aI i100), (33, aB (x101 == (0 : Int))), (34, aI v103)]) (L' := []) (obs := [((x101 == (0 : Int)) = true)]) rfl (by kernel_rfl) (allP1 h136) ?_
              obtain ⟨r137, h138, h⟩ := bind_of h
              refine WO_call0 (us := [none, none, none]) (d := 35) (p := ((x101 == (0 : Int)) = true)) (j := 5) rfl ⟨by kernel_rfl, by kernel_rfl, by kernel_rfl⟩ h136 (ref_Within_ok h138) (by kernel_rfl) ?_
              refine WO_run (j := 7) (k := 2) (orcs := [(10, .known true), (13, .val (.dat .bool true))]) (kF := [0, 1, 5, 6, 7, 25, 26, 27, 37]) (kL := []) (fr' := [(0, aD (.slice tI) a0), (1, aI a1), (5, aD (.slice tI) r1.1), (6, aI r1.2), (7, aI x101), (25, aD (.slice tI) a0), (26, aI (List.length a0 : Int)), (27, aI i100), (37, aB (!r137))]) (L' := []) (obs := [((x101 == (0 : Int)) = true), ((x101 == (0 : Int)) = true)]) rfl (by kernel_rfl) (allP2 h136 (allP1 h136)) ?_
              obtain rfl := Option.some.inj h
              refine WO_fin [0, 1, 5, 6, 7, 25, 26, 27, 37] [] (fr' := [(0, aD (.slice tI) a0), (1, aI a1), (5, aD (.slice tI) r1.1), (6, aI r1.2), (7, aI x101), (25, aD (.slice tI) a0), (26, aI (List.length a0 : Int)), (27, aI i100), (37, aB (!r137))]) (L' := []) (by kernel_rfl) (by kernel_rfl) ?_
              exact exQ_mk (by kernel_rfl) (by kernel_rfl)
            · replace h := ofF h136 h
              refine WO_run (j := 7) (k := 4) (orcs := [(6, .known false), (8, .known false), (10, .known false), (13, .val (.dat .bool false))]) (kF := [0, 1, 5, 6, 7, 25, 26, 27, 37]) (kL := []) (fr' := [(0, aD (.slice tI) a0), (1, aI a1), (5, aD (.slice tI) r1.1), (6, aI r1.2), (7, aI x101), (25, aD (.slice tI) a0), (26, aI (List.length a0 : Int)), (27, aI i100), (37, aB false)]) (L' := []) (obs := [((x101 == (0 : Int)) = false), ((x101 == (0 : Int)) = false), ((x101 == (0 : Int)) = false), ((x101 == (0 : Int)) = false)]) rfl (by kernel_rfl) (allP2 h136 (allP2 h136 (allP2 h136 (allP1 h136)))) ?_
              obtain rfl := Option.some.inj h
              refine WO_fin [0, 1, 5, 6, 7, 25, 26, 27, 37] [] (fr' := [(0, aD (.slice tI) a0), (1, aI a1), (5, aD (.slice tI) r1.1), (6, aI r1.2), (7, aI x101), (25, aD (.slice tI) a0), (26, aI (List.length a0 : Int)), (27, aI i100), (37, aB false)]) (L' := []) (by kernel_rfl) (by kernel_rfl) ?_
              exact exQ_mk (by kernel_rfl) (by kernel_rfl)
          · intro e fr L hJ
            obtain ⟨rfl, rfl, rfl⟩ := hJ
            refine LT_keep [0, 1, 5, 6, 7, 25, 26, 27, 37] [] (fr' := [(0, aD (.slice tI) a0), (1, aI a1), (5, aD (.slice tI) r1.1), (6, aI r1.2), (7, aI x101), (25, aD (.slice tI) a0), (26, aI (List.length a0 : Int)), (27, aI i100), (37, aB v139)]) (L' := []) (by kernel_rfl) ?_
            refine seqQ_norm ?_
            refine W_cond (o := .tmp 37) (b := v139) (by kernel_rfl) (by kernel_rfl) (fun h141 => ?_) (fun h141 => ?_)
            · replace h := ofT h141 h
              obtain rfl := Option.some.inj h
              refine W_run 1 [] [0, 1, 5, 6, 7, 25, 26, 27] [] (fr' := [(0, aD (.slice tI) a0), (1, aI a1), (5, aD (.slice tI) r1.1), (6, aI r1.2), (7, aI (4 : Int)), (25, aD (.slice tI) a0), (26, aI (List.length a0 : Int)), (27, aI i100)]) (L' := []) (obs := []) (by kernel_rfl) (by kernel_rfl) (by kernel_rfl) allP0 ?_
              refine blockQ_norm ?_
              exact exQ_mk (by kernel_rfl) (by kernel_rfl)
            · replace h := ofF h141 h
              obtain rfl := Option.some.inj h
              refine W_skip [0, 1, 5, 6, 7, 25, 26, 27] [] (fr' := [(0, aD (.slice tI) a0), (1, aI a1), (5, aD (.slice tI) r1.1), (6, aI r1.2), (7, aI x101), (25, aD (.slice tI) a0), (26, aI (List.length a0 : Int)), (27, aI i100)]) (L' := []) (by kernel_rfl) (by kernel_rfl) ?_
              refine blockQ_norm ?_
              exact exQ_mk (by kernel_rfl) (by kernel_rfl)
        · intro e fr L hJ
          obtain ⟨rfl, rfl, rfl⟩ := hJ
          refine LT_keep [0, 1, 5, 6, 7, 25, 26, 27] [] (fr' := [(0, aD (.slice tI) a0), (1, aI a1), (5, aD (.slice tI) r1.1), (6, aI r1.2), (7, aI v142), (25, aD (.slice tI) a0), (26, aI (List.length a0 : Int)), (27, aI i100)]) (L' := []) (by kernel_rfl) ?_
          refine seqQ_norm ?_
          obtain rfl := Option.some.inj h
          refine W_run 2 [] [0, 1, 5, 6, 7, 25, 26, 27] [] (fr' := [(0, aD (.slice tI) a0), (1, aI a1), (5, aD (.slice tI) r1.1), (6, aI r1.2), (7, aI v142), (25, aD (.slice tI) a0), (26, aI (List.length a0 : Int)), (27, aI (w64 (i100 + (1 : Int))))]) (L' := []) (obs := []) (by kernel_rfl) (by kernel_rfl) (by kernel_rfl) allP0 ?_
          exact round_next' (by kernel_rfl) (by kernel_rfl)
      · obtain rfl := stepL_false h105 h
        refine W_exit (id := 0) [0, 1, 5, 6, 7] [] (fr' := [(0, aD (.slice tI) a0), (1, aI a1), (5, aD (.slice tI) r1.1), (6, aI r1.2), (7, aI x101)]) (L' := []) (by kernel_rfl) (by kernel_rfl) ?_
        refine seqQ_exit ?_
        refine round_exit ?_
        exact exQ_mk (by kernel_rfl) (by kernel_rfl)
    · intro e fr L hJ
      obtain ⟨rfl, rfl, rfl⟩ := hJ
      refine LT_keep [0, 1, 5, 6, 7] [] (fr' := [(0, aD (.slice tI) a0), (1, aI a1), (5, aD (.slice tI) r1.1), (6, aI r1.2), (7, aI v145)]) (L' := []) (by kernel_rfl) ?_
      refine blockQ_hit ?_
      refine seqQ_norm ?_
      refine W_seq (by kernel_rfl) ?_
      refine W_seq (by kernel_rfl) ?_
      refine W_run 2 [] [0, 1, 5, 6, 7, 40] [] (fr' := [(0, aD (.slice tI) a0), (1, aI a1), (5, aD (.slice tI) r1.1), (6, aI r1.2), (7, aI v145), (40, aB (v145 != (0 : Int)))]) (L' := []) (obs := []) (by kernel_rfl) (by kernel_rfl) (by kernel_rfl) allP0 ?_
      refine seqQ_norm ?_
      refine W_cond (o := .tmp 40) (b := v145 != (0 : Int)) (by kernel_rfl) (by kernel_rfl) (fun h150 => ?_) (fun h150 => ?_)
      · replace h := ofT h150 h
        refine W_seq (by kernel_rfl) ?_
        refine W_run 9 [] [4] [] (fr' := [(4, aB ((r1.2 == v145) && ((List.length r1.1 : Int) == (0 : Int))))]) (L' := []) (obs := []) (by kernel_rfl) (by kernel_rfl) (by kernel_rfl) allP0 ?_
        refine seqQ_norm ?_
        obtain rfl := Option.some.inj h
        refine W_ret [4] [] (fr' := [(4, aB ((r1.2 == v145) && ((List.length r1.1 : Int) == (0 : Int))))]) (L' := []) (by kernel_rfl) (by kernel_rfl) ?_
        refine seqQ_ret ?_
        exact retQ_mk (by kernel_rfl) (by kernel_rfl) (by kernel_rfl)
      · replace h := ofF h150 h
        refine W_skip [0, 1, 5, 6] [] (fr' := [(0, aD (.slice tI) a0), (1, aI a1), (5, aD (.slice tI) r1.1), (6, aI r1.2)]) (L' := []) (by kernel_rfl) (by kernel_rfl) ?_
        refine seqQ_norm ?_
        refine W_seq (by kernel_rfl) ?_
        refine W_run 1 [] [0, 1, 5, 6, 10] [] (fr' := [(0, aD (.slice tI) a0), (1, aI a1), (5, aD (.slice tI) r1.1), (6, aI r1.2), (10, .one (.nilS))]) (L' := []) (obs := []) (by kernel_rfl) (by kernel_rfl) (by kernel_rfl) allP0 ?_
        refine seqQ_norm ?_
        refine W_seq (by kernel_rfl) ?_
        refine W_run 1 [] [0, 1, 5, 6, 10, 11] [] (fr' := [(0, aD (.slice tI) a0), (1, aI a1), (5, aD (.slice tI) r1.1), (6, aI r1.2), (10, .one (.nilS)), (11, aB false)]) (L' := []) (obs := []) (by kernel_rfl) (by kernel_rfl) (by kernel_rfl) allP0 ?_
        refine seqQ_norm ?_
        refine W_seq (by kernel_rfl) ?_
        refine W_seq (by kernel_rfl) ?_
        refine W_run 1 [] [0, 1, 5, 6, 10, 11, 12] [] (fr' := [(0, aD (.slice tI) a0), (1, aI a1), (5, aD (.slice tI) r1.1), (6, aI r1.2), (10, .one (.nilS)), (11, aB false), (12, aI (0 : Int))]) (L' := []) (obs := []) (by kernel_rfl) (by kernel_rfl) (by kernel_rfl) allP0 ?_
        refine seqQ_norm ?_
        refine W_block (id := 2) (by kernel_rfl) ?_
        obtain ⟨v876, h877, h⟩ := bind_of h
        refine W_cnv 10 (.slice tI) (by kernel_rfl) ?_
        refine W_weaken [0, 1, 5, 6, 10, 11, 12] [] (fr' := ((law_HardSums_s95 a0 a1 r1) ([], false, (0 : Int))).1) (L' := ((law_HardSums_s95 a0 a1 r1) ([], false, (0 : Int))).2) (by kernel_rfl) ?_
        refine W_cutK (W_loop (S := (law_HardSums_s95 a0 a1 r1)) (J := (exQ (.exit 2) (law_HardSums_s96 r1))) (by kernel_rfl) ?_ fuel _ v876 h877) ?_
        · rintro x363 s h
          refine W_seq (by kernel_rfl) ?_
          refine W_seq (by kernel_rfl) ?_
          obtain ⟨_, h620, h⟩ := bind_of h
          replace h620 := ck_some h620
          refine W_run 6 [] [0, 1, 5, 6, 10, 11, 12, 54] [] (fr' := [(0, aD (.slice tI) a0), (1, aI a1), (5, aD (.slice tI) r1.1), (6, aI r1.2), (10, aD (.slice tI) x363.1), (11, aB x363.2.1), (12, aI x363.2.2), (54, aB (decide (x363.2.2 < (bShl .i64 (1 : Int) (IntKind.wrap .u64 ((List.length a0 : Int)))))))]) (L' := []) (obs := [(0 ≤ IntKind.wrap .u64 ((List.length a0 : Int)))]) (by kernel_rfl) (by kernel_rfl) (by kernel_rfl) (allP1 h620) ?_
          refine seqQ_norm ?_
          refine W_cond (o := .tmp 54) (b := decide (x363.2.2 < (bShl .i64 (1 : Int) (IntKind.wrap .u64 ((List.length a0 : Int)))))) (by kernel_rfl) (by kernel_rfl) (fun h621 => ?_) (fun h621 => ?_)
          · replace h := ofT h621 h
            refine W_skip [0, 1, 5, 6, 10, 11, 12] [] (fr' := [(0, aD (.slice tI) a0), (1, aI a1), (5, aD (.slice tI) r1.1), (6, aI r1.2), (10, aD (.slice tI) x363.1), (11, aB x363.2.1), (12, aI x363.2.2)]) (L' := []) (by kernel_rfl) (by kernel_rfl) ?_
            refine seqQ_norm ?_
            refine W_seq (by kernel_rfl) ?_
            obtain ⟨v874, h875, h⟩ := bind_of h
            refine W_cutK (Q' := (exQ .normal (law_HardSums_s93 a0 a1 r1 x363)) v874) ?_ ?_
            · replace h := h875
              refine W_block (id := 3) (by kernel_rfl) ?_
              refine W_seq (by kernel_rfl) ?_
              refine W_run 1 [] [0, 1, 5, 6, 10, 11, 12, 13] [] (fr' := [(0, aD (.slice tI) a0), (1, aI a1), (5, aD (.slice tI) r1.1), (6, aI r1.2), (10, aD (.slice tI) x363.1), (11, aB x363.2.1), (12, aI x363.2.2), (13, aI (0 : Int))]) (L' := []) (obs := []) (by kernel_rfl) (by kernel_rfl) (by kernel_rfl) allP0 ?_
              refine seqQ_norm ?_
              refine W_seq (by kernel_rfl) ?_
              refine W_seq (by kernel_rfl) ?_
              refine W_run 3 [] [0, 1, 5, 6, 10, 11, 12, 13, 57, 58, 59] [] (fr' := [(0, aD (.slice tI) a0), (1, aI a1), (5, aD (.slice tI) r1.1), (6, aI r1.2), (10, aD (.slice tI) x363.1), (11, aB x363.2.1), (12, aI x363.2.2), (13, aI (0 : Int)), (57, aD (.slice tI) a0), (58, aI (List.length a0 : Int)), (59, aI (0 : Int))]) (L' := []) (obs := []) (by kernel_rfl) (by kernel_rfl) (by kernel_rfl) allP0 ?_
              refine seqQ_norm ?_
              refine W_block (id := 4) (by kernel_rfl) ?_
              obtain ⟨v846, h847, h⟩ := bind_of h
              refine W_len (t := 57) (u := tI) (xs := a0) (by kernel_rfl) (fun h850 => ?_)
              obtain ⟨h848, h849⟩ := forL_iter h850 h847
              refine W_weaken [0, 1, 5, 6, 10, 11, 12, 13, 57, 58, 59] [] (fr' := ((law_HardSums_s88 a0 a1 r1 x363) ((0 : Int), (0 : Int))).1) (L' := ((law_HardSums_s88 a0 a1 r1 x363) ((0 : Int), (0 : Int))).2) (by kernel_rfl) ?_
              refine W_cutK (W_loop (S := (law_HardSums_s88 a0 a1 r1 x363)) (J := (exQ (.exit 4) (law_HardSums_s89 a0 a1 r1 x363))) (by kernel_rfl) ?_ h848 _ v846 h849) ?_
              · rintro ⟨i828, x829⟩ s h
                refine W_seq (by kernel_rfl) ?_
                refine W_run 1 [] [0, 1, 5, 6, 10, 11, 12, 13, 57, 58, 59, 60] [] (fr' := [(0, aD (.slice tI) a0), (1, aI a1), (5, aD (.slice tI) r1.1), (6, aI r1.2), (10, aD (.slice tI) x363.1), (11, aB x363.2.1), (12, aI x363.2.2), (13, aI x829), (57, aD (.slice tI) a0), (58, aI (List.length a0 : Int)), (59, aI i828), (60, aB (decide (i828 < (List.length a0 : Int))))]) (L' := []) (obs := []) (by kernel_rfl) (by kernel_rfl) (by kernel_rfl) allP0 ?_
                refine seqQ_norm ?_
                refine W_seq (by kernel_rfl) ?_
                refine W_cond (o := .tmp 60) (b := decide (i828 < (List.length a0 : Int))) (by kernel_rfl) (by kernel_rfl) (fun h833 => ?_) (fun h833 => ?_)
                · replace h := stepL_true h833 h
                  obtain ⟨v831, _, h832, h, rfl⟩ := h
                  refine W_skip [0, 1, 5, 6, 10, 11, 12, 13, 57, 58, 59] [] (fr' := [(0, aD (.slice tI) a0), (1, aI a1), (5, aD (.slice tI) r1.1), (6, aI r1.2), (10, aD (.slice tI) x363.1), (11, aB x363.2.1), (12, aI x363.2.2), (13, aI x829), (57, aD (.slice tI) a0), (58, aI (List.length a0 : Int)), (59, aI i828)]) (L' := []) (by kernel_rfl) (by kernel_rfl) ?_
                  refine seqQ_norm ?_
                  refine W_seq (by kernel_rfl) ?_
                  obtain ⟨v843, h844, h⟩ := bind_of h
                  refine W_cutK (Q' := (exQ .normal (law_HardSums_s86 a0 a1 r1 x363 i828)) v843) ?_ ?_
                  · replace h := h844
                    refine W_block (id := 5) (by kernel_rfl) ?_
                    refine W_seq (by kernel_rfl) ?_
                    refine W_run 5 [(3, .val (.dat tI v831))] [0, 1, 5, 6, 10, 11, 12, 13, 14, 15, 57, 58, 59] [] (fr' := [(0, aD (.slice tI) a0), (1, aI a1), (5, aD (.slice tI) r1.1), (6, aI r1.2), (10, aD (.slice tI) x363.1), (11, aB x363.2.1), (12, aI x363.2.2), (13, aI x829), (14, aI i828), (15, aI v831), (57, aD (.slice tI) a0), (58, aI (List.length a0 : Int)), (59, aI i828)]) (L' := []) (obs := [Idx a0 i828 v831]) (by kernel_rfl) (by kernel_rfl) (by kernel_rfl) (allP1 (Idx.of h832)) ?_
                    refine seqQ_norm ?_
                    refine W_seq (by kernel_rfl) ?_
                    refine W_region (by kernel_rfl) ?_
                    refine WO_run (j := 2) (k := 2) (orcs := []) (kF := [0, 1, 5, 6, 10, 11, 12, 13, 15, 57, 58, 59, 64, 65]) (kL := []) (fr' := [(0, aD (.slice tI) a0), (1, aI a1), (5, aD (.slice tI) r1.1), (6, aI r1.2), (10, aD (.slice tI) x363.1), (11, aB x363.2.1), (12, aI x363.2.2), (13, aI x829), (15, aI v831), (57, aD (.slice tI) a0), (58, aI (List.length a0 : Int)), (59, aI i828), (64, aI x363.2.2), (65, aI i828)]) (L' := []) (obs := []) rfl (by kernel_rfl) allP0 ?_
                    obtain ⟨r840, h841, h⟩ := bind_of h
                    refine WO_call0 (us := [none, none]) (d := 66) (p := True) (j := 3) rfl ⟨by kernel_rfl, by kernel_rfl, by kernel_rfl⟩ trivial (ref_Bit_ok h841) (by kernel_rfl) ?_
                    refine WO_fin [0, 1, 5, 6, 10, 11, 12, 13, 15, 57, 58, 59, 66] [] (fr' := [(0, aD (.slice tI) a0), (1, aI a1), (5, aD (.slice tI) r1.1), (6, aI r1.2), (10, aD (.slice tI) x363.1), (11, aB x363.2.1), (12, aI x363.2.2), (13, aI x829), (15, aI v831), (57, aD (.slice tI) a0), (58, aI (List.length a0 : Int)), (59, aI i828), (66, aB r840)]) (L' := []) (by kernel_rfl) (by kernel_rfl) ?_
                    refine seqQ_norm ?_
                    refine W_cond (o := .tmp 66) (b := r840) (by kernel_rfl) (by kernel_rfl) (fun h842 => ?_) (fun h842 => ?_)
                    · replace h := ofT h842 h
                      obtain rfl := Option.some.inj h
                      refine W_run 4 [] [0, 1, 5, 6, 10, 11, 12, 13, 57, 58, 59] [] (fr' := [(0, aD (.slice tI) a0), (1, aI a1), (5, aD (.slice tI) r1.1), (6, aI r1.2), (10, aD (.slice tI) x363.1), (11, aB x363.2.1), (12, aI x363.2.2), (13, aI (w64 (x829 + v831))), (57, aD (.slice tI) a0), (58, aI (List.length a0 : Int)), (59, aI i828)]) (L' := []) (obs := []) (by kernel_rfl) (by kernel_rfl) (by kernel_rfl) allP0 ?_
                      refine blockQ_norm ?_
                      exact exQ_mk (by kernel_rfl) (by kernel_rfl)
                    · replace h := ofF h842 h
                      obtain rfl := Option.some.inj h
                      refine W_skip [0, 1, 5, 6, 10, 11, 12, 13, 57, 58, 59] [] (fr' := [(0, aD (.slice tI) a0), (1, aI a1), (5, aD (.slice tI) r1.1), (6, aI r1.2), (10, aD (.slice tI) x363.1), (11, aB x363.2.1), (12, aI x363.2.2), (13, aI x829), (57, aD (.slice tI) a0), (58, aI (List.length a0 : Int)), (59, aI i828)]) (L' := []) (by kernel_rfl) (by kernel_rfl) ?_
                      refine blockQ_norm ?_
                      exact exQ_mk (by kernel_rfl) (by kernel_rfl)
                  · intro e fr L hJ
                    obtain ⟨rfl, rfl, rfl⟩ := hJ
                    refine LT_keep [0, 1, 5, 6, 10, 11, 12, 13, 57, 58, 59] [] (fr' := [(0, aD (.slice tI) a0), (1, aI a1), (5, aD (.slice tI) r1.1), (6, aI r1.2), (10, aD (.slice tI) x363.1), (11, aB x363.2.1), (12, aI x363.2.2), (13, aI v843), (57, aD (.slice tI) a0), (58, aI (List.length a0 : Int)), (59, aI i828)]) (L' := []) (by kernel_rfl) ?_
                    refine seqQ_norm ?_
                    obtain rfl := Option.some.inj h
                    refine W_run 2 [] [0, 1, 5, 6, 10, 11, 12, 13, 57, 58, 59] [] (fr' := [(0, aD (.slice tI) a0), (1, aI a1), (5, aD (.slice tI) r1.1), (6, aI r1.2), (10, aD (.slice tI) x363.1), (11, aB x363.2.1), (12, aI x363.2.2), (13, aI v843), (57, aD (.slice tI) a0), (58, aI (List.length a0 : Int)), (59, aI (w64 (i828 + (1 : Int))))]) (L' := []) (obs := []) (by kernel_rfl) (by kernel_rfl) (by kernel_rfl) allP0 ?_
                    exact round_next' (by kernel_rfl) (by kernel_rfl)
                · obtain rfl := stepL_false h833 h
                  refine W_exit (id := 4) [0, 1, 5, 6, 10, 11, 12, 13] [] (fr' := [(0, aD (.slice tI) a0), (1, aI a1), (5, aD (.slice tI) r1.1), (6, aI r1.2), (10, aD (.slice tI) x363.1), (11, aB x363.2.1), (12, aI x363.2.2), (13, aI x829)]) (L' := []) (by kernel_rfl) (by kernel_rfl) ?_
                  refine seqQ_exit ?_
                  refine round_exit ?_
                  exact exQ_mk (by kernel_rfl) (by kernel_rfl)
              · intro e fr L hJ
                obtain ⟨rfl, rfl, rfl⟩ := hJ
                refine LT_keep [0, 1, 5, 6, 10, 11, 12, 13] [] (fr' := [(0, aD (.slice tI) a0), (1, aI a1), (5, aD (.slice tI) r1.1), (6, aI r1.2), (10, aD (.slice tI) x363.1), (11, aB x363.2.1), (12, aI x363.2.2), (13, aI v846)]) (L' := []) (by kernel_rfl) ?_
                refine blockQ_hit ?_
                refine seqQ_norm ?_
                refine W_seq (by kernel_rfl) ?_
                obtain ⟨v869, h870, h⟩ := bind_of h
                refine W_cutK (Q' := (exQ .normal (law_HardSums_s91 a0 a1 r1 x363)) v869) ?_ ?_
                · replace h := h870
                  refine W_region (by kernel_rfl) ?_
                  refine WO_run (j := 4) (k := 4) (orcs := []) (kF := [0, 1, 5, 6, 10, 11, 12, 74]) (kL := []) (fr' := [(0, aD (.slice tI) a0), (1, aI a1), (5, aD (.slice tI) r1.1), (6, aI r1.2), (10, aD (.slice tI) x363.1), (11, aB x363.2.1), (12, aI x363.2.2), (74, aB (v846 == a1))]) (L' := []) (obs := []) rfl (by kernel_rfl) allP0 ?_
                  rcases Bool.eq_false_or_eq_true (v846 == a1) with h863 | h863
                  · replace h := ofT h863 h
                    refine WO_run (j := 7) (k := 3) (orcs := [(8, .known true), (10, .known true), (12, .known true)]) (kF := [0, 1, 5, 6, 10, 11, 12, 74, 77]) (kL := []) (fr' := [(0, aD (.slice tI) a0), (1, aI a1), (5, aD (.slice tI) r1.1), (6, aI r1.2), (10, aD (.slice tI) x363.1), (11, aB x363.2.1), (12, aI x363.2.2), (74, aB (v846 == a1)), (77, aB (!x363.2.1))]) (L' := []) (obs := [((v846 == a1) = true), ((v846 == a1) = true), ((v846 == a1) = true)]) rfl (by kernel_rfl) (allP2 h863 (allP2 h863 (allP1 h863))) ?_
                    rcases Bool.eq_false_or_eq_true (!x363.2.1) with h864 | h864
                    · replace h := ofT h864 h
                      refine WO_run (j := 13) (k := 6) (orcs := [(14, .known true), (16, .known true), (18, .known true), (20, .known true), (22, .known true), (23, .val (.dat .bool true)), (25, .val (.dat .bool true))]) (kF := [0, 1, 5, 6, 10, 11, 12, 83]) (kL := []) (fr' := [(0, aD (.slice tI) a0), (1, aI a1), (5, aD (.slice tI) r1.1), (6, aI r1.2), (10, aD (.slice tI) x363.1), (11, aB x363.2.1), (12, aI x363.2.2), (83, aB true)]) (L' := []) (obs := [((!x363.2.1) = true), ((!x363.2.1) = true), ((!x363.2.1) = true), ((!x363.2.1) = true), ((v846 == a1) = true), ((!x363.2.1) = true), ((v846 == a1) = true)]) rfl (by kernel_rfl) (allP2 h864 (allP2 h864 (allP2 h864 (allP2 h864 (allP2 h863 (allP2 h864 (allP1 h863))))))) ?_
                      obtain rfl := Option.some.inj h
                      refine WO_fin [0, 1, 5, 6, 10, 11, 12, 83] [] (fr' := [(0, aD (.slice tI) a0), (1, aI a1), (5, aD (.slice tI) r1.1), (6, aI r1.2), (10, aD (.slice tI) x363.1), (11, aB x363.2.1), (12, aI x363.2.2), (83, aB true)]) (L' := []) (by kernel_rfl) (by kernel_rfl) ?_
                      exact exQ_mk (by kernel_rfl) (by kernel_rfl)
                    · replace h := ofF h864 h
                      refine WO_run (j := 8) (k := 1) (orcs := [(14, .known false)]) (kF := [0, 1, 5, 6, 10, 11, 12, 74, 77, 78]) (kL := []) (fr' := [(0, aD (.slice tI) a0), (1, aI a1), (5, aD (.slice tI) r1.1), (6, aI r1.2), (10, aD (.slice tI) x363.1), (11, aB x363.2.1), (12, aI x363.2.2), (74, aB (v846 == a1)), (77, aB (!x363.2.1)), (78, aI x363.2.2)]) (L' := []) (obs := [((!x363.2.1) = false)]) rfl (by kernel_rfl) (allP1 h864) ?_
                      obtain ⟨r865, h866, h⟩ := bind_of h
                      refine WO_call0 (us := [none]) (d := 79) (p := ((!x363.2.1) = false)) (j := 9) rfl ⟨by kernel_rfl, by kernel_rfl, by kernel_rfl⟩ h864 (ref_ListOf_ok h866) (by kernel_rfl) ?_
                      refine WO_run (j := 10) (k := 1) (orcs := [(18, .known false)]) (kF := [0, 1, 5, 6, 10, 11, 12, 74, 77, 79, 80]) (kL := []) (fr' := [(0, aD (.slice tI) a0), (1, aI a1), (5, aD (.slice tI) r1.1), (6, aI r1.2), (10, aD (.slice tI) x363.1), (11, aB x363.2.1), (12, aI x363.2.2), (74, aB (v846 == a1)), (77, aB (!x363.2.1)), (79, aD (.slice tI) r865), (80, aD (.slice tI) x363.1)]) (L' := []) (obs := [((!x363.2.1) = false)]) rfl (by kernel_rfl) (allP1 h864) ?_
                      obtain ⟨r867, h868, h⟩ := bind_of h
                      refine WO_call0 (us := [none, none]) (d := 81) (p := ((!x363.2.1) = false)) (j := 11) rfl ⟨by kernel_rfl, by kernel_rfl, by kernel_rfl⟩ h864 (ref_Ahead_ok h868) (by kernel_rfl) ?_
                      refine WO_run (j := 13) (k := 2) (orcs := [(22, .known true), (23, .val (.dat .bool false)), (25, .val (.dat .bool true))]) (kF := [0, 1, 5, 6, 10, 11, 12, 83]) (kL := []) (fr' := [(0, aD (.slice tI) a0), (1, aI a1), (5, aD (.slice tI) r1.1), (6, aI r1.2), (10, aD (.slice tI) x363.1), (11, aB x363.2.1), (12, aI x363.2.2), (83, aB r867)]) (L' := []) (obs := [((v846 == a1) = true), ((!x363.2.1) = false), ((v846 == a1) = true)]) rfl (by kernel_rfl) (allP2 h863 (allP2 h864 (allP1 h863))) ?_
                      obtain rfl := Option.some.inj h
                      refine WO_fin [0, 1, 5, 6, 10, 11, 12, 83] [] (fr' := [(0, aD (.slice tI) a0), (1, aI a1), (5, aD (.slice tI) r1.1), (6, aI r1.2), (10, aD (.slice tI) x363.1), (11, aB x363.2.1), (12, aI x363.2.2), (83, aB r867)]) (L' := []) (by kernel_rfl) (by kernel_rfl) ?_
                      exact exQ_mk (by kernel_rfl) (by kernel_rfl)
                  · replace h := ofF h863 h
                    refine WO_run (j := 13) (k := 9) (orcs := [(8, .known false), (10, .known false), (12, .known false), (14, .known true), (16, .known true), (18, .known true), (20, .known true), (22, .known false), (25, .val (.dat .bool false))]) (kF := [0, 1, 5, 6, 10, 11, 12, 83]) (kL := []) (fr' := [(0, aD (.slice tI) a0), (1, aI a1), (5, aD (.slice tI) r1.1), (6, aI r1.2), (10, aD (.slice tI) x363.1), (11, aB x363.2.1), (12, aI x363.2.2), (83, aB false)]) (L' := []) (obs := [((v846 == a1) = false), ((v846 == a1) = false), ((v846 == a1) = false), ((v846 == a1) = false), ((v846 == a1) = false)]) rfl (by kernel_rfl) (allP2 h863 (allP2 h863 (allP2 h863 (allP2 h863 (allP1 h863))))) ?_
                    obtain rfl := Option.some.inj h
                    refine WO_fin [0, 1, 5, 6, 10, 11, 12, 83] [] (fr' := [(0, aD (.slice tI) a0), (1, aI a1), (5, aD (.slice tI) r1.1), (6, aI r1.2), (10, aD (.slice tI) x363.1), (11, aB x363.2.1), (12, aI x363.2.2), (83, aB false)]) (L' := []) (by kernel_rfl) (by kernel_rfl) ?_
                    exact exQ_mk (by kernel_rfl) (by kernel_rfl)
                · intro e fr L hJ
                  obtain ⟨rfl, rfl, rfl⟩ := hJ
                  refine LT_keep [0, 1, 5, 6, 10, 11, 12, 83] [] (fr' := [(0, aD (.slice tI) a0), (1, aI a1), (5, aD (.slice tI) r1.1), (6, aI r1.2), (10, aD (.slice tI) x363.1), (11, aB x363.2.1), (12, aI x363.2.2), (83, aB v869)]) (L' := []) (by kernel_rfl) ?_
                  refine seqQ_norm ?_
                  refine W_cond (o := .tmp 83) (b := v869) (by kernel_rfl) (by kernel_rfl) (fun h871 => ?_) (fun h871 => ?_)
                  · replace h := ofT h871 h
                    refine W_seq (by kernel_rfl) ?_
                    refine W_region (by kernel_rfl) ?_
                    refine WO_run (j := 1) (k := 1) (orcs := []) (kF := [0, 1, 5, 6, 10, 12, 84]) (kL := []) (fr' := [(0, aD (.slice tI) a0), (1, aI a1), (5, aD (.slice tI) r1.1), (6, aI r1.2), (10, aD (.slice tI) x363.1), (12, aI x363.2.2), (84, aI x363.2.2)]) (L' := []) (obs := []) rfl (by kernel_rfl) allP0 ?_
                    obtain ⟨r872, h873, h⟩ := bind_of h
                    refine WO_call0 (us := [none]) (d := 85) (p := True) (j := 2) rfl ⟨by kernel_rfl, by kernel_rfl, by kernel_rfl⟩ trivial (ref_ListOf_ok h873) (by kernel_rfl) ?_
                    refine WO_run (j := 3) (k := 1) (orcs := []) (kF := [0, 1, 5, 6, 10, 12]) (kL := []) (fr' := [(0, aD (.slice tI) a0), (1, aI a1), (5, aD (.slice tI) r1.1), (6, aI r1.2), (10, aD (.slice tI) r872), (12, aI x363.2.2)]) (L' := []) (obs := []) rfl (by kernel_rfl) allP0 ?_
                    refine WO_fin [0, 1, 5, 6, 10, 12] [] (fr' := [(0, aD (.slice tI) a0), (1, aI a1), (5, aD (.slice tI) r1.1), (6, aI r1.2), (10, aD (.slice tI) r872), (12, aI x363.2.2)]) (L' := []) (by kernel_rfl) (by kernel_rfl) ?_
                    refine seqQ_norm ?_
                    obtain rfl := Option.some.inj h
                    refine W_run 1 [] [0, 1, 5, 6, 10, 11, 12] [] (fr' := [(0, aD (.slice tI) a0), (1, aI a1), (5, aD (.slice tI) r1.1), (6, aI r1.2), (10, aD (.slice tI) r872), (11, aB true), (12, aI x363.2.2)]) (L' := []) (obs := []) (by kernel_rfl) (by kernel_rfl) (by kernel_rfl) allP0 ?_
                    refine blockQ_norm ?_
                    exact exQ_mk (by kernel_rfl) (by kernel_rfl)
                  · replace h := ofF h871 h
                    obtain rfl := Option.some.inj h
                    refine W_skip [0, 1, 5, 6, 10, 11, 12] [] (fr' := [(0, aD (.slice tI) a0), (1, aI a1), (5, aD (.slice tI) r1.1), (6, aI r1.2), (10, aD (.slice tI) x363.1), (11, aB x363.2.1), (12, aI x363.2.2)]) (L' := []) (by kernel_rfl) (by kernel_rfl) ?_
                    refine blockQ_norm ?_
                    exact exQ_mk (by kernel_rfl) (by kernel_rfl)
            · intro e fr L hJ
              obtain ⟨rfl, rfl, rfl⟩ := hJ
              refine LT_keep [0, 1, 5, 6, 10, 11, 12] [] (fr' := [(0, aD (.slice tI) a0), (1, aI a1), (5, aD (.slice tI) r1.1), (6, aI r1.2), (10, aD (.slice tI) v874.1), (11, aB v874.2), (12, aI x363.2.2)]) (L' := []) (by kernel_rfl) ?_
              refine seqQ_norm ?_
              obtain rfl := Option.some.inj h
              refine W_run 3 [] [0, 1, 5, 6, 10, 11, 12] [] (fr' := [(0, aD (.slice tI) a0), (1, aI a1), (5, aD (.slice tI) r1.1), (6, aI r1.2), (10, aD (.slice tI) v874.1), (11, aB v874.2), (12, aI (w64 (x363.2.2 + (1 : Int))))]) (L' := []) (obs := []) (by kernel_rfl) (by kernel_rfl) (by kernel_rfl) allP0 ?_
              exact round_next' (by kernel_rfl) (by kernel_rfl)
          · replace h := ofF h621 h
            obtain rfl := Option.some.inj h
            refine W_exit (id := 2) [5, 6, 10, 11] [] (fr' := [(5, aD (.slice tI) r1.1), (6, aI r1.2), (10, aD (.slice tI) x363.1), (11, aB x363.2.1)]) (L' := []) (by kernel_rfl) (by kernel_rfl) ?_
            refine seqQ_exit ?_
            refine round_exit ?_
            exact exQ_mk (by kernel_rfl) (by kernel_rfl)
        · intro e fr L hJ
          obtain ⟨rfl, rfl, rfl⟩ := hJ
          refine LT_keep [5, 6, 10, 11] [] (fr' := [(5, aD (.slice tI) r1.1), (6, aI r1.2), (10, aD (.slice tI) v876.1), (11, aB v876.2)]) (L' := []) (by kernel_rfl) ?_
          refine blockQ_hit ?_
          refine seqQ_norm ?_
          refine W_seq (by kernel_rfl) ?_
          refine W_seq (by kernel_rfl) ?_
          refine W_run 2 [] [5, 6, 10, 87] [] (fr' := [(5, aD (.slice tI) r1.1), (6, aI r1.2), (10, aD (.slice tI) v876.1), (87, aB (!v876.2))]) (L' := []) (obs := []) (by kernel_rfl) (by kernel_rfl) (by kernel_rfl) allP0 ?_
          refine seqQ_norm ?_
          refine W_cond (o := .tmp 87) (b := !v876.2) (by kernel_rfl) (by kernel_rfl) (fun h880 => ?_) (fun h880 => ?_)
          · replace h := ofT h880 h
            refine W_seq (by kernel_rfl) ?_
            refine W_run 8 [] [4] [] (fr' := [(4, aB ((r1.2 == (5 : Int)) && ((List.length r1.1 : Int) == (0 : Int))))]) (L' := []) (obs := []) (by kernel_rfl) (by kernel_rfl) (by kernel_rfl) allP0 ?_
            refine seqQ_norm ?_
            obtain rfl := Option.some.inj h
            refine W_ret [4] [] (fr' := [(4, aB ((r1.2 == (5 : Int)) && ((List.length r1.1 : Int) == (0 : Int))))]) (L' := []) (by kernel_rfl) (by kernel_rfl) ?_
            refine seqQ_ret ?_
            exact retQ_mk (by kernel_rfl) (by kernel_rfl) (by kernel_rfl)
          · replace h := ofF h880 h
            refine W_skip [5, 6, 10] [] (fr' := [(5, aD (.slice tI) r1.1), (6, aI r1.2), (10, aD (.slice tI) v876.1)]) (L' := []) (by kernel_rfl) (by kernel_rfl) ?_
            refine seqQ_norm ?_
            refine W_seq (by kernel_rfl) ?_
            obtain ⟨v890, h891, h⟩ := bind_of h
            refine W_cutK (Q' := (exQ .normal law_HardSums_s97) v890) ?_ ?_
            · replace h := h891
              refine W_region (by kernel_rfl) ?_
              refine WO_run (j := 3) (k := 3) (orcs := []) (kF := [5, 10, 97]) (kL := []) (fr' := [(5, aD (.slice tI) r1.1), (10, aD (.slice tI) v876.1), (97, aB (r1.2 == (0 : Int)))]) (L' := []) (obs := []) rfl (by kernel_rfl) allP0 ?_
              rcases Bool.eq_false_or_eq_true (r1.2 == (0 : Int)) with h887 | h887
              · replace h := ofT h887 h
                refine WO_run (j := 5) (k := 2) (orcs := [(6, .known true), (8, .known true)]) (kF := [97, 98, 99]) (kL := []) (fr' := [(97, aB (r1.2 == (0 : Int))), (98, aD (.slice tI) r1.1), (99, aD (.slice tI) v876.1)]) (L' := []) (obs := [((r1.2 == (0 : Int)) = true), ((r1.2 == (0 : Int)) = true)]) rfl (by kernel_rfl) (allP2 h887 (allP1 h887)) ?_
                obtain ⟨r888, h889, h⟩ := bind_of h
                refine WO_call0 (us := [none, none]) (d := 100) (p := ((r1.2 == (0 : Int)) = true)) (j := 6) rfl ⟨by kernel_rfl, by kernel_rfl, by kernel_rfl⟩ h887 (ref_Ints_ok h889) (by kernel_rfl) ?_
                refine WO_run (j := 8) (k := 2) (orcs := [(13, .val (.dat .bool true))]) (kF := [4]) (kL := []) (fr' := [(4, aB r888)]) (L' := []) (obs := [((r1.2 == (0 : Int)) = true)]) rfl (by kernel_rfl) (allP1 h887) ?_
                obtain rfl := Option.some.inj h
                refine WO_fin [4] [] (fr' := [(4, aB r888)]) (L' := []) (by kernel_rfl) (by kernel_rfl) ?_
                exact exQ_mk (by kernel_rfl) (by kernel_rfl)
              · replace h := ofF h887 h
                refine WO_run (j := 8) (k := 5) (orcs := [(6, .known false), (8, .known false), (10, .known false), (13, .val (.dat .bool false))]) (kF := [4]) (kL := []) (fr' := [(4, aB false)]) (L' := []) (obs := [((r1.2 == (0 : Int)) = false), ((r1.2 == (0 : Int)) = false), ((r1.2 == (0 : Int)) = false), ((r1.2 == (0 : Int)) = false)]) rfl (by kernel_rfl) (allP2 h887 (allP2 h887 (allP2 h887 (allP1 h887)))) ?_
                obtain rfl := Option.some.inj h
                refine WO_fin [4] [] (fr' := [(4, aB false)]) (L' := []) (by kernel_rfl) (by kernel_rfl) ?_
                exact exQ_mk (by kernel_rfl) (by kernel_rfl)
            · intro e fr L hJ
              obtain ⟨rfl, rfl, rfl⟩ := hJ
              refine LT_keep [4] [] (fr' := [(4, aB v890)]) (L' := []) (by kernel_rfl) ?_
              refine seqQ_norm ?_
              obtain rfl := Option.some.inj h
              refine W_ret [4] [] (fr' := [(4, aB v890)]) (L' := []) (by kernel_rfl) (by kernel_rfl) ?_
              exact retQ_mk (by kernel_rfl) (by kernel_rfl) (by kernel_rfl)
end Go.Proofs.Ytcallckeeohoaaa.hardSums
