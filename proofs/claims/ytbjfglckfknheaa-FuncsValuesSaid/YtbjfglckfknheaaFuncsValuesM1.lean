/- What the functions that FuncsValues calls compute, as models, and that they compute it: written by a program of mine. -/
import Derived.Test.YtbjfglckfknheaaProg
import Derived.Test.YtbjfglckfknheaaSl5
set_option linter.all false
set_option maxRecDepth 100000
namespace Go.Proofs.Ytbjfglckfknheaa.funcsValues
open Go Go.Sl
def funcs_wrong_1 (a0 : Int) (a1 : Int) (c0 : Int) (c1 : (List (Int × (Int × (Int × (Int × (Int × (List Int)))))))) : Option Int :=
bif (decide (a0 < (0 : Int))) || (decide (a0 ≥ c0)) then
(some (2 : Int))
else
((idx c1 a0).bind fun v2 =>
bif v2.2.1 != a1 then
(some (3 : Int))
else
(some (0 : Int)))
theorem funcs_wrong_1_ok {a0 : Int} {a1 : Int} {c0 : Int} {c1 : (List (Int × (Int × (Int × (Int × (Int × (List Int)))))))} {r : Int} (h : funcs_wrong_1 a0 a1 c0 c1 = some r) : FnC Try.prog 57 [aI a0, aI a1, .one (.ptr 1000 0), .one (.ptr 1001 0)] [(1000, .cells [.dat tI c0]), (1001, .cells [.dat (.slice (.pair tI (.pair tI (.pair tI (.pair tI (.pair tI (.slice tI))))))) c1])] (aI r) [(1000, .cells [.dat tI c0]), (1001, .cells [.dat (.slice (.pair tI (.pair tI (.pair tI (.pair tI (.pair tI (.slice tI))))))) c1])] := by
  refine fnC_of_W (B := bodyOf Try.f57) (n := 21) Try.func57 (by kernel_rfl) (by kernel_rfl) (by kernel_rfl) (by kernel_rfl) (by kernel_rfl) ?_
  intro K
  refine W_seq (by kernel_rfl) ?_
  refine W_run 1 [] [0, 1, 2, 3] [1000, 1001] (fr' := [(0, aI a0), (1, aI a1), (2, .one (.ptr 1000 0)), (3, .one (.ptr 1001 0))]) (L' := [(1000, .cells [.dat tI c0]), (1001, .cells [.dat (.slice (.pair tI (.pair tI (.pair tI (.pair tI (.pair tI (.slice tI))))))) c1])]) (obs := []) (by kernel_rfl) (by kernel_rfl) (by kernel_rfl) allP0 ?_
  refine seqQ_norm ?_
  refine W_seq (by kernel_rfl) ?_
  refine W_seq (by kernel_rfl) ?_
  refine W_run 7 [] [0, 1, 3, 13] [1001, 1000] (fr' := [(0, aI a0), (1, aI a1), (3, .one (.ptr 1001 0)), (13, aB ((decide (a0 < (0 : Int))) || (decide (a0 ≥ c0))))]) (L' := [(1001, .cells [.dat (.slice (.pair tI (.pair tI (.pair tI (.pair tI (.pair tI (.slice tI))))))) c1]), (1000, .cells [.dat tI c0])]) (obs := []) (by kernel_rfl) (by kernel_rfl) (by kernel_rfl) allP0 ?_
  refine seqQ_norm ?_
  refine W_cond (o := .tmp 13) (b := (decide (a0 < (0 : Int))) || (decide (a0 ≥ c0))) (by kernel_rfl) (by kernel_rfl) (fun h1 => ?_) (fun h1 => ?_)
  · replace h := ofT h1 h
    refine W_seq (by kernel_rfl) ?_
    refine W_run 1 [] [6] [1000, 1001] (fr' := [(6, aI (2 : Int))]) (L' := [(1000, .cells [.dat tI c0]), (1001, .cells [.dat (.slice (.pair tI (.pair tI (.pair tI (.pair tI (.pair tI (.slice tI))))))) c1])]) (obs := []) (by kernel_rfl) (by kernel_rfl) (by kernel_rfl) allP0 ?_
    refine seqQ_norm ?_
    obtain rfl := Option.some.inj h
    refine W_ret [6] [1000, 1001] (fr' := [(6, aI (2 : Int))]) (L' := [(1000, .cells [.dat tI c0]), (1001, .cells [.dat (.slice (.pair tI (.pair tI (.pair tI (.pair tI (.pair tI (.slice tI))))))) c1])]) (by kernel_rfl) (by kernel_rfl) ?_
    refine seqQ_ret ?_
    exact retQ_mk (by kernel_rfl) (by kernel_rfl) (by kernel_rfl)
  · replace h := ofF h1 h
    refine W_skip [0, 1, 3] [1001, 1000] (fr' := [(0, aI a0), (1, aI a1), (3, .one (.ptr 1001 0))]) (L' := [(1001, .cells [.dat (.slice (.pair tI (.pair tI (.pair tI (.pair tI (.pair tI (.slice tI))))))) c1]), (1000, .cells [.dat tI c0])]) (by kernel_rfl) (by kernel_rfl) ?_
    refine seqQ_norm ?_
    refine W_seq (by kernel_rfl) ?_
    refine W_seq (by kernel_rfl) ?_
    obtain ⟨v2, h3, h⟩ := bind_of h
    refine W_run 7 [(5, .val (.dat (.pair tI (.pair tI (.pair tI (.pair tI (.pair tI (.slice tI)))))) v2))] [20] [1000, 1001] (fr' := [(20, aB (v2.2.1 != a1))]) (L' := [(1000, .cells [.dat tI c0]), (1001, .cells [.dat (.slice (.pair tI (.pair tI (.pair tI (.pair tI (.pair tI (.slice tI))))))) c1])]) (obs := [Idx c1 a0 v2]) (by kernel_rfl) (by kernel_rfl) (by kernel_rfl) (allP1 (Idx.of h3)) ?_
    refine seqQ_norm ?_
    refine W_cond (o := .tmp 20) (b := v2.2.1 != a1) (by kernel_rfl) (by kernel_rfl) (fun h4 => ?_) (fun h4 => ?_)
    · replace h := ofT h4 h
      refine W_seq (by kernel_rfl) ?_
      refine W_run 1 [] [6] [1000, 1001] (fr' := [(6, aI (3 : Int))]) (L' := [(1000, .cells [.dat tI c0]), (1001, .cells [.dat (.slice (.pair tI (.pair tI (.pair tI (.pair tI (.pair tI (.slice tI))))))) c1])]) (obs := []) (by kernel_rfl) (by kernel_rfl) (by kernel_rfl) allP0 ?_
      refine seqQ_norm ?_
      obtain rfl := Option.some.inj h
      refine W_ret [6] [1000, 1001] (fr' := [(6, aI (3 : Int))]) (L' := [(1000, .cells [.dat tI c0]), (1001, .cells [.dat (.slice (.pair tI (.pair tI (.pair tI (.pair tI (.pair tI (.slice tI))))))) c1])]) (by kernel_rfl) (by kernel_rfl) ?_
      refine seqQ_ret ?_
      exact retQ_mk (by kernel_rfl) (by kernel_rfl) (by kernel_rfl)
    · replace h := ofF h4 h
      refine W_skip [] [1000, 1001] (fr' := []) (L' := [(1000, .cells [.dat tI c0]), (1001, .cells [.dat (.slice (.pair tI (.pair tI (.pair tI (.pair tI (.pair tI (.slice tI))))))) c1])]) (by kernel_rfl) (by kernel_rfl) ?_
      refine seqQ_norm ?_
      refine W_seq (by kernel_rfl) ?_
      refine W_run 1 [] [6] [1000, 1001] (fr' := [(6, aI (0 : Int))]) (L' := [(1000, .cells [.dat tI c0]), (1001, .cells [.dat (.slice (.pair tI (.pair tI (.pair tI (.pair tI (.pair tI (.slice tI))))))) c1])]) (obs := []) (by kernel_rfl) (by kernel_rfl) (by kernel_rfl) allP0 ?_
      refine seqQ_norm ?_
      obtain rfl := Option.some.inj h
      refine W_ret [6] [1000, 1001] (fr' := [(6, aI (0 : Int))]) (L' := [(1000, .cells [.dat tI c0]), (1001, .cells [.dat (.slice (.pair tI (.pair tI (.pair tI (.pair tI (.pair tI (.slice tI))))))) c1])]) (by kernel_rfl) (by kernel_rfl) ?_
      exact retQ_mk (by kernel_rfl) (by kernel_rfl) (by kernel_rfl)

def slices_Index_LapiErrnoapiErrno_b1 (a1 : Int) (i11 : Int) (v14 : Int) (x12 : Unit) : Option (Flow Unit (Esc Int Unit)) :=
bif a1 == v14 then
(some (.done (.ret i11)))
else
(some (.next ()))
@[reducible] def slices_Index_LapiErrnoapiErrno_s2 (a1 : Int) (c0 : (List Int)) (v : Int × Unit) : Fr × LL := ([(0, .one (.slc 1000)), (1, aI a1), (7, aI (List.length c0 : Int)), (8, aI v.1)], [(1000, .seq tI c0)])
@[reducible] def slices_Index_LapiErrnoapiErrno_s3 (c0 : (List Int)) (v : Int) : Fr × LL := ([(4, aI v)], [(1000, .seq tI c0)])
@[reducible] def slices_Index_LapiErrnoapiErrno_s4 (c0 : (List Int)) (v : Unit) : Fr × LL := ([], [(1000, .seq tI c0)])
def slices_Index_LapiErrnoapiErrno (a1 : Int) (c0 : (List Int)) : Option Int :=
(forL (slices_Index_LapiErrnoapiErrno_b1 a1) (fun x12 => (.brk ())) c0 0 ()).bind fun v19 =>
match v19 with
| .ret v24 =>
(some v24)
| .brk v25 =>
(some (-1 : Int))
theorem slices_Index_LapiErrnoapiErrno_ok {a1 : Int} {c0 : (List Int)} {r : Int} (h : slices_Index_LapiErrnoapiErrno a1 c0 = some r) : FnC Try.prog 59 [.one (.slc 1000), aI a1] [(1000, .seq tI c0)] (aI r) [(1000, .seq tI c0)] := by
  refine fnC_of_W (B := bodyOf Try.f59) (n := 19) Try.func59 (by kernel_rfl) (by kernel_rfl) (by kernel_rfl) (by kernel_rfl) (by kernel_rfl) ?_
  intro K
  refine W_seq (by kernel_rfl) ?_
  refine W_run 1 [] [0, 1] [1000] (fr' := [(0, .one (.slc 1000)), (1, aI a1)]) (L' := [(1000, .seq tI c0)]) (obs := []) (by kernel_rfl) (by kernel_rfl) (by kernel_rfl) allP0 ?_
  refine seqQ_norm ?_
  refine W_seq (by kernel_rfl) ?_
  refine W_seq (by kernel_rfl) ?_
  refine W_run 3 [] [0, 1, 7, 8] [1000] (fr' := [(0, .one (.slc 1000)), (1, aI a1), (7, aI (List.length c0 : Int)), (8, aI (0 : Int))]) (L' := [(1000, .seq tI c0)]) (obs := []) (by kernel_rfl) (by kernel_rfl) (by kernel_rfl) allP0 ?_
  refine seqQ_norm ?_
  refine W_block (id := 0) (by kernel_rfl) ?_
  obtain ⟨v19, h20, h⟩ := bind_of h
  refine W_lenS (s := 1000) (u := tI) (xs := c0) (by kernel_rfl) (fun h23 => ?_)
  obtain ⟨h21, h22⟩ := forL_iter h23 h20
  refine W_weaken [0, 1, 7, 8] [1000] (fr' := ((slices_Index_LapiErrnoapiErrno_s2 a1 c0) ((0 : Int), ())).1) (L' := ((slices_Index_LapiErrnoapiErrno_s2 a1 c0) ((0 : Int), ())).2) (by kernel_rfl) ?_
  refine W_cutK (W_loop (S := (slices_Index_LapiErrnoapiErrno_s2 a1 c0)) (J := (escQ (exQ .ret (slices_Index_LapiErrnoapiErrno_s3 c0)) (exQ (.exit 0) (slices_Index_LapiErrnoapiErrno_s4 c0)))) (by kernel_rfl) ?_ h21 _ v19 h22) ?_
  · rintro ⟨i11, x12⟩ s h
    refine W_seq (by kernel_rfl) ?_
    refine W_run 1 [] [0, 1, 7, 8, 9] [1000] (fr' := [(0, .one (.slc 1000)), (1, aI a1), (7, aI (List.length c0 : Int)), (8, aI i11), (9, aB (decide (i11 < (List.length c0 : Int))))]) (L' := [(1000, .seq tI c0)]) (obs := []) (by kernel_rfl) (by kernel_rfl) (by kernel_rfl) allP0 ?_
    refine seqQ_norm ?_
    refine W_seq (by kernel_rfl) ?_
    refine W_cond (o := .tmp 9) (b := decide (i11 < (List.length c0 : Int))) (by kernel_rfl) (by kernel_rfl) (fun h16 => ?_) (fun h16 => ?_)
    · replace h := stepL_true h16 h
      obtain ⟨v14, _, h15, h, rfl⟩ := h
      refine W_skip [0, 1, 7, 8] [1000] (fr' := [(0, .one (.slc 1000)), (1, aI a1), (7, aI (List.length c0 : Int)), (8, aI i11)]) (L' := [(1000, .seq tI c0)]) (by kernel_rfl) (by kernel_rfl) ?_
      refine seqQ_norm ?_
      refine W_seq (by kernel_rfl) ?_
      refine W_block (id := 1) (by kernel_rfl) ?_
      refine W_seq (by kernel_rfl) ?_
      refine W_run 2 [] [0, 1, 5, 7, 8] [1000] (fr' := [(0, .one (.slc 1000)), (1, aI a1), (5, aI i11), (7, aI (List.length c0 : Int)), (8, aI i11)]) (L' := [(1000, .seq tI c0)]) (obs := []) (by kernel_rfl) (by kernel_rfl) (by kernel_rfl) allP0 ?_
      refine seqQ_norm ?_
      refine W_seq (by kernel_rfl) ?_
      refine W_run 6 [(9, .val (.dat tI v14))] [0, 1, 5, 7, 8, 16] [1000] (fr' := [(0, .one (.slc 1000)), (1, aI a1), (5, aI i11), (7, aI (List.length c0 : Int)), (8, aI i11), (16, aB (a1 == v14))]) (L' := [(1000, .seq tI c0)]) (obs := [InR i11 (List.length c0), Idx c0 i11 v14]) (by kernel_rfl) (by kernel_rfl) (by kernel_rfl) (allP2 (InR.of h15) (allP1 (Idx.of h15))) ?_
      refine seqQ_norm ?_
      refine W_cond (o := .tmp 16) (b := a1 == v14) (by kernel_rfl) (by kernel_rfl) (fun h17 => ?_) (fun h17 => ?_)
      · replace h := ofT h17 h
        refine W_seq (by kernel_rfl) ?_
        refine W_run 2 [] [4] [1000] (fr' := [(4, aI i11)]) (L' := [(1000, .seq tI c0)]) (obs := []) (by kernel_rfl) (by kernel_rfl) (by kernel_rfl) allP0 ?_
        refine seqQ_norm ?_
        obtain rfl := Option.some.inj h
        refine W_ret [4] [1000] (fr' := [(4, aI i11)]) (L' := [(1000, .seq tI c0)]) (by kernel_rfl) (by kernel_rfl) ?_
        refine blockQ_ret ?_
        refine seqQ_ret ?_
        refine round_ret ?_
        refine escQ_ret ?_
        exact exQ_mk (by kernel_rfl) (by kernel_rfl)
      · replace h := ofF h17 h
        refine W_skip [0, 1, 7, 8] [1000] (fr' := [(0, .one (.slc 1000)), (1, aI a1), (7, aI (List.length c0 : Int)), (8, aI i11)]) (L' := [(1000, .seq tI c0)]) (by kernel_rfl) (by kernel_rfl) ?_
        refine blockQ_norm ?_
        refine seqQ_norm ?_
        obtain rfl := Option.some.inj h
        refine W_run 2 [] [0, 1, 7, 8] [1000] (fr' := [(0, .one (.slc 1000)), (1, aI a1), (7, aI (List.length c0 : Int)), (8, aI (w64 (i11 + (1 : Int))))]) (L' := [(1000, .seq tI c0)]) (obs := []) (by kernel_rfl) (by kernel_rfl) (by kernel_rfl) allP0 ?_
        exact round_next' (by kernel_rfl) (by kernel_rfl)
    · obtain rfl := stepL_false h16 h
      refine W_exit (id := 0) [] [1000] (fr' := []) (L' := [(1000, .seq tI c0)]) (by kernel_rfl) (by kernel_rfl) ?_
      refine seqQ_exit ?_
      refine round_exit ?_
      refine escQ_brk ?_
      exact exQ_mk (by kernel_rfl) (by kernel_rfl)
  · intro e fr L hJ
    rcases v19 with v24 | v25
    · obtain ⟨rfl, rfl, rfl⟩ := hJ
      obtain rfl := Option.some.inj h
      refine LT_keep [4] [1000] (fr' := [(4, aI v24)]) (L' := [(1000, .seq tI c0)]) (by kernel_rfl) ?_
      refine blockQ_ret ?_
      refine seqQ_ret ?_
      exact retQ_mk (by kernel_rfl) (by kernel_rfl) (by kernel_rfl)
    · obtain ⟨rfl, rfl, rfl⟩ := hJ
      refine LT_keep [] [1000] (fr' := []) (L' := [(1000, .seq tI c0)]) (by kernel_rfl) ?_
      refine blockQ_hit ?_
      refine seqQ_norm ?_
      refine W_seq (by kernel_rfl) ?_
      refine W_run 1 [] [4] [1000] (fr' := [(4, aI (-1 : Int))]) (L' := [(1000, .seq tI c0)]) (obs := []) (by kernel_rfl) (by kernel_rfl) (by kernel_rfl) allP0 ?_
      refine seqQ_norm ?_
      obtain rfl := Option.some.inj h
      refine W_ret [4] [1000] (fr' := [(4, aI (-1 : Int))]) (L' := [(1000, .seq tI c0)]) (by kernel_rfl) (by kernel_rfl) ?_
      exact retQ_mk (by kernel_rfl) (by kernel_rfl) (by kernel_rfl)

def slices_Contains_LapiErrnoapiErrno (a1 : Int) (c0 : (List Int)) : Option Bool :=
(slices_Index_LapiErrnoapiErrno a1 c0).bind fun r1 =>
some (decide (r1 ≥ (0 : Int)))
theorem slices_Contains_LapiErrnoapiErrno_ok {a1 : Int} {c0 : (List Int)} {r : Bool} (h : slices_Contains_LapiErrnoapiErrno a1 c0 = some r) : FnC Try.prog 58 [.one (.slc 1000), aI a1] [(1000, .seq tI c0)] (aB r) [(1000, .seq tI c0)] := by
  refine fnC_of_W (B := bodyOf Try.f58) (n := 9) Try.func58 (by kernel_rfl) (by kernel_rfl) (by kernel_rfl) (by kernel_rfl) (by kernel_rfl) ?_
  intro K
  refine W_seq (by kernel_rfl) ?_
  refine W_run 1 [] [0, 1] [1000] (fr' := [(0, .one (.slc 1000)), (1, aI a1)]) (L' := [(1000, .seq tI c0)]) (obs := []) (by kernel_rfl) (by kernel_rfl) (by kernel_rfl) allP0 ?_
  refine seqQ_norm ?_
  refine W_seq (by kernel_rfl) ?_
  refine W_region (by kernel_rfl) ?_
  refine WO_run (j := 2) (k := 2) (orcs := []) (kF := [5, 6]) (kL := [1000]) (fr' := [(5, .one (.slc 1000)), (6, aI a1)]) (L' := [(1000, .seq tI c0)]) (obs := []) rfl (by kernel_rfl) allP0 ?_
  obtain ⟨r1, h2, h⟩ := bind_of h
  refine WO_lend [(1000, 1000)] (us := [none, none]) (d := 7) (p := True) (j := 3) rfl ⟨by kernel_rfl, by kernel_rfl, by kernel_rfl⟩ trivial (slices_Index_LapiErrnoapiErrno_ok h2) (by kernel_rfl) (by kernel_rfl) ?_
  refine WO_run (j := 5) (k := 2) (orcs := []) (kF := [4]) (kL := [1000]) (fr' := [(4, aB (decide (r1 ≥ (0 : Int))))]) (L' := [(1000, .seq tI c0)]) (obs := []) rfl (by kernel_rfl) allP0 ?_
  refine WO_fin [4] [1000] (fr' := [(4, aB (decide (r1 ≥ (0 : Int))))]) (L' := [(1000, .seq tI c0)]) (by kernel_rfl) (by kernel_rfl) ?_
  refine seqQ_norm ?_
  obtain rfl := Option.some.inj h
  refine W_ret [4] [1000] (fr' := [(4, aB (decide (r1 ≥ (0 : Int))))]) (L' := [(1000, .seq tI c0)]) (by kernel_rfl) (by kernel_rfl) ?_
  exact retQ_mk (by kernel_rfl) (by kernel_rfl) (by kernel_rfl)

@[reducible] def funcs_wrong_s3 (a0 : (List (Int × (Int × (Int × (Int × (Int × (List Int)))))))) (a1 : Int) (v1 : (Int × (Int × (Int × (Int × (Int × (List Int))))))) (v : Bool) : Fr × LL := ([(2, .one (.ptr 2 0)), (3, .one (.ptr 3 0)), (5, .one (.ptr 5 0)), (6, aI (0 : Int)), (24, aB v)], [(2, .cells [.dat (.slice (.pair tI (.pair tI (.pair tI (.pair tI (.pair tI (.slice tI))))))) a0]), (3, .cells [.dat tI a1]), (5, .one (.pair tI (.pair tI (.pair tI (.pair tI (.pair tI (.slice tI)))))) v1)])
def funcs_wrong_g4 (v1 : (Int × (Int × (Int × (Int × (Int × (List Int))))))) (v21 : Int) : Option Bool :=
bif decide (v1.2.1 < v21) then
(some true)
else
(bif decide (v1.2.1 > (4 : Int)) then
(some true)
else
(bif v1.1 == (2 : Int) then
(bif decide (v1.2.1 > (1 : Int)) then
(some true)
else
(bif v1.1 == (4 : Int) then
(some (decide ((List.length v1.2.2.2.2.2 : Int) > (4 : Int))))
else
(some false)))
else
(bif v1.1 == (4 : Int) then
(some (decide ((List.length v1.2.2.2.2.2 : Int) > (4 : Int))))
else
(some false))))
def funcs_wrong_b11 (a0 : (List (Int × (Int × (Int × (Int × (Int × (List Int)))))))) (a1 : Int) (v1 : (Int × (Int × (Int × (Int × (Int × (List Int))))))) (i137 : Int) (v140 : Int) (x138 : (List Int)) : Option (Flow (List Int) (List Int)) :=
(funcs_wrong_1 v140 v1.2.1 a1 a0).bind fun r143 =>
(ck ((List.length x138 : Int) + 1 ≤ 4294967296)).bind fun _ =>
some (.next (x138 ++ [r143]))
@[reducible] def funcs_wrong_s12 (a0 : (List (Int × (Int × (Int × (Int × (Int × (List Int)))))))) (a1 : Int) (v1 : (Int × (Int × (Int × (Int × (Int × (List Int))))))) (v : Int × (List Int)) : Fr × LL := ([(5, .one (.ptr 5 0)), (7, .one (.fn 57 [(3, 0), (2, 0)])), (8, .one (.slc 94)), (96, aD (.slice tI) v1.2.2.2.2.2), (97, aI (List.length v1.2.2.2.2.2 : Int)), (98, aI v.1)], [(2, .cells [.dat (.slice (.pair tI (.pair tI (.pair tI (.pair tI (.pair tI (.slice tI))))))) a0]), (3, .cells [.dat tI a1]), (5, .one (.pair tI (.pair tI (.pair tI (.pair tI (.pair tI (.slice tI)))))) v1), (94, .seq tI v.2)])
@[reducible] def funcs_wrong_s13 (a0 : (List (Int × (Int × (Int × (Int × (Int × (List Int)))))))) (a1 : Int) (v1 : (Int × (Int × (Int × (Int × (Int × (List Int))))))) (v : (List Int)) : Fr × LL := ([(5, .one (.ptr 5 0)), (7, .one (.fn 57 [(3, 0), (2, 0)])), (8, .one (.slc 94))], [(2, .cells [.dat (.slice (.pair tI (.pair tI (.pair tI (.pair tI (.pair tI (.slice tI))))))) a0]), (3, .cells [.dat tI a1]), (5, .one (.pair tI (.pair tI (.pair tI (.pair tI (.pair tI (.slice tI)))))) v1), (94, .seq tI v)])
def funcs_wrong_g14 (a0 : (List (Int × (Int × (Int × (Int × (Int × (List Int)))))))) (a1 : Int) (v1 : (Int × (Int × (Int × (Int × (Int × (List Int))))))) : Option (List Int) :=
bif v1.1 == (4 : Int) then
((funcs_wrong_1 v1.2.2.2.1 (List.length v1.2.2.2.2.2 : Int) a1 a0).bind fun r122 =>
(forL (funcs_wrong_b11 a0 a1 v1) (fun x138 => x138) v1.2.2.2.2.2 0 [r122]).bind fun v147 =>
some v147)
else
(some [])
def funcs_wrong_g15 (a0 : (List (Int × (Int × (Int × (Int × (Int × (List Int)))))))) (a1 : Int) (v1 : (Int × (Int × (Int × (Int × (Int × (List Int))))))) (v152 : (List Int)) : Option (List Int) :=
bif v1.1 == (5 : Int) then
((funcs_wrong_1 v1.2.2.2.1 (w64 (v1.2.1 - (1 : Int))) a1 a0).bind fun r167 =>
(funcs_wrong_1 v1.2.2.2.2.1 (w64 (v1.2.1 + (1 : Int))) a1 a0).bind fun r169 =>
(ck ((List.length v152 : Int) + 2 ≤ 4294967296)).bind fun _ =>
some (v152 ++ [r167, r169]))
else
(some v152)
def funcs_wrong_b16 (v172 : (List Int)) (i186 : Int) (x187 : Unit) : Option (Flow Unit (Esc Int Unit)) :=
(idx [(2 : Int), (3 : Int)] i186).bind fun v190 =>
(slices_Contains_LapiErrnoapiErrno v190 v172).bind fun r192 =>
bif r192 then
(some (.done (.ret v190)))
else
(some (.next ()))
@[reducible] def funcs_wrong_s17 (v172 : (List Int)) (v : Int × Unit) : Fr × LL := ([(8, .one (.slc 94)), (131, .one (.slc 131)), (132, aI (2 : Int)), (133, aI v.1)], [(94, .seq tI v172), (131, .seq tI [(2 : Int), (3 : Int)])])
@[reducible] def funcs_wrong_s18 (v : Int) : Fr × LL := ([(4, aI v)], [])
@[reducible] def funcs_wrong_s19 (v : Unit) : Fr × LL := ([], [])
@[reducible] def funcs_wrong_s20 (v : (List Int)) : Fr × LL := ([(8, .one (.slc 94))], [(94, .seq tI v)])
@[reducible] def funcs_wrong_s21 (a0 : (List (Int × (Int × (Int × (Int × (Int × (List Int)))))))) (a1 : Int) (v1 : (Int × (Int × (Int × (Int × (Int × (List Int))))))) (v : (List Int)) : Fr × LL := ([(5, .one (.ptr 5 0)), (7, .one (.fn 57 [(3, 0), (2, 0)])), (8, .one (.slc 94))], [(2, .cells [.dat (.slice (.pair tI (.pair tI (.pair tI (.pair tI (.pair tI (.slice tI))))))) a0]), (3, .cells [.dat tI a1]), (5, .one (.pair tI (.pair tI (.pair tI (.pair tI (.pair tI (.slice tI)))))) v1), (94, .seq tI v)])
@[reducible] def funcs_wrong_s22 (a0 : (List (Int × (Int × (Int × (Int × (Int × (List Int)))))))) (a1 : Int) (v1 : (Int × (Int × (Int × (Int × (Int × (List Int))))))) (v : Bool) : Fr × LL := ([(5, .one (.ptr 5 0)), (7, .one (.fn 57 [(3, 0), (2, 0)])), (66, aB v)], [(2, .cells [.dat (.slice (.pair tI (.pair tI (.pair tI (.pair tI (.pair tI (.slice tI))))))) a0]), (3, .cells [.dat tI a1]), (5, .one (.pair tI (.pair tI (.pair tI (.pair tI (.pair tI (.slice tI)))))) v1)])
@[reducible] def funcs_wrong_s23 (a0 : (List (Int × (Int × (Int × (Int × (Int × (List Int)))))))) (a1 : Int) (v1 : (Int × (Int × (Int × (Int × (Int × (List Int))))))) (v : Bool) : Fr × LL := ([(5, .one (.ptr 5 0)), (7, .one (.fn 57 [(3, 0), (2, 0)])), (35, aB v)], [(2, .cells [.dat (.slice (.pair tI (.pair tI (.pair tI (.pair tI (.pair tI (.slice tI))))))) a0]), (3, .cells [.dat tI a1]), (5, .one (.pair tI (.pair tI (.pair tI (.pair tI (.pair tI (.slice tI)))))) v1)])
@[reducible] def funcs_wrong_s24 (a0 : (List (Int × (Int × (Int × (Int × (Int × (List Int)))))))) (a1 : Int) (v1 : (Int × (Int × (Int × (Int × (Int × (List Int))))))) (v21 : Int) (v : Bool) : Fr × LL := ([(5, .one (.ptr 5 0)), (6, aI v21), (7, .one (.fn 57 [(3, 0), (2, 0)])), (26, aB v)], [(2, .cells [.dat (.slice (.pair tI (.pair tI (.pair tI (.pair tI (.pair tI (.slice tI))))))) a0]), (3, .cells [.dat tI a1]), (5, .one (.pair tI (.pair tI (.pair tI (.pair tI (.pair tI (.slice tI)))))) v1)])
@[reducible] def funcs_wrong_s25 (a0 : (List (Int × (Int × (Int × (Int × (Int × (List Int)))))))) (a1 : Int) (v1 : (Int × (Int × (Int × (Int × (Int × (List Int))))))) (v : Int) : Fr × LL := ([(2, .one (.ptr 2 0)), (3, .one (.ptr 3 0)), (5, .one (.ptr 5 0)), (6, aI v)], [(2, .cells [.dat (.slice (.pair tI (.pair tI (.pair tI (.pair tI (.pair tI (.slice tI))))))) a0]), (3, .cells [.dat tI a1]), (5, .one (.pair tI (.pair tI (.pair tI (.pair tI (.pair tI (.slice tI)))))) v1)])
def funcs_wrong (a0 : (List (Int × (Int × (Int × (Int × (Int × (List Int)))))))) (a1 : Int) : Option Int :=
(idx a0 a1).bind fun v1 =>
((bif v1.1 == (2 : Int) then
(some true)
else
(some (v1.1 == (5 : Int)))).bind fun v18 =>
bif v18 then
(some (1 : Int))
else
(some (0 : Int))).bind fun v21 =>
(bif decide (v1.1 < (1 : Int)) then
(some true)
else
(some (decide (v1.1 > (5 : Int))))).bind fun v26 =>
bif v26 then
(some (6 : Int))
else
((funcs_wrong_g4 v1 v21).bind fun v47 =>
bif v47 then
(some (1 : Int))
else
((bif v1.1 == (3 : Int) then
(bif decide (v1.2.2.1 < (0 : Int)) then
(some true)
else
(some (decide (v1.2.2.1 ≥ v1.2.1))))
else
(some false)).bind fun v56 =>
bif v56 then
(some (4 : Int))
else
((funcs_wrong_g14 a0 a1 v1).bind fun v152 =>
(funcs_wrong_g15 a0 a1 v1 v152).bind fun v172 =>
(forI (0 : Int) (2 : Int) (funcs_wrong_b16 v172) (fun x187 => (.brk ())) ()).bind fun v196 =>
match v196 with
| .ret v200 =>
(some v200)
| .brk v201 =>
(some (0 : Int)))))
theorem funcs_wrong_ok {a0 : (List (Int × (Int × (Int × (Int × (Int × (List Int)))))))} {a1 : Int} {r : Int} (h : funcs_wrong a0 a1 = some r) : FnC Try.prog 49 [aD (.slice (.pair tI (.pair tI (.pair tI (.pair tI (.pair tI (.slice tI))))))) a0, aI a1] [] (aI r) [] := by
  refine fnC_of_W (B := bodyOf Try.f49) (n := 142) Try.func49 (by kernel_rfl) (by kernel_rfl) (by kernel_rfl) (by kernel_rfl) (by kernel_rfl) ?_
  intro K
  refine W_seq (by kernel_rfl) ?_
  refine W_run 3 [] [2, 3] [2, 3] (fr' := [(2, .one (.ptr 2 0)), (3, .one (.ptr 3 0))]) (L' := [(2, .cells [.dat (.slice (.pair tI (.pair tI (.pair tI (.pair tI (.pair tI (.slice tI))))))) a0]), (3, .cells [.dat tI a1])]) (obs := []) (by kernel_rfl) (by kernel_rfl) (by kernel_rfl) allP0 ?_
  refine seqQ_norm ?_
  refine W_seq (by kernel_rfl) ?_
  obtain ⟨v1, h2, h⟩ := bind_of h
  refine W_run 6 [(5, .val (.dat (.pair tI (.pair tI (.pair tI (.pair tI (.pair tI (.slice tI)))))) v1)), (9, .typed)] [2, 3, 5] [2, 3, 5] (fr' := [(2, .one (.ptr 2 0)), (3, .one (.ptr 3 0)), (5, .one (.ptr 5 0))]) (L' := [(2, .cells [.dat (.slice (.pair tI (.pair tI (.pair tI (.pair tI (.pair tI (.slice tI))))))) a0]), (3, .cells [.dat tI a1]), (5, .one (.pair tI (.pair tI (.pair tI (.pair tI (.pair tI (.slice tI)))))) v1)]) (obs := [Idx a0 a1 v1, True]) (by kernel_rfl) (by kernel_rfl) (by kernel_rfl) (allP2 (Idx.of h2) (allP1 trivial)) ?_
  refine seqQ_norm ?_
  refine W_seq (by kernel_rfl) ?_
  refine W_run 1 [] [2, 3, 5, 6] [2, 3, 5] (fr' := [(2, .one (.ptr 2 0)), (3, .one (.ptr 3 0)), (5, .one (.ptr 5 0)), (6, aI (0 : Int))]) (L' := [(2, .cells [.dat (.slice (.pair tI (.pair tI (.pair tI (.pair tI (.pair tI (.slice tI))))))) a0]), (3, .cells [.dat tI a1]), (5, .one (.pair tI (.pair tI (.pair tI (.pair tI (.pair tI (.slice tI)))))) v1)]) (obs := []) (by kernel_rfl) (by kernel_rfl) (by kernel_rfl) allP0 ?_
  refine seqQ_norm ?_
  refine W_seq (by kernel_rfl) ?_
  obtain ⟨v21, h22, h⟩ := bind_of h
  refine W_cutK (Q' := (exQ .normal (funcs_wrong_s25 a0 a1 v1)) v21) ?_ ?_
  · replace h := h22
    refine W_seq (by kernel_rfl) ?_
    obtain ⟨v18, h19, h⟩ := bind_of h
    refine W_cutK (Q' := (exQ .normal (funcs_wrong_s3 a0 a1 v1)) v18) ?_ ?_
    · replace h := h19
      refine W_region (by kernel_rfl) ?_
      refine WO_run (j := 4) (k := 4) (orcs := []) (kF := [2, 3, 5, 6, 20]) (kL := [2, 3, 5]) (fr' := [(2, .one (.ptr 2 0)), (3, .one (.ptr 3 0)), (5, .one (.ptr 5 0)), (6, aI (0 : Int)), (20, aB (v1.1 == (2 : Int)))]) (L' := [(2, .cells [.dat (.slice (.pair tI (.pair tI (.pair tI (.pair tI (.pair tI (.slice tI))))))) a0]), (3, .cells [.dat tI a1]), (5, .one (.pair tI (.pair tI (.pair tI (.pair tI (.pair tI (.slice tI)))))) v1)]) (obs := []) rfl (by kernel_rfl) allP0 ?_
      rcases Bool.eq_false_or_eq_true (v1.1 == (2 : Int)) with h17 | h17
      · replace h := ofT h17 h
        refine WO_run (j := 8) (k := 4) (orcs := [(8, .known true), (10, .known true), (12, .known true), (15, .val (.dat .bool true))]) (kF := [2, 3, 5, 6, 24]) (kL := [2, 3, 5]) (fr' := [(2, .one (.ptr 2 0)), (3, .one (.ptr 3 0)), (5, .one (.ptr 5 0)), (6, aI (0 : Int)), (24, aB true)]) (L' := [(2, .cells [.dat (.slice (.pair tI (.pair tI (.pair tI (.pair tI (.pair tI (.slice tI))))))) a0]), (3, .cells [.dat tI a1]), (5, .one (.pair tI (.pair tI (.pair tI (.pair tI (.pair tI (.slice tI)))))) v1)]) (obs := [((v1.1 == (2 : Int)) = true), ((v1.1 == (2 : Int)) = true), ((v1.1 == (2 : Int)) = true), ((v1.1 == (2 : Int)) = true)]) rfl (by kernel_rfl) (allP2 h17 (allP2 h17 (allP2 h17 (allP1 h17)))) ?_
        obtain rfl := Option.some.inj h
        refine WO_fin [2, 3, 5, 6, 24] [2, 3, 5] (fr' := [(2, .one (.ptr 2 0)), (3, .one (.ptr 3 0)), (5, .one (.ptr 5 0)), (6, aI (0 : Int)), (24, aB true)]) (L' := [(2, .cells [.dat (.slice (.pair tI (.pair tI (.pair tI (.pair tI (.pair tI (.slice tI))))))) a0]), (3, .cells [.dat tI a1]), (5, .one (.pair tI (.pair tI (.pair tI (.pair tI (.pair tI (.slice tI)))))) v1)]) (by kernel_rfl) (by kernel_rfl) ?_
        exact exQ_mk (by kernel_rfl) (by kernel_rfl)
      · replace h := ofF h17 h
        refine WO_run (j := 8) (k := 4) (orcs := [(8, .known false), (10, .known false), (12, .known false), (15, .val (.dat .bool false))]) (kF := [2, 3, 5, 6, 24]) (kL := [2, 3, 5]) (fr' := [(2, .one (.ptr 2 0)), (3, .one (.ptr 3 0)), (5, .one (.ptr 5 0)), (6, aI (0 : Int)), (24, aB (v1.1 == (5 : Int)))]) (L' := [(2, .cells [.dat (.slice (.pair tI (.pair tI (.pair tI (.pair tI (.pair tI (.slice tI))))))) a0]), (3, .cells [.dat tI a1]), (5, .one (.pair tI (.pair tI (.pair tI (.pair tI (.pair tI (.slice tI)))))) v1)]) (obs := [((v1.1 == (2 : Int)) = false), ((v1.1 == (2 : Int)) = false), ((v1.1 == (2 : Int)) = false), ((v1.1 == (2 : Int)) = false)]) rfl (by kernel_rfl) (allP2 h17 (allP2 h17 (allP2 h17 (allP1 h17)))) ?_
        obtain rfl := Option.some.inj h
        refine WO_fin [2, 3, 5, 6, 24] [2, 3, 5] (fr' := [(2, .one (.ptr 2 0)), (3, .one (.ptr 3 0)), (5, .one (.ptr 5 0)), (6, aI (0 : Int)), (24, aB (v1.1 == (5 : Int)))]) (L' := [(2, .cells [.dat (.slice (.pair tI (.pair tI (.pair tI (.pair tI (.pair tI (.slice tI))))))) a0]), (3, .cells [.dat tI a1]), (5, .one (.pair tI (.pair tI (.pair tI (.pair tI (.pair tI (.slice tI)))))) v1)]) (by kernel_rfl) (by kernel_rfl) ?_
        exact exQ_mk (by kernel_rfl) (by kernel_rfl)
    · intro e fr L hJ
      obtain ⟨rfl, rfl, rfl⟩ := hJ
      refine LT_keep [2, 3, 5, 6, 24] [2, 3, 5] (fr' := [(2, .one (.ptr 2 0)), (3, .one (.ptr 3 0)), (5, .one (.ptr 5 0)), (6, aI (0 : Int)), (24, aB v18)]) (L' := [(2, .cells [.dat (.slice (.pair tI (.pair tI (.pair tI (.pair tI (.pair tI (.slice tI))))))) a0]), (3, .cells [.dat tI a1]), (5, .one (.pair tI (.pair tI (.pair tI (.pair tI (.pair tI (.slice tI)))))) v1)]) (by kernel_rfl) ?_
      refine seqQ_norm ?_
      refine W_cond (o := .tmp 24) (b := v18) (by kernel_rfl) (by kernel_rfl) (fun h20 => ?_) (fun h20 => ?_)
      · replace h := ofT h20 h
        obtain rfl := Option.some.inj h
        refine W_run 1 [] [2, 3, 5, 6] [2, 3, 5] (fr' := [(2, .one (.ptr 2 0)), (3, .one (.ptr 3 0)), (5, .one (.ptr 5 0)), (6, aI (1 : Int))]) (L' := [(2, .cells [.dat (.slice (.pair tI (.pair tI (.pair tI (.pair tI (.pair tI (.slice tI))))))) a0]), (3, .cells [.dat tI a1]), (5, .one (.pair tI (.pair tI (.pair tI (.pair tI (.pair tI (.slice tI)))))) v1)]) (obs := []) (by kernel_rfl) (by kernel_rfl) (by kernel_rfl) allP0 ?_
        exact exQ_mk (by kernel_rfl) (by kernel_rfl)
      · replace h := ofF h20 h
        obtain rfl := Option.some.inj h
        refine W_skip [2, 3, 5, 6] [2, 3, 5] (fr' := [(2, .one (.ptr 2 0)), (3, .one (.ptr 3 0)), (5, .one (.ptr 5 0)), (6, aI (0 : Int))]) (L' := [(2, .cells [.dat (.slice (.pair tI (.pair tI (.pair tI (.pair tI (.pair tI (.slice tI))))))) a0]), (3, .cells [.dat tI a1]), (5, .one (.pair tI (.pair tI (.pair tI (.pair tI (.pair tI (.slice tI)))))) v1)]) (by kernel_rfl) (by kernel_rfl) ?_
        exact exQ_mk (by kernel_rfl) (by kernel_rfl)
  · intro e fr L hJ
    obtain ⟨rfl, rfl, rfl⟩ := hJ
    refine LT_keep [2, 3, 5, 6] [2, 3, 5] (fr' := [(2, .one (.ptr 2 0)), (3, .one (.ptr 3 0)), (5, .one (.ptr 5 0)), (6, aI v21)]) (L' := [(2, .cells [.dat (.slice (.pair tI (.pair tI (.pair tI (.pair tI (.pair tI (.slice tI))))))) a0]), (3, .cells [.dat tI a1]), (5, .one (.pair tI (.pair tI (.pair tI (.pair tI (.pair tI (.slice tI)))))) v1)]) (by kernel_rfl) ?_
    refine seqQ_norm ?_
    refine W_seq (by kernel_rfl) ?_
    refine W_run 2 [] [5, 6, 7] [5, 2, 3] (fr' := [(5, .one (.ptr 5 0)), (6, aI v21), (7, .one (.fn 57 [(3, 0), (2, 0)]))]) (L' := [(5, .one (.pair tI (.pair tI (.pair tI (.pair tI (.pair tI (.slice tI)))))) v1), (2, .cells [.dat (.slice (.pair tI (.pair tI (.pair tI (.pair tI (.pair tI (.slice tI))))))) a0]), (3, .cells [.dat tI a1])]) (obs := []) (by kernel_rfl) (by kernel_rfl) (by kernel_rfl) allP0 ?_
    refine seqQ_norm ?_
    refine W_seq (by kernel_rfl) ?_
    refine W_block (id := 0) (by kernel_rfl) ?_
    refine W_seq (by kernel_rfl) ?_
    obtain ⟨v26, h27, h⟩ := bind_of h
    refine W_cutK (Q' := (exQ .normal (funcs_wrong_s24 a0 a1 v1 v21)) v26) ?_ ?_
    · replace h := h27
      refine W_region (by kernel_rfl) ?_
      refine WO_run (j := 4) (k := 4) (orcs := []) (kF := [5, 6, 7, 30]) (kL := [2, 3, 5]) (fr' := [(5, .one (.ptr 5 0)), (6, aI v21), (7, .one (.fn 57 [(3, 0), (2, 0)])), (30, aB (decide (v1.1 < (1 : Int))))]) (L' := [(2, .cells [.dat (.slice (.pair tI (.pair tI (.pair tI (.pair tI (.pair tI (.slice tI))))))) a0]), (3, .cells [.dat tI a1]), (5, .one (.pair tI (.pair tI (.pair tI (.pair tI (.pair tI (.slice tI)))))) v1)]) (obs := []) rfl (by kernel_rfl) allP0 ?_
      rcases Bool.eq_false_or_eq_true (decide (v1.1 < (1 : Int))) with h25 | h25
      · replace h := ofT h25 h
        refine WO_run (j := 9) (k := 5) (orcs := [(8, .known true), (10, .known true), (12, .known true), (15, .val (.dat .bool true))]) (kF := [5, 6, 7, 26]) (kL := [2, 3, 5]) (fr' := [(5, .one (.ptr 5 0)), (6, aI v21), (7, .one (.fn 57 [(3, 0), (2, 0)])), (26, aB true)]) (L' := [(2, .cells [.dat (.slice (.pair tI (.pair tI (.pair tI (.pair tI (.pair tI (.slice tI))))))) a0]), (3, .cells [.dat tI a1]), (5, .one (.pair tI (.pair tI (.pair tI (.pair tI (.pair tI (.slice tI)))))) v1)]) (obs := [((decide (v1.1 < (1 : Int))) = true), ((decide (v1.1 < (1 : Int))) = true), ((decide (v1.1 < (1 : Int))) = true), ((decide (v1.1 < (1 : Int))) = true)]) rfl (by kernel_rfl) (allP2 h25 (allP2 h25 (allP2 h25 (allP1 h25)))) ?_
        obtain rfl := Option.some.inj h
        refine WO_fin [5, 6, 7, 26] [2, 3, 5] (fr' := [(5, .one (.ptr 5 0)), (6, aI v21), (7, .one (.fn 57 [(3, 0), (2, 0)])), (26, aB true)]) (L' := [(2, .cells [.dat (.slice (.pair tI (.pair tI (.pair tI (.pair tI (.pair tI (.slice tI))))))) a0]), (3, .cells [.dat tI a1]), (5, .one (.pair tI (.pair tI (.pair tI (.pair tI (.pair tI (.slice tI)))))) v1)]) (by kernel_rfl) (by kernel_rfl) ?_
        exact exQ_mk (by kernel_rfl) (by kernel_rfl)
      · replace h := ofF h25 h
        refine WO_run (j := 9) (k := 5) (orcs := [(8, .known false), (10, .known false), (12, .known false), (15, .val (.dat .bool false))]) (kF := [5, 6, 7, 26]) (kL := [2, 3, 5]) (fr' := [(5, .one (.ptr 5 0)), (6, aI v21), (7, .one (.fn 57 [(3, 0), (2, 0)])), (26, aB (decide (v1.1 > (5 : Int))))]) (L' := [(2, .cells [.dat (.slice (.pair tI (.pair tI (.pair tI (.pair tI (.pair tI (.slice tI))))))) a0]), (3, .cells [.dat tI a1]), (5, .one (.pair tI (.pair tI (.pair tI (.pair tI (.pair tI (.slice tI)))))) v1)]) (obs := [((decide (v1.1 < (1 : Int))) = false), ((decide (v1.1 < (1 : Int))) = false), ((decide (v1.1 < (1 : Int))) = false), ((decide (v1.1 < (1 : Int))) = false)]) rfl (by kernel_rfl) (allP2 h25 (allP2 h25 (allP2 h25 (allP1 h25)))) ?_
        obtain rfl := Option.some.inj h
        refine WO_fin [5, 6, 7, 26] [2, 3, 5] (fr' := [(5, .one (.ptr 5 0)), (6, aI v21), (7, .one (.fn 57 [(3, 0), (2, 0)])), (26, aB (decide (v1.1 > (5 : Int))))]) (L' := [(2, .cells [.dat (.slice (.pair tI (.pair tI (.pair tI (.pair tI (.pair tI (.slice tI))))))) a0]), (3, .cells [.dat tI a1]), (5, .one (.pair tI (.pair tI (.pair tI (.pair tI (.pair tI (.slice tI)))))) v1)]) (by kernel_rfl) (by kernel_rfl) ?_
        exact exQ_mk (by kernel_rfl) (by kernel_rfl)
    · intro e fr L hJ
      obtain ⟨rfl, rfl, rfl⟩ := hJ
      refine LT_keep [5, 6, 7, 26] [5, 2, 3] (fr' := [(5, .one (.ptr 5 0)), (6, aI v21), (7, .one (.fn 57 [(3, 0), (2, 0)])), (26, aB v26)]) (L' := [(5, .one (.pair tI (.pair tI (.pair tI (.pair tI (.pair tI (.slice tI)))))) v1), (2, .cells [.dat (.slice (.pair tI (.pair tI (.pair tI (.pair tI (.pair tI (.slice tI))))))) a0]), (3, .cells [.dat tI a1])]) (by kernel_rfl) ?_
      refine seqQ_norm ?_
      refine W_cond (o := .tmp 26) (b := v26) (by kernel_rfl) (by kernel_rfl) (fun h28 => ?_) (fun h28 => ?_)
      · replace h := ofT h28 h
        refine W_seq (by kernel_rfl) ?_
        refine W_run 1 [] [4] [] (fr' := [(4, aI (6 : Int))]) (L' := []) (obs := []) (by kernel_rfl) (by kernel_rfl) (by kernel_rfl) allP0 ?_
        refine seqQ_norm ?_
        obtain rfl := Option.some.inj h
        refine W_ret [4] [] (fr' := [(4, aI (6 : Int))]) (L' := []) (by kernel_rfl) (by kernel_rfl) ?_
        refine blockQ_ret ?_
        refine seqQ_ret ?_
        exact retQ_mk (by kernel_rfl) (by kernel_rfl) (by kernel_rfl)
      · replace h := ofF h28 h
        refine W_seq (by kernel_rfl) ?_
        obtain ⟨v47, h48, h⟩ := bind_of h
        refine W_cutK (Q' := (exQ .normal (funcs_wrong_s23 a0 a1 v1)) v47) ?_ ?_
        · replace h := h48
          refine W_region (by kernel_rfl) ?_
          refine WO_run (j := 5) (k := 5) (orcs := []) (kF := [5, 7, 40]) (kL := [2, 3, 5]) (fr' := [(5, .one (.ptr 5 0)), (7, .one (.fn 57 [(3, 0), (2, 0)])), (40, aB (decide (v1.2.1 < v21)))]) (L' := [(2, .cells [.dat (.slice (.pair tI (.pair tI (.pair tI (.pair tI (.pair tI (.slice tI))))))) a0]), (3, .cells [.dat tI a1]), (5, .one (.pair tI (.pair tI (.pair tI (.pair tI (.pair tI (.slice tI)))))) v1)]) (obs := []) rfl (by kernel_rfl) allP0 ?_
          rcases Bool.eq_false_or_eq_true (decide (v1.2.1 < v21)) with h41 | h41
          · replace h := ofT h41 h
            refine WO_run (j := 31) (k := 26) (orcs := [(10, .known true), (12, .known true), (14, .known true), (17, .val (.dat .bool true)), (20, .known true), (22, .known true), (24, .known true), (26, .known true), (28, .known true), (30, .known true), (32, .known true), (34, .known true), (37, .val (.dat .bool true)), (40, .known true), (42, .known true), (44, .known true), (46, .known true), (48, .known true), (50, .known true), (52, .known true), (54, .known true), (56, .known true), (59, .val (.dat .bool true))]) (kF := [5, 7, 35]) (kL := [2, 3, 5]) (fr' := [(5, .one (.ptr 5 0)), (7, .one (.fn 57 [(3, 0), (2, 0)])), (35, aB true)]) (L' := [(2, .cells [.dat (.slice (.pair tI (.pair tI (.pair tI (.pair tI (.pair tI (.slice tI))))))) a0]), (3, .cells [.dat tI a1]), (5, .one (.pair tI (.pair tI (.pair tI (.pair tI (.pair tI (.slice tI)))))) v1)]) (obs := [((decide (v1.2.1 < v21)) = true), ((decide (v1.2.1 < v21)) = true), ((decide (v1.2.1 < v21)) = true), ((decide (v1.2.1 < v21)) = true), (true = true), (true = true), (true = true), (true = true), (true = true), (true = true), (true = true), (true = true), (true = true), (true = true), (true = true), (true = true)]) rfl (by kernel_rfl) (allP2 h41 (allP2 h41 (allP2 h41 (allP2 h41 (allP2 rfl (allP2 rfl (allP2 rfl (allP2 rfl (allP2 rfl (allP2 rfl (allP2 rfl (allP2 rfl (allP2 rfl (allP2 rfl (allP2 rfl (allP1 rfl)))))))))))))))) ?_
            obtain rfl := Option.some.inj h
            refine WO_fin [5, 7, 35] [2, 3, 5] (fr' := [(5, .one (.ptr 5 0)), (7, .one (.fn 57 [(3, 0), (2, 0)])), (35, aB true)]) (L' := [(2, .cells [.dat (.slice (.pair tI (.pair tI (.pair tI (.pair tI (.pair tI (.slice tI))))))) a0]), (3, .cells [.dat tI a1]), (5, .one (.pair tI (.pair tI (.pair tI (.pair tI (.pair tI (.slice tI)))))) v1)]) (by kernel_rfl) (by kernel_rfl) ?_
            exact exQ_mk (by kernel_rfl) (by kernel_rfl)
          · replace h := ofF h41 h
            refine WO_run (j := 10) (k := 5) (orcs := [(10, .known false), (12, .known false), (14, .known false), (17, .val (.dat .bool false))]) (kF := [5, 7, 45]) (kL := [2, 3, 5]) (fr' := [(5, .one (.ptr 5 0)), (7, .one (.fn 57 [(3, 0), (2, 0)])), (45, aB (decide (v1.2.1 > (4 : Int))))]) (L' := [(2, .cells [.dat (.slice (.pair tI (.pair tI (.pair tI (.pair tI (.pair tI (.slice tI))))))) a0]), (3, .cells [.dat tI a1]), (5, .one (.pair tI (.pair tI (.pair tI (.pair tI (.pair tI (.slice tI)))))) v1)]) (obs := [((decide (v1.2.1 < v21)) = false), ((decide (v1.2.1 < v21)) = false), ((decide (v1.2.1 < v21)) = false), ((decide (v1.2.1 < v21)) = false)]) rfl (by kernel_rfl) (allP2 h41 (allP2 h41 (allP2 h41 (allP1 h41)))) ?_
            rcases Bool.eq_false_or_eq_true (decide (v1.2.1 > (4 : Int))) with h42 | h42
            · replace h := ofT h42 h
              refine WO_run (j := 31) (k := 21) (orcs := [(20, .known true), (22, .known true), (24, .known true), (26, .known true), (28, .known true), (30, .known true), (32, .known true), (34, .known true), (37, .val (.dat .bool true)), (40, .known true), (42, .known true), (44, .known true), (46, .known true), (48, .known true), (50, .known true), (52, .known true), (54, .known true), (56, .known true), (59, .val (.dat .bool true))]) (kF := [5, 7, 35]) (kL := [2, 3, 5]) (fr' := [(5, .one (.ptr 5 0)), (7, .one (.fn 57 [(3, 0), (2, 0)])), (35, aB true)]) (L' := [(2, .cells [.dat (.slice (.pair tI (.pair tI (.pair tI (.pair tI (.pair tI (.slice tI))))))) a0]), (3, .cells [.dat tI a1]), (5, .one (.pair tI (.pair tI (.pair tI (.pair tI (.pair tI (.slice tI)))))) v1)]) (obs := [((decide (v1.2.1 > (4 : Int))) = true), ((decide (v1.2.1 > (4 : Int))) = true), ((decide (v1.2.1 > (4 : Int))) = true), ((decide (v1.2.1 > (4 : Int))) = true), ((decide (v1.2.1 > (4 : Int))) = true), ((decide (v1.2.1 > (4 : Int))) = true), (true = true), (true = true), (true = true), (true = true), (true = true), (true = true)]) rfl (by kernel_rfl) (allP2 h42 (allP2 h42 (allP2 h42 (allP2 h42 (allP2 h42 (allP2 h42 (allP2 rfl (allP2 rfl (allP2 rfl (allP2 rfl (allP2 rfl (allP1 rfl)))))))))))) ?_
              obtain rfl := Option.some.inj h
              refine WO_fin [5, 7, 35] [2, 3, 5] (fr' := [(5, .one (.ptr 5 0)), (7, .one (.fn 57 [(3, 0), (2, 0)])), (35, aB true)]) (L' := [(2, .cells [.dat (.slice (.pair tI (.pair tI (.pair tI (.pair tI (.pair tI (.slice tI))))))) a0]), (3, .cells [.dat tI a1]), (5, .one (.pair tI (.pair tI (.pair tI (.pair tI (.pair tI (.slice tI)))))) v1)]) (by kernel_rfl) (by kernel_rfl) ?_
              exact exQ_mk (by kernel_rfl) (by kernel_rfl)
            · replace h := ofF h42 h
              refine WO_run (j := 14) (k := 4) (orcs := [(20, .known false), (22, .known false), (24, .known false), (26, .known false)]) (kF := [5, 7, 45, 49]) (kL := [2, 3, 5]) (fr' := [(5, .one (.ptr 5 0)), (7, .one (.fn 57 [(3, 0), (2, 0)])), (45, aB (decide (v1.2.1 > (4 : Int)))), (49, aB (v1.1 == (2 : Int)))]) (L' := [(2, .cells [.dat (.slice (.pair tI (.pair tI (.pair tI (.pair tI (.pair tI (.slice tI))))))) a0]), (3, .cells [.dat tI a1]), (5, .one (.pair tI (.pair tI (.pair tI (.pair tI (.pair tI (.slice tI)))))) v1)]) (obs := [((decide (v1.2.1 > (4 : Int))) = false), ((decide (v1.2.1 > (4 : Int))) = false), ((decide (v1.2.1 > (4 : Int))) = false), ((decide (v1.2.1 > (4 : Int))) = false)]) rfl (by kernel_rfl) (allP2 h42 (allP2 h42 (allP2 h42 (allP1 h42)))) ?_
              rcases Bool.eq_false_or_eq_true (v1.1 == (2 : Int)) with h43 | h43
              · replace h := ofT h43 h
                refine WO_run (j := 20) (k := 6) (orcs := [(28, .known true), (30, .known true), (32, .known true), (34, .known false), (35, .val (.dat .bool true)), (37, .val (.dat .bool false))]) (kF := [5, 7, 55]) (kL := [2, 3, 5]) (fr' := [(5, .one (.ptr 5 0)), (7, .one (.fn 57 [(3, 0), (2, 0)])), (55, aB (decide (v1.2.1 > (1 : Int))))]) (L' := [(2, .cells [.dat (.slice (.pair tI (.pair tI (.pair tI (.pair tI (.pair tI (.slice tI))))))) a0]), (3, .cells [.dat tI a1]), (5, .one (.pair tI (.pair tI (.pair tI (.pair tI (.pair tI (.slice tI)))))) v1)]) (obs := [((v1.1 == (2 : Int)) = true), ((v1.1 == (2 : Int)) = true), ((v1.1 == (2 : Int)) = true), ((decide (v1.2.1 > (4 : Int))) = false), ((v1.1 == (2 : Int)) = true), ((decide (v1.2.1 > (4 : Int))) = false)]) rfl (by kernel_rfl) (allP2 h43 (allP2 h43 (allP2 h43 (allP2 h42 (allP2 h43 (allP1 h42)))))) ?_
                rcases Bool.eq_false_or_eq_true (decide (v1.2.1 > (1 : Int))) with h44 | h44
                · replace h := ofT h44 h
                  refine WO_run (j := 31) (k := 11) (orcs := [(40, .known true), (42, .known true), (44, .known true), (46, .known true), (48, .known true), (50, .known true), (52, .known true), (54, .known true), (56, .known true), (59, .val (.dat .bool true))]) (kF := [5, 7, 35]) (kL := [2, 3, 5]) (fr' := [(5, .one (.ptr 5 0)), (7, .one (.fn 57 [(3, 0), (2, 0)])), (35, aB true)]) (L' := [(2, .cells [.dat (.slice (.pair tI (.pair tI (.pair tI (.pair tI (.pair tI (.slice tI))))))) a0]), (3, .cells [.dat tI a1]), (5, .one (.pair tI (.pair tI (.pair tI (.pair tI (.pair tI (.slice tI)))))) v1)]) (obs := [((decide (v1.2.1 > (1 : Int))) = true), ((decide (v1.2.1 > (1 : Int))) = true), ((decide (v1.2.1 > (1 : Int))) = true), ((decide (v1.2.1 > (1 : Int))) = true), ((decide (v1.2.1 > (1 : Int))) = true), ((decide (v1.2.1 > (1 : Int))) = true)]) rfl (by kernel_rfl) (allP2 h44 (allP2 h44 (allP2 h44 (allP2 h44 (allP2 h44 (allP1 h44)))))) ?_
                  obtain rfl := Option.some.inj h
                  refine WO_fin [5, 7, 35] [2, 3, 5] (fr' := [(5, .one (.ptr 5 0)), (7, .one (.fn 57 [(3, 0), (2, 0)])), (35, aB true)]) (L' := [(2, .cells [.dat (.slice (.pair tI (.pair tI (.pair tI (.pair tI (.pair tI (.slice tI))))))) a0]), (3, .cells [.dat tI a1]), (5, .one (.pair tI (.pair tI (.pair tI (.pair tI (.pair tI (.slice tI)))))) v1)]) (by kernel_rfl) (by kernel_rfl) ?_
                  exact exQ_mk (by kernel_rfl) (by kernel_rfl)
                · replace h := ofF h44 h
                  refine WO_run (j := 24) (k := 4) (orcs := [(40, .known false), (42, .known false), (44, .known false), (46, .known false)]) (kF := [5, 7, 55, 59]) (kL := [2, 3, 5]) (fr' := [(5, .one (.ptr 5 0)), (7, .one (.fn 57 [(3, 0), (2, 0)])), (55, aB (decide (v1.2.1 > (1 : Int)))), (59, aB (v1.1 == (4 : Int)))]) (L' := [(2, .cells [.dat (.slice (.pair tI (.pair tI (.pair tI (.pair tI (.pair tI (.slice tI))))))) a0]), (3, .cells [.dat tI a1]), (5, .one (.pair tI (.pair tI (.pair tI (.pair tI (.pair tI (.slice tI)))))) v1)]) (obs := [((decide (v1.2.1 > (1 : Int))) = false), ((decide (v1.2.1 > (1 : Int))) = false), ((decide (v1.2.1 > (1 : Int))) = false), ((decide (v1.2.1 > (1 : Int))) = false)]) rfl (by kernel_rfl) (allP2 h44 (allP2 h44 (allP2 h44 (allP1 h44)))) ?_
                  rcases Bool.eq_false_or_eq_true (v1.1 == (4 : Int)) with h45 | h45
                  · replace h := ofT h45 h
                    refine WO_run (j := 31) (k := 7) (orcs := [(48, .known true), (50, .known true), (52, .known true), (54, .known true), (56, .known false), (57, .val (.dat .bool true)), (59, .val (.dat .bool false))]) (kF := [5, 7, 35]) (kL := [2, 3, 5]) (fr' := [(5, .one (.ptr 5 0)), (7, .one (.fn 57 [(3, 0), (2, 0)])), (35, aB (decide ((List.length v1.2.2.2.2.2 : Int) > (4 : Int))))]) (L' := [(2, .cells [.dat (.slice (.pair tI (.pair tI (.pair tI (.pair tI (.pair tI (.slice tI))))))) a0]), (3, .cells [.dat tI a1]), (5, .one (.pair tI (.pair tI (.pair tI (.pair tI (.pair tI (.slice tI)))))) v1)]) (obs := [((v1.1 == (4 : Int)) = true), ((v1.1 == (4 : Int)) = true), ((v1.1 == (4 : Int)) = true), ((v1.1 == (4 : Int)) = true), ((decide (v1.2.1 > (1 : Int))) = false), ((v1.1 == (4 : Int)) = true), ((decide (v1.2.1 > (1 : Int))) = false)]) rfl (by kernel_rfl) (allP2 h45 (allP2 h45 (allP2 h45 (allP2 h45 (allP2 h44 (allP2 h45 (allP1 h44))))))) ?_
                    obtain rfl := Option.some.inj h
                    refine WO_fin [5, 7, 35] [2, 3, 5] (fr' := [(5, .one (.ptr 5 0)), (7, .one (.fn 57 [(3, 0), (2, 0)])), (35, aB (decide ((List.length v1.2.2.2.2.2 : Int) > (4 : Int))))]) (L' := [(2, .cells [.dat (.slice (.pair tI (.pair tI (.pair tI (.pair tI (.pair tI (.slice tI))))))) a0]), (3, .cells [.dat tI a1]), (5, .one (.pair tI (.pair tI (.pair tI (.pair tI (.pair tI (.slice tI)))))) v1)]) (by kernel_rfl) (by kernel_rfl) ?_
                    exact exQ_mk (by kernel_rfl) (by kernel_rfl)
                  · replace h := ofF h45 h
                    refine WO_run (j := 31) (k := 7) (orcs := [(48, .known false), (50, .known false), (52, .known false), (54, .known false), (56, .known false), (57, .val (.dat .bool false)), (59, .val (.dat .bool false))]) (kF := [5, 7, 35]) (kL := [2, 3, 5]) (fr' := [(5, .one (.ptr 5 0)), (7, .one (.fn 57 [(3, 0), (2, 0)])), (35, aB false)]) (L' := [(2, .cells [.dat (.slice (.pair tI (.pair tI (.pair tI (.pair tI (.pair tI (.slice tI))))))) a0]), (3, .cells [.dat tI a1]), (5, .one (.pair tI (.pair tI (.pair tI (.pair tI (.pair tI (.slice tI)))))) v1)]) (obs := [((v1.1 == (4 : Int)) = false), ((v1.1 == (4 : Int)) = false), ((v1.1 == (4 : Int)) = false), ((v1.1 == (4 : Int)) = false), ((decide (v1.2.1 > (1 : Int))) = false), ((v1.1 == (4 : Int)) = false), ((decide (v1.2.1 > (1 : Int))) = false)]) rfl (by kernel_rfl) (allP2 h45 (allP2 h45 (allP2 h45 (allP2 h45 (allP2 h44 (allP2 h45 (allP1 h44))))))) ?_
                    obtain rfl := Option.some.inj h
                    refine WO_fin [5, 7, 35] [2, 3, 5] (fr' := [(5, .one (.ptr 5 0)), (7, .one (.fn 57 [(3, 0), (2, 0)])), (35, aB false)]) (L' := [(2, .cells [.dat (.slice (.pair tI (.pair tI (.pair tI (.pair tI (.pair tI (.slice tI))))))) a0]), (3, .cells [.dat tI a1]), (5, .one (.pair tI (.pair tI (.pair tI (.pair tI (.pair tI (.slice tI)))))) v1)]) (by kernel_rfl) (by kernel_rfl) ?_
                    exact exQ_mk (by kernel_rfl) (by kernel_rfl)
              · replace h := ofF h43 h
                refine WO_run (j := 24) (k := 10) (orcs := [(28, .known false), (30, .known false), (32, .known false), (34, .known false), (35, .val (.dat .bool false)), (37, .val (.dat .bool false)), (40, .known false), (42, .known false), (44, .known false), (46, .known false)]) (kF := [5, 7, 55, 59]) (kL := [2, 3, 5]) (fr' := [(5, .one (.ptr 5 0)), (7, .one (.fn 57 [(3, 0), (2, 0)])), (55, aB false), (59, aB (v1.1 == (4 : Int)))]) (L' := [(2, .cells [.dat (.slice (.pair tI (.pair tI (.pair tI (.pair tI (.pair tI (.slice tI))))))) a0]), (3, .cells [.dat tI a1]), (5, .one (.pair tI (.pair tI (.pair tI (.pair tI (.pair tI (.slice tI)))))) v1)]) (obs := [((v1.1 == (2 : Int)) = false), ((v1.1 == (2 : Int)) = false), ((v1.1 == (2 : Int)) = false), ((decide (v1.2.1 > (4 : Int))) = false), ((v1.1 == (2 : Int)) = false), ((decide (v1.2.1 > (4 : Int))) = false), (false = false), (false = false), (false = false), (false = false)]) rfl (by kernel_rfl) (allP2 h43 (allP2 h43 (allP2 h43 (allP2 h42 (allP2 h43 (allP2 h42 (allP2 rfl (allP2 rfl (allP2 rfl (allP1 rfl)))))))))) ?_
                rcases Bool.eq_false_or_eq_true (v1.1 == (4 : Int)) with h46 | h46
                · replace h := ofT h46 h
                  refine WO_run (j := 31) (k := 7) (orcs := [(48, .known true), (50, .known true), (52, .known true), (54, .known true), (56, .known false), (57, .val (.dat .bool true)), (59, .val (.dat .bool false))]) (kF := [5, 7, 35]) (kL := [2, 3, 5]) (fr' := [(5, .one (.ptr 5 0)), (7, .one (.fn 57 [(3, 0), (2, 0)])), (35, aB (decide ((List.length v1.2.2.2.2.2 : Int) > (4 : Int))))]) (L' := [(2, .cells [.dat (.slice (.pair tI (.pair tI (.pair tI (.pair tI (.pair tI (.slice tI))))))) a0]), (3, .cells [.dat tI a1]), (5, .one (.pair tI (.pair tI (.pair tI (.pair tI (.pair tI (.slice tI)))))) v1)]) (obs := [((v1.1 == (4 : Int)) = true), ((v1.1 == (4 : Int)) = true), ((v1.1 == (4 : Int)) = true), ((v1.1 == (4 : Int)) = true), (false = false), ((v1.1 == (4 : Int)) = true), (false = false)]) rfl (by kernel_rfl) (allP2 h46 (allP2 h46 (allP2 h46 (allP2 h46 (allP2 rfl (allP2 h46 (allP1 rfl))))))) ?_
                  obtain rfl := Option.some.inj h
                  refine WO_fin [5, 7, 35] [2, 3, 5] (fr' := [(5, .one (.ptr 5 0)), (7, .one (.fn 57 [(3, 0), (2, 0)])), (35, aB (decide ((List.length v1.2.2.2.2.2 : Int) > (4 : Int))))]) (L' := [(2, .cells [.dat (.slice (.pair tI (.pair tI (.pair tI (.pair tI (.pair tI (.slice tI))))))) a0]), (3, .cells [.dat tI a1]), (5, .one (.pair tI (.pair tI (.pair tI (.pair tI (.pair tI (.slice tI)))))) v1)]) (by kernel_rfl) (by kernel_rfl) ?_
                  exact exQ_mk (by kernel_rfl) (by kernel_rfl)
                · replace h := ofF h46 h
                  refine WO_run (j := 31) (k := 7) (orcs := [(48, .known false), (50, .known false), (52, .known false), (54, .known false), (56, .known false), (57, .val (.dat .bool false)), (59, .val (.dat .bool false))]) (kF := [5, 7, 35]) (kL := [2, 3, 5]) (fr' := [(5, .one (.ptr 5 0)), (7, .one (.fn 57 [(3, 0), (2, 0)])), (35, aB false)]) (L' := [(2, .cells [.dat (.slice (.pair tI (.pair tI (.pair tI (.pair tI (.pair tI (.slice tI))))))) a0]), (3, .cells [.dat tI a1]), (5, .one (.pair tI (.pair tI (.pair tI (.pair tI (.pair tI (.slice tI)))))) v1)]) (obs := [((v1.1 == (4 : Int)) = false), ((v1.1 == (4 : Int)) = false), ((v1.1 == (4 : Int)) = false), ((v1.1 == (4 : Int)) = false), (false = false), ((v1.1 == (4 : Int)) = false), (false = false)]) rfl (by kernel_rfl) (allP2 h46 (allP2 h46 (allP2 h46 (allP2 h46 (allP2 rfl (allP2 h46 (allP1 rfl))))))) ?_
                  obtain rfl := Option.some.inj h
                  refine WO_fin [5, 7, 35] [2, 3, 5] (fr' := [(5, .one (.ptr 5 0)), (7, .one (.fn 57 [(3, 0), (2, 0)])), (35, aB false)]) (L' := [(2, .cells [.dat (.slice (.pair tI (.pair tI (.pair tI (.pair tI (.pair tI (.slice tI))))))) a0]), (3, .cells [.dat tI a1]), (5, .one (.pair tI (.pair tI (.pair tI (.pair tI (.pair tI (.slice tI)))))) v1)]) (by kernel_rfl) (by kernel_rfl) ?_
                  exact exQ_mk (by kernel_rfl) (by kernel_rfl)
        · intro e fr L hJ
          obtain ⟨rfl, rfl, rfl⟩ := hJ
          refine LT_keep [5, 7, 35] [5, 2, 3] (fr' := [(5, .one (.ptr 5 0)), (7, .one (.fn 57 [(3, 0), (2, 0)])), (35, aB v47)]) (L' := [(5, .one (.pair tI (.pair tI (.pair tI (.pair tI (.pair tI (.slice tI)))))) v1), (2, .cells [.dat (.slice (.pair tI (.pair tI (.pair tI (.pair tI (.pair tI (.slice tI))))))) a0]), (3, .cells [.dat tI a1])]) (by kernel_rfl) ?_
          refine seqQ_norm ?_
          refine W_cond (o := .tmp 35) (b := v47) (by kernel_rfl) (by kernel_rfl) (fun h49 => ?_) (fun h49 => ?_)
          · replace h := ofT h49 h
            refine W_seq (by kernel_rfl) ?_
            refine W_run 1 [] [4] [] (fr' := [(4, aI (1 : Int))]) (L' := []) (obs := []) (by kernel_rfl) (by kernel_rfl) (by kernel_rfl) allP0 ?_
            refine seqQ_norm ?_
            obtain rfl := Option.some.inj h
            refine W_ret [4] [] (fr' := [(4, aI (1 : Int))]) (L' := []) (by kernel_rfl) (by kernel_rfl) ?_
            refine blockQ_ret ?_
            refine seqQ_ret ?_
            exact retQ_mk (by kernel_rfl) (by kernel_rfl) (by kernel_rfl)
          · replace h := ofF h49 h
            refine W_seq (by kernel_rfl) ?_
            obtain ⟨v56, h57, h⟩ := bind_of h
            refine W_cutK (Q' := (exQ .normal (funcs_wrong_s22 a0 a1 v1)) v56) ?_ ?_
            · replace h := h57
              refine W_region (by kernel_rfl) ?_
              refine WO_run (j := 4) (k := 4) (orcs := []) (kF := [5, 7, 70]) (kL := [2, 3, 5]) (fr' := [(5, .one (.ptr 5 0)), (7, .one (.fn 57 [(3, 0), (2, 0)])), (70, aB (v1.1 == (3 : Int)))]) (L' := [(2, .cells [.dat (.slice (.pair tI (.pair tI (.pair tI (.pair tI (.pair tI (.slice tI))))))) a0]), (3, .cells [.dat tI a1]), (5, .one (.pair tI (.pair tI (.pair tI (.pair tI (.pair tI (.slice tI)))))) v1)]) (obs := []) rfl (by kernel_rfl) allP0 ?_
              rcases Bool.eq_false_or_eq_true (v1.1 == (3 : Int)) with h54 | h54
              · replace h := ofT h54 h
                refine WO_run (j := 8) (k := 4) (orcs := [(8, .known true), (10, .known true), (12, .known true), (14, .known true)]) (kF := [5, 7, 70, 74]) (kL := [2, 3, 5]) (fr' := [(5, .one (.ptr 5 0)), (7, .one (.fn 57 [(3, 0), (2, 0)])), (70, aB (v1.1 == (3 : Int))), (74, aB (decide (v1.2.2.1 < (0 : Int))))]) (L' := [(2, .cells [.dat (.slice (.pair tI (.pair tI (.pair tI (.pair tI (.pair tI (.slice tI))))))) a0]), (3, .cells [.dat tI a1]), (5, .one (.pair tI (.pair tI (.pair tI (.pair tI (.pair tI (.slice tI)))))) v1)]) (obs := [((v1.1 == (3 : Int)) = true), ((v1.1 == (3 : Int)) = true), ((v1.1 == (3 : Int)) = true), ((v1.1 == (3 : Int)) = true)]) rfl (by kernel_rfl) (allP2 h54 (allP2 h54 (allP2 h54 (allP1 h54)))) ?_
                rcases Bool.eq_false_or_eq_true (decide (v1.2.2.1 < (0 : Int))) with h55 | h55
                · replace h := ofT h55 h
                  refine WO_run (j := 16) (k := 8) (orcs := [(16, .known true), (18, .known true), (20, .known true), (22, .known true), (24, .known true), (26, .known true), (27, .val (.dat .bool true)), (29, .val (.dat .bool true))]) (kF := [5, 7, 66]) (kL := [2, 3, 5]) (fr' := [(5, .one (.ptr 5 0)), (7, .one (.fn 57 [(3, 0), (2, 0)])), (66, aB true)]) (L' := [(2, .cells [.dat (.slice (.pair tI (.pair tI (.pair tI (.pair tI (.pair tI (.slice tI))))))) a0]), (3, .cells [.dat tI a1]), (5, .one (.pair tI (.pair tI (.pair tI (.pair tI (.pair tI (.slice tI)))))) v1)]) (obs := [((decide (v1.2.2.1 < (0 : Int))) = true), ((decide (v1.2.2.1 < (0 : Int))) = true), ((decide (v1.2.2.1 < (0 : Int))) = true), ((decide (v1.2.2.1 < (0 : Int))) = true), ((decide (v1.2.2.1 < (0 : Int))) = true), ((v1.1 == (3 : Int)) = true), ((decide (v1.2.2.1 < (0 : Int))) = true), ((v1.1 == (3 : Int)) = true)]) rfl (by kernel_rfl) (allP2 h55 (allP2 h55 (allP2 h55 (allP2 h55 (allP2 h55 (allP2 h54 (allP2 h55 (allP1 h54)))))))) ?_
                  obtain rfl := Option.some.inj h
                  refine WO_fin [5, 7, 66] [2, 3, 5] (fr' := [(5, .one (.ptr 5 0)), (7, .one (.fn 57 [(3, 0), (2, 0)])), (66, aB true)]) (L' := [(2, .cells [.dat (.slice (.pair tI (.pair tI (.pair tI (.pair tI (.pair tI (.slice tI))))))) a0]), (3, .cells [.dat tI a1]), (5, .one (.pair tI (.pair tI (.pair tI (.pair tI (.pair tI (.slice tI)))))) v1)]) (by kernel_rfl) (by kernel_rfl) ?_
                  exact exQ_mk (by kernel_rfl) (by kernel_rfl)
                · replace h := ofF h55 h
                  refine WO_run (j := 16) (k := 8) (orcs := [(16, .known false), (18, .known false), (20, .known false), (22, .known false), (24, .known false), (26, .known true), (27, .val (.dat .bool false)), (29, .val (.dat .bool true))]) (kF := [5, 7, 66]) (kL := [2, 3, 5]) (fr' := [(5, .one (.ptr 5 0)), (7, .one (.fn 57 [(3, 0), (2, 0)])), (66, aB (decide (v1.2.2.1 ≥ v1.2.1)))]) (L' := [(2, .cells [.dat (.slice (.pair tI (.pair tI (.pair tI (.pair tI (.pair tI (.slice tI))))))) a0]), (3, .cells [.dat tI a1]), (5, .one (.pair tI (.pair tI (.pair tI (.pair tI (.pair tI (.slice tI)))))) v1)]) (obs := [((decide (v1.2.2.1 < (0 : Int))) = false), ((decide (v1.2.2.1 < (0 : Int))) = false), ((decide (v1.2.2.1 < (0 : Int))) = false), ((decide (v1.2.2.1 < (0 : Int))) = false), ((decide (v1.2.2.1 < (0 : Int))) = false), ((v1.1 == (3 : Int)) = true), ((decide (v1.2.2.1 < (0 : Int))) = false), ((v1.1 == (3 : Int)) = true)]) rfl (by kernel_rfl) (allP2 h55 (allP2 h55 (allP2 h55 (allP2 h55 (allP2 h55 (allP2 h54 (allP2 h55 (allP1 h54)))))))) ?_
                  obtain rfl := Option.some.inj h
                  refine WO_fin [5, 7, 66] [2, 3, 5] (fr' := [(5, .one (.ptr 5 0)), (7, .one (.fn 57 [(3, 0), (2, 0)])), (66, aB (decide (v1.2.2.1 ≥ v1.2.1)))]) (L' := [(2, .cells [.dat (.slice (.pair tI (.pair tI (.pair tI (.pair tI (.pair tI (.slice tI))))))) a0]), (3, .cells [.dat tI a1]), (5, .one (.pair tI (.pair tI (.pair tI (.pair tI (.pair tI (.slice tI)))))) v1)]) (by kernel_rfl) (by kernel_rfl) ?_
                  exact exQ_mk (by kernel_rfl) (by kernel_rfl)
              · replace h := ofF h54 h
                refine WO_run (j := 16) (k := 12) (orcs := [(8, .known false), (10, .known false), (12, .known false), (14, .known false), (16, .known true), (18, .known true), (20, .known true), (22, .known true), (24, .known true), (26, .known false), (29, .val (.dat .bool false))]) (kF := [5, 7, 66]) (kL := [2, 3, 5]) (fr' := [(5, .one (.ptr 5 0)), (7, .one (.fn 57 [(3, 0), (2, 0)])), (66, aB false)]) (L' := [(2, .cells [.dat (.slice (.pair tI (.pair tI (.pair tI (.pair tI (.pair tI (.slice tI))))))) a0]), (3, .cells [.dat tI a1]), (5, .one (.pair tI (.pair tI (.pair tI (.pair tI (.pair tI (.slice tI)))))) v1)]) (obs := [((v1.1 == (3 : Int)) = false), ((v1.1 == (3 : Int)) = false), ((v1.1 == (3 : Int)) = false), ((v1.1 == (3 : Int)) = false), ((v1.1 == (3 : Int)) = false), ((v1.1 == (3 : Int)) = false)]) rfl (by kernel_rfl) (allP2 h54 (allP2 h54 (allP2 h54 (allP2 h54 (allP2 h54 (allP1 h54)))))) ?_
                obtain rfl := Option.some.inj h
                refine WO_fin [5, 7, 66] [2, 3, 5] (fr' := [(5, .one (.ptr 5 0)), (7, .one (.fn 57 [(3, 0), (2, 0)])), (66, aB false)]) (L' := [(2, .cells [.dat (.slice (.pair tI (.pair tI (.pair tI (.pair tI (.pair tI (.slice tI))))))) a0]), (3, .cells [.dat tI a1]), (5, .one (.pair tI (.pair tI (.pair tI (.pair tI (.pair tI (.slice tI)))))) v1)]) (by kernel_rfl) (by kernel_rfl) ?_
                exact exQ_mk (by kernel_rfl) (by kernel_rfl)
            · intro e fr L hJ
              obtain ⟨rfl, rfl, rfl⟩ := hJ
              refine LT_keep [5, 7, 66] [5, 2, 3] (fr' := [(5, .one (.ptr 5 0)), (7, .one (.fn 57 [(3, 0), (2, 0)])), (66, aB v56)]) (L' := [(5, .one (.pair tI (.pair tI (.pair tI (.pair tI (.pair tI (.slice tI)))))) v1), (2, .cells [.dat (.slice (.pair tI (.pair tI (.pair tI (.pair tI (.pair tI (.slice tI))))))) a0]), (3, .cells [.dat tI a1])]) (by kernel_rfl) ?_
              refine seqQ_norm ?_
              refine W_cond (o := .tmp 66) (b := v56) (by kernel_rfl) (by kernel_rfl) (fun h58 => ?_) (fun h58 => ?_)
              · replace h := ofT h58 h
                refine W_seq (by kernel_rfl) ?_
                refine W_run 1 [] [4] [] (fr' := [(4, aI (4 : Int))]) (L' := []) (obs := []) (by kernel_rfl) (by kernel_rfl) (by kernel_rfl) allP0 ?_
                refine seqQ_norm ?_
                obtain rfl := Option.some.inj h
                refine W_ret [4] [] (fr' := [(4, aI (4 : Int))]) (L' := []) (by kernel_rfl) (by kernel_rfl) ?_
                refine blockQ_ret ?_
                refine seqQ_ret ?_
                exact retQ_mk (by kernel_rfl) (by kernel_rfl) (by kernel_rfl)
              · replace h := ofF h58 h
                refine W_skip [5, 7] [5, 2, 3] (fr' := [(5, .one (.ptr 5 0)), (7, .one (.fn 57 [(3, 0), (2, 0)]))]) (L' := [(5, .one (.pair tI (.pair tI (.pair tI (.pair tI (.pair tI (.slice tI)))))) v1), (2, .cells [.dat (.slice (.pair tI (.pair tI (.pair tI (.pair tI (.pair tI (.slice tI))))))) a0]), (3, .cells [.dat tI a1])]) (by kernel_rfl) (by kernel_rfl) ?_
                refine blockQ_norm ?_
                refine seqQ_norm ?_
                refine W_seq (by kernel_rfl) ?_
                refine W_run 1 [] [5, 7, 8] [5, 2, 3] (fr' := [(5, .one (.ptr 5 0)), (7, .one (.fn 57 [(3, 0), (2, 0)])), (8, .one (.nilS))]) (L' := [(5, .one (.pair tI (.pair tI (.pair tI (.pair tI (.pair tI (.slice tI)))))) v1), (2, .cells [.dat (.slice (.pair tI (.pair tI (.pair tI (.pair tI (.pair tI (.slice tI))))))) a0]), (3, .cells [.dat tI a1])]) (obs := []) (by kernel_rfl) (by kernel_rfl) (by kernel_rfl) allP0 ?_
                refine seqQ_norm ?_
                refine W_seq (by kernel_rfl) ?_
                obtain ⟨v152, h153, h⟩ := bind_of h
                refine W_cutK (Q' := (exQ .normal (funcs_wrong_s21 a0 a1 v1)) v152) ?_ ?_
                · replace h := h153
                  refine W_seq (by kernel_rfl) ?_
                  refine W_run 3 [] [5, 7, 8, 84] [5, 2, 3] (fr' := [(5, .one (.ptr 5 0)), (7, .one (.fn 57 [(3, 0), (2, 0)])), (8, .one (.nilS)), (84, aB (v1.1 == (4 : Int)))]) (L' := [(5, .one (.pair tI (.pair tI (.pair tI (.pair tI (.pair tI (.slice tI)))))) v1), (2, .cells [.dat (.slice (.pair tI (.pair tI (.pair tI (.pair tI (.pair tI (.slice tI))))))) a0]), (3, .cells [.dat tI a1])]) (obs := []) (by kernel_rfl) (by kernel_rfl) (by kernel_rfl) allP0 ?_
                  refine seqQ_norm ?_
                  refine W_cond (o := .tmp 84) (b := v1.1 == (4 : Int)) (by kernel_rfl) (by kernel_rfl) (fun h121 => ?_) (fun h121 => ?_)
                  · replace h := ofT h121 h
                    refine W_seq (by kernel_rfl) ?_
                    refine W_region (by kernel_rfl) ?_
                    refine WO_run (j := 7) (k := 7) (orcs := []) (kF := [5, 7, 8, 85, 86, 88, 91]) (kL := [2, 3, 5]) (fr' := [(5, .one (.ptr 5 0)), (7, .one (.fn 57 [(3, 0), (2, 0)])), (8, .one (.nilS)), (85, .one (.nilS)), (86, .one (.fn 57 [(3, 0), (2, 0)])), (88, aI v1.2.2.2.1), (91, aI (List.length v1.2.2.2.2.2 : Int))]) (L' := [(2, .cells [.dat (.slice (.pair tI (.pair tI (.pair tI (.pair tI (.pair tI (.slice tI))))))) a0]), (3, .cells [.dat tI a1]), (5, .one (.pair tI (.pair tI (.pair tI (.pair tI (.pair tI (.slice tI)))))) v1)]) (obs := []) rfl (by kernel_rfl) allP0 ?_
                    obtain ⟨r122, h123, h⟩ := bind_of h
                    refine WO_lend [(1000, 3), (1001, 2)] (us := [none, none, none, none]) (d := 92) (p := True) (j := 8) rfl ⟨by kernel_rfl, by kernel_rfl, by kernel_rfl⟩ trivial (funcs_wrong_1_ok h123) (by kernel_rfl) (by kernel_rfl) ?_
                    refine WO_run (j := 11) (k := 3) (orcs := []) (kF := [5, 7, 8]) (kL := [2, 3, 5, 93, 94]) (fr' := [(5, .one (.ptr 5 0)), (7, .one (.fn 57 [(3, 0), (2, 0)])), (8, .one (.slc 94))]) (L' := [(2, .cells [.dat (.slice (.pair tI (.pair tI (.pair tI (.pair tI (.pair tI (.slice tI))))))) a0]), (3, .cells [.dat tI a1]), (5, .one (.pair tI (.pair tI (.pair tI (.pair tI (.pair tI (.slice tI)))))) v1), (93, .seq tI [r122]), (94, .seq tI [r122])]) (obs := [SmallLen (List.length [r122])]) rfl (by kernel_rfl) (allP1 (by unfold SmallLen; exact of_decide_eq_true (by kernel_rfl))) ?_
                    refine WO_fin [5, 7, 8] [5, 2, 3, 94] (fr' := [(5, .one (.ptr 5 0)), (7, .one (.fn 57 [(3, 0), (2, 0)])), (8, .one (.slc 94))]) (L' := [(5, .one (.pair tI (.pair tI (.pair tI (.pair tI (.pair tI (.slice tI)))))) v1), (2, .cells [.dat (.slice (.pair tI (.pair tI (.pair tI (.pair tI (.pair tI (.slice tI))))))) a0]), (3, .cells [.dat tI a1]), (94, .seq tI [r122])]) (by kernel_rfl) (by kernel_rfl) ?_
                    refine seqQ_norm ?_
                    refine W_seq (by kernel_rfl) ?_
                    refine W_run 4 [] [5, 7, 8, 96, 97, 98] [5, 2, 3, 94] (fr' := [(5, .one (.ptr 5 0)), (7, .one (.fn 57 [(3, 0), (2, 0)])), (8, .one (.slc 94)), (96, aD (.slice tI) v1.2.2.2.2.2), (97, aI (List.length v1.2.2.2.2.2 : Int)), (98, aI (0 : Int))]) (L' := [(5, .one (.pair tI (.pair tI (.pair tI (.pair tI (.pair tI (.slice tI)))))) v1), (2, .cells [.dat (.slice (.pair tI (.pair tI (.pair tI (.pair tI (.pair tI (.slice tI))))))) a0]), (3, .cells [.dat tI a1]), (94, .seq tI [r122])]) (obs := []) (by kernel_rfl) (by kernel_rfl) (by kernel_rfl) allP0 ?_
                    refine seqQ_norm ?_
                    refine W_block (id := 1) (by kernel_rfl) ?_
                    obtain ⟨v147, h148, h⟩ := bind_of h
                    refine W_len (t := 96) (u := tI) (xs := v1.2.2.2.2.2) (by kernel_rfl) (fun h151 => ?_)
                    obtain ⟨h149, h150⟩ := forL_iter h151 h148
                    refine W_weaken [5, 7, 8, 96, 97, 98] [2, 3, 5, 94] (fr' := ((funcs_wrong_s12 a0 a1 v1) ((0 : Int), [r122])).1) (L' := ((funcs_wrong_s12 a0 a1 v1) ((0 : Int), [r122])).2) (by kernel_rfl) ?_
                    refine W_cutK (W_loop (S := (funcs_wrong_s12 a0 a1 v1)) (J := (exQ (.exit 1) (funcs_wrong_s13 a0 a1 v1))) (by kernel_rfl) ?_ h149 _ v147 h150) ?_
                    · rintro ⟨i137, x138⟩ s h
                      refine W_seq (by kernel_rfl) ?_
                      refine W_run 1 [] [5, 7, 8, 96, 97, 98, 99] [5, 2, 3, 94] (fr' := [(5, .one (.ptr 5 0)), (7, .one (.fn 57 [(3, 0), (2, 0)])), (8, .one (.slc 94)), (96, aD (.slice tI) v1.2.2.2.2.2), (97, aI (List.length v1.2.2.2.2.2 : Int)), (98, aI i137), (99, aB (decide (i137 < (List.length v1.2.2.2.2.2 : Int))))]) (L' := [(5, .one (.pair tI (.pair tI (.pair tI (.pair tI (.pair tI (.slice tI)))))) v1), (2, .cells [.dat (.slice (.pair tI (.pair tI (.pair tI (.pair tI (.pair tI (.slice tI))))))) a0]), (3, .cells [.dat tI a1]), (94, .seq tI x138)]) (obs := []) (by kernel_rfl) (by kernel_rfl) (by kernel_rfl) allP0 ?_
                      refine seqQ_norm ?_
                      refine W_seq (by kernel_rfl) ?_
                      refine W_cond (o := .tmp 99) (b := decide (i137 < (List.length v1.2.2.2.2.2 : Int))) (by kernel_rfl) (by kernel_rfl) (fun h142 => ?_) (fun h142 => ?_)
                      · replace h := stepL_true h142 h
                        obtain ⟨v140, _, h141, h, rfl⟩ := h
                        refine W_skip [5, 7, 8, 96, 97, 98] [5, 2, 3, 94] (fr' := [(5, .one (.ptr 5 0)), (7, .one (.fn 57 [(3, 0), (2, 0)])), (8, .one (.slc 94)), (96, aD (.slice tI) v1.2.2.2.2.2), (97, aI (List.length v1.2.2.2.2.2 : Int)), (98, aI i137)]) (L' := [(5, .one (.pair tI (.pair tI (.pair tI (.pair tI (.pair tI (.slice tI)))))) v1), (2, .cells [.dat (.slice (.pair tI (.pair tI (.pair tI (.pair tI (.pair tI (.slice tI))))))) a0]), (3, .cells [.dat tI a1]), (94, .seq tI x138)]) (by kernel_rfl) (by kernel_rfl) ?_
                        refine seqQ_norm ?_
                        refine W_seq (by kernel_rfl) ?_
                        refine W_block (id := 2) (by kernel_rfl) ?_
                        refine W_seq (by kernel_rfl) ?_
                        refine W_run 3 [(1, .val (.dat tI v140))] [5, 7, 8, 10, 96, 97, 98] [5, 2, 3, 94] (fr' := [(5, .one (.ptr 5 0)), (7, .one (.fn 57 [(3, 0), (2, 0)])), (8, .one (.slc 94)), (10, aI v140), (96, aD (.slice tI) v1.2.2.2.2.2), (97, aI (List.length v1.2.2.2.2.2 : Int)), (98, aI i137)]) (L' := [(5, .one (.pair tI (.pair tI (.pair tI (.pair tI (.pair tI (.slice tI)))))) v1), (2, .cells [.dat (.slice (.pair tI (.pair tI (.pair tI (.pair tI (.pair tI (.slice tI))))))) a0]), (3, .cells [.dat tI a1]), (94, .seq tI x138)]) (obs := [Idx v1.2.2.2.2.2 i137 v140]) (by kernel_rfl) (by kernel_rfl) (by kernel_rfl) (allP1 (Idx.of h141)) ?_
                        refine seqQ_norm ?_
                        refine W_region (by kernel_rfl) ?_
                        refine WO_run (j := 5) (k := 5) (orcs := []) (kF := [5, 7, 8, 96, 97, 98, 102, 103, 104, 106]) (kL := [2, 3, 5, 94]) (fr' := [(5, .one (.ptr 5 0)), (7, .one (.fn 57 [(3, 0), (2, 0)])), (8, .one (.slc 94)), (96, aD (.slice tI) v1.2.2.2.2.2), (97, aI (List.length v1.2.2.2.2.2 : Int)), (98, aI i137), (102, .one (.slc 94)), (103, .one (.fn 57 [(3, 0), (2, 0)])), (104, aI v140), (106, aI v1.2.1)]) (L' := [(2, .cells [.dat (.slice (.pair tI (.pair tI (.pair tI (.pair tI (.pair tI (.slice tI))))))) a0]), (3, .cells [.dat tI a1]), (5, .one (.pair tI (.pair tI (.pair tI (.pair tI (.pair tI (.slice tI)))))) v1), (94, .seq tI x138)]) (obs := []) rfl (by kernel_rfl) allP0 ?_
                        obtain ⟨r143, h144, h⟩ := bind_of h
                        refine WO_lend [(1000, 3), (1001, 2)] (us := [none, none, none, none]) (d := 107) (p := True) (j := 6) rfl ⟨by kernel_rfl, by kernel_rfl, by kernel_rfl⟩ trivial (funcs_wrong_1_ok h144) (by kernel_rfl) (by kernel_rfl) ?_
                        obtain ⟨_, h145, h⟩ := bind_of h
                        replace h145 := ck_some h145
                        refine WO_run (j := 9) (k := 3) (orcs := []) (kF := [5, 7, 8, 96, 97, 98]) (kL := [2, 3, 5, 94, 108]) (fr' := [(5, .one (.ptr 5 0)), (7, .one (.fn 57 [(3, 0), (2, 0)])), (8, .one (.slc 94)), (96, aD (.slice tI) v1.2.2.2.2.2), (97, aI (List.length v1.2.2.2.2.2 : Int)), (98, aI i137)]) (L' := [(2, .cells [.dat (.slice (.pair tI (.pair tI (.pair tI (.pair tI (.pair tI (.slice tI))))))) a0]), (3, .cells [.dat tI a1]), (5, .one (.pair tI (.pair tI (.pair tI (.pair tI (.pair tI (.slice tI)))))) v1), (94, .seq tI (x138 ++ [r143])), (108, .seq tI [r143])]) (obs := [SmallLen (List.length x138 + List.length [r143])]) rfl (by kernel_rfl) (allP1 h145) ?_
                        refine WO_fin [5, 7, 8, 96, 97, 98] [5, 2, 3, 94] (fr' := [(5, .one (.ptr 5 0)), (7, .one (.fn 57 [(3, 0), (2, 0)])), (8, .one (.slc 94)), (96, aD (.slice tI) v1.2.2.2.2.2), (97, aI (List.length v1.2.2.2.2.2 : Int)), (98, aI i137)]) (L' := [(5, .one (.pair tI (.pair tI (.pair tI (.pair tI (.pair tI (.slice tI)))))) v1), (2, .cells [.dat (.slice (.pair tI (.pair tI (.pair tI (.pair tI (.pair tI (.slice tI))))))) a0]), (3, .cells [.dat tI a1]), (94, .seq tI (x138 ++ [r143]))]) (by kernel_rfl) (by kernel_rfl) ?_
                        refine blockQ_norm ?_
                        refine seqQ_norm ?_
                        obtain rfl := Option.some.inj h
                        refine W_run 2 [] [5, 7, 8, 96, 97, 98] [2, 3, 5, 94] (fr' := [(5, .one (.ptr 5 0)), (7, .one (.fn 57 [(3, 0), (2, 0)])), (8, .one (.slc 94)), (96, aD (.slice tI) v1.2.2.2.2.2), (97, aI (List.length v1.2.2.2.2.2 : Int)), (98, aI (w64 (i137 + (1 : Int))))]) (L' := [(2, .cells [.dat (.slice (.pair tI (.pair tI (.pair tI (.pair tI (.pair tI (.slice tI))))))) a0]), (3, .cells [.dat tI a1]), (5, .one (.pair tI (.pair tI (.pair tI (.pair tI (.pair tI (.slice tI)))))) v1), (94, .seq tI (x138 ++ [r143]))]) (obs := []) (by kernel_rfl) (by kernel_rfl) (by kernel_rfl) allP0 ?_
                        exact round_next' (by kernel_rfl) (by kernel_rfl)
                      · obtain rfl := stepL_false h142 h
                        refine W_exit (id := 1) [5, 7, 8] [2, 3, 5, 94] (fr' := [(5, .one (.ptr 5 0)), (7, .one (.fn 57 [(3, 0), (2, 0)])), (8, .one (.slc 94))]) (L' := [(2, .cells [.dat (.slice (.pair tI (.pair tI (.pair tI (.pair tI (.pair tI (.slice tI))))))) a0]), (3, .cells [.dat tI a1]), (5, .one (.pair tI (.pair tI (.pair tI (.pair tI (.pair tI (.slice tI)))))) v1), (94, .seq tI x138)]) (by kernel_rfl) (by kernel_rfl) ?_
                        refine seqQ_exit ?_
                        refine round_exit ?_
                        exact exQ_mk (by kernel_rfl) (by kernel_rfl)
                    · intro e fr L hJ
                      obtain ⟨rfl, rfl, rfl⟩ := hJ
                      obtain rfl := Option.some.inj h
                      refine LT_keep [5, 7, 8] [2, 3, 5, 94] (fr' := [(5, .one (.ptr 5 0)), (7, .one (.fn 57 [(3, 0), (2, 0)])), (8, .one (.slc 94))]) (L' := [(2, .cells [.dat (.slice (.pair tI (.pair tI (.pair tI (.pair tI (.pair tI (.slice tI))))))) a0]), (3, .cells [.dat tI a1]), (5, .one (.pair tI (.pair tI (.pair tI (.pair tI (.pair tI (.slice tI)))))) v1), (94, .seq tI v147)]) (by kernel_rfl) ?_
                      refine blockQ_hit ?_
                      exact exQ_mk (by kernel_rfl) (by kernel_rfl)
                  · replace h := ofF h121 h
                    obtain rfl := Option.some.inj h
                    refine W_mine 8 94 tI (by kernel_rfl) ?_
                    refine W_skip [5, 7, 8] [2, 3, 5, 94] (fr' := [(5, .one (.ptr 5 0)), (7, .one (.fn 57 [(3, 0), (2, 0)])), (8, .one (.slc 94))]) (L' := [(2, .cells [.dat (.slice (.pair tI (.pair tI (.pair tI (.pair tI (.pair tI (.slice tI))))))) a0]), (3, .cells [.dat tI a1]), (5, .one (.pair tI (.pair tI (.pair tI (.pair tI (.pair tI (.slice tI)))))) v1), (94, .seq tI [])]) (by kernel_rfl) (by kernel_rfl) ?_
                    exact exQ_mk (by kernel_rfl) (by kernel_rfl)
                · intro e fr L hJ
                  obtain ⟨rfl, rfl, rfl⟩ := hJ
                  refine LT_keep [5, 7, 8] [5, 2, 3, 94] (fr' := [(5, .one (.ptr 5 0)), (7, .one (.fn 57 [(3, 0), (2, 0)])), (8, .one (.slc 94))]) (L' := [(5, .one (.pair tI (.pair tI (.pair tI (.pair tI (.pair tI (.slice tI)))))) v1), (2, .cells [.dat (.slice (.pair tI (.pair tI (.pair tI (.pair tI (.pair tI (.slice tI))))))) a0]), (3, .cells [.dat tI a1]), (94, .seq tI v152)]) (by kernel_rfl) ?_
                  refine seqQ_norm ?_
                  refine W_seq (by kernel_rfl) ?_
                  obtain ⟨v172, h173, h⟩ := bind_of h
                  refine W_cutK (Q' := (exQ .normal funcs_wrong_s20) v172) ?_ ?_
                  · replace h := h173
                    refine W_seq (by kernel_rfl) ?_
                    refine W_run 3 [] [5, 7, 8, 113] [5, 2, 3, 94] (fr' := [(5, .one (.ptr 5 0)), (7, .one (.fn 57 [(3, 0), (2, 0)])), (8, .one (.slc 94)), (113, aB (v1.1 == (5 : Int)))]) (L' := [(5, .one (.pair tI (.pair tI (.pair tI (.pair tI (.pair tI (.slice tI)))))) v1), (2, .cells [.dat (.slice (.pair tI (.pair tI (.pair tI (.pair tI (.pair tI (.slice tI))))))) a0]), (3, .cells [.dat tI a1]), (94, .seq tI v152)]) (obs := []) (by kernel_rfl) (by kernel_rfl) (by kernel_rfl) allP0 ?_
                    refine seqQ_norm ?_
                    refine W_cond (o := .tmp 113) (b := v1.1 == (5 : Int)) (by kernel_rfl) (by kernel_rfl) (fun h166 => ?_) (fun h166 => ?_)
                    · replace h := ofT h166 h
                      obtain ⟨r167, h168, h⟩ := bind_of h
                      obtain ⟨r169, h170, h⟩ := bind_of h
                      obtain ⟨_, h171, h⟩ := bind_of h
                      replace h171 := ck_some h171
                      obtain rfl := Option.some.inj h
                      refine W_draw4 15 [0] [] [(7, [none, none, none, none], aI r167), (14, [none, none, none, none], aI r169)] [8] [94] (fr' := [(8, .one (.slc 94))]) (L' := [(94, .seq tI (v152 ++ [r167, r169]))]) (out := [(114, .one (.slc 94)), (115, .one (.fn 57 [(3, 0), (2, 0)])), (116, .one (.ptr 5 3)), (117, aI v1.2.2.2.1), (118, .one (.ptr 5 1)), (119, aI v1.2.1), (120, aI (w64 (v1.2.1 - (1 : Int)))), (121, aI r167), (122, .one (.fn 57 [(3, 0), (2, 0)])), (123, .one (.ptr 5 4)), (124, aI v1.2.2.2.2.1), (125, .one (.ptr 5 1)), (126, aI v1.2.1), (127, aI (w64 (v1.2.1 + (1 : Int)))), (128, aI r169)]) (obs := [True, True]) (obs2 := [SmallLen (List.length v152 + List.length [r167, r169])]) (calls := [(57, [aI v1.2.2.2.1, aI (w64 (v1.2.1 - (1 : Int))), .one (.ptr 3 0), .one (.ptr 2 0)], aI r167), (57, [aI v1.2.2.2.2.1, aI (w64 (v1.2.1 + (1 : Int))), .one (.ptr 3 0), .one (.ptr 2 0)], aI r169)]) (by kernel_rfl) (by kernel_rfl) (by kernel_rfl) (by kernel_rfl) (allP2 trivial (allP1 trivial)) (allD2 [(1000, 3), (1001, 2)] _ _ (by kernel_rfl) (funcs_wrong_1_ok h168) (by kernel_rfl) (by kernel_rfl) (by kernel_rfl) (by kernel_rfl) (allD2 [(1000, 3), (1001, 2)] _ _ (by kernel_rfl) (funcs_wrong_1_ok h170) (by kernel_rfl) (by kernel_rfl) (by kernel_rfl) (by kernel_rfl) allD0)) (by kernel_rfl) (allP1 h171) ?_
                      exact exQ_mk (by kernel_rfl) (by kernel_rfl)
                    · replace h := ofF h166 h
                      obtain rfl := Option.some.inj h
                      refine W_skip [8] [94] (fr' := [(8, .one (.slc 94))]) (L' := [(94, .seq tI v152)]) (by kernel_rfl) (by kernel_rfl) ?_
                      exact exQ_mk (by kernel_rfl) (by kernel_rfl)
                  · intro e fr L hJ
                    obtain ⟨rfl, rfl, rfl⟩ := hJ
                    refine LT_keep [8] [94] (fr' := [(8, .one (.slc 94))]) (L' := [(94, .seq tI v172)]) (by kernel_rfl) ?_
                    refine seqQ_norm ?_
                    refine W_seq (by kernel_rfl) ?_
                    refine W_seq (by kernel_rfl) ?_
                    refine W_run 3 [] [8, 131, 132, 133] [94, 131] (fr' := [(8, .one (.slc 94)), (131, .one (.slc 131)), (132, aI (2 : Int)), (133, aI (0 : Int))]) (L' := [(94, .seq tI v172), (131, .seq tI [(2 : Int), (3 : Int)])]) (obs := []) (by kernel_rfl) (by kernel_rfl) (by kernel_rfl) allP0 ?_
                    refine seqQ_norm ?_
                    refine W_block (id := 3) (by kernel_rfl) ?_
                    obtain ⟨v196, h197, h⟩ := bind_of h
                    obtain ⟨h198, h199⟩ := forI_iter h197
                    refine W_weaken [8, 131, 132, 133] [94, 131] (fr' := ((funcs_wrong_s17 v172) ((0 : Int), ())).1) (L' := ((funcs_wrong_s17 v172) ((0 : Int), ())).2) (by kernel_rfl) ?_
                    refine W_cutK (W_loop (S := (funcs_wrong_s17 v172)) (J := (escQ (exQ .ret funcs_wrong_s18) (exQ (.exit 3) funcs_wrong_s19))) (by kernel_rfl) ?_ h198 _ v196 h199) ?_
                    · rintro ⟨i186, x187⟩ s h
                      refine W_seq (by kernel_rfl) ?_
                      refine W_run 1 [] [8, 131, 132, 133, 134] [94, 131] (fr' := [(8, .one (.slc 94)), (131, .one (.slc 131)), (132, aI (2 : Int)), (133, aI i186), (134, aB (decide (i186 < (2 : Int))))]) (L' := [(94, .seq tI v172), (131, .seq tI [(2 : Int), (3 : Int)])]) (obs := []) (by kernel_rfl) (by kernel_rfl) (by kernel_rfl) allP0 ?_
                      refine seqQ_norm ?_
                      refine W_seq (by kernel_rfl) ?_
                      refine W_cond (o := .tmp 134) (b := decide (i186 < (2 : Int))) (by kernel_rfl) (by kernel_rfl) (fun h189 => ?_) (fun h189 => ?_)
                      · replace h := stepI_true h189 h
                        obtain ⟨_, h, rfl⟩ := h
                        refine W_skip [8, 131, 132, 133] [94, 131] (fr' := [(8, .one (.slc 94)), (131, .one (.slc 131)), (132, aI (2 : Int)), (133, aI i186)]) (L' := [(94, .seq tI v172), (131, .seq tI [(2 : Int), (3 : Int)])]) (by kernel_rfl) (by kernel_rfl) ?_
                        refine seqQ_norm ?_
                        refine W_seq (by kernel_rfl) ?_
                        refine W_block (id := 4) (by kernel_rfl) ?_
                        refine W_seq (by kernel_rfl) ?_
                        obtain ⟨v190, h191, h⟩ := bind_of h
                        refine W_run 3 [(3, .val (.dat tI v190))] [8, 12, 131, 132, 133] [94, 131] (fr' := [(8, .one (.slc 94)), (12, aI v190), (131, .one (.slc 131)), (132, aI (2 : Int)), (133, aI i186)]) (L' := [(94, .seq tI v172), (131, .seq tI [(2 : Int), (3 : Int)])]) (obs := [InR i186 (List.length [(2 : Int), (3 : Int)]), Idx [(2 : Int), (3 : Int)] i186 v190]) (by kernel_rfl) (by kernel_rfl) (by kernel_rfl) (allP2 (InR.of h191) (allP1 (Idx.of h191))) ?_
                        refine seqQ_norm ?_
                        refine W_seq (by kernel_rfl) ?_
                        refine W_region (by kernel_rfl) ?_
                        refine WO_run (j := 2) (k := 2) (orcs := []) (kF := [8, 12, 131, 132, 133, 137, 138]) (kL := [94, 131]) (fr' := [(8, .one (.slc 94)), (12, aI v190), (131, .one (.slc 131)), (132, aI (2 : Int)), (133, aI i186), (137, .one (.slc 94)), (138, aI v190)]) (L' := [(94, .seq tI v172), (131, .seq tI [(2 : Int), (3 : Int)])]) (obs := []) rfl (by kernel_rfl) allP0 ?_
                        obtain ⟨r192, h193, h⟩ := bind_of h
                        refine WO_lend [(1000, 94)] (us := [none, none]) (d := 139) (p := True) (j := 3) rfl ⟨by kernel_rfl, by kernel_rfl, by kernel_rfl⟩ trivial (slices_Contains_LapiErrnoapiErrno_ok h193) (by kernel_rfl) (by kernel_rfl) ?_
                        refine WO_fin [8, 12, 131, 132, 133, 139] [94, 131] (fr' := [(8, .one (.slc 94)), (12, aI v190), (131, .one (.slc 131)), (132, aI (2 : Int)), (133, aI i186), (139, aB r192)]) (L' := [(94, .seq tI v172), (131, .seq tI [(2 : Int), (3 : Int)])]) (by kernel_rfl) (by kernel_rfl) ?_
                        refine seqQ_norm ?_
                        refine W_cond (o := .tmp 139) (b := r192) (by kernel_rfl) (by kernel_rfl) (fun h194 => ?_) (fun h194 => ?_)
                        · replace h := ofT h194 h
                          refine W_seq (by kernel_rfl) ?_
                          refine W_run 2 [] [4] [] (fr' := [(4, aI v190)]) (L' := []) (obs := []) (by kernel_rfl) (by kernel_rfl) (by kernel_rfl) allP0 ?_
                          refine seqQ_norm ?_
                          obtain rfl := Option.some.inj h
                          refine W_ret [4] [] (fr' := [(4, aI v190)]) (L' := []) (by kernel_rfl) (by kernel_rfl) ?_
                          refine blockQ_ret ?_
                          refine seqQ_ret ?_
                          refine round_ret ?_
                          refine escQ_ret ?_
                          exact exQ_mk (by kernel_rfl) (by kernel_rfl)
                        · replace h := ofF h194 h
                          refine W_skip [8, 131, 132, 133] [94, 131] (fr' := [(8, .one (.slc 94)), (131, .one (.slc 131)), (132, aI (2 : Int)), (133, aI i186)]) (L' := [(94, .seq tI v172), (131, .seq tI [(2 : Int), (3 : Int)])]) (by kernel_rfl) (by kernel_rfl) ?_
                          refine blockQ_norm ?_
                          refine seqQ_norm ?_
                          obtain rfl := Option.some.inj h
                          refine W_run 2 [] [8, 131, 132, 133] [94, 131] (fr' := [(8, .one (.slc 94)), (131, .one (.slc 131)), (132, aI (2 : Int)), (133, aI (w64 (i186 + (1 : Int))))]) (L' := [(94, .seq tI v172), (131, .seq tI [(2 : Int), (3 : Int)])]) (obs := []) (by kernel_rfl) (by kernel_rfl) (by kernel_rfl) allP0 ?_
                          exact round_next' (by kernel_rfl) (by kernel_rfl)
                      · obtain rfl := stepI_false h189 h
                        refine W_exit (id := 3) [] [] (fr' := []) (L' := []) (by kernel_rfl) (by kernel_rfl) ?_
                        refine seqQ_exit ?_
                        refine round_exit ?_
                        refine escQ_brk ?_
                        exact exQ_mk (by kernel_rfl) (by kernel_rfl)
                    · intro e fr L hJ
                      rcases v196 with v200 | v201
                      · obtain ⟨rfl, rfl, rfl⟩ := hJ
                        obtain rfl := Option.some.inj h
                        refine LT_keep [4] [] (fr' := [(4, aI v200)]) (L' := []) (by kernel_rfl) ?_
                        refine blockQ_ret ?_
                        refine seqQ_ret ?_
                        exact retQ_mk (by kernel_rfl) (by kernel_rfl) (by kernel_rfl)
                      · obtain ⟨rfl, rfl, rfl⟩ := hJ
                        refine LT_keep [] [] (fr' := []) (L' := []) (by kernel_rfl) ?_
                        refine blockQ_hit ?_
                        refine seqQ_norm ?_
                        refine W_seq (by kernel_rfl) ?_
                        refine W_run 1 [] [4] [] (fr' := [(4, aI (0 : Int))]) (L' := []) (obs := []) (by kernel_rfl) (by kernel_rfl) (by kernel_rfl) allP0 ?_
                        refine seqQ_norm ?_
                        obtain rfl := Option.some.inj h
                        refine W_ret [4] [] (fr' := [(4, aI (0 : Int))]) (L' := []) (by kernel_rfl) (by kernel_rfl) ?_
                        exact retQ_mk (by kernel_rfl) (by kernel_rfl) (by kernel_rfl)

def funcs_Check_b1 (a0 : (List (Int × (Int × (Int × (Int × (Int × (List Int)))))))) (i12 : Int) (v15 : (Int × (Int × (Int × (Int × (Int × (List Int))))))) (x13 : Unit) : Option (Flow Unit (Esc Int Unit)) :=
(funcs_wrong a0 i12).bind fun r18 =>
bif r18 != (0 : Int) then
(some (.done (.ret r18)))
else
(some (.next ()))
@[reducible] def funcs_Check_s2 (a0 : (List (Int × (Int × (Int × (Int × (Int × (List Int)))))))) (v : Int × Unit) : Fr × LL := ([(0, aD (.slice (.pair tI (.pair tI (.pair tI (.pair tI (.pair tI (.slice tI))))))) a0), (14, aI (List.length a0 : Int)), (15, aI v.1)], [])
@[reducible] def funcs_Check_s3 (v : Int) : Fr × LL := ([(2, aI v)], [])
@[reducible] def funcs_Check_s4 (v : Unit) : Fr × LL := ([], [])
def funcs_Check (a0 : (List (Int × (Int × (Int × (Int × (Int × (List Int)))))))) : Option Int :=
bif (decide ((List.length a0 : Int) < (1 : Int))) || (decide ((List.length a0 : Int) > (12 : Int))) then
(some (1 : Int))
else
((forL (funcs_Check_b1 a0) (fun x13 => (.brk ())) a0 0 ()).bind fun v22 =>
match v22 with
| .ret v27 =>
(some v27)
| .brk v28 =>
(some (0 : Int)))
theorem funcs_Check_ok {a0 : (List (Int × (Int × (Int × (Int × (Int × (List Int)))))))} {r : Int} (h : funcs_Check a0 = some r) : FnC Try.prog 31 [aD (.slice (.pair tI (.pair tI (.pair tI (.pair tI (.pair tI (.slice tI))))))) a0] [] (aI r) [] := by
  refine fnC_of_W (B := bodyOf Try.f31) (n := 25) Try.func31 (by kernel_rfl) (by kernel_rfl) (by kernel_rfl) (by kernel_rfl) (by kernel_rfl) ?_
  intro K
  refine W_seq (by kernel_rfl) ?_
  refine W_run 1 [] [0] [] (fr' := [(0, aD (.slice (.pair tI (.pair tI (.pair tI (.pair tI (.pair tI (.slice tI))))))) a0)]) (L' := []) (obs := []) (by kernel_rfl) (by kernel_rfl) (by kernel_rfl) allP0 ?_
  refine seqQ_norm ?_
  refine W_seq (by kernel_rfl) ?_
  refine W_seq (by kernel_rfl) ?_
  refine W_run 8 [] [0, 12] [] (fr' := [(0, aD (.slice (.pair tI (.pair tI (.pair tI (.pair tI (.pair tI (.slice tI))))))) a0), (12, aB ((decide ((List.length a0 : Int) < (1 : Int))) || (decide ((List.length a0 : Int) > (12 : Int)))))]) (L' := []) (obs := []) (by kernel_rfl) (by kernel_rfl) (by kernel_rfl) allP0 ?_
  refine seqQ_norm ?_
  refine W_cond (o := .tmp 12) (b := (decide ((List.length a0 : Int) < (1 : Int))) || (decide ((List.length a0 : Int) > (12 : Int)))) (by kernel_rfl) (by kernel_rfl) (fun h1 => ?_) (fun h1 => ?_)
  · replace h := ofT h1 h
    refine W_seq (by kernel_rfl) ?_
    refine W_run 1 [] [2] [] (fr' := [(2, aI (1 : Int))]) (L' := []) (obs := []) (by kernel_rfl) (by kernel_rfl) (by kernel_rfl) allP0 ?_
    refine seqQ_norm ?_
    obtain rfl := Option.some.inj h
    refine W_ret [2] [] (fr' := [(2, aI (1 : Int))]) (L' := []) (by kernel_rfl) (by kernel_rfl) ?_
    refine seqQ_ret ?_
    exact retQ_mk (by kernel_rfl) (by kernel_rfl) (by kernel_rfl)
  · replace h := ofF h1 h
    refine W_skip [0] [] (fr' := [(0, aD (.slice (.pair tI (.pair tI (.pair tI (.pair tI (.pair tI (.slice tI))))))) a0)]) (L' := []) (by kernel_rfl) (by kernel_rfl) ?_
    refine seqQ_norm ?_
    refine W_seq (by kernel_rfl) ?_
    refine W_seq (by kernel_rfl) ?_
    refine W_run 3 [] [0, 14, 15] [] (fr' := [(0, aD (.slice (.pair tI (.pair tI (.pair tI (.pair tI (.pair tI (.slice tI))))))) a0), (14, aI (List.length a0 : Int)), (15, aI (0 : Int))]) (L' := []) (obs := []) (by kernel_rfl) (by kernel_rfl) (by kernel_rfl) allP0 ?_
    refine seqQ_norm ?_
    refine W_block (id := 0) (by kernel_rfl) ?_
    obtain ⟨v22, h23, h⟩ := bind_of h
    refine W_len (t := 0) (u := (.pair tI (.pair tI (.pair tI (.pair tI (.pair tI (.slice tI))))))) (xs := a0) (by kernel_rfl) (fun h26 => ?_)
    obtain ⟨h24, h25⟩ := forL_iter h26 h23
    refine W_weaken [0, 14, 15] [] (fr' := ((funcs_Check_s2 a0) ((0 : Int), ())).1) (L' := ((funcs_Check_s2 a0) ((0 : Int), ())).2) (by kernel_rfl) ?_
    refine W_cutK (W_loop (S := (funcs_Check_s2 a0)) (J := (escQ (exQ .ret funcs_Check_s3) (exQ (.exit 0) funcs_Check_s4))) (by kernel_rfl) ?_ h24 _ v22 h25) ?_
    · rintro ⟨i12, x13⟩ s h
      refine W_seq (by kernel_rfl) ?_
      refine W_run 1 [] [0, 14, 15, 16] [] (fr' := [(0, aD (.slice (.pair tI (.pair tI (.pair tI (.pair tI (.pair tI (.slice tI))))))) a0), (14, aI (List.length a0 : Int)), (15, aI i12), (16, aB (decide (i12 < (List.length a0 : Int))))]) (L' := []) (obs := []) (by kernel_rfl) (by kernel_rfl) (by kernel_rfl) allP0 ?_
      refine seqQ_norm ?_
      refine W_seq (by kernel_rfl) ?_
      refine W_cond (o := .tmp 16) (b := decide (i12 < (List.length a0 : Int))) (by kernel_rfl) (by kernel_rfl) (fun h17 => ?_) (fun h17 => ?_)
      · replace h := stepL_true h17 h
        obtain ⟨v15, _, h16, h, rfl⟩ := h
        refine W_skip [0, 14, 15] [] (fr' := [(0, aD (.slice (.pair tI (.pair tI (.pair tI (.pair tI (.pair tI (.slice tI))))))) a0), (14, aI (List.length a0 : Int)), (15, aI i12)]) (L' := []) (by kernel_rfl) (by kernel_rfl) ?_
        refine seqQ_norm ?_
        refine W_seq (by kernel_rfl) ?_
        refine W_block (id := 1) (by kernel_rfl) ?_
        refine W_seq (by kernel_rfl) ?_
        refine W_run 2 [] [0, 3, 14, 15] [] (fr' := [(0, aD (.slice (.pair tI (.pair tI (.pair tI (.pair tI (.pair tI (.slice tI))))))) a0), (3, aI i12), (14, aI (List.length a0 : Int)), (15, aI i12)]) (L' := []) (obs := []) (by kernel_rfl) (by kernel_rfl) (by kernel_rfl) allP0 ?_
        refine seqQ_norm ?_
        refine W_seq (by kernel_rfl) ?_
        refine W_region (by kernel_rfl) ?_
        refine WO_run (j := 2) (k := 2) (orcs := []) (kF := [0, 14, 15, 18, 19]) (kL := []) (fr' := [(0, aD (.slice (.pair tI (.pair tI (.pair tI (.pair tI (.pair tI (.slice tI))))))) a0), (14, aI (List.length a0 : Int)), (15, aI i12), (18, aD (.slice (.pair tI (.pair tI (.pair tI (.pair tI (.pair tI (.slice tI))))))) a0), (19, aI i12)]) (L' := []) (obs := []) rfl (by kernel_rfl) allP0 ?_
        obtain ⟨r18, h19, h⟩ := bind_of h
        refine WO_call0 (us := [none, none]) (d := 20) (p := True) (j := 3) rfl ⟨by kernel_rfl, by kernel_rfl, by kernel_rfl⟩ trivial (funcs_wrong_ok h19) (by kernel_rfl) ?_
        refine WO_run (j := 4) (k := 1) (orcs := []) (kF := [0, 4, 14, 15]) (kL := []) (fr' := [(0, aD (.slice (.pair tI (.pair tI (.pair tI (.pair tI (.pair tI (.slice tI))))))) a0), (4, aI r18), (14, aI (List.length a0 : Int)), (15, aI i12)]) (L' := []) (obs := []) rfl (by kernel_rfl) allP0 ?_
        refine WO_fin [0, 4, 14, 15] [] (fr' := [(0, aD (.slice (.pair tI (.pair tI (.pair tI (.pair tI (.pair tI (.slice tI))))))) a0), (4, aI r18), (14, aI (List.length a0 : Int)), (15, aI i12)]) (L' := []) (by kernel_rfl) (by kernel_rfl) ?_
        refine seqQ_norm ?_
        refine W_seq (by kernel_rfl) ?_
        refine W_run 2 [] [0, 4, 14, 15, 22] [] (fr' := [(0, aD (.slice (.pair tI (.pair tI (.pair tI (.pair tI (.pair tI (.slice tI))))))) a0), (4, aI r18), (14, aI (List.length a0 : Int)), (15, aI i12), (22, aB (r18 != (0 : Int)))]) (L' := []) (obs := []) (by kernel_rfl) (by kernel_rfl) (by kernel_rfl) allP0 ?_
        refine seqQ_norm ?_
        refine W_cond (o := .tmp 22) (b := r18 != (0 : Int)) (by kernel_rfl) (by kernel_rfl) (fun h20 => ?_) (fun h20 => ?_)
        · replace h := ofT h20 h
          refine W_seq (by kernel_rfl) ?_
          refine W_run 2 [] [2] [] (fr' := [(2, aI r18)]) (L' := []) (obs := []) (by kernel_rfl) (by kernel_rfl) (by kernel_rfl) allP0 ?_
          refine seqQ_norm ?_
          obtain rfl := Option.some.inj h
          refine W_ret [2] [] (fr' := [(2, aI r18)]) (L' := []) (by kernel_rfl) (by kernel_rfl) ?_
          refine blockQ_ret ?_
          refine seqQ_ret ?_
          refine round_ret ?_
          refine escQ_ret ?_
          exact exQ_mk (by kernel_rfl) (by kernel_rfl)
        · replace h := ofF h20 h
          refine W_skip [0, 14, 15] [] (fr' := [(0, aD (.slice (.pair tI (.pair tI (.pair tI (.pair tI (.pair tI (.slice tI))))))) a0), (14, aI (List.length a0 : Int)), (15, aI i12)]) (L' := []) (by kernel_rfl) (by kernel_rfl) ?_
          refine blockQ_norm ?_
          refine seqQ_norm ?_
          obtain rfl := Option.some.inj h
          refine W_run 2 [] [0, 14, 15] [] (fr' := [(0, aD (.slice (.pair tI (.pair tI (.pair tI (.pair tI (.pair tI (.slice tI))))))) a0), (14, aI (List.length a0 : Int)), (15, aI (w64 (i12 + (1 : Int))))]) (L' := []) (obs := []) (by kernel_rfl) (by kernel_rfl) (by kernel_rfl) allP0 ?_
          exact round_next' (by kernel_rfl) (by kernel_rfl)
      · obtain rfl := stepL_false h17 h
        refine W_exit (id := 0) [] [] (fr' := []) (L' := []) (by kernel_rfl) (by kernel_rfl) ?_
        refine seqQ_exit ?_
        refine round_exit ?_
        refine escQ_brk ?_
        exact exQ_mk (by kernel_rfl) (by kernel_rfl)
    · intro e fr L hJ
      rcases v22 with v27 | v28
      · obtain ⟨rfl, rfl, rfl⟩ := hJ
        obtain rfl := Option.some.inj h
        refine LT_keep [2] [] (fr' := [(2, aI v27)]) (L' := []) (by kernel_rfl) ?_
        refine blockQ_ret ?_
        refine seqQ_ret ?_
        exact retQ_mk (by kernel_rfl) (by kernel_rfl) (by kernel_rfl)
      · obtain ⟨rfl, rfl, rfl⟩ := hJ
        refine LT_keep [] [] (fr' := []) (L' := []) (by kernel_rfl) ?_
        refine blockQ_hit ?_
        refine seqQ_norm ?_
        refine W_seq (by kernel_rfl) ?_
        refine W_run 1 [] [2] [] (fr' := [(2, aI (0 : Int))]) (L' := []) (obs := []) (by kernel_rfl) (by kernel_rfl) (by kernel_rfl) allP0 ?_
        refine seqQ_norm ?_
        obtain rfl := Option.some.inj h
        refine W_ret [2] [] (fr' := [(2, aI (0 : Int))]) (L' := []) (by kernel_rfl) (by kernel_rfl) ?_
        exact retQ_mk (by kernel_rfl) (by kernel_rfl) (by kernel_rfl)

def funcs_Value_1 (a0 : Int) : Option Bool :=
some ((decide (a0 < (0 : Int))) || (decide (a0 > (20 : Int))))
theorem funcs_Value_1_ok {a0 : Int} {r : Bool} (h : funcs_Value_1 a0 = some r) : FnC Try.prog 50 [aI a0] [] (aB r) [] := by
  refine fnC_of_W (B := bodyOf Try.f50) (n := 9) Try.func50 (by kernel_rfl) (by kernel_rfl) (by kernel_rfl) (by kernel_rfl) (by kernel_rfl) ?_
  intro K
  refine W_seq (by kernel_rfl) ?_
  refine W_run 1 [] [0] [] (fr' := [(0, aI a0)]) (L' := []) (obs := []) (by kernel_rfl) (by kernel_rfl) (by kernel_rfl) allP0 ?_
  refine seqQ_norm ?_
  refine W_seq (by kernel_rfl) ?_
  refine W_run 7 [] [2] [] (fr' := [(2, aB ((decide (a0 < (0 : Int))) || (decide (a0 > (20 : Int)))))]) (L' := []) (obs := []) (by kernel_rfl) (by kernel_rfl) (by kernel_rfl) allP0 ?_
  refine seqQ_norm ?_
  obtain rfl := Option.some.inj h
  refine W_ret [2] [] (fr' := [(2, aB ((decide (a0 < (0 : Int))) || (decide (a0 > (20 : Int)))))]) (L' := []) (by kernel_rfl) (by kernel_rfl) ?_
  exact retQ_mk (by kernel_rfl) (by kernel_rfl) (by kernel_rfl)

def slices_IndexFunc_Lintint_with_funcs_Value_1_b1 (i15 : Int) (v18 : Int) (x16 : Unit) : Option (Flow Unit (Esc Int Unit)) :=
(funcs_Value_1 v18).bind fun r21 =>
bif r21 then
(some (.done (.ret i15)))
else
(some (.next ()))
@[reducible] def slices_IndexFunc_Lintint_with_funcs_Value_1_s2 (a0 : (List Int)) (v : Int × Unit) : Fr × LL := ([(0, aD (.slice tI) a0), (1, .one (.fn 50 [])), (7, aI (List.length a0 : Int)), (8, aI v.1)], [])
@[reducible] def slices_IndexFunc_Lintint_with_funcs_Value_1_s3 (v : Int) : Fr × LL := ([(4, aI v)], [])
@[reducible] def slices_IndexFunc_Lintint_with_funcs_Value_1_s4 (v : Unit) : Fr × LL := ([], [])
def slices_IndexFunc_Lintint_with_funcs_Value_1 (a0 : (List Int)) : Option Int :=
(forL slices_IndexFunc_Lintint_with_funcs_Value_1_b1 (fun x16 => (.brk ())) a0 0 ()).bind fun v25 =>
match v25 with
| .ret v30 =>
(some v30)
| .brk v31 =>
(some (-1 : Int))
theorem slices_IndexFunc_Lintint_with_funcs_Value_1_ok {a0 : (List Int)} {r : Int} (h : slices_IndexFunc_Lintint_with_funcs_Value_1 a0 = some r) : FnC Try.prog 56 [aD (.slice tI) a0, .one (.fn 50 [])] [] (aI r) [] := by
  refine fnC_of_W (B := bodyOf Try.f56) (n := 19) Try.func56 (by kernel_rfl) (by kernel_rfl) (by kernel_rfl) (by kernel_rfl) (by kernel_rfl) ?_
  intro K
  refine W_seq (by kernel_rfl) ?_
  refine W_run 1 [] [0, 1] [] (fr' := [(0, aD (.slice tI) a0), (1, .one (.fn 50 []))]) (L' := []) (obs := []) (by kernel_rfl) (by kernel_rfl) (by kernel_rfl) allP0 ?_
  refine seqQ_norm ?_
  refine W_seq (by kernel_rfl) ?_
  refine W_seq (by kernel_rfl) ?_
  refine W_run 3 [] [0, 1, 7, 8] [] (fr' := [(0, aD (.slice tI) a0), (1, .one (.fn 50 [])), (7, aI (List.length a0 : Int)), (8, aI (0 : Int))]) (L' := []) (obs := []) (by kernel_rfl) (by kernel_rfl) (by kernel_rfl) allP0 ?_
  refine seqQ_norm ?_
  refine W_block (id := 0) (by kernel_rfl) ?_
  obtain ⟨v25, h26, h⟩ := bind_of h
  refine W_len (t := 0) (u := tI) (xs := a0) (by kernel_rfl) (fun h29 => ?_)
  obtain ⟨h27, h28⟩ := forL_iter h29 h26
  refine W_weaken [0, 1, 7, 8] [] (fr' := ((slices_IndexFunc_Lintint_with_funcs_Value_1_s2 a0) ((0 : Int), ())).1) (L' := ((slices_IndexFunc_Lintint_with_funcs_Value_1_s2 a0) ((0 : Int), ())).2) (by kernel_rfl) ?_
  refine W_cutK (W_loop (S := (slices_IndexFunc_Lintint_with_funcs_Value_1_s2 a0)) (J := (escQ (exQ .ret slices_IndexFunc_Lintint_with_funcs_Value_1_s3) (exQ (.exit 0) slices_IndexFunc_Lintint_with_funcs_Value_1_s4))) (by kernel_rfl) ?_ h27 _ v25 h28) ?_
  · rintro ⟨i15, x16⟩ s h
    refine W_seq (by kernel_rfl) ?_
    refine W_run 1 [] [0, 1, 7, 8, 9] [] (fr' := [(0, aD (.slice tI) a0), (1, .one (.fn 50 [])), (7, aI (List.length a0 : Int)), (8, aI i15), (9, aB (decide (i15 < (List.length a0 : Int))))]) (L' := []) (obs := []) (by kernel_rfl) (by kernel_rfl) (by kernel_rfl) allP0 ?_
    refine seqQ_norm ?_
    refine W_seq (by kernel_rfl) ?_
    refine W_cond (o := .tmp 9) (b := decide (i15 < (List.length a0 : Int))) (by kernel_rfl) (by kernel_rfl) (fun h20 => ?_) (fun h20 => ?_)
    · replace h := stepL_true h20 h
      obtain ⟨v18, _, h19, h, rfl⟩ := h
      refine W_skip [0, 1, 7, 8] [] (fr' := [(0, aD (.slice tI) a0), (1, .one (.fn 50 [])), (7, aI (List.length a0 : Int)), (8, aI i15)]) (L' := []) (by kernel_rfl) (by kernel_rfl) ?_
      refine seqQ_norm ?_
      refine W_seq (by kernel_rfl) ?_
      refine W_block (id := 1) (by kernel_rfl) ?_
      refine W_seq (by kernel_rfl) ?_
      refine W_run 2 [] [0, 1, 5, 7, 8] [] (fr' := [(0, aD (.slice tI) a0), (1, .one (.fn 50 [])), (5, aI i15), (7, aI (List.length a0 : Int)), (8, aI i15)]) (L' := []) (obs := []) (by kernel_rfl) (by kernel_rfl) (by kernel_rfl) allP0 ?_
      refine seqQ_norm ?_
      refine W_seq (by kernel_rfl) ?_
      refine W_region (by kernel_rfl) ?_
      refine WO_run (j := 5) (k := 5) (orcs := [(7, .val (.dat tI v18))]) (kF := [0, 1, 5, 7, 8, 11, 15]) (kL := []) (fr' := [(0, aD (.slice tI) a0), (1, .one (.fn 50 [])), (5, aI i15), (7, aI (List.length a0 : Int)), (8, aI i15), (11, .one (.fn 50 [])), (15, aI v18)]) (L' := []) (obs := [Idx a0 i15 v18]) rfl (by kernel_rfl) (allP1 (Idx.of h19)) ?_
      obtain ⟨r21, h22, h⟩ := bind_of h
      refine WO_call0 (us := [none]) (d := 16) (p := True) (j := 6) rfl ⟨by kernel_rfl, by kernel_rfl, by kernel_rfl⟩ trivial (funcs_Value_1_ok h22) (by kernel_rfl) ?_
      refine WO_fin [0, 1, 5, 7, 8, 16] [] (fr' := [(0, aD (.slice tI) a0), (1, .one (.fn 50 [])), (5, aI i15), (7, aI (List.length a0 : Int)), (8, aI i15), (16, aB r21)]) (L' := []) (by kernel_rfl) (by kernel_rfl) ?_
      refine seqQ_norm ?_
      refine W_cond (o := .tmp 16) (b := r21) (by kernel_rfl) (by kernel_rfl) (fun h23 => ?_) (fun h23 => ?_)
      · replace h := ofT h23 h
        refine W_seq (by kernel_rfl) ?_
        refine W_run 2 [] [4] [] (fr' := [(4, aI i15)]) (L' := []) (obs := []) (by kernel_rfl) (by kernel_rfl) (by kernel_rfl) allP0 ?_
        refine seqQ_norm ?_
        obtain rfl := Option.some.inj h
        refine W_ret [4] [] (fr' := [(4, aI i15)]) (L' := []) (by kernel_rfl) (by kernel_rfl) ?_
        refine blockQ_ret ?_
        refine seqQ_ret ?_
        refine round_ret ?_
        refine escQ_ret ?_
        exact exQ_mk (by kernel_rfl) (by kernel_rfl)
      · replace h := ofF h23 h
        refine W_skip [0, 1, 7, 8] [] (fr' := [(0, aD (.slice tI) a0), (1, .one (.fn 50 [])), (7, aI (List.length a0 : Int)), (8, aI i15)]) (L' := []) (by kernel_rfl) (by kernel_rfl) ?_
        refine blockQ_norm ?_
        refine seqQ_norm ?_
        obtain rfl := Option.some.inj h
        refine W_run 2 [] [0, 1, 7, 8] [] (fr' := [(0, aD (.slice tI) a0), (1, .one (.fn 50 [])), (7, aI (List.length a0 : Int)), (8, aI (w64 (i15 + (1 : Int))))]) (L' := []) (obs := []) (by kernel_rfl) (by kernel_rfl) (by kernel_rfl) allP0 ?_
        exact round_next' (by kernel_rfl) (by kernel_rfl)
    · obtain rfl := stepL_false h20 h
      refine W_exit (id := 0) [] [] (fr' := []) (L' := []) (by kernel_rfl) (by kernel_rfl) ?_
      refine seqQ_exit ?_
      refine round_exit ?_
      refine escQ_brk ?_
      exact exQ_mk (by kernel_rfl) (by kernel_rfl)
  · intro e fr L hJ
    rcases v25 with v30 | v31
    · obtain ⟨rfl, rfl, rfl⟩ := hJ
      obtain rfl := Option.some.inj h
      refine LT_keep [4] [] (fr' := [(4, aI v30)]) (L' := []) (by kernel_rfl) ?_
      refine blockQ_ret ?_
      refine seqQ_ret ?_
      exact retQ_mk (by kernel_rfl) (by kernel_rfl) (by kernel_rfl)
    · obtain ⟨rfl, rfl, rfl⟩ := hJ
      refine LT_keep [] [] (fr' := []) (L' := []) (by kernel_rfl) ?_
      refine blockQ_hit ?_
      refine seqQ_norm ?_
      refine W_seq (by kernel_rfl) ?_
      refine W_run 1 [] [4] [] (fr' := [(4, aI (-1 : Int))]) (L' := []) (obs := []) (by kernel_rfl) (by kernel_rfl) (by kernel_rfl) allP0 ?_
      refine seqQ_norm ?_
      obtain rfl := Option.some.inj h
      refine W_ret [4] [] (fr' := [(4, aI (-1 : Int))]) (L' := []) (by kernel_rfl) (by kernel_rfl) ?_
      exact retQ_mk (by kernel_rfl) (by kernel_rfl) (by kernel_rfl)

def slices_ContainsFunc_Lintint_with_funcs_Value_1 (a0 : (List Int)) : Option Bool :=
(slices_IndexFunc_Lintint_with_funcs_Value_1 a0).bind fun r1 =>
some (decide (r1 ≥ (0 : Int)))
theorem slices_ContainsFunc_Lintint_with_funcs_Value_1_ok {a0 : (List Int)} {r : Bool} (h : slices_ContainsFunc_Lintint_with_funcs_Value_1 a0 = some r) : FnC Try.prog 45 [aD (.slice tI) a0, .one (.fn 50 [])] [] (aB r) [] := by
  refine fnC_of_W (B := bodyOf Try.f45) (n := 9) Try.func45 (by kernel_rfl) (by kernel_rfl) (by kernel_rfl) (by kernel_rfl) (by kernel_rfl) ?_
  intro K
  refine W_seq (by kernel_rfl) ?_
  refine W_run 1 [] [0, 1] [] (fr' := [(0, aD (.slice tI) a0), (1, .one (.fn 50 []))]) (L' := []) (obs := []) (by kernel_rfl) (by kernel_rfl) (by kernel_rfl) allP0 ?_
  refine seqQ_norm ?_
  refine W_seq (by kernel_rfl) ?_
  refine W_region (by kernel_rfl) ?_
  refine WO_run (j := 2) (k := 2) (orcs := []) (kF := [5, 6]) (kL := []) (fr' := [(5, aD (.slice tI) a0), (6, .one (.fn 50 []))]) (L' := []) (obs := []) rfl (by kernel_rfl) allP0 ?_
  obtain ⟨r1, h2, h⟩ := bind_of h
  refine WO_call0 (us := [none, none]) (d := 7) (p := True) (j := 3) rfl ⟨by kernel_rfl, by kernel_rfl, by kernel_rfl⟩ trivial (slices_IndexFunc_Lintint_with_funcs_Value_1_ok h2) (by kernel_rfl) ?_
  refine WO_run (j := 5) (k := 2) (orcs := []) (kF := [4]) (kL := []) (fr' := [(4, aB (decide (r1 ≥ (0 : Int))))]) (L' := []) (obs := []) rfl (by kernel_rfl) allP0 ?_
  refine WO_fin [4] [] (fr' := [(4, aB (decide (r1 ≥ (0 : Int))))]) (L' := []) (by kernel_rfl) (by kernel_rfl) ?_
  refine seqQ_norm ?_
  obtain rfl := Option.some.inj h
  refine W_ret [4] [] (fr' := [(4, aB (decide (r1 ≥ (0 : Int))))]) (L' := []) (by kernel_rfl) (by kernel_rfl) ?_
  exact retQ_mk (by kernel_rfl) (by kernel_rfl) (by kernel_rfl)

def slices_Clone_Lintint (a0 : (List Int)) : Option (List Int) :=
(ck ((0 : Int) + (List.length a0 : Int) ≤ 4294967296)).bind fun _ =>
some ([] ++ a0)
theorem slices_Clone_Lintint_ok {a0 : (List Int)} {r : (List Int)} (h : slices_Clone_Lintint a0 = some r) : FnC Try.prog 47 [aD (.slice tI) a0] [] (.one (.slc 5)) [(5, .seq tI r)] := by
  refine fnC_of_W (B := bodyOf Try.f47) (n := 8) Try.func47 (by kernel_rfl) (by kernel_rfl) (by kernel_rfl) (by kernel_rfl) (by kernel_rfl) ?_
  intro K
  refine W_seq (by kernel_rfl) ?_
  refine W_run 1 [] [0] [] (fr' := [(0, aD (.slice tI) a0)]) (L' := []) (obs := []) (by kernel_rfl) (by kernel_rfl) (by kernel_rfl) allP0 ?_
  refine seqQ_norm ?_
  refine W_seq (by kernel_rfl) ?_
  refine W_seq (by kernel_rfl) ?_
  refine W_region (by kernel_rfl) ?_
  refine WO_run (j := 1) (k := 1) (orcs := []) (kF := [0, 3]) (kL := []) (fr' := [(0, aD (.slice tI) a0), (3, aD (.slice tI) a0)]) (L' := []) (obs := []) rfl (by kernel_rfl) allP0 ?_
  refine WO_nilcmp (u := tI) (xs := a0) (d := 4) (j := 2) rfl (by kernel_rfl) (by kernel_rfl) (fun h12 h10 => ?_)
  cases h12
  · refine WO_fin [0, 4] [] (fr' := [(0, aD (.slice tI) a0), (4, aB false)]) (L' := []) (by kernel_rfl) (by kernel_rfl) ?_
    refine seqQ_norm ?_
    refine W_cond (o := .tmp 4) (b := false) (by kernel_rfl) (by kernel_rfl) (fun h7 => by have := (rfl : false = false).symm.trans h7; cases this) (fun h7 => ?_)
    refine W_skip [0] [] (fr' := [(0, aD (.slice tI) a0)]) (L' := []) (by kernel_rfl) (by kernel_rfl) ?_
    refine seqQ_norm ?_
    refine W_seq (by kernel_rfl) ?_
    obtain ⟨_, h8, h⟩ := bind_of h
    replace h8 := ck_some h8
    refine W_run 4 [] [2] [5] (fr' := [(2, .one (.slc 5))]) (L' := [(5, .seq tI ([] ++ a0))]) (obs := [SmallLen (List.length ([] : (List Int)) + List.length a0)]) (by kernel_rfl) (by kernel_rfl) (by kernel_rfl) (allP1 h8) ?_
    refine seqQ_norm ?_
    obtain rfl := Option.some.inj h
    refine W_ret [2] [5] (fr' := [(2, .one (.slc 5))]) (L' := [(5, .seq tI ([] ++ a0))]) (by kernel_rfl) (by kernel_rfl) ?_
    exact retQ_mk (by kernel_rfl) (by kernel_rfl) (by kernel_rfl)
  · replace h10 := h10 rfl
    have h11 : (some [] : Option (List Int)) = ((ck ((0 : Int) + (List.length a0 : Int) ≤ 4294967296)).bind fun _ => some ([] ++ a0)) := by rw [h10]; simp [ck]
    replace h := h11.trans h
    refine WO_fin [0, 4] [] (fr' := [(0, aD (.slice tI) a0), (4, aB true)]) (L' := []) (by kernel_rfl) (by kernel_rfl) ?_
    refine seqQ_norm ?_
    refine W_cond (o := .tmp 4) (b := true) (by kernel_rfl) (by kernel_rfl) (fun h9 => ?_) (fun h9 => by have := (rfl : true = true).symm.trans h9; cases this)
    refine W_seq (by kernel_rfl) ?_
    refine W_run 1 [] [2] [] (fr' := [(2, .one (.nilS))]) (L' := []) (obs := []) (by kernel_rfl) (by kernel_rfl) (by kernel_rfl) allP0 ?_
    refine seqQ_norm ?_
    obtain rfl := Option.some.inj h
    refine W_mine 2 5 tI (by kernel_rfl) ?_
    refine W_ret [2] [5] (fr' := [(2, .one (.slc 5))]) (L' := [(5, .seq tI [])]) (by kernel_rfl) (by kernel_rfl) ?_
    refine seqQ_ret ?_
    exact retQ_mk (by kernel_rfl) (by kernel_rfl) (by kernel_rfl)

def funcs_asker_ask_b1 (a2 : (List Int)) (rf_funcs_asker_ask : Int → (List Int) → ((List (Int × (Int × (Int × (Int × (Int × (List Int))))))) × Int) → Option (Int × ((List (Int × (Int × (Int × (Int × (Int × (List Int))))))) × Int))) (i27 : Int) (v30 : Int) (x28 : (((List (Int × (Int × (Int × (Int × (Int × (List Int))))))) × Int) × (List Int))) : Option (Flow (((List (Int × (Int × (Int × (Int × (Int × (List Int))))))) × Int) × (List Int)) (Esc (Int × ((List (Int × (Int × (Int × (Int × (Int × (List Int))))))) × Int)) (((List (Int × (Int × (Int × (Int × (Int × (List Int))))))) × Int) × (List Int)))) :=
(rf_funcs_asker_ask v30 a2 x28.1).bind fun r33 =>
bif decide (r33.1 < (0 : Int)) then
(some (.done (.ret ((-1 : Int), r33.2))))
else
((ck ((List.length x28.2 : Int) + 1 ≤ 4294967296)).bind fun _ =>
some (.next (r33.2, x28.2 ++ [r33.1])))
@[reducible] def funcs_asker_ask_s2 (a2 : (List Int)) (v2 : (Int × (Int × (Int × (Int × (Int × (List Int))))))) (v : Int × (((List (Int × (Int × (Int × (Int × (Int × (List Int))))))) × Int) × (List Int))) : Fr × LL := ([(0, .one (.ptr 1000 0)), (2, aD (.slice tI) a2), (7, .one (.ptr 7 0)), (8, .one (.slc 71)), (56, aD (.slice tI) v2.2.2.2.2.2), (57, aI (List.length v2.2.2.2.2.2 : Int)), (58, aI v.1)], [(1000, .one (.pair (.slice (.pair tI (.pair tI (.pair tI (.pair tI (.pair tI (.slice tI))))))) tI) v.2.1), (7, .one (.pair tI (.pair tI (.pair tI (.pair tI (.pair tI (.slice tI)))))) v2), (71, .seq tI v.2.2)])
@[reducible] def funcs_asker_ask_s3 (v : (Int × ((List (Int × (Int × (Int × (Int × (Int × (List Int))))))) × Int))) : Fr × LL := ([(6, aI v.1)], [(1000, .one (.pair (.slice (.pair tI (.pair tI (.pair tI (.pair tI (.pair tI (.slice tI))))))) tI) v.2)])
@[reducible] def funcs_asker_ask_s4 (v2 : (Int × (Int × (Int × (Int × (Int × (List Int))))))) (v : (((List (Int × (Int × (Int × (Int × (Int × (List Int))))))) × Int) × (List Int))) : Fr × LL := ([(0, .one (.ptr 1000 0)), (7, .one (.ptr 7 0)), (8, .one (.slc 71))], [(1000, .one (.pair (.slice (.pair tI (.pair tI (.pair tI (.pair tI (.pair tI (.slice tI))))))) tI) v.1), (7, .one (.pair tI (.pair tI (.pair tI (.pair tI (.pair tI (.slice tI)))))) v2), (71, .seq tI v.2)])
def funcs_asker_ask_b5 (a2 : (List Int)) (v2 : (Int × (Int × (Int × (Int × (Int × (List Int))))))) (rf_funcs_asker_ask : Int → (List Int) → ((List (Int × (Int × (Int × (Int × (Int × (List Int))))))) × Int) → Option (Int × ((List (Int × (Int × (Int × (Int × (Int × (List Int))))))) × Int))) (x62 : (Int × Int × ((List (Int × (Int × (Int × (Int × (Int × (List Int))))))) × Int))) : Option (Flow (Int × Int × ((List (Int × (Int × (Int × (Int × (Int × (List Int))))))) × Int)) (Int × ((List (Int × (Int × (Int × (Int × (Int × (List Int))))))) × Int))) :=
(idx a2 (w64 ((List.length a2 : Int) - (1 : Int)))).bind fun v71 =>
bif (decide (x62.2.1 < v71)) && (decide (x62.1 ≥ (0 : Int))) then
((slices_Clone_Lintint (sub a2 (0 : Int) (w64 ((List.length a2 : Int) - (1 : Int))))).bind fun r74 =>
(ck ((List.length r74 : Int) + 2 ≤ 4294967296)).bind fun _ =>
(rf_funcs_asker_ask v2.2.2.2.2.1 (r74 ++ [x62.2.1, x62.1]) x62.2.2).bind fun r77 =>
some (.next (r77.1, w64 (x62.2.1 + (1 : Int)), r77.2)))
else
(some (.done (x62.1, x62.2.2)))
@[reducible] def funcs_asker_ask_s6 (a2 : (List Int)) (v2 : (Int × (Int × (Int × (Int × (Int × (List Int))))))) (v : (Int × Int × ((List (Int × (Int × (Int × (Int × (Int × (List Int))))))) × Int))) : Fr × LL := ([(0, .one (.ptr 1000 0)), (2, aD (.slice tI) a2), (7, .one (.ptr 7 0)), (12, aI (w64 ((List.length a2 : Int) - (1 : Int)))), (13, aI v.1), (14, aI v.2.1)], [(1000, .one (.pair (.slice (.pair tI (.pair tI (.pair tI (.pair tI (.pair tI (.slice tI))))))) tI) v.2.2), (7, .one (.pair tI (.pair tI (.pair tI (.pair tI (.pair tI (.slice tI)))))) v2)])
@[reducible] def funcs_asker_ask_s7 (v : (Int × ((List (Int × (Int × (Int × (Int × (Int × (List Int))))))) × Int))) : Fr × LL := ([(13, aI v.1)], [(1000, .one (.pair (.slice (.pair tI (.pair tI (.pair tI (.pair tI (.pair tI (.slice tI))))))) tI) v.2)])
def funcs_asker_ask_step (rf_funcs_asker_ask : Int → (List Int) → ((List (Int × (Int × (Int × (Int × (Int × (List Int))))))) × Int) → Option (Int × ((List (Int × (Int × (Int × (Int × (Int × (List Int))))))) × Int))) (fuel : Nat) (a1 : Int) (a2 : (List Int)) (c0 : ((List (Int × (Int × (Int × (Int × (Int × (List Int))))))) × Int)) : Option (Int × ((List (Int × (Int × (Int × (Int × (Int × (List Int))))))) × Int)) :=
bif decide ((w64 (c0.2 - (1 : Int))) < (0 : Int)) then
(some ((-1 : Int), (c0.1, w64 (c0.2 - (1 : Int)))))
else
((idx c0.1 a1).bind fun v2 =>
bif v2.1 == (2 : Int) then
((idx a2 (0 : Int)).bind fun v5 =>
bif decide (v5 ≥ (1000 : Int)) then
(some ((-1 : Int), (c0.1, w64 (c0.2 - (1 : Int)))))
else
(some (w64 (v5 + (1 : Int)), (c0.1, w64 (c0.2 - (1 : Int))))))
else
(bif v2.1 == (3 : Int) then
((idx a2 v2.2.2.1).bind fun v9 =>
some (v9, (c0.1, w64 (c0.2 - (1 : Int)))))
else
(bif v2.1 == (4 : Int) then
((forL (funcs_asker_ask_b1 a2 rf_funcs_asker_ask) (fun x28 => (.brk (x28.1, x28.2))) v2.2.2.2.2.2 0 ((c0.1, w64 (c0.2 - (1 : Int))), [])).bind fun v38 =>
match v38 with
| .ret v43 =>
(some (v43.1, v43.2))
| .brk v44 =>
((rf_funcs_asker_ask v2.2.2.2.1 v44.2 v44.1).bind fun r45 =>
some (r45.1, r45.2)))
else
(bif v2.1 == (5 : Int) then
((ck (0 ≤ (0 : Int) ∧ (0 : Int) ≤ w64 ((List.length a2 : Int) - (1 : Int)) ∧ w64 ((List.length a2 : Int) - (1 : Int)) ≤ (List.length a2 : Int))).bind fun _ =>
(rf_funcs_asker_ask v2.2.2.2.1 (sub a2 (0 : Int) (w64 ((List.length a2 : Int) - (1 : Int)))) (c0.1, w64 (c0.2 - (1 : Int)))).bind fun r51 =>
(iter (funcs_asker_ask_b5 a2 v2 rf_funcs_asker_ask) fuel (r51.1, (0 : Int), r51.2)).bind fun v79 =>
some (v79.1, v79.2))
else
(some ((0 : Int), (c0.1, w64 (c0.2 - (1 : Int)))))))))
def funcs_asker_ask : Nat → Int → (List Int) → ((List (Int × (Int × (Int × (Int × (Int × (List Int))))))) × Int) → Option (Int × ((List (Int × (Int × (Int × (Int × (Int × (List Int))))))) × Int))
  | 0 => fun _ _ _ => none
  | fuel + 1 => fun a1 a2 c0 => funcs_asker_ask_step (funcs_asker_ask fuel) fuel a1 a2 c0
theorem funcs_asker_ask_step_ok {rf_funcs_asker_ask : Int → (List Int) → ((List (Int × (Int × (Int × (Int × (Int × (List Int))))))) × Int) → Option (Int × ((List (Int × (Int × (Int × (Int × (Int × (List Int))))))) × Int))} (ih_funcs_asker_ask : ∀ {a1 : Int} {a2 : (List Int)} {c0 : ((List (Int × (Int × (Int × (Int × (Int × (List Int))))))) × Int)} {r : (Int × ((List (Int × (Int × (Int × (Int × (Int × (List Int))))))) × Int))}, rf_funcs_asker_ask a1 a2 c0 = some r → FnC Try.prog 51 [.one (.ptr 1000 0), aI a1, aD (.slice tI) a2] [(1000, .one (.pair (.slice (.pair tI (.pair tI (.pair tI (.pair tI (.pair tI (.slice tI))))))) tI) c0)] (aI r.1) [(1000, .one (.pair (.slice (.pair tI (.pair tI (.pair tI (.pair tI (.pair tI (.slice tI))))))) tI) r.2)]) {fuel : Nat} {a1 : Int} {a2 : (List Int)} {c0 : ((List (Int × (Int × (Int × (Int × (Int × (List Int))))))) × Int)} {r : (Int × ((List (Int × (Int × (Int × (Int × (Int × (List Int))))))) × Int))} (h : funcs_asker_ask_step rf_funcs_asker_ask fuel a1 a2 c0 = some r) : FnC Try.prog 51 [.one (.ptr 1000 0), aI a1, aD (.slice tI) a2] [(1000, .one (.pair (.slice (.pair tI (.pair tI (.pair tI (.pair tI (.pair tI (.slice tI))))))) tI) c0)] (aI r.1) [(1000, .one (.pair (.slice (.pair tI (.pair tI (.pair tI (.pair tI (.pair tI (.slice tI))))))) tI) r.2)] := by
  refine fnC_of_W (B := bodyOf Try.f51) (n := 115) Try.func51 (by kernel_rfl) (by kernel_rfl) (by kernel_rfl) (by kernel_rfl) (by kernel_rfl) ?_
  intro K
  refine W_seq (by kernel_rfl) ?_
  refine W_run 1 [] [0, 1, 2] [1000] (fr' := [(0, .one (.ptr 1000 0)), (1, aI a1), (2, aD (.slice tI) a2)]) (L' := [(1000, .one (.pair (.slice (.pair tI (.pair tI (.pair tI (.pair tI (.pair tI (.slice tI))))))) tI) c0)]) (obs := []) (by kernel_rfl) (by kernel_rfl) (by kernel_rfl) allP0 ?_
  refine seqQ_norm ?_
  refine W_seq (by kernel_rfl) ?_
  refine W_run 8 [] [0, 1, 2] [1000] (fr' := [(0, .one (.ptr 1000 0)), (1, aI a1), (2, aD (.slice tI) a2)]) (L' := [(1000, .one (.pair (.slice (.pair tI (.pair tI (.pair tI (.pair tI (.pair tI (.slice tI))))))) tI) (c0.1, w64 (c0.2 - (1 : Int))))]) (obs := [True]) (by kernel_rfl) (by kernel_rfl) (by kernel_rfl) (allP1 trivial) ?_
  refine seqQ_norm ?_
  refine W_seq (by kernel_rfl) ?_
  refine W_seq (by kernel_rfl) ?_
  refine W_run 5 [] [0, 1, 2, 26] [1000] (fr' := [(0, .one (.ptr 1000 0)), (1, aI a1), (2, aD (.slice tI) a2), (26, aB (decide ((w64 (c0.2 - (1 : Int))) < (0 : Int))))]) (L' := [(1000, .one (.pair (.slice (.pair tI (.pair tI (.pair tI (.pair tI (.pair tI (.slice tI))))))) tI) (c0.1, w64 (c0.2 - (1 : Int))))]) (obs := []) (by kernel_rfl) (by kernel_rfl) (by kernel_rfl) allP0 ?_
  refine seqQ_norm ?_
  refine W_cond (o := .tmp 26) (b := decide ((w64 (c0.2 - (1 : Int))) < (0 : Int))) (by kernel_rfl) (by kernel_rfl) (fun h1 => ?_) (fun h1 => ?_)
  · replace h := ofT h1 h
    refine W_seq (by kernel_rfl) ?_
    refine W_run 1 [] [6] [1000] (fr' := [(6, aI (-1 : Int))]) (L' := [(1000, .one (.pair (.slice (.pair tI (.pair tI (.pair tI (.pair tI (.pair tI (.slice tI))))))) tI) (c0.1, w64 (c0.2 - (1 : Int))))]) (obs := []) (by kernel_rfl) (by kernel_rfl) (by kernel_rfl) allP0 ?_
    refine seqQ_norm ?_
    obtain rfl := Option.some.inj h
    refine W_ret [6] [1000] (fr' := [(6, aI (-1 : Int))]) (L' := [(1000, .one (.pair (.slice (.pair tI (.pair tI (.pair tI (.pair tI (.pair tI (.slice tI))))))) tI) (c0.1, w64 (c0.2 - (1 : Int))))]) (by kernel_rfl) (by kernel_rfl) ?_
    refine seqQ_ret ?_
    exact retQ_mk (by kernel_rfl) (by kernel_rfl) (by kernel_rfl)
  · replace h := ofF h1 h
    refine W_skip [0, 1, 2] [1000] (fr' := [(0, .one (.ptr 1000 0)), (1, aI a1), (2, aD (.slice tI) a2)]) (L' := [(1000, .one (.pair (.slice (.pair tI (.pair tI (.pair tI (.pair tI (.pair tI (.slice tI))))))) tI) (c0.1, w64 (c0.2 - (1 : Int))))]) (by kernel_rfl) (by kernel_rfl) ?_
    refine seqQ_norm ?_
    refine W_seq (by kernel_rfl) ?_
    obtain ⟨v2, h3, h⟩ := bind_of h
    refine W_run 9 [(11, .val (.dat (.pair tI (.pair tI (.pair tI (.pair tI (.pair tI (.slice tI)))))) v2)), (15, .typed)] [0, 2, 7] [1000, 7] (fr' := [(0, .one (.ptr 1000 0)), (2, aD (.slice tI) a2), (7, .one (.ptr 7 0))]) (L' := [(1000, .one (.pair (.slice (.pair tI (.pair tI (.pair tI (.pair tI (.pair tI (.slice tI))))))) tI) (c0.1, w64 (c0.2 - (1 : Int)))), (7, .one (.pair tI (.pair tI (.pair tI (.pair tI (.pair tI (.slice tI)))))) v2)]) (obs := [Idx c0.1 a1 v2, True]) (by kernel_rfl) (by kernel_rfl) (by kernel_rfl) (allP2 (Idx.of h3) (allP1 trivial)) ?_
    refine seqQ_norm ?_
    refine W_seq (by kernel_rfl) ?_
    refine W_seq (by kernel_rfl) ?_
    refine W_run 2 [] [0, 2, 7, 35] [1000, 7] (fr' := [(0, .one (.ptr 1000 0)), (2, aD (.slice tI) a2), (7, .one (.ptr 7 0)), (35, aI v2.1)]) (L' := [(1000, .one (.pair (.slice (.pair tI (.pair tI (.pair tI (.pair tI (.pair tI (.slice tI))))))) tI) (c0.1, w64 (c0.2 - (1 : Int)))), (7, .one (.pair tI (.pair tI (.pair tI (.pair tI (.pair tI (.slice tI)))))) v2)]) (obs := []) (by kernel_rfl) (by kernel_rfl) (by kernel_rfl) allP0 ?_
    refine seqQ_norm ?_
    refine W_block (id := 0) (by kernel_rfl) ?_
    refine W_seq (by kernel_rfl) ?_
    refine W_run 2 [] [0, 2, 7, 35, 36] [1000, 7] (fr' := [(0, .one (.ptr 1000 0)), (2, aD (.slice tI) a2), (7, .one (.ptr 7 0)), (35, aI v2.1), (36, aB (v2.1 == (2 : Int)))]) (L' := [(1000, .one (.pair (.slice (.pair tI (.pair tI (.pair tI (.pair tI (.pair tI (.slice tI))))))) tI) (c0.1, w64 (c0.2 - (1 : Int)))), (7, .one (.pair tI (.pair tI (.pair tI (.pair tI (.pair tI (.slice tI)))))) v2)]) (obs := []) (by kernel_rfl) (by kernel_rfl) (by kernel_rfl) allP0 ?_
    refine seqQ_norm ?_
    refine W_cond (o := .tmp 36) (b := v2.1 == (2 : Int)) (by kernel_rfl) (by kernel_rfl) (fun h4 => ?_) (fun h4 => ?_)
    · replace h := ofT h4 h
      refine W_seq (by kernel_rfl) ?_
      refine W_seq (by kernel_rfl) ?_
      obtain ⟨v5, h6, h⟩ := bind_of h
      refine W_run 4 [(3, .val (.dat tI v5))] [2, 41] [1000] (fr' := [(2, aD (.slice tI) a2), (41, aB (decide (v5 ≥ (1000 : Int))))]) (L' := [(1000, .one (.pair (.slice (.pair tI (.pair tI (.pair tI (.pair tI (.pair tI (.slice tI))))))) tI) (c0.1, w64 (c0.2 - (1 : Int))))]) (obs := [Idx a2 (0 : Int) v5]) (by kernel_rfl) (by kernel_rfl) (by kernel_rfl) (allP1 (Idx.of h6)) ?_
      refine seqQ_norm ?_
      refine W_cond (o := .tmp 41) (b := decide (v5 ≥ (1000 : Int))) (by kernel_rfl) (by kernel_rfl) (fun h7 => ?_) (fun h7 => ?_)
      · replace h := ofT h7 h
        refine W_seq (by kernel_rfl) ?_
        refine W_run 1 [] [6] [1000] (fr' := [(6, aI (-1 : Int))]) (L' := [(1000, .one (.pair (.slice (.pair tI (.pair tI (.pair tI (.pair tI (.pair tI (.slice tI))))))) tI) (c0.1, w64 (c0.2 - (1 : Int))))]) (obs := []) (by kernel_rfl) (by kernel_rfl) (by kernel_rfl) allP0 ?_
        refine seqQ_norm ?_
        obtain rfl := Option.some.inj h
        refine W_ret [6] [1000] (fr' := [(6, aI (-1 : Int))]) (L' := [(1000, .one (.pair (.slice (.pair tI (.pair tI (.pair tI (.pair tI (.pair tI (.slice tI))))))) tI) (c0.1, w64 (c0.2 - (1 : Int))))]) (by kernel_rfl) (by kernel_rfl) ?_
        refine seqQ_ret ?_
        refine blockQ_ret ?_
        refine seqQ_ret ?_
        exact retQ_mk (by kernel_rfl) (by kernel_rfl) (by kernel_rfl)
      · replace h := ofF h7 h
        refine W_skip [2] [1000] (fr' := [(2, aD (.slice tI) a2)]) (L' := [(1000, .one (.pair (.slice (.pair tI (.pair tI (.pair tI (.pair tI (.pair tI (.slice tI))))))) tI) (c0.1, w64 (c0.2 - (1 : Int))))]) (by kernel_rfl) (by kernel_rfl) ?_
        refine seqQ_norm ?_
        refine W_seq (by kernel_rfl) ?_
        refine W_run 5 [(3, .val (.dat tI v5))] [6] [1000] (fr' := [(6, aI (w64 (v5 + (1 : Int))))]) (L' := [(1000, .one (.pair (.slice (.pair tI (.pair tI (.pair tI (.pair tI (.pair tI (.slice tI))))))) tI) (c0.1, w64 (c0.2 - (1 : Int))))]) (obs := [Idx a2 (0 : Int) v5]) (by kernel_rfl) (by kernel_rfl) (by kernel_rfl) (allP1 (Idx.of h6)) ?_
        refine seqQ_norm ?_
        obtain rfl := Option.some.inj h
        refine W_ret [6] [1000] (fr' := [(6, aI (w64 (v5 + (1 : Int))))]) (L' := [(1000, .one (.pair (.slice (.pair tI (.pair tI (.pair tI (.pair tI (.pair tI (.slice tI))))))) tI) (c0.1, w64 (c0.2 - (1 : Int))))]) (by kernel_rfl) (by kernel_rfl) ?_
        refine blockQ_ret ?_
        refine seqQ_ret ?_
        exact retQ_mk (by kernel_rfl) (by kernel_rfl) (by kernel_rfl)
    · replace h := ofF h4 h
      refine W_seq (by kernel_rfl) ?_
      refine W_run 2 [] [0, 2, 7, 35, 46] [1000, 7] (fr' := [(0, .one (.ptr 1000 0)), (2, aD (.slice tI) a2), (7, .one (.ptr 7 0)), (35, aI v2.1), (46, aB (v2.1 == (3 : Int)))]) (L' := [(1000, .one (.pair (.slice (.pair tI (.pair tI (.pair tI (.pair tI (.pair tI (.slice tI))))))) tI) (c0.1, w64 (c0.2 - (1 : Int)))), (7, .one (.pair tI (.pair tI (.pair tI (.pair tI (.pair tI (.slice tI)))))) v2)]) (obs := []) (by kernel_rfl) (by kernel_rfl) (by kernel_rfl) allP0 ?_
      refine seqQ_norm ?_
      refine W_cond (o := .tmp 46) (b := v2.1 == (3 : Int)) (by kernel_rfl) (by kernel_rfl) (fun h8 => ?_) (fun h8 => ?_)
      · replace h := ofT h8 h
        refine W_seq (by kernel_rfl) ?_
        obtain ⟨v9, h10, h⟩ := bind_of h
        refine W_run 6 [(7, .val (.dat tI v9))] [6] [1000] (fr' := [(6, aI v9)]) (L' := [(1000, .one (.pair (.slice (.pair tI (.pair tI (.pair tI (.pair tI (.pair tI (.slice tI))))))) tI) (c0.1, w64 (c0.2 - (1 : Int))))]) (obs := [Idx a2 v2.2.2.1 v9]) (by kernel_rfl) (by kernel_rfl) (by kernel_rfl) (allP1 (Idx.of h10)) ?_
        refine seqQ_norm ?_
        obtain rfl := Option.some.inj h
        refine W_ret [6] [1000] (fr' := [(6, aI v9)]) (L' := [(1000, .one (.pair (.slice (.pair tI (.pair tI (.pair tI (.pair tI (.pair tI (.slice tI))))))) tI) (c0.1, w64 (c0.2 - (1 : Int))))]) (by kernel_rfl) (by kernel_rfl) ?_
        refine blockQ_ret ?_
        refine seqQ_ret ?_
        exact retQ_mk (by kernel_rfl) (by kernel_rfl) (by kernel_rfl)
      · replace h := ofF h8 h
        refine W_seq (by kernel_rfl) ?_
        refine W_run 2 [] [0, 2, 7, 35, 53] [1000, 7] (fr' := [(0, .one (.ptr 1000 0)), (2, aD (.slice tI) a2), (7, .one (.ptr 7 0)), (35, aI v2.1), (53, aB (v2.1 == (4 : Int)))]) (L' := [(1000, .one (.pair (.slice (.pair tI (.pair tI (.pair tI (.pair tI (.pair tI (.slice tI))))))) tI) (c0.1, w64 (c0.2 - (1 : Int)))), (7, .one (.pair tI (.pair tI (.pair tI (.pair tI (.pair tI (.slice tI)))))) v2)]) (obs := []) (by kernel_rfl) (by kernel_rfl) (by kernel_rfl) allP0 ?_
        refine seqQ_norm ?_
        refine W_cond (o := .tmp 53) (b := v2.1 == (4 : Int)) (by kernel_rfl) (by kernel_rfl) (fun h11 => ?_) (fun h11 => ?_)
        · replace h := ofT h11 h
          refine W_seq (by kernel_rfl) ?_
          refine W_run 1 [] [0, 2, 7, 8] [1000, 7] (fr' := [(0, .one (.ptr 1000 0)), (2, aD (.slice tI) a2), (7, .one (.ptr 7 0)), (8, .one (.nilS))]) (L' := [(1000, .one (.pair (.slice (.pair tI (.pair tI (.pair tI (.pair tI (.pair tI (.slice tI))))))) tI) (c0.1, w64 (c0.2 - (1 : Int)))), (7, .one (.pair tI (.pair tI (.pair tI (.pair tI (.pair tI (.slice tI)))))) v2)]) (obs := []) (by kernel_rfl) (by kernel_rfl) (by kernel_rfl) allP0 ?_
          refine seqQ_norm ?_
          refine W_seq (by kernel_rfl) ?_
          refine W_seq (by kernel_rfl) ?_
          refine W_run 4 [] [0, 2, 7, 8, 56, 57, 58] [1000, 7] (fr' := [(0, .one (.ptr 1000 0)), (2, aD (.slice tI) a2), (7, .one (.ptr 7 0)), (8, .one (.nilS)), (56, aD (.slice tI) v2.2.2.2.2.2), (57, aI (List.length v2.2.2.2.2.2 : Int)), (58, aI (0 : Int))]) (L' := [(1000, .one (.pair (.slice (.pair tI (.pair tI (.pair tI (.pair tI (.pair tI (.slice tI))))))) tI) (c0.1, w64 (c0.2 - (1 : Int)))), (7, .one (.pair tI (.pair tI (.pair tI (.pair tI (.pair tI (.slice tI)))))) v2)]) (obs := []) (by kernel_rfl) (by kernel_rfl) (by kernel_rfl) allP0 ?_
          refine seqQ_norm ?_
          refine W_block (id := 1) (by kernel_rfl) ?_
          obtain ⟨v38, h39, h⟩ := bind_of h
          refine W_len (t := 56) (u := tI) (xs := v2.2.2.2.2.2) (by kernel_rfl) (fun h42 => ?_)
          obtain ⟨h40, h41⟩ := forL_iter h42 h39
          refine W_mine 8 71 tI (by kernel_rfl) ?_
          refine W_weaken [0, 2, 7, 8, 56, 57, 58] [1000, 7, 71] (fr' := ((funcs_asker_ask_s2 a2 v2) ((0 : Int), ((c0.1, w64 (c0.2 - (1 : Int))), []))).1) (L' := ((funcs_asker_ask_s2 a2 v2) ((0 : Int), ((c0.1, w64 (c0.2 - (1 : Int))), []))).2) (by kernel_rfl) ?_
          refine W_cutK (W_loop (S := (funcs_asker_ask_s2 a2 v2)) (J := (escQ (exQ .ret funcs_asker_ask_s3) (exQ (.exit 1) (funcs_asker_ask_s4 v2)))) (by kernel_rfl) ?_ h40 _ v38 h41) ?_
          · rintro ⟨i27, x28⟩ s h
            refine W_seq (by kernel_rfl) ?_
            refine W_run 1 [] [0, 2, 7, 8, 56, 57, 58, 59] [1000, 7, 71] (fr' := [(0, .one (.ptr 1000 0)), (2, aD (.slice tI) a2), (7, .one (.ptr 7 0)), (8, .one (.slc 71)), (56, aD (.slice tI) v2.2.2.2.2.2), (57, aI (List.length v2.2.2.2.2.2 : Int)), (58, aI i27), (59, aB (decide (i27 < (List.length v2.2.2.2.2.2 : Int))))]) (L' := [(1000, .one (.pair (.slice (.pair tI (.pair tI (.pair tI (.pair tI (.pair tI (.slice tI))))))) tI) x28.1), (7, .one (.pair tI (.pair tI (.pair tI (.pair tI (.pair tI (.slice tI)))))) v2), (71, .seq tI x28.2)]) (obs := []) (by kernel_rfl) (by kernel_rfl) (by kernel_rfl) allP0 ?_
            refine seqQ_norm ?_
            refine W_seq (by kernel_rfl) ?_
            refine W_cond (o := .tmp 59) (b := decide (i27 < (List.length v2.2.2.2.2.2 : Int))) (by kernel_rfl) (by kernel_rfl) (fun h32 => ?_) (fun h32 => ?_)
            · replace h := stepL_true h32 h
              obtain ⟨v30, _, h31, h, rfl⟩ := h
              refine W_skip [0, 2, 7, 8, 56, 57, 58] [1000, 7, 71] (fr' := [(0, .one (.ptr 1000 0)), (2, aD (.slice tI) a2), (7, .one (.ptr 7 0)), (8, .one (.slc 71)), (56, aD (.slice tI) v2.2.2.2.2.2), (57, aI (List.length v2.2.2.2.2.2 : Int)), (58, aI i27)]) (L' := [(1000, .one (.pair (.slice (.pair tI (.pair tI (.pair tI (.pair tI (.pair tI (.slice tI))))))) tI) x28.1), (7, .one (.pair tI (.pair tI (.pair tI (.pair tI (.pair tI (.slice tI)))))) v2), (71, .seq tI x28.2)]) (by kernel_rfl) (by kernel_rfl) ?_
              refine seqQ_norm ?_
              refine W_seq (by kernel_rfl) ?_
              refine W_block (id := 2) (by kernel_rfl) ?_
              refine W_seq (by kernel_rfl) ?_
              refine W_run 3 [(1, .val (.dat tI v30))] [0, 2, 7, 8, 10, 56, 57, 58] [1000, 7, 71] (fr' := [(0, .one (.ptr 1000 0)), (2, aD (.slice tI) a2), (7, .one (.ptr 7 0)), (8, .one (.slc 71)), (10, aI v30), (56, aD (.slice tI) v2.2.2.2.2.2), (57, aI (List.length v2.2.2.2.2.2 : Int)), (58, aI i27)]) (L' := [(1000, .one (.pair (.slice (.pair tI (.pair tI (.pair tI (.pair tI (.pair tI (.slice tI))))))) tI) x28.1), (7, .one (.pair tI (.pair tI (.pair tI (.pair tI (.pair tI (.slice tI)))))) v2), (71, .seq tI x28.2)]) (obs := [Idx v2.2.2.2.2.2 i27 v30]) (by kernel_rfl) (by kernel_rfl) (by kernel_rfl) (allP1 (Idx.of h31)) ?_
              refine seqQ_norm ?_
              refine W_seq (by kernel_rfl) ?_
              refine W_region (by kernel_rfl) ?_
              refine WO_run (j := 3) (k := 3) (orcs := []) (kF := [0, 2, 7, 8, 56, 57, 58, 62, 63, 64]) (kL := [7, 71, 1000]) (fr' := [(0, .one (.ptr 1000 0)), (2, aD (.slice tI) a2), (7, .one (.ptr 7 0)), (8, .one (.slc 71)), (56, aD (.slice tI) v2.2.2.2.2.2), (57, aI (List.length v2.2.2.2.2.2 : Int)), (58, aI i27), (62, .one (.ptr 1000 0)), (63, aI v30), (64, aD (.slice tI) a2)]) (L' := [(7, .one (.pair tI (.pair tI (.pair tI (.pair tI (.pair tI (.slice tI)))))) v2), (71, .seq tI x28.2), (1000, .one (.pair (.slice (.pair tI (.pair tI (.pair tI (.pair tI (.pair tI (.slice tI))))))) tI) x28.1)]) (obs := []) rfl (by kernel_rfl) allP0 ?_
              obtain ⟨r33, h34, h⟩ := bind_of h
              refine WO_lend [(1000, 1000)] (us := [none, none, none]) (d := 65) (p := True) (j := 4) rfl ⟨by kernel_rfl, by kernel_rfl, by kernel_rfl⟩ trivial (ih_funcs_asker_ask h34) (by kernel_rfl) (by kernel_rfl) ?_
              refine WO_run (j := 5) (k := 1) (orcs := []) (kF := [0, 2, 7, 8, 11, 56, 57, 58]) (kL := [7, 71, 1000]) (fr' := [(0, .one (.ptr 1000 0)), (2, aD (.slice tI) a2), (7, .one (.ptr 7 0)), (8, .one (.slc 71)), (11, aI r33.1), (56, aD (.slice tI) v2.2.2.2.2.2), (57, aI (List.length v2.2.2.2.2.2 : Int)), (58, aI i27)]) (L' := [(7, .one (.pair tI (.pair tI (.pair tI (.pair tI (.pair tI (.slice tI)))))) v2), (71, .seq tI x28.2), (1000, .one (.pair (.slice (.pair tI (.pair tI (.pair tI (.pair tI (.pair tI (.slice tI))))))) tI) r33.2)]) (obs := []) rfl (by kernel_rfl) allP0 ?_
              refine WO_fin [0, 2, 7, 8, 11, 56, 57, 58] [1000, 7, 71] (fr' := [(0, .one (.ptr 1000 0)), (2, aD (.slice tI) a2), (7, .one (.ptr 7 0)), (8, .one (.slc 71)), (11, aI r33.1), (56, aD (.slice tI) v2.2.2.2.2.2), (57, aI (List.length v2.2.2.2.2.2 : Int)), (58, aI i27)]) (L' := [(1000, .one (.pair (.slice (.pair tI (.pair tI (.pair tI (.pair tI (.pair tI (.slice tI))))))) tI) r33.2), (7, .one (.pair tI (.pair tI (.pair tI (.pair tI (.pair tI (.slice tI)))))) v2), (71, .seq tI x28.2)]) (by kernel_rfl) (by kernel_rfl) ?_
              refine seqQ_norm ?_
              refine W_seq (by kernel_rfl) ?_
              refine W_seq (by kernel_rfl) ?_
              refine W_run 2 [] [0, 2, 7, 8, 11, 56, 57, 58, 67] [1000, 7, 71] (fr' := [(0, .one (.ptr 1000 0)), (2, aD (.slice tI) a2), (7, .one (.ptr 7 0)), (8, .one (.slc 71)), (11, aI r33.1), (56, aD (.slice tI) v2.2.2.2.2.2), (57, aI (List.length v2.2.2.2.2.2 : Int)), (58, aI i27), (67, aB (decide (r33.1 < (0 : Int))))]) (L' := [(1000, .one (.pair (.slice (.pair tI (.pair tI (.pair tI (.pair tI (.pair tI (.slice tI))))))) tI) r33.2), (7, .one (.pair tI (.pair tI (.pair tI (.pair tI (.pair tI (.slice tI)))))) v2), (71, .seq tI x28.2)]) (obs := []) (by kernel_rfl) (by kernel_rfl) (by kernel_rfl) allP0 ?_
              refine seqQ_norm ?_
              refine W_cond (o := .tmp 67) (b := decide (r33.1 < (0 : Int))) (by kernel_rfl) (by kernel_rfl) (fun h35 => ?_) (fun h35 => ?_)
              · replace h := ofT h35 h
                refine W_seq (by kernel_rfl) ?_
                refine W_run 1 [] [6] [1000] (fr' := [(6, aI (-1 : Int))]) (L' := [(1000, .one (.pair (.slice (.pair tI (.pair tI (.pair tI (.pair tI (.pair tI (.slice tI))))))) tI) r33.2)]) (obs := []) (by kernel_rfl) (by kernel_rfl) (by kernel_rfl) allP0 ?_
                refine seqQ_norm ?_
                obtain rfl := Option.some.inj h
                refine W_ret [6] [1000] (fr' := [(6, aI (-1 : Int))]) (L' := [(1000, .one (.pair (.slice (.pair tI (.pair tI (.pair tI (.pair tI (.pair tI (.slice tI))))))) tI) r33.2)]) (by kernel_rfl) (by kernel_rfl) ?_
                refine seqQ_ret ?_
                refine blockQ_ret ?_
                refine seqQ_ret ?_
                refine round_ret ?_
                refine escQ_ret ?_
                exact exQ_mk (by kernel_rfl) (by kernel_rfl)
              · replace h := ofF h35 h
                refine W_skip [0, 2, 7, 8, 11, 56, 57, 58] [1000, 7, 71] (fr' := [(0, .one (.ptr 1000 0)), (2, aD (.slice tI) a2), (7, .one (.ptr 7 0)), (8, .one (.slc 71)), (11, aI r33.1), (56, aD (.slice tI) v2.2.2.2.2.2), (57, aI (List.length v2.2.2.2.2.2 : Int)), (58, aI i27)]) (L' := [(1000, .one (.pair (.slice (.pair tI (.pair tI (.pair tI (.pair tI (.pair tI (.slice tI))))))) tI) r33.2), (7, .one (.pair tI (.pair tI (.pair tI (.pair tI (.pair tI (.slice tI)))))) v2), (71, .seq tI x28.2)]) (by kernel_rfl) (by kernel_rfl) ?_
                refine seqQ_norm ?_
                obtain ⟨_, h36, h⟩ := bind_of h
                replace h36 := ck_some h36
                refine W_run 5 [] [0, 2, 7, 8, 56, 57, 58] [1000, 7, 71] (fr' := [(0, .one (.ptr 1000 0)), (2, aD (.slice tI) a2), (7, .one (.ptr 7 0)), (8, .one (.slc 71)), (56, aD (.slice tI) v2.2.2.2.2.2), (57, aI (List.length v2.2.2.2.2.2 : Int)), (58, aI i27)]) (L' := [(1000, .one (.pair (.slice (.pair tI (.pair tI (.pair tI (.pair tI (.pair tI (.slice tI))))))) tI) r33.2), (7, .one (.pair tI (.pair tI (.pair tI (.pair tI (.pair tI (.slice tI)))))) v2), (71, .seq tI (x28.2 ++ [r33.1]))]) (obs := [SmallLen (List.length x28.2 + List.length [r33.1])]) (by kernel_rfl) (by kernel_rfl) (by kernel_rfl) (allP1 h36) ?_
                refine blockQ_norm ?_
                refine seqQ_norm ?_
                obtain rfl := Option.some.inj h
                refine W_run 2 [] [0, 2, 7, 8, 56, 57, 58] [1000, 7, 71] (fr' := [(0, .one (.ptr 1000 0)), (2, aD (.slice tI) a2), (7, .one (.ptr 7 0)), (8, .one (.slc 71)), (56, aD (.slice tI) v2.2.2.2.2.2), (57, aI (List.length v2.2.2.2.2.2 : Int)), (58, aI (w64 (i27 + (1 : Int))))]) (L' := [(1000, .one (.pair (.slice (.pair tI (.pair tI (.pair tI (.pair tI (.pair tI (.slice tI))))))) tI) r33.2), (7, .one (.pair tI (.pair tI (.pair tI (.pair tI (.pair tI (.slice tI)))))) v2), (71, .seq tI (x28.2 ++ [r33.1]))]) (obs := []) (by kernel_rfl) (by kernel_rfl) (by kernel_rfl) allP0 ?_
                exact round_next' (by kernel_rfl) (by kernel_rfl)
            · obtain rfl := stepL_false h32 h
              refine W_exit (id := 1) [0, 7, 8] [1000, 7, 71] (fr' := [(0, .one (.ptr 1000 0)), (7, .one (.ptr 7 0)), (8, .one (.slc 71))]) (L' := [(1000, .one (.pair (.slice (.pair tI (.pair tI (.pair tI (.pair tI (.pair tI (.slice tI))))))) tI) x28.1), (7, .one (.pair tI (.pair tI (.pair tI (.pair tI (.pair tI (.slice tI)))))) v2), (71, .seq tI x28.2)]) (by kernel_rfl) (by kernel_rfl) ?_
              refine seqQ_exit ?_
              refine round_exit ?_
              refine escQ_brk ?_
              exact exQ_mk (by kernel_rfl) (by kernel_rfl)
          · intro e fr L hJ
            rcases v38 with v43 | v44
            · obtain ⟨rfl, rfl, rfl⟩ := hJ
              obtain rfl := Option.some.inj h
              refine LT_keep [6] [1000] (fr' := [(6, aI v43.1)]) (L' := [(1000, .one (.pair (.slice (.pair tI (.pair tI (.pair tI (.pair tI (.pair tI (.slice tI))))))) tI) v43.2)]) (by kernel_rfl) ?_
              refine blockQ_ret ?_
              refine seqQ_ret ?_
              refine blockQ_ret ?_
              refine seqQ_ret ?_
              exact retQ_mk (by kernel_rfl) (by kernel_rfl) (by kernel_rfl)
            · obtain ⟨rfl, rfl, rfl⟩ := hJ
              refine LT_keep [0, 7, 8] [1000, 7, 71] (fr' := [(0, .one (.ptr 1000 0)), (7, .one (.ptr 7 0)), (8, .one (.slc 71))]) (L' := [(1000, .one (.pair (.slice (.pair tI (.pair tI (.pair tI (.pair tI (.pair tI (.slice tI))))))) tI) v44.1), (7, .one (.pair tI (.pair tI (.pair tI (.pair tI (.pair tI (.slice tI)))))) v2), (71, .seq tI v44.2)]) (by kernel_rfl) ?_
              refine blockQ_hit ?_
              refine seqQ_norm ?_
              refine W_seq (by kernel_rfl) ?_
              refine W_region (by kernel_rfl) ?_
              refine WO_run (j := 4) (k := 4) (orcs := []) (kF := [73, 75, 76]) (kL := [7, 71, 1000]) (fr' := [(73, .one (.ptr 1000 0)), (75, aI v2.2.2.2.1), (76, .one (.slc 71))]) (L' := [(7, .one (.pair tI (.pair tI (.pair tI (.pair tI (.pair tI (.slice tI)))))) v2), (71, .seq tI v44.2), (1000, .one (.pair (.slice (.pair tI (.pair tI (.pair tI (.pair tI (.pair tI (.slice tI))))))) tI) v44.1)]) (obs := []) rfl (by kernel_rfl) allP0 ?_
              obtain ⟨r45, h46, h⟩ := bind_of h
              refine WO_frz 71 (by kernel_rfl) ?_
              refine WO_lend [(1000, 1000)] (us := [none, none, none]) (d := 77) (p := True) (j := 5) rfl ⟨by kernel_rfl, by kernel_rfl, by kernel_rfl⟩ trivial (ih_funcs_asker_ask h46) (by kernel_rfl) (by kernel_rfl) ?_
              refine WO_run (j := 6) (k := 1) (orcs := []) (kF := [6]) (kL := [7, 1000]) (fr' := [(6, aI r45.1)]) (L' := [(7, .one (.pair tI (.pair tI (.pair tI (.pair tI (.pair tI (.slice tI)))))) v2), (1000, .one (.pair (.slice (.pair tI (.pair tI (.pair tI (.pair tI (.pair tI (.slice tI))))))) tI) r45.2)]) (obs := []) rfl (by kernel_rfl) allP0 ?_
              refine WO_fin [6] [1000] (fr' := [(6, aI r45.1)]) (L' := [(1000, .one (.pair (.slice (.pair tI (.pair tI (.pair tI (.pair tI (.pair tI (.slice tI))))))) tI) r45.2)]) (by kernel_rfl) (by kernel_rfl) ?_
              refine seqQ_norm ?_
              obtain rfl := Option.some.inj h
              refine W_ret [6] [1000] (fr' := [(6, aI r45.1)]) (L' := [(1000, .one (.pair (.slice (.pair tI (.pair tI (.pair tI (.pair tI (.pair tI (.slice tI))))))) tI) r45.2)]) (by kernel_rfl) (by kernel_rfl) ?_
              refine blockQ_ret ?_
              refine seqQ_ret ?_
              exact retQ_mk (by kernel_rfl) (by kernel_rfl) (by kernel_rfl)
        · replace h := ofF h11 h
          refine W_seq (by kernel_rfl) ?_
          refine W_run 2 [] [0, 2, 7, 78] [1000, 7] (fr' := [(0, .one (.ptr 1000 0)), (2, aD (.slice tI) a2), (7, .one (.ptr 7 0)), (78, aB (v2.1 == (5 : Int)))]) (L' := [(1000, .one (.pair (.slice (.pair tI (.pair tI (.pair tI (.pair tI (.pair tI (.slice tI))))))) tI) (c0.1, w64 (c0.2 - (1 : Int)))), (7, .one (.pair tI (.pair tI (.pair tI (.pair tI (.pair tI (.slice tI)))))) v2)]) (obs := []) (by kernel_rfl) (by kernel_rfl) (by kernel_rfl) allP0 ?_
          refine seqQ_norm ?_
          refine W_cond (o := .tmp 78) (b := v2.1 == (5 : Int)) (by kernel_rfl) (by kernel_rfl) (fun h47 => ?_) (fun h47 => ?_)
          · replace h := ofT h47 h
            refine W_seq (by kernel_rfl) ?_
            refine W_run 4 [] [0, 2, 7, 12] [1000, 7] (fr' := [(0, .one (.ptr 1000 0)), (2, aD (.slice tI) a2), (7, .one (.ptr 7 0)), (12, aI (w64 ((List.length a2 : Int) - (1 : Int))))]) (L' := [(1000, .one (.pair (.slice (.pair tI (.pair tI (.pair tI (.pair tI (.pair tI (.slice tI))))))) tI) (c0.1, w64 (c0.2 - (1 : Int)))), (7, .one (.pair tI (.pair tI (.pair tI (.pair tI (.pair tI (.slice tI)))))) v2)]) (obs := []) (by kernel_rfl) (by kernel_rfl) (by kernel_rfl) allP0 ?_
            refine seqQ_norm ?_
            refine W_seq (by kernel_rfl) ?_
            obtain ⟨_, h50, h⟩ := bind_of h
            replace h50 := ck_some h50
            refine W_drawT5 6 [] [] [] [0, 2, 7, 12, 83, 85, 88] [7, 1000] (out := [(83, .one (.ptr 1000 0)), (84, .one (.ptr 7 3)), (85, aI v2.2.2.2.1), (86, aD (.slice tI) a2), (87, aI (w64 ((List.length a2 : Int) - (1 : Int)))), (88, aD (.slice tI) (sub a2 (0 : Int) (w64 ((List.length a2 : Int) - (1 : Int)))))]) (obs := [Cuts (0 : Int) (w64 ((List.length a2 : Int) - (1 : Int))) (List.length a2)]) (calls := []) (fr' := [(0, .one (.ptr 1000 0)), (2, aD (.slice tI) a2), (7, .one (.ptr 7 0)), (12, aI (w64 ((List.length a2 : Int) - (1 : Int)))), (83, .one (.ptr 1000 0)), (85, aI v2.2.2.2.1), (88, aD (.slice tI) (sub a2 (0 : Int) (w64 ((List.length a2 : Int) - (1 : Int)))))]) (L' := [(7, .one (.pair tI (.pair tI (.pair tI (.pair tI (.pair tI (.slice tI)))))) v2), (1000, .one (.pair (.slice (.pair tI (.pair tI (.pair tI (.pair tI (.pair tI (.slice tI))))))) tI) (c0.1, w64 (c0.2 - (1 : Int))))]) (by kernel_rfl) (by kernel_rfl) (by kernel_rfl) (by kernel_rfl) (allP1 h50) allD0 (by kernel_rfl) ?_
            obtain ⟨r51, h52, h⟩ := bind_of h
            refine WO_lend [(1000, 1000)] (us := [none, none, none]) (d := 89) (p := True) (j := 7) rfl ⟨by kernel_rfl, by kernel_rfl, by kernel_rfl⟩ trivial (ih_funcs_asker_ask h52) (by kernel_rfl) (by kernel_rfl) ?_
            refine WO_run (j := 8) (k := 1) (orcs := []) (kF := [0, 2, 7, 12, 13]) (kL := [7, 1000]) (fr' := [(0, .one (.ptr 1000 0)), (2, aD (.slice tI) a2), (7, .one (.ptr 7 0)), (12, aI (w64 ((List.length a2 : Int) - (1 : Int)))), (13, aI r51.1)]) (L' := [(7, .one (.pair tI (.pair tI (.pair tI (.pair tI (.pair tI (.slice tI)))))) v2), (1000, .one (.pair (.slice (.pair tI (.pair tI (.pair tI (.pair tI (.pair tI (.slice tI))))))) tI) r51.2)]) (obs := []) rfl (by kernel_rfl) allP0 ?_
            refine WO_fin [0, 2, 7, 12, 13] [1000, 7] (fr' := [(0, .one (.ptr 1000 0)), (2, aD (.slice tI) a2), (7, .one (.ptr 7 0)), (12, aI (w64 ((List.length a2 : Int) - (1 : Int)))), (13, aI r51.1)]) (L' := [(1000, .one (.pair (.slice (.pair tI (.pair tI (.pair tI (.pair tI (.pair tI (.slice tI))))))) tI) r51.2), (7, .one (.pair tI (.pair tI (.pair tI (.pair tI (.pair tI (.slice tI)))))) v2)]) (by kernel_rfl) (by kernel_rfl) ?_
            refine ⟨rfl, ?_⟩
            refine seqQ_norm ?_
            refine W_seq (by kernel_rfl) ?_
            refine W_seq (by kernel_rfl) ?_
            refine W_run 1 [] [0, 2, 7, 12, 13, 14] [1000, 7] (fr' := [(0, .one (.ptr 1000 0)), (2, aD (.slice tI) a2), (7, .one (.ptr 7 0)), (12, aI (w64 ((List.length a2 : Int) - (1 : Int)))), (13, aI r51.1), (14, aI (0 : Int))]) (L' := [(1000, .one (.pair (.slice (.pair tI (.pair tI (.pair tI (.pair tI (.pair tI (.slice tI))))))) tI) r51.2), (7, .one (.pair tI (.pair tI (.pair tI (.pair tI (.pair tI (.slice tI)))))) v2)]) (obs := []) (by kernel_rfl) (by kernel_rfl) (by kernel_rfl) allP0 ?_
            refine seqQ_norm ?_
            refine W_block (id := 3) (by kernel_rfl) ?_
            obtain ⟨v79, h80, h⟩ := bind_of h
            refine W_weaken [0, 2, 7, 12, 13, 14] [1000, 7] (fr' := ((funcs_asker_ask_s6 a2 v2) (r51.1, (0 : Int), r51.2)).1) (L' := ((funcs_asker_ask_s6 a2 v2) (r51.1, (0 : Int), r51.2)).2) (by kernel_rfl) ?_
            refine W_cutK (W_loop (S := (funcs_asker_ask_s6 a2 v2)) (J := (exQ (.exit 3) funcs_asker_ask_s7)) (by kernel_rfl) ?_ fuel _ v79 h80) ?_
            · rintro x62 s h
              refine W_seq (by kernel_rfl) ?_
              refine W_seq (by kernel_rfl) ?_
              obtain ⟨v71, h72, h⟩ := bind_of h
              refine W_run 10 [(7, .val (.dat tI v71))] [0, 2, 7, 12, 13, 14, 99] [1000, 7] (fr' := [(0, .one (.ptr 1000 0)), (2, aD (.slice tI) a2), (7, .one (.ptr 7 0)), (12, aI (w64 ((List.length a2 : Int) - (1 : Int)))), (13, aI x62.1), (14, aI x62.2.1), (99, aB ((decide (x62.2.1 < v71)) && (decide (x62.1 ≥ (0 : Int)))))]) (L' := [(1000, .one (.pair (.slice (.pair tI (.pair tI (.pair tI (.pair tI (.pair tI (.slice tI))))))) tI) x62.2.2), (7, .one (.pair tI (.pair tI (.pair tI (.pair tI (.pair tI (.slice tI)))))) v2)]) (obs := [Idx a2 (w64 ((List.length a2 : Int) - (1 : Int))) v71]) (by kernel_rfl) (by kernel_rfl) (by kernel_rfl) (allP1 (Idx.of h72)) ?_
              refine seqQ_norm ?_
              refine W_cond (o := .tmp 99) (b := (decide (x62.2.1 < v71)) && (decide (x62.1 ≥ (0 : Int)))) (by kernel_rfl) (by kernel_rfl) (fun h73 => ?_) (fun h73 => ?_)
              · replace h := ofT h73 h
                refine W_skip [0, 2, 7, 12, 13, 14] [1000, 7] (fr' := [(0, .one (.ptr 1000 0)), (2, aD (.slice tI) a2), (7, .one (.ptr 7 0)), (12, aI (w64 ((List.length a2 : Int) - (1 : Int)))), (13, aI x62.1), (14, aI x62.2.1)]) (L' := [(1000, .one (.pair (.slice (.pair tI (.pair tI (.pair tI (.pair tI (.pair tI (.slice tI))))))) tI) x62.2.2), (7, .one (.pair tI (.pair tI (.pair tI (.pair tI (.pair tI (.slice tI)))))) v2)]) (by kernel_rfl) (by kernel_rfl) ?_
                refine seqQ_norm ?_
                refine W_seq (by kernel_rfl) ?_
                refine W_block (id := 4) (by kernel_rfl) ?_
                obtain ⟨r74, h75, h⟩ := bind_of h
                obtain ⟨_, h76, h⟩ := bind_of h
                replace h76 := ck_some h76
                refine W_drawC5 11 [(6, [108], [(108, .seq tI r74)]), (10, [108], [(108, .seq tI (r74 ++ [x62.2.1, x62.1]))])] [] [(6, .one (.slc 108)), (10, .one (.slc 108))] [] [] [0, 2, 7, 12, 13, 14, 102, 104, 112] [7, 108, 1000] (out := [(102, .one (.ptr 1000 0)), (103, .one (.ptr 7 4)), (104, aI v2.2.2.2.2.1), (105, aD (.slice tI) a2), (106, aI (w64 ((List.length a2 : Int) - (1 : Int)))), (107, aD (.slice tI) (sub a2 (0 : Int) (w64 ((List.length a2 : Int) - (1 : Int))))), (108, .one (.slc 108)), (109, aI x62.2.1), (110, aI x62.1), (111, aD (.slice tI) [x62.2.1, x62.1]), (112, .one (.slc 108))]) (obs := [Cuts (0 : Int) (w64 ((List.length a2 : Int) - (1 : Int))) (List.length a2), True]) (calls := []) (fr' := [(0, .one (.ptr 1000 0)), (2, aD (.slice tI) a2), (7, .one (.ptr 7 0)), (12, aI (w64 ((List.length a2 : Int) - (1 : Int)))), (13, aI x62.1), (14, aI x62.2.1), (102, .one (.ptr 1000 0)), (104, aI v2.2.2.2.2.1), (112, .one (.slc 108))]) (L' := [(7, .one (.pair tI (.pair tI (.pair tI (.pair tI (.pair tI (.slice tI)))))) v2), (108, .seq tI (r74 ++ [x62.2.1, x62.1])), (1000, .one (.pair (.slice (.pair tI (.pair tI (.pair tI (.pair tI (.pair tI (.slice tI))))))) tI) x62.2.2)]) (by kernel_rfl) (by kernel_rfl) (by kernel_rfl) (by kernel_rfl) (by kernel_rfl) (allP2 h50 (allP1 trivial)) allD0 (chCall (us := [none]) (d := 108) (t := 108) (p := True) ⟨by kernel_rfl, by kernel_rfl, by kernel_rfl⟩ trivial (slices_Clone_Lintint_ok h75) (by kernel_rfl) (by kernel_rfl) (chDo (ty := false) (d := 112) (nm := 108) (ob := .seq tI (r74 ++ [x62.2.1, x62.1])) (av := .one (.slc 108)) (p := SmallLen (List.length r74 + List.length [x62.2.1, x62.1])) (by kernel_rfl) h76 (by kernel_rfl) chNil)) mkNil (by kernel_rfl) ?_
                obtain ⟨r77, h78, h⟩ := bind_of h
                refine WO_frz 108 (by kernel_rfl) ?_
                refine WO_lend [(1000, 1000)] (us := [none, none, none]) (d := 113) (p := True) (j := 12) rfl ⟨by kernel_rfl, by kernel_rfl, by kernel_rfl⟩ trivial (ih_funcs_asker_ask h78) (by kernel_rfl) (by kernel_rfl) ?_
                refine WO_run (j := 13) (k := 1) (orcs := []) (kF := [0, 2, 7, 12, 13, 14]) (kL := [7, 1000]) (fr' := [(0, .one (.ptr 1000 0)), (2, aD (.slice tI) a2), (7, .one (.ptr 7 0)), (12, aI (w64 ((List.length a2 : Int) - (1 : Int)))), (13, aI r77.1), (14, aI x62.2.1)]) (L' := [(7, .one (.pair tI (.pair tI (.pair tI (.pair tI (.pair tI (.slice tI)))))) v2), (1000, .one (.pair (.slice (.pair tI (.pair tI (.pair tI (.pair tI (.pair tI (.slice tI))))))) tI) r77.2)]) (obs := []) rfl (by kernel_rfl) allP0 ?_
                refine WO_fin [0, 2, 7, 12, 13, 14] [1000, 7] (fr' := [(0, .one (.ptr 1000 0)), (2, aD (.slice tI) a2), (7, .one (.ptr 7 0)), (12, aI (w64 ((List.length a2 : Int) - (1 : Int)))), (13, aI r77.1), (14, aI x62.2.1)]) (L' := [(1000, .one (.pair (.slice (.pair tI (.pair tI (.pair tI (.pair tI (.pair tI (.slice tI))))))) tI) r77.2), (7, .one (.pair tI (.pair tI (.pair tI (.pair tI (.pair tI (.slice tI)))))) v2)]) (by kernel_rfl) (by kernel_rfl) ?_
                refine ⟨rfl, ?_⟩
                refine blockQ_norm ?_
                refine seqQ_norm ?_
                obtain rfl := Option.some.inj h
                refine W_run 3 [] [0, 2, 7, 12, 13, 14] [1000, 7] (fr' := [(0, .one (.ptr 1000 0)), (2, aD (.slice tI) a2), (7, .one (.ptr 7 0)), (12, aI (w64 ((List.length a2 : Int) - (1 : Int)))), (13, aI r77.1), (14, aI (w64 (x62.2.1 + (1 : Int))))]) (L' := [(1000, .one (.pair (.slice (.pair tI (.pair tI (.pair tI (.pair tI (.pair tI (.slice tI))))))) tI) r77.2), (7, .one (.pair tI (.pair tI (.pair tI (.pair tI (.pair tI (.slice tI)))))) v2)]) (obs := []) (by kernel_rfl) (by kernel_rfl) (by kernel_rfl) allP0 ?_
                exact round_next' (by kernel_rfl) (by kernel_rfl)
              · replace h := ofF h73 h
                obtain rfl := Option.some.inj h
                refine W_exit (id := 3) [13] [1000] (fr' := [(13, aI x62.1)]) (L' := [(1000, .one (.pair (.slice (.pair tI (.pair tI (.pair tI (.pair tI (.pair tI (.slice tI))))))) tI) x62.2.2)]) (by kernel_rfl) (by kernel_rfl) ?_
                refine seqQ_exit ?_
                refine round_exit ?_
                exact exQ_mk (by kernel_rfl) (by kernel_rfl)
            · intro e fr L hJ
              obtain ⟨rfl, rfl, rfl⟩ := hJ
              refine LT_keep [13] [1000] (fr' := [(13, aI v79.1)]) (L' := [(1000, .one (.pair (.slice (.pair tI (.pair tI (.pair tI (.pair tI (.pair tI (.slice tI))))))) tI) v79.2)]) (by kernel_rfl) ?_
              refine blockQ_hit ?_
              refine seqQ_norm ?_
              refine W_seq (by kernel_rfl) ?_
              refine W_run 2 [] [6] [1000] (fr' := [(6, aI v79.1)]) (L' := [(1000, .one (.pair (.slice (.pair tI (.pair tI (.pair tI (.pair tI (.pair tI (.slice tI))))))) tI) v79.2)]) (obs := []) (by kernel_rfl) (by kernel_rfl) (by kernel_rfl) allP0 ?_
              refine seqQ_norm ?_
              obtain rfl := Option.some.inj h
              refine W_ret [6] [1000] (fr' := [(6, aI v79.1)]) (L' := [(1000, .one (.pair (.slice (.pair tI (.pair tI (.pair tI (.pair tI (.pair tI (.slice tI))))))) tI) v79.2)]) (by kernel_rfl) (by kernel_rfl) ?_
              refine blockQ_ret ?_
              refine seqQ_ret ?_
              exact retQ_mk (by kernel_rfl) (by kernel_rfl) (by kernel_rfl)
          · replace h := ofF h47 h
            refine W_skip [] [1000] (fr' := []) (L' := [(1000, .one (.pair (.slice (.pair tI (.pair tI (.pair tI (.pair tI (.pair tI (.slice tI))))))) tI) (c0.1, w64 (c0.2 - (1 : Int))))]) (by kernel_rfl) (by kernel_rfl) ?_
            refine blockQ_norm ?_
            refine seqQ_norm ?_
            refine W_seq (by kernel_rfl) ?_
            refine W_run 1 [] [6] [1000] (fr' := [(6, aI (0 : Int))]) (L' := [(1000, .one (.pair (.slice (.pair tI (.pair tI (.pair tI (.pair tI (.pair tI (.slice tI))))))) tI) (c0.1, w64 (c0.2 - (1 : Int))))]) (obs := []) (by kernel_rfl) (by kernel_rfl) (by kernel_rfl) allP0 ?_
            refine seqQ_norm ?_
            obtain rfl := Option.some.inj h
            refine W_ret [6] [1000] (fr' := [(6, aI (0 : Int))]) (L' := [(1000, .one (.pair (.slice (.pair tI (.pair tI (.pair tI (.pair tI (.pair tI (.slice tI))))))) tI) (c0.1, w64 (c0.2 - (1 : Int))))]) (by kernel_rfl) (by kernel_rfl) ?_
            exact retQ_mk (by kernel_rfl) (by kernel_rfl) (by kernel_rfl)
theorem funcs_asker_ask_ok : ∀ {fuel : Nat} {a1 : Int} {a2 : (List Int)} {c0 : ((List (Int × (Int × (Int × (Int × (Int × (List Int))))))) × Int)} {r : (Int × ((List (Int × (Int × (Int × (Int × (Int × (List Int))))))) × Int))}, funcs_asker_ask fuel a1 a2 c0 = some r → FnC Try.prog 51 [.one (.ptr 1000 0), aI a1, aD (.slice tI) a2] [(1000, .one (.pair (.slice (.pair tI (.pair tI (.pair tI (.pair tI (.pair tI (.slice tI))))))) tI) c0)] (aI r.1) [(1000, .one (.pair (.slice (.pair tI (.pair tI (.pair tI (.pair tI (.pair tI (.slice tI))))))) tI) r.2)] := by
  intro fuel
  induction fuel with
  | zero => intros a1 a2 c0 r h; cases h
  | succ fuel ih => intros a1 a2 c0 r h; exact funcs_asker_ask_step_ok (fun h => ih h) (show funcs_asker_ask_step (funcs_asker_ask fuel) fuel a1 a2 c0 = some r from h)

def funcs_Value (fuel : Nat) (a0 : (List (Int × (Int × (Int × (Int × (Int × (List Int)))))))) (a1 : (List Int)) : Option (Int × Int) :=
(funcs_Check a0).bind fun r1 =>
bif r1 != (0 : Int) then
(some ((0 : Int), r1))
else
((idx a0 (w64 ((List.length a0 : Int) - (1 : Int)))).bind fun v4 =>
bif (List.length a1 : Int) != v4.2.1 then
(some ((0 : Int), (3 : Int)))
else
((slices_ContainsFunc_Lintint_with_funcs_Value_1 a1).bind fun r7 =>
bif r7 then
(some ((0 : Int), (4 : Int)))
else
((funcs_asker_ask fuel (w64 ((List.length a0 : Int) - (1 : Int))) a1 (a0, (20000 : Int))).bind fun r10 =>
bif decide (r10.1 < (0 : Int)) then
(some ((0 : Int), (7 : Int)))
else
(some (r10.1, (0 : Int))))))
theorem funcs_Value_ok {fuel : Nat} {a0 : (List (Int × (Int × (Int × (Int × (Int × (List Int)))))))} {a1 : (List Int)} {r : (Int × Int)} (h : funcs_Value fuel a0 a1 = some r) : FnC Try.prog 35 [aD (.slice (.pair tI (.pair tI (.pair tI (.pair tI (.pair tI (.slice tI))))))) a0, aD (.slice tI) a1] [] (.tup [.dat tI r.1, .dat tI r.2]) [] := by
  refine fnC_of_W (B := bodyOf Try.f35) (n := 38) Try.func35 (by kernel_rfl) (by kernel_rfl) (by kernel_rfl) (by kernel_rfl) (by kernel_rfl) ?_
  intro K
  refine W_seq (by kernel_rfl) ?_
  refine W_run 2 [] [0, 1] [] (fr' := [(0, aD (.slice (.pair tI (.pair tI (.pair tI (.pair tI (.pair tI (.slice tI))))))) a0), (1, aD (.slice tI) a1)]) (L' := []) (obs := []) (by kernel_rfl) (by kernel_rfl) (by kernel_rfl) allP0 ?_
  refine seqQ_norm ?_
  refine W_seq (by kernel_rfl) ?_
  refine W_seq (by kernel_rfl) ?_
  refine W_region (by kernel_rfl) ?_
  refine WO_run (j := 1) (k := 1) (orcs := []) (kF := [0, 1, 9]) (kL := []) (fr' := [(0, aD (.slice (.pair tI (.pair tI (.pair tI (.pair tI (.pair tI (.slice tI))))))) a0), (1, aD (.slice tI) a1), (9, aD (.slice (.pair tI (.pair tI (.pair tI (.pair tI (.pair tI (.slice tI))))))) a0)]) (L' := []) (obs := []) rfl (by kernel_rfl) allP0 ?_
  obtain ⟨r1, h2, h⟩ := bind_of h
  refine WO_call0 (us := [none]) (d := 10) (p := True) (j := 2) rfl ⟨by kernel_rfl, by kernel_rfl, by kernel_rfl⟩ trivial (funcs_Check_ok h2) (by kernel_rfl) ?_
  refine WO_run (j := 3) (k := 1) (orcs := []) (kF := [0, 1, 6]) (kL := []) (fr' := [(0, aD (.slice (.pair tI (.pair tI (.pair tI (.pair tI (.pair tI (.slice tI))))))) a0), (1, aD (.slice tI) a1), (6, aI r1)]) (L' := []) (obs := []) rfl (by kernel_rfl) allP0 ?_
  refine WO_fin [0, 1, 6] [] (fr' := [(0, aD (.slice (.pair tI (.pair tI (.pair tI (.pair tI (.pair tI (.slice tI))))))) a0), (1, aD (.slice tI) a1), (6, aI r1)]) (L' := []) (by kernel_rfl) (by kernel_rfl) ?_
  refine seqQ_norm ?_
  refine W_seq (by kernel_rfl) ?_
  refine W_run 2 [] [0, 1, 6, 12] [] (fr' := [(0, aD (.slice (.pair tI (.pair tI (.pair tI (.pair tI (.pair tI (.slice tI))))))) a0), (1, aD (.slice tI) a1), (6, aI r1), (12, aB (r1 != (0 : Int)))]) (L' := []) (obs := []) (by kernel_rfl) (by kernel_rfl) (by kernel_rfl) allP0 ?_
  refine seqQ_norm ?_
  refine W_cond (o := .tmp 12) (b := r1 != (0 : Int)) (by kernel_rfl) (by kernel_rfl) (fun h3 => ?_) (fun h3 => ?_)
  · replace h := ofT h3 h
    refine W_seq (by kernel_rfl) ?_
    refine W_run 3 [] [4, 5] [] (fr' := [(4, aI (0 : Int)), (5, aI r1)]) (L' := []) (obs := []) (by kernel_rfl) (by kernel_rfl) (by kernel_rfl) allP0 ?_
    refine seqQ_norm ?_
    obtain rfl := Option.some.inj h
    refine W_ret [4, 5] [] (fr' := [(4, aI (0 : Int)), (5, aI r1)]) (L' := []) (by kernel_rfl) (by kernel_rfl) ?_
    refine seqQ_ret ?_
    exact retQ_mk (by kernel_rfl) (by kernel_rfl) (by kernel_rfl)
  · replace h := ofF h3 h
    refine W_skip [0, 1] [] (fr' := [(0, aD (.slice (.pair tI (.pair tI (.pair tI (.pair tI (.pair tI (.slice tI))))))) a0), (1, aD (.slice tI) a1)]) (L' := []) (by kernel_rfl) (by kernel_rfl) ?_
    refine seqQ_norm ?_
    refine W_seq (by kernel_rfl) ?_
    refine W_seq (by kernel_rfl) ?_
    obtain ⟨v4, h5, h⟩ := bind_of h
    refine W_run 10 [(13, .val (.dat (.pair tI (.pair tI (.pair tI (.pair tI (.pair tI (.slice tI)))))) v4))] [0, 1, 23] [] (fr' := [(0, aD (.slice (.pair tI (.pair tI (.pair tI (.pair tI (.pair tI (.slice tI))))))) a0), (1, aD (.slice tI) a1), (23, aB ((List.length a1 : Int) != v4.2.1))]) (L' := []) (obs := [Idx a0 (w64 ((List.length a0 : Int) - (1 : Int))) v4]) (by kernel_rfl) (by kernel_rfl) (by kernel_rfl) (allP1 (Idx.of h5)) ?_
    refine seqQ_norm ?_
    refine W_cond (o := .tmp 23) (b := (List.length a1 : Int) != v4.2.1) (by kernel_rfl) (by kernel_rfl) (fun h6 => ?_) (fun h6 => ?_)
    · replace h := ofT h6 h
      refine W_seq (by kernel_rfl) ?_
      refine W_run 2 [] [4, 5] [] (fr' := [(4, aI (0 : Int)), (5, aI (3 : Int))]) (L' := []) (obs := []) (by kernel_rfl) (by kernel_rfl) (by kernel_rfl) allP0 ?_
      refine seqQ_norm ?_
      obtain rfl := Option.some.inj h
      refine W_ret [4, 5] [] (fr' := [(4, aI (0 : Int)), (5, aI (3 : Int))]) (L' := []) (by kernel_rfl) (by kernel_rfl) ?_
      refine seqQ_ret ?_
      exact retQ_mk (by kernel_rfl) (by kernel_rfl) (by kernel_rfl)
    · replace h := ofF h6 h
      refine W_skip [0, 1] [] (fr' := [(0, aD (.slice (.pair tI (.pair tI (.pair tI (.pair tI (.pair tI (.slice tI))))))) a0), (1, aD (.slice tI) a1)]) (L' := []) (by kernel_rfl) (by kernel_rfl) ?_
      refine seqQ_norm ?_
      refine W_seq (by kernel_rfl) ?_
      refine W_seq (by kernel_rfl) ?_
      refine W_region (by kernel_rfl) ?_
      refine WO_run (j := 1) (k := 1) (orcs := []) (kF := [0, 1, 24]) (kL := []) (fr' := [(0, aD (.slice (.pair tI (.pair tI (.pair tI (.pair tI (.pair tI (.slice tI))))))) a0), (1, aD (.slice tI) a1), (24, aD (.slice tI) a1)]) (L' := []) (obs := []) rfl (by kernel_rfl) allP0 ?_
      obtain ⟨r7, h8, h⟩ := bind_of h
      refine WO_call0 (us := [none, none]) (d := 25) (p := True) (j := 2) rfl ⟨by kernel_rfl, by kernel_rfl, by kernel_rfl⟩ trivial (slices_ContainsFunc_Lintint_with_funcs_Value_1_ok h8) (by kernel_rfl) ?_
      refine WO_fin [0, 1, 25] [] (fr' := [(0, aD (.slice (.pair tI (.pair tI (.pair tI (.pair tI (.pair tI (.slice tI))))))) a0), (1, aD (.slice tI) a1), (25, aB r7)]) (L' := []) (by kernel_rfl) (by kernel_rfl) ?_
      refine seqQ_norm ?_
      refine W_cond (o := .tmp 25) (b := r7) (by kernel_rfl) (by kernel_rfl) (fun h9 => ?_) (fun h9 => ?_)
      · replace h := ofT h9 h
        refine W_seq (by kernel_rfl) ?_
        refine W_run 2 [] [4, 5] [] (fr' := [(4, aI (0 : Int)), (5, aI (4 : Int))]) (L' := []) (obs := []) (by kernel_rfl) (by kernel_rfl) (by kernel_rfl) allP0 ?_
        refine seqQ_norm ?_
        obtain rfl := Option.some.inj h
        refine W_ret [4, 5] [] (fr' := [(4, aI (0 : Int)), (5, aI (4 : Int))]) (L' := []) (by kernel_rfl) (by kernel_rfl) ?_
        refine seqQ_ret ?_
        exact retQ_mk (by kernel_rfl) (by kernel_rfl) (by kernel_rfl)
      · replace h := ofF h9 h
        refine W_skip [0, 1] [] (fr' := [(0, aD (.slice (.pair tI (.pair tI (.pair tI (.pair tI (.pair tI (.slice tI))))))) a0), (1, aD (.slice tI) a1)]) (L' := []) (by kernel_rfl) (by kernel_rfl) ?_
        refine seqQ_norm ?_
        refine W_seq (by kernel_rfl) ?_
        refine W_run 4 [] [0, 1, 7] [28] (fr' := [(0, aD (.slice (.pair tI (.pair tI (.pair tI (.pair tI (.pair tI (.slice tI))))))) a0), (1, aD (.slice tI) a1), (7, .one (.ptr 28 0))]) (L' := [(28, .one (.pair (.slice (.pair tI (.pair tI (.pair tI (.pair tI (.pair tI (.slice tI))))))) tI) (a0, (20000 : Int)))]) (obs := []) (by kernel_rfl) (by kernel_rfl) (by kernel_rfl) allP0 ?_
        refine seqQ_norm ?_
        refine W_seq (by kernel_rfl) ?_
        refine W_region (by kernel_rfl) ?_
        refine WO_run (j := 5) (k := 5) (orcs := []) (kF := [29, 32, 33]) (kL := [28]) (fr' := [(29, .one (.ptr 28 0)), (32, aI (w64 ((List.length a0 : Int) - (1 : Int)))), (33, aD (.slice tI) a1)]) (L' := [(28, .one (.pair (.slice (.pair tI (.pair tI (.pair tI (.pair tI (.pair tI (.slice tI))))))) tI) (a0, (20000 : Int)))]) (obs := []) rfl (by kernel_rfl) allP0 ?_
        obtain ⟨r10, h11, h⟩ := bind_of h
        refine WO_lend [(1000, 28)] (us := [none, none, none]) (d := 34) (p := True) (j := 6) rfl ⟨by kernel_rfl, by kernel_rfl, by kernel_rfl⟩ trivial (funcs_asker_ask_ok h11) (by kernel_rfl) (by kernel_rfl) ?_
        refine WO_run (j := 7) (k := 1) (orcs := []) (kF := [8]) (kL := [28]) (fr' := [(8, aI r10.1)]) (L' := [(28, .one (.pair (.slice (.pair tI (.pair tI (.pair tI (.pair tI (.pair tI (.slice tI))))))) tI) r10.2)]) (obs := []) rfl (by kernel_rfl) allP0 ?_
        refine WO_fin [8] [] (fr' := [(8, aI r10.1)]) (L' := []) (by kernel_rfl) (by kernel_rfl) ?_
        refine seqQ_norm ?_
        refine W_seq (by kernel_rfl) ?_
        refine W_seq (by kernel_rfl) ?_
        refine W_run 2 [] [8, 36] [] (fr' := [(8, aI r10.1), (36, aB (decide (r10.1 < (0 : Int))))]) (L' := []) (obs := []) (by kernel_rfl) (by kernel_rfl) (by kernel_rfl) allP0 ?_
        refine seqQ_norm ?_
        refine W_cond (o := .tmp 36) (b := decide (r10.1 < (0 : Int))) (by kernel_rfl) (by kernel_rfl) (fun h12 => ?_) (fun h12 => ?_)
        · replace h := ofT h12 h
          refine W_seq (by kernel_rfl) ?_
          refine W_run 2 [] [4, 5] [] (fr' := [(4, aI (0 : Int)), (5, aI (7 : Int))]) (L' := []) (obs := []) (by kernel_rfl) (by kernel_rfl) (by kernel_rfl) allP0 ?_
          refine seqQ_norm ?_
          obtain rfl := Option.some.inj h
          refine W_ret [4, 5] [] (fr' := [(4, aI (0 : Int)), (5, aI (7 : Int))]) (L' := []) (by kernel_rfl) (by kernel_rfl) ?_
          refine seqQ_ret ?_
          exact retQ_mk (by kernel_rfl) (by kernel_rfl) (by kernel_rfl)
        · replace h := ofF h12 h
          refine W_skip [8] [] (fr' := [(8, aI r10.1)]) (L' := []) (by kernel_rfl) (by kernel_rfl) ?_
          refine seqQ_norm ?_
          refine W_seq (by kernel_rfl) ?_
          refine W_run 3 [] [4, 5] [] (fr' := [(4, aI r10.1), (5, aI (0 : Int))]) (L' := []) (obs := []) (by kernel_rfl) (by kernel_rfl) (by kernel_rfl) allP0 ?_
          refine seqQ_norm ?_
          obtain rfl := Option.some.inj h
          refine W_ret [4, 5] [] (fr' := [(4, aI r10.1), (5, aI (0 : Int))]) (L' := []) (by kernel_rfl) (by kernel_rfl) ?_
          exact retQ_mk (by kernel_rfl) (by kernel_rfl) (by kernel_rfl)

def ref_Within (a0 : Int) (a1 : Int) (a2 : Int) : Option Bool :=
some ((decide (a0 ≤ a1)) && (decide (a1 ≤ a2)))
theorem ref_Within_ok {a0 : Int} {a1 : Int} {a2 : Int} {r : Bool} (h : ref_Within a0 a1 a2 = some r) : FnC Try.prog 20 [aI a0, aI a1, aI a2] [] (aB r) [] := by
  refine fnC_of_W (B := bodyOf Try.f20) (n := 15) Try.func20 (by kernel_rfl) (by kernel_rfl) (by kernel_rfl) (by kernel_rfl) (by kernel_rfl) ?_
  intro K
  refine W_seq (by kernel_rfl) ?_
  refine W_run 1 [] [0, 1, 2] [] (fr' := [(0, aI a0), (1, aI a1), (2, aI a2)]) (L' := []) (obs := []) (by kernel_rfl) (by kernel_rfl) (by kernel_rfl) allP0 ?_
  refine seqQ_norm ?_
  refine W_seq (by kernel_rfl) ?_
  refine W_run 9 [] [6] [] (fr' := [(6, aB ((decide (a0 ≤ a1)) && (decide (a1 ≤ a2))))]) (L' := []) (obs := []) (by kernel_rfl) (by kernel_rfl) (by kernel_rfl) allP0 ?_
  refine seqQ_norm ?_
  obtain rfl := Option.some.inj h
  refine W_ret [6] [] (fr' := [(6, aB ((decide (a0 ≤ a1)) && (decide (a1 ≤ a2))))]) (L' := []) (by kernel_rfl) (by kernel_rfl) ?_
  exact retQ_mk (by kernel_rfl) (by kernel_rfl) (by kernel_rfl)

def ref_Inside_b1 (a0 : Int) (i11 : Int) (v14 : Int) (x12 : Unit) : Option (Flow Unit (Esc Bool Unit)) :=
bif (decide (v14 < (0 : Int))) || (decide (v14 ≥ a0)) then
(some (.done (.ret false)))
else
(some (.next ()))
@[reducible] def ref_Inside_s2 (a0 : Int) (a1 : (List Int)) (v : Int × Unit) : Fr × LL := ([(0, aI a0), (7, aD (.slice tI) a1), (8, aI (List.length a1 : Int)), (9, aI v.1)], [])
@[reducible] def ref_Inside_s3 (v : Bool) : Fr × LL := ([(4, aB v)], [])
@[reducible] def ref_Inside_s4 (v : Unit) : Fr × LL := ([], [])
def ref_Inside (a0 : Int) (a1 : (List Int)) : Option Bool :=
(forL (ref_Inside_b1 a0) (fun x12 => (.brk ())) a1 0 ()).bind fun v19 =>
match v19 with
| .ret v24 =>
(some v24)
| .brk v25 =>
(some true)
theorem ref_Inside_ok {a0 : Int} {a1 : (List Int)} {r : Bool} (h : ref_Inside a0 a1 = some r) : FnC Try.prog 25 [aI a0, aD (.slice tI) a1] [] (aB r) [] := by
  refine fnC_of_W (B := bodyOf Try.f25) (n := 21) Try.func25 (by kernel_rfl) (by kernel_rfl) (by kernel_rfl) (by kernel_rfl) (by kernel_rfl) ?_
  intro K
  refine W_seq (by kernel_rfl) ?_
  refine W_run 1 [] [0, 1] [] (fr' := [(0, aI a0), (1, aD (.slice tI) a1)]) (L' := []) (obs := []) (by kernel_rfl) (by kernel_rfl) (by kernel_rfl) allP0 ?_
  refine seqQ_norm ?_
  refine W_seq (by kernel_rfl) ?_
  refine W_seq (by kernel_rfl) ?_
  refine W_run 3 [] [0, 7, 8, 9] [] (fr' := [(0, aI a0), (7, aD (.slice tI) a1), (8, aI (List.length a1 : Int)), (9, aI (0 : Int))]) (L' := []) (obs := []) (by kernel_rfl) (by kernel_rfl) (by kernel_rfl) allP0 ?_
  refine seqQ_norm ?_
  refine W_block (id := 0) (by kernel_rfl) ?_
  obtain ⟨v19, h20, h⟩ := bind_of h
  refine W_len (t := 7) (u := tI) (xs := a1) (by kernel_rfl) (fun h23 => ?_)
  obtain ⟨h21, h22⟩ := forL_iter h23 h20
  refine W_weaken [0, 7, 8, 9] [] (fr' := ((ref_Inside_s2 a0 a1) ((0 : Int), ())).1) (L' := ((ref_Inside_s2 a0 a1) ((0 : Int), ())).2) (by kernel_rfl) ?_
  refine W_cutK (W_loop (S := (ref_Inside_s2 a0 a1)) (J := (escQ (exQ .ret ref_Inside_s3) (exQ (.exit 0) ref_Inside_s4))) (by kernel_rfl) ?_ h21 _ v19 h22) ?_
  · rintro ⟨i11, x12⟩ s h
    refine W_seq (by kernel_rfl) ?_
    refine W_run 1 [] [0, 7, 8, 9, 10] [] (fr' := [(0, aI a0), (7, aD (.slice tI) a1), (8, aI (List.length a1 : Int)), (9, aI i11), (10, aB (decide (i11 < (List.length a1 : Int))))]) (L' := []) (obs := []) (by kernel_rfl) (by kernel_rfl) (by kernel_rfl) allP0 ?_
    refine seqQ_norm ?_
    refine W_seq (by kernel_rfl) ?_
    refine W_cond (o := .tmp 10) (b := decide (i11 < (List.length a1 : Int))) (by kernel_rfl) (by kernel_rfl) (fun h16 => ?_) (fun h16 => ?_)
    · replace h := stepL_true h16 h
      obtain ⟨v14, _, h15, h, rfl⟩ := h
      refine W_skip [0, 7, 8, 9] [] (fr' := [(0, aI a0), (7, aD (.slice tI) a1), (8, aI (List.length a1 : Int)), (9, aI i11)]) (L' := []) (by kernel_rfl) (by kernel_rfl) ?_
      refine seqQ_norm ?_
      refine W_seq (by kernel_rfl) ?_
      refine W_block (id := 1) (by kernel_rfl) ?_
      refine W_seq (by kernel_rfl) ?_
      refine W_run 3 [(1, .val (.dat tI v14))] [0, 6, 7, 8, 9] [] (fr' := [(0, aI a0), (6, aI v14), (7, aD (.slice tI) a1), (8, aI (List.length a1 : Int)), (9, aI i11)]) (L' := []) (obs := [Idx a1 i11 v14]) (by kernel_rfl) (by kernel_rfl) (by kernel_rfl) (allP1 (Idx.of h15)) ?_
      refine seqQ_norm ?_
      refine W_seq (by kernel_rfl) ?_
      refine W_run 7 [] [0, 7, 8, 9, 19] [] (fr' := [(0, aI a0), (7, aD (.slice tI) a1), (8, aI (List.length a1 : Int)), (9, aI i11), (19, aB ((decide (v14 < (0 : Int))) || (decide (v14 ≥ a0))))]) (L' := []) (obs := []) (by kernel_rfl) (by kernel_rfl) (by kernel_rfl) allP0 ?_
      refine seqQ_norm ?_
      refine W_cond (o := .tmp 19) (b := (decide (v14 < (0 : Int))) || (decide (v14 ≥ a0))) (by kernel_rfl) (by kernel_rfl) (fun h17 => ?_) (fun h17 => ?_)
      · replace h := ofT h17 h
        refine W_seq (by kernel_rfl) ?_
        refine W_run 1 [] [4] [] (fr' := [(4, aB false)]) (L' := []) (obs := []) (by kernel_rfl) (by kernel_rfl) (by kernel_rfl) allP0 ?_
        refine seqQ_norm ?_
        obtain rfl := Option.some.inj h
        refine W_ret [4] [] (fr' := [(4, aB false)]) (L' := []) (by kernel_rfl) (by kernel_rfl) ?_
        refine blockQ_ret ?_
        refine seqQ_ret ?_
        refine round_ret ?_
        refine escQ_ret ?_
        exact exQ_mk (by kernel_rfl) (by kernel_rfl)
      · replace h := ofF h17 h
        refine W_skip [0, 7, 8, 9] [] (fr' := [(0, aI a0), (7, aD (.slice tI) a1), (8, aI (List.length a1 : Int)), (9, aI i11)]) (L' := []) (by kernel_rfl) (by kernel_rfl) ?_
        refine blockQ_norm ?_
        refine seqQ_norm ?_
        obtain rfl := Option.some.inj h
        refine W_run 2 [] [0, 7, 8, 9] [] (fr' := [(0, aI a0), (7, aD (.slice tI) a1), (8, aI (List.length a1 : Int)), (9, aI (w64 (i11 + (1 : Int))))]) (L' := []) (obs := []) (by kernel_rfl) (by kernel_rfl) (by kernel_rfl) allP0 ?_
        exact round_next' (by kernel_rfl) (by kernel_rfl)
    · obtain rfl := stepL_false h16 h
      refine W_exit (id := 0) [] [] (fr' := []) (L' := []) (by kernel_rfl) (by kernel_rfl) ?_
      refine seqQ_exit ?_
      refine round_exit ?_
      refine escQ_brk ?_
      exact exQ_mk (by kernel_rfl) (by kernel_rfl)
  · intro e fr L hJ
    rcases v19 with v24 | v25
    · obtain ⟨rfl, rfl, rfl⟩ := hJ
      obtain rfl := Option.some.inj h
      refine LT_keep [4] [] (fr' := [(4, aB v24)]) (L' := []) (by kernel_rfl) ?_
      refine blockQ_ret ?_
      refine seqQ_ret ?_
      exact retQ_mk (by kernel_rfl) (by kernel_rfl) (by kernel_rfl)
    · obtain ⟨rfl, rfl, rfl⟩ := hJ
      refine LT_keep [] [] (fr' := []) (L' := []) (by kernel_rfl) ?_
      refine blockQ_hit ?_
      refine seqQ_norm ?_
      refine W_seq (by kernel_rfl) ?_
      refine W_run 1 [] [4] [] (fr' := [(4, aB true)]) (L' := []) (obs := []) (by kernel_rfl) (by kernel_rfl) (by kernel_rfl) allP0 ?_
      refine seqQ_norm ?_
      obtain rfl := Option.some.inj h
      refine W_ret [4] [] (fr' := [(4, aB true)]) (L' := []) (by kernel_rfl) (by kernel_rfl) ?_
      exact retQ_mk (by kernel_rfl) (by kernel_rfl) (by kernel_rfl)
end Go.Proofs.Ytbjfglckfknheaa.funcsValues
