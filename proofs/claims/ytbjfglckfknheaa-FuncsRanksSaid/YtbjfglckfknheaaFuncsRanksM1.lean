/- What the functions that FuncsRanks calls compute, as models, and that they compute it: written by a program of mine. -/
import Derived.Test.YtbjfglckfknheaaProg
import Derived.Test.YtbjfglckfknheaaSl4
set_option linter.all false
set_option maxRecDepth 100000
namespace Go.Proofs.Ytbjfglckfknheaa.funcsRanks
open Go Go.Sl
def funcs_wrong_1 (a0 : Int) (a1 : Int) (c0 : Int) (c1 : (List (Int × (Int × (Int × (Int × (Int × (List Int)))))))) : Option Int :=
bif (decide (a0 < (0 : Int))) || (decide (a0 ≥ c0)) then
(some (2 : Int))
else
((idx c1 a0).bind fun v2 =>
bif v2.2.1 != a1 then
(some (3 : Int))
else
(some (0 : Int)))
theorem funcs_wrong_1_ok {a0 : Int} {a1 : Int} {c0 : Int} {c1 : (List (Int × (Int × (Int × (Int × (Int × (List Int)))))))} {r : Int} (h : funcs_wrong_1 a0 a1 c0 c1 = some r) : FnC Try.prog 57 [aI a0, aI a1, .one (.ptr 1000 0), .one (.ptr 1001 0)] [(1000, .cells [.dat tI c0]), (1001, .cells [.dat (.slice (.pair tI (.pair tI (.pair tI (.pair tI (.pair tI (.slice tI))))))) c1])] (aI r) [(1000, .cells [.dat tI c0]), (1001, .cells [.dat (.slice (.pair tI (.pair tI (.pair tI (.pair tI (.pair tI (.slice tI))))))) c1])] := by
  refine fnC_of_W (B := bodyOf Try.f57) (n := 21) Try.func57 (by kernel_rfl) (by kernel_rfl) (by kernel_rfl) (by kernel_rfl) (by kernel_rfl) ?_
  intro K
  refine W_seq (by kernel_rfl) ?_
  refine W_run 1 [] [0, 1, 2, 3] [1000, 1001] (fr' := [(0, aI a0), (1, aI a1), (2, .one (.ptr 1000 0)), (3, .one (.ptr 1001 0))]) (L' := [(1000, .cells [.dat tI c0]), (1001, .cells [.dat (.slice (.pair tI (.pair tI (.pair tI (.pair tI (.pair tI (.slice tI))))))) c1])]) (obs := []) (by kernel_rfl) (by kernel_rfl) (by kernel_rfl) allP0 ?_
  refine seqQ_norm ?_
  refine W_seq (by kernel_rfl) ?_
  refine W_seq (by kernel_rfl) ?_
  refine W_run 7 [] [0, 1, 3, 13] [1001, 1000] (fr' := [(0, aI a0), (1, aI a1), (3, .one (.ptr 1001 0)), (13, aB ((decide (a0 < (0 : Int))) || (decide (a0 ≥ c0))))]) (L' := [(1001, .cells [.dat (.slice (.pair tI (.pair tI (.pair tI (.pair tI (.pair tI (.slice tI))))))) c1]), (1000, .cells [.dat tI c0])]) (obs := []) (by kernel_rfl) (by kernel_rfl) (by kernel_rfl) allP0 ?_
  refine seqQ_norm ?_
  refine W_cond (o := .tmp 13) (b := (decide (a0 < (0 : Int))) || (decide (a0 ≥ c0))) (by kernel_rfl) (by kernel_rfl) (fun h1 => ?_) (fun h1 => ?_)
  · replace h := ofT h1 h
    refine W_seq (by kernel_rfl) ?_
    refine W_run 1 [] [6] [1000, 1001] (fr' := [(6, aI (2 : Int))]) (L' := [(1000, .cells [.dat tI c0]), (1001, .cells [.dat (.slice (.pair tI (.pair tI (.pair tI (.pair tI (.pair tI (.slice tI))))))) c1])]) (obs := []) (by kernel_rfl) (by kernel_rfl) (by kernel_rfl) allP0 ?_
    refine seqQ_norm ?_
    obtain rfl := Option.some.inj h
    refine W_ret [6] [1000, 1001] (fr' := [(6, aI (2 : Int))]) (L' := [(1000, .cells [.dat tI c0]), (1001, .cells [.dat (.slice (.pair tI (.pair tI (.pair tI (.pair tI (.pair tI (.slice tI))))))) c1])]) (by kernel_rfl) (by kernel_rfl) ?_
    refine seqQ_ret ?_
    exact retQ_mk (by kernel_rfl) (by kernel_rfl) (by kernel_rfl)
  · replace h := ofF h1 h
    refine W_skip [0, 1, 3] [1001, 1000] (fr' := [(0, aI a0), (1, aI a1), (3, .one (.ptr 1001 0))]) (L' := [(1001, .cells [.dat (.slice (.pair tI (.pair tI (.pair tI (.pair tI (.pair tI (.slice tI))))))) c1]), (1000, .cells [.dat tI c0])]) (by kernel_rfl) (by kernel_rfl) ?_
    refine seqQ_norm ?_
    refine W_seq (by kernel_rfl) ?_
    refine W_seq (by kernel_rfl) ?_
    obtain ⟨v2, h3, h⟩ := bind_of h
    refine W_run 7 [(5, .val (.dat (.pair tI (.pair tI (.pair tI (.pair tI (.pair tI (.slice tI)))))) v2))] [20] [1000, 1001] (fr' := [(20, aB (v2.2.1 != a1))]) (L' := [(1000, .cells [.dat tI c0]), (1001, .cells [.dat (.slice (.pair tI (.pair tI (.pair tI (.pair tI (.pair tI (.slice tI))))))) c1])]) (obs := [Idx c1 a0 v2]) (by kernel_rfl) (by kernel_rfl) (by kernel_rfl) (allP1 (Idx.of h3)) ?_
    refine seqQ_norm ?_
    refine W_cond (o := .tmp 20) (b := v2.2.1 != a1) (by kernel_rfl) (by kernel_rfl) (fun h4 => ?_) (fun h4 => ?_)
    · replace h := ofT h4 h
      refine W_seq (by kernel_rfl) ?_
      refine W_run 1 [] [6] [1000, 1001] (fr' := [(6, aI (3 : Int))]) (L' := [(1000, .cells [.dat tI c0]), (1001, .cells [.dat (.slice (.pair tI (.pair tI (.pair tI (.pair tI (.pair tI (.slice tI))))))) c1])]) (obs := []) (by kernel_rfl) (by kernel_rfl) (by kernel_rfl) allP0 ?_
      refine seqQ_norm ?_
      obtain rfl := Option.some.inj h
      refine W_ret [6] [1000, 1001] (fr' := [(6, aI (3 : Int))]) (L' := [(1000, .cells [.dat tI c0]), (1001, .cells [.dat (.slice (.pair tI (.pair tI (.pair tI (.pair tI (.pair tI (.slice tI))))))) c1])]) (by kernel_rfl) (by kernel_rfl) ?_
      refine seqQ_ret ?_
      exact retQ_mk (by kernel_rfl) (by kernel_rfl) (by kernel_rfl)
    · replace h := ofF h4 h
      refine W_skip [] [1000, 1001] (fr' := []) (L' := [(1000, .cells [.dat tI c0]), (1001, .cells [.dat (.slice (.pair tI (.pair tI (.pair tI (.pair tI (.pair tI (.slice tI))))))) c1])]) (by kernel_rfl) (by kernel_rfl) ?_
      refine seqQ_norm ?_
      refine W_seq (by kernel_rfl) ?_
      refine W_run 1 [] [6] [1000, 1001] (fr' := [(6, aI (0 : Int))]) (L' := [(1000, .cells [.dat tI c0]), (1001, .cells [.dat (.slice (.pair tI (.pair tI (.pair tI (.pair tI (.pair tI (.slice tI))))))) c1])]) (obs := []) (by kernel_rfl) (by kernel_rfl) (by kernel_rfl) allP0 ?_
      refine seqQ_norm ?_
      obtain rfl := Option.some.inj h
      refine W_ret [6] [1000, 1001] (fr' := [(6, aI (0 : Int))]) (L' := [(1000, .cells [.dat tI c0]), (1001, .cells [.dat (.slice (.pair tI (.pair tI (.pair tI (.pair tI (.pair tI (.slice tI))))))) c1])]) (by kernel_rfl) (by kernel_rfl) ?_
      exact retQ_mk (by kernel_rfl) (by kernel_rfl) (by kernel_rfl)

def slices_Index_LapiErrnoapiErrno_b1 (a1 : Int) (i11 : Int) (v14 : Int) (x12 : Unit) : Option (Flow Unit (Esc Int Unit)) :=
bif a1 == v14 then
(some (.done (.ret i11)))
else
(some (.next ()))
@[reducible] def slices_Index_LapiErrnoapiErrno_s2 (a1 : Int) (c0 : (List Int)) (v : Int × Unit) : Fr × LL := ([(0, .one (.slc 1000)), (1, aI a1), (7, aI (List.length c0 : Int)), (8, aI v.1)], [(1000, .seq tI c0)])
@[reducible] def slices_Index_LapiErrnoapiErrno_s3 (c0 : (List Int)) (v : Int) : Fr × LL := ([(4, aI v)], [(1000, .seq tI c0)])
@[reducible] def slices_Index_LapiErrnoapiErrno_s4 (c0 : (List Int)) (v : Unit) : Fr × LL := ([], [(1000, .seq tI c0)])
def slices_Index_LapiErrnoapiErrno (a1 : Int) (c0 : (List Int)) : Option Int :=
(forL (slices_Index_LapiErrnoapiErrno_b1 a1) (fun x12 => (.brk ())) c0 0 ()).bind fun v19 =>
match v19 with
| .ret v24 =>
(some v24)
| .brk v25 =>
(some (-1 : Int))
theorem slices_Index_LapiErrnoapiErrno_ok {a1 : Int} {c0 : (List Int)} {r : Int} (h : slices_Index_LapiErrnoapiErrno a1 c0 = some r) : FnC Try.prog 59 [.one (.slc 1000), aI a1] [(1000, .seq tI c0)] (aI r) [(1000, .seq tI c0)] := by
  refine fnC_of_W (B := bodyOf Try.f59) (n := 19) Try.func59 (by kernel_rfl) (by kernel_rfl) (by kernel_rfl) (by kernel_rfl) (by kernel_rfl) ?_
  intro K
  refine W_seq (by kernel_rfl) ?_
  refine W_run 1 [] [0, 1] [1000] (fr' := [(0, .one (.slc 1000)), (1, aI a1)]) (L' := [(1000, .seq tI c0)]) (obs := []) (by kernel_rfl) (by kernel_rfl) (by kernel_rfl) allP0 ?_
  refine seqQ_norm ?_
  refine W_seq (by kernel_rfl) ?_
  refine W_seq (by kernel_rfl) ?_
  refine W_run 3 [] [0, 1, 7, 8] [1000] (fr' := [(0, .one (.slc 1000)), (1, aI a1), (7, aI (List.length c0 : Int)), (8, aI (0 : Int))]) (L' := [(1000, .seq tI c0)]) (obs := []) (by kernel_rfl) (by kernel_rfl) (by kernel_rfl) allP0 ?_
  refine seqQ_norm ?_
  refine W_block (id := 0) (by kernel_rfl) ?_
  obtain ⟨v19, h20, h⟩ := bind_of h
  refine W_lenS (s := 1000) (u := tI) (xs := c0) (by kernel_rfl) (fun h23 => ?_)
  obtain ⟨h21, h22⟩ := forL_iter h23 h20
  refine W_weaken [0, 1, 7, 8] [1000] (fr' := ((slices_Index_LapiErrnoapiErrno_s2 a1 c0) ((0 : Int), ())).1) (L' := ((slices_Index_LapiErrnoapiErrno_s2 a1 c0) ((0 : Int), ())).2) (by kernel_rfl) ?_
  refine W_cutK (W_loop (S := (slices_Index_LapiErrnoapiErrno_s2 a1 c0)) (J := (escQ (exQ .ret (slices_Index_LapiErrnoapiErrno_s3 c0)) (exQ (.exit 0) (slices_Index_LapiErrnoapiErrno_s4 c0)))) (by kernel_rfl) ?_ h21 _ v19 h22) ?_
  · rintro ⟨i11, x12⟩ s h
    refine W_seq (by kernel_rfl) ?_
    refine W_run 1 [] [0, 1, 7, 8, 9] [1000] (fr' := [(0, .one (.slc 1000)), (1, aI a1), (7, aI (List.length c0 : Int)), (8, aI i11), (9, aB (decide (i11 < (List.length c0 : Int))))]) (L' := [(1000, .seq tI c0)]) (obs := []) (by kernel_rfl) (by kernel_rfl) (by kernel_rfl) allP0 ?_
    refine seqQ_norm ?_
    refine W_seq (by kernel_rfl) ?_
    refine W_cond (o := .tmp 9) (b := decide (i11 < (List.length c0 : Int))) (by kernel_rfl) (by kernel_rfl) (fun h16 => ?_) (fun h16 => ?_)
    · replace h := stepL_true h16 h
      obtain ⟨v14, _, h15, h, rfl⟩ := h
      refine W_skip [0, 1, 7, 8] [1000] (fr' := [(0, .one (.slc 1000)), (1, aI a1), (7, aI (List.length c0 : Int)), (8, aI i11)]) (L' := [(1000, .seq tI c0)]) (by kernel_rfl) (by kernel_rfl) ?_
      refine seqQ_norm ?_
      refine W_seq (by kernel_rfl) ?_
      refine W_block (id := 1) (by kernel_rfl) ?_
      refine W_seq (by kernel_rfl) ?_
      refine W_run 2 [] [0, 1, 5, 7, 8] [1000] (fr' := [(0, .one (.slc 1000)), (1, aI a1), (5, aI i11), (7, aI (List.length c0 : Int)), (8, aI i11)]) (L' := [(1000, .seq tI c0)]) (obs := []) (by kernel_rfl) (by kernel_rfl) (by kernel_rfl) allP0 ?_
      refine seqQ_norm ?_
      refine W_seq (by kernel_rfl) ?_
      refine W_run 6 [(9, .val (.dat tI v14))] [0, 1, 5, 7, 8, 16] [1000] (fr' := [(0, .one (.slc 1000)), (1, aI a1), (5, aI i11), (7, aI (List.length c0 : Int)), (8, aI i11), (16, aB (a1 == v14))]) (L' := [(1000, .seq tI c0)]) (obs := [InR i11 (List.length c0), Idx c0 i11 v14]) (by kernel_rfl) (by kernel_rfl) (by kernel_rfl) (allP2 (InR.of h15) (allP1 (Idx.of h15))) ?_
      refine seqQ_norm ?_
      refine W_cond (o := .tmp 16) (b := a1 == v14) (by kernel_rfl) (by kernel_rfl) (fun h17 => ?_) (fun h17 => ?_)
      · replace h := ofT h17 h
        refine W_seq (by kernel_rfl) ?_
        refine W_run 2 [] [4] [1000] (fr' := [(4, aI i11)]) (L' := [(1000, .seq tI c0)]) (obs := []) (by kernel_rfl) (by kernel_rfl) (by kernel_rfl) allP0 ?_
        refine seqQ_norm ?_
        obtain rfl := Option.some.inj h
        refine W_ret [4] [1000] (fr' := [(4, aI i11)]) (L' := [(1000, .seq tI c0)]) (by kernel_rfl) (by kernel_rfl) ?_
        refine blockQ_ret ?_
        refine seqQ_ret ?_
        refine round_ret ?_
        refine escQ_ret ?_
        exact exQ_mk (by kernel_rfl) (by kernel_rfl)
      · replace h := ofF h17 h
        refine W_skip [0, 1, 7, 8] [1000] (fr' := [(0, .one (.slc 1000)), (1, aI a1), (7, aI (List.length c0 : Int)), (8, aI i11)]) (L' := [(1000, .seq tI c0)]) (by kernel_rfl) (by kernel_rfl) ?_
        refine blockQ_norm ?_
        refine seqQ_norm ?_
        obtain rfl := Option.some.inj h
        refine W_run 2 [] [0, 1, 7, 8] [1000] (fr' := [(0, .one (.slc 1000)), (1, aI a1), (7, aI (List.length c0 : Int)), (8, aI (w64 (i11 + (1 : Int))))]) (L' := [(1000, .seq tI c0)]) (obs := []) (by kernel_rfl) (by kernel_rfl) (by kernel_rfl) allP0 ?_
        exact round_next' (by kernel_rfl) (by kernel_rfl)
    · obtain rfl := stepL_false h16 h
      refine W_exit (id := 0) [] [1000] (fr' := []) (L' := [(1000, .seq tI c0)]) (by kernel_rfl) (by kernel_rfl) ?_
      refine seqQ_exit ?_
      refine round_exit ?_
      refine escQ_brk ?_
      exact exQ_mk (by kernel_rfl) (by kernel_rfl)
  · intro e fr L hJ
    rcases v19 with v24 | v25
    · obtain ⟨rfl, rfl, rfl⟩ := hJ
      obtain rfl := Option.some.inj h
      refine LT_keep [4] [1000] (fr' := [(4, aI v24)]) (L' := [(1000, .seq tI c0)]) (by kernel_rfl) ?_
      refine blockQ_ret ?_
      refine seqQ_ret ?_
      exact retQ_mk (by kernel_rfl) (by kernel_rfl) (by kernel_rfl)
    · obtain ⟨rfl, rfl, rfl⟩ := hJ
      refine LT_keep [] [1000] (fr' := []) (L' := [(1000, .seq tI c0)]) (by kernel_rfl) ?_
      refine blockQ_hit ?_
      refine seqQ_norm ?_
      refine W_seq (by kernel_rfl) ?_
      refine W_run 1 [] [4] [1000] (fr' := [(4, aI (-1 : Int))]) (L' := [(1000, .seq tI c0)]) (obs := []) (by kernel_rfl) (by kernel_rfl) (by kernel_rfl) allP0 ?_
      refine seqQ_norm ?_
      obtain rfl := Option.some.inj h
      refine W_ret [4] [1000] (fr' := [(4, aI (-1 : Int))]) (L' := [(1000, .seq tI c0)]) (by kernel_rfl) (by kernel_rfl) ?_
      exact retQ_mk (by kernel_rfl) (by kernel_rfl) (by kernel_rfl)

def slices_Contains_LapiErrnoapiErrno (a1 : Int) (c0 : (List Int)) : Option Bool :=
(slices_Index_LapiErrnoapiErrno a1 c0).bind fun r1 =>
some (decide (r1 ≥ (0 : Int)))
theorem slices_Contains_LapiErrnoapiErrno_ok {a1 : Int} {c0 : (List Int)} {r : Bool} (h : slices_Contains_LapiErrnoapiErrno a1 c0 = some r) : FnC Try.prog 58 [.one (.slc 1000), aI a1] [(1000, .seq tI c0)] (aB r) [(1000, .seq tI c0)] := by
  refine fnC_of_W (B := bodyOf Try.f58) (n := 9) Try.func58 (by kernel_rfl) (by kernel_rfl) (by kernel_rfl) (by kernel_rfl) (by kernel_rfl) ?_
  intro K
  refine W_seq (by kernel_rfl) ?_
  refine W_run 1 [] [0, 1] [1000] (fr' := [(0, .one (.slc 1000)), (1, aI a1)]) (L' := [(1000, .seq tI c0)]) (obs := []) (by kernel_rfl) (by kernel_rfl) (by kernel_rfl) allP0 ?_
  refine seqQ_norm ?_
  refine W_seq (by kernel_rfl) ?_
  refine W_region (by kernel_rfl) ?_
  refine WO_run (j := 2) (k := 2) (orcs := []) (kF := [5, 6]) (kL := [1000]) (fr' := [(5, .one (.slc 1000)), (6, aI a1)]) (L' := [(1000, .seq tI c0)]) (obs := []) rfl (by kernel_rfl) allP0 ?_
  obtain ⟨r1, h2, h⟩ := bind_of h
  refine WO_lend [(1000, 1000)] (us := [none, none]) (d := 7) (p := True) (j := 3) rfl ⟨by kernel_rfl, by kernel_rfl, by kernel_rfl⟩ trivial (slices_Index_LapiErrnoapiErrno_ok h2) (by kernel_rfl) (by kernel_rfl) ?_
  refine WO_run (j := 5) (k := 2) (orcs := []) (kF := [4]) (kL := [1000]) (fr' := [(4, aB (decide (r1 ≥ (0 : Int))))]) (L' := [(1000, .seq tI c0)]) (obs := []) rfl (by kernel_rfl) allP0 ?_
  refine WO_fin [4] [1000] (fr' := [(4, aB (decide (r1 ≥ (0 : Int))))]) (L' := [(1000, .seq tI c0)]) (by kernel_rfl) (by kernel_rfl) ?_
  refine seqQ_norm ?_
  obtain rfl := Option.some.inj h
  refine W_ret [4] [1000] (fr' := [(4, aB (decide (r1 ≥ (0 : Int))))]) (L' := [(1000, .seq tI c0)]) (by kernel_rfl) (by kernel_rfl) ?_
  exact retQ_mk (by kernel_rfl) (by kernel_rfl) (by kernel_rfl)

@[reducible] def funcs_wrong_s3 (a0 : (List (Int × (Int × (Int × (Int × (Int × (List Int)))))))) (a1 : Int) (v1 : (Int × (Int × (Int × (Int × (Int × (List Int))))))) (v : Bool) : Fr × LL := ([(2, .one (.ptr 2 0)), (3, .one (.ptr 3 0)), (5, .one (.ptr 5 0)), (6, aI (0 : Int)), (24, aB v)], [(2, .cells [.dat (.slice (.pair tI (.pair tI (.pair tI (.pair tI (.pair tI (.slice tI))))))) a0]), (3, .cells [.dat tI a1]), (5, .one (.pair tI (.pair tI (.pair tI (.pair tI (.pair tI (.slice tI)))))) v1)])
def funcs_wrong_g4 (v1 : (Int × (Int × (Int × (Int × (Int × (List Int))))))) (v21 : Int) : Option Bool :=
bif decide (v1.2.1 < v21) then
(some true)
else
(bif decide (v1.2.1 > (4 : Int)) then
(some true)
else
(bif v1.1 == (2 : Int) then
(bif decide (v1.2.1 > (1 : Int)) then
(some true)
else
(bif v1.1 == (4 : Int) then
(some (decide ((List.length v1.2.2.2.2.2 : Int) > (4 : Int))))
else
(some false)))
else
(bif v1.1 == (4 : Int) then
(some (decide ((List.length v1.2.2.2.2.2 : Int) > (4 : Int))))
else
(some false))))
def funcs_wrong_b11 (a0 : (List (Int × (Int × (Int × (Int × (Int × (List Int)))))))) (a1 : Int) (v1 : (Int × (Int × (Int × (Int × (Int × (List Int))))))) (i137 : Int) (v140 : Int) (x138 : (List Int)) : Option (Flow (List Int) (List Int)) :=
(funcs_wrong_1 v140 v1.2.1 a1 a0).bind fun r143 =>
(ck ((List.length x138 : Int) + 1 ≤ 4294967296)).bind fun _ =>
some (.next (x138 ++ [r143]))
@[reducible] def funcs_wrong_s12 (a0 : (List (Int × (Int × (Int × (Int × (Int × (List Int)))))))) (a1 : Int) (v1 : (Int × (Int × (Int × (Int × (Int × (List Int))))))) (v : Int × (List Int)) : Fr × LL := ([(5, .one (.ptr 5 0)), (7, .one (.fn 57 [(3, 0), (2, 0)])), (8, .one (.slc 94)), (96, aD (.slice tI) v1.2.2.2.2.2), (97, aI (List.length v1.2.2.2.2.2 : Int)), (98, aI v.1)], [(5, .one (.pair tI (.pair tI (.pair tI (.pair tI (.pair tI (.slice tI)))))) v1), (2, .cells [.dat (.slice (.pair tI (.pair tI (.pair tI (.pair tI (.pair tI (.slice tI))))))) a0]), (3, .cells [.dat tI a1]), (94, .seq tI v.2)])
@[reducible] def funcs_wrong_s13 (a0 : (List (Int × (Int × (Int × (Int × (Int × (List Int)))))))) (a1 : Int) (v1 : (Int × (Int × (Int × (Int × (Int × (List Int))))))) (v : (List Int)) : Fr × LL := ([(5, .one (.ptr 5 0)), (7, .one (.fn 57 [(3, 0), (2, 0)])), (8, .one (.slc 94))], [(5, .one (.pair tI (.pair tI (.pair tI (.pair tI (.pair tI (.slice tI)))))) v1), (2, .cells [.dat (.slice (.pair tI (.pair tI (.pair tI (.pair tI (.pair tI (.slice tI))))))) a0]), (3, .cells [.dat tI a1]), (94, .seq tI v)])
def funcs_wrong_g14 (a0 : (List (Int × (Int × (Int × (Int × (Int × (List Int)))))))) (a1 : Int) (v1 : (Int × (Int × (Int × (Int × (Int × (List Int))))))) : Option (List Int) :=
bif v1.1 == (4 : Int) then
((funcs_wrong_1 v1.2.2.2.1 (List.length v1.2.2.2.2.2 : Int) a1 a0).bind fun r122 =>
(forL (funcs_wrong_b11 a0 a1 v1) (fun x138 => x138) v1.2.2.2.2.2 0 [r122]).bind fun v147 =>
some v147)
else
(some [])
def funcs_wrong_g15 (a0 : (List (Int × (Int × (Int × (Int × (Int × (List Int)))))))) (a1 : Int) (v1 : (Int × (Int × (Int × (Int × (Int × (List Int))))))) (v152 : (List Int)) : Option (List Int) :=
bif v1.1 == (5 : Int) then
((funcs_wrong_1 v1.2.2.2.1 (w64 (v1.2.1 - (1 : Int))) a1 a0).bind fun r167 =>
(funcs_wrong_1 v1.2.2.2.2.1 (w64 (v1.2.1 + (1 : Int))) a1 a0).bind fun r169 =>
(ck ((List.length v152 : Int) + 2 ≤ 4294967296)).bind fun _ =>
some (v152 ++ [r167, r169]))
else
(some v152)
def funcs_wrong_b16 (v172 : (List Int)) (i186 : Int) (x187 : Unit) : Option (Flow Unit (Esc Int Unit)) :=
(idx [(2 : Int), (3 : Int)] i186).bind fun v190 =>
(slices_Contains_LapiErrnoapiErrno v190 v172).bind fun r192 =>
bif r192 then
(some (.done (.ret v190)))
else
(some (.next ()))
@[reducible] def funcs_wrong_s17 (v172 : (List Int)) (v : Int × Unit) : Fr × LL := ([(8, .one (.slc 94)), (131, .one (.slc 131)), (132, aI (2 : Int)), (133, aI v.1)], [(94, .seq tI v172), (131, .seq tI [(2 : Int), (3 : Int)])])
@[reducible] def funcs_wrong_s18 (v : Int) : Fr × LL := ([(4, aI v)], [])
@[reducible] def funcs_wrong_s19 (v : Unit) : Fr × LL := ([], [])
@[reducible] def funcs_wrong_s20 (v : (List Int)) : Fr × LL := ([(8, .one (.slc 94))], [(94, .seq tI v)])
@[reducible] def funcs_wrong_s21 (a0 : (List (Int × (Int × (Int × (Int × (Int × (List Int)))))))) (a1 : Int) (v1 : (Int × (Int × (Int × (Int × (Int × (List Int))))))) (v : (List Int)) : Fr × LL := ([(5, .one (.ptr 5 0)), (7, .one (.fn 57 [(3, 0), (2, 0)])), (8, .one (.slc 94))], [(5, .one (.pair tI (.pair tI (.pair tI (.pair tI (.pair tI (.slice tI)))))) v1), (2, .cells [.dat (.slice (.pair tI (.pair tI (.pair tI (.pair tI (.pair tI (.slice tI))))))) a0]), (3, .cells [.dat tI a1]), (94, .seq tI v)])
@[reducible] def funcs_wrong_s22 (a0 : (List (Int × (Int × (Int × (Int × (Int × (List Int)))))))) (a1 : Int) (v1 : (Int × (Int × (Int × (Int × (Int × (List Int))))))) (v : Bool) : Fr × LL := ([(5, .one (.ptr 5 0)), (7, .one (.fn 57 [(3, 0), (2, 0)])), (66, aB v)], [(5, .one (.pair tI (.pair tI (.pair tI (.pair tI (.pair tI (.slice tI)))))) v1), (2, .cells [.dat (.slice (.pair tI (.pair tI (.pair tI (.pair tI (.pair tI (.slice tI))))))) a0]), (3, .cells [.dat tI a1])])
@[reducible] def funcs_wrong_s23 (a0 : (List (Int × (Int × (Int × (Int × (Int × (List Int)))))))) (a1 : Int) (v1 : (Int × (Int × (Int × (Int × (Int × (List Int))))))) (v : Bool) : Fr × LL := ([(5, .one (.ptr 5 0)), (7, .one (.fn 57 [(3, 0), (2, 0)])), (35, aB v)], [(5, .one (.pair tI (.pair tI (.pair tI (.pair tI (.pair tI (.slice tI)))))) v1), (2, .cells [.dat (.slice (.pair tI (.pair tI (.pair tI (.pair tI (.pair tI (.slice tI))))))) a0]), (3, .cells [.dat tI a1])])
@[reducible] def funcs_wrong_s24 (a0 : (List (Int × (Int × (Int × (Int × (Int × (List Int)))))))) (a1 : Int) (v1 : (Int × (Int × (Int × (Int × (Int × (List Int))))))) (v21 : Int) (v : Bool) : Fr × LL := ([(5, .one (.ptr 5 0)), (6, aI v21), (7, .one (.fn 57 [(3, 0), (2, 0)])), (26, aB v)], [(5, .one (.pair tI (.pair tI (.pair tI (.pair tI (.pair tI (.slice tI)))))) v1), (2, .cells [.dat (.slice (.pair tI (.pair tI (.pair tI (.pair tI (.pair tI (.slice tI))))))) a0]), (3, .cells [.dat tI a1])])
@[reducible] def funcs_wrong_s25 (a0 : (List (Int × (Int × (Int × (Int × (Int × (List Int)))))))) (a1 : Int) (v1 : (Int × (Int × (Int × (Int × (Int × (List Int))))))) (v : Int) : Fr × LL := ([(2, .one (.ptr 2 0)), (3, .one (.ptr 3 0)), (5, .one (.ptr 5 0)), (6, aI v)], [(2, .cells [.dat (.slice (.pair tI (.pair tI (.pair tI (.pair tI (.pair tI (.slice tI))))))) a0]), (3, .cells [.dat tI a1]), (5, .one (.pair tI (.pair tI (.pair tI (.pair tI (.pair tI (.slice tI)))))) v1)])
def funcs_wrong (a0 : (List (Int × (Int × (Int × (Int × (Int × (List Int)))))))) (a1 : Int) : Option Int :=
(idx a0 a1).bind fun v1 =>
((bif v1.1 == (2 : Int) then
(some true)
else
(some (v1.1 == (5 : Int)))).bind fun v18 =>
bif v18 then
(some (1 : Int))
else
(some (0 : Int))).bind fun v21 =>
(bif decide (v1.1 < (1 : Int)) then
(some true)
else
(some (decide (v1.1 > (5 : Int))))).bind fun v26 =>
bif v26 then
(some (6 : Int))
else
((funcs_wrong_g4 v1 v21).bind fun v47 =>
bif v47 then
(some (1 : Int))
else
((bif v1.1 == (3 : Int) then
(bif decide (v1.2.2.1 < (0 : Int)) then
(some true)
else
(some (decide (v1.2.2.1 ≥ v1.2.1))))
else
(some false)).bind fun v56 =>
bif v56 then
(some (4 : Int))
else
((funcs_wrong_g14 a0 a1 v1).bind fun v152 =>
(funcs_wrong_g15 a0 a1 v1 v152).bind fun v172 =>
(forI (0 : Int) (2 : Int) (funcs_wrong_b16 v172) (fun x187 => (.brk ())) ()).bind fun v196 =>
match v196 with
| .ret v200 =>
(some v200)
| .brk v201 =>
(some (0 : Int)))))
theorem funcs_wrong_ok {a0 : (List (Int × (Int × (Int × (Int × (Int × (List Int)))))))} {a1 : Int} {r : Int} (h : funcs_wrong a0 a1 = some r) : FnC Try.prog 49 [aD (.slice (.pair tI (.pair tI (.pair tI (.pair tI (.pair tI (.slice tI))))))) a0, aI a1] [] (aI r) [] := by
  refine fnC_of_W (B := bodyOf Try.f49) (n := 142) Try.func49 (by kernel_rfl) (by kernel_rfl) (by kernel_rfl) (by kernel_rfl) (by kernel_rfl) ?_
  intro K
  refine W_seq (by kernel_rfl) ?_
  refine W_run 3 [] [2, 3] [2, 3] (fr' := [(2, .one (.ptr 2 0)), (3, .one (.ptr 3 0))]) (L' := [(2, .cells [.dat (.slice (.pair tI (.pair tI (.pair tI (.pair tI (.pair tI (.slice tI))))))) a0]), (3, .cells [.dat tI a1])]) (obs := []) (by kernel_rfl) (by kernel_rfl) (by kernel_rfl) allP0 ?_
  refine seqQ_norm ?_
  refine W_seq (by kernel_rfl) ?_
  obtain ⟨v1, h2, h⟩ := bind_of h
  refine W_run 6 [(5, .val (.dat (.pair tI (.pair tI (.pair tI (.pair tI (.pair tI (.slice tI)))))) v1)), (9, .typed)] [2, 3, 5] [2, 3, 5] (fr' := [(2, .one (.ptr 2 0)), (3, .one (.ptr 3 0)), (5, .one (.ptr 5 0))]) (L' := [(2, .cells [.dat (.slice (.pair tI (.pair tI (.pair tI (.pair tI (.pair tI (.slice tI))))))) a0]), (3, .cells [.dat tI a1]), (5, .one (.pair tI (.pair tI (.pair tI (.pair tI (.pair tI (.slice tI)))))) v1)]) (obs := [Idx a0 a1 v1, True]) (by kernel_rfl) (by kernel_rfl) (by kernel_rfl) (allP2 (Idx.of h2) (allP1 trivial)) ?_
  refine seqQ_norm ?_
  refine W_seq (by kernel_rfl) ?_
  refine W_run 1 [] [2, 3, 5, 6] [2, 3, 5] (fr' := [(2, .one (.ptr 2 0)), (3, .one (.ptr 3 0)), (5, .one (.ptr 5 0)), (6, aI (0 : Int))]) (L' := [(2, .cells [.dat (.slice (.pair tI (.pair tI (.pair tI (.pair tI (.pair tI (.slice tI))))))) a0]), (3, .cells [.dat tI a1]), (5, .one (.pair tI (.pair tI (.pair tI (.pair tI (.pair tI (.slice tI)))))) v1)]) (obs := []) (by kernel_rfl) (by kernel_rfl) (by kernel_rfl) allP0 ?_
  refine seqQ_norm ?_
  refine W_seq (by kernel_rfl) ?_
  obtain ⟨v21, h22, h⟩ := bind_of h
  refine W_cutK (Q' := (exQ .normal (funcs_wrong_s25 a0 a1 v1)) v21) ?_ ?_
  · replace h := h22
    refine W_seq (by kernel_rfl) ?_
    obtain ⟨v18, h19, h⟩ := bind_of h
    refine W_cutK (Q' := (exQ .normal (funcs_wrong_s3 a0 a1 v1)) v18) ?_ ?_
    · replace h := h19
      refine W_region (by kernel_rfl) ?_
      refine WO_run (j := 4) (k := 4) (orcs := []) (kF := [2, 3, 5, 6, 20]) (kL := [2, 3, 5]) (fr' := [(2, .one (.ptr 2 0)), (3, .one (.ptr 3 0)), (5, .one (.ptr 5 0)), (6, aI (0 : Int)), (20, aB (v1.1 == (2 : Int)))]) (L' := [(2, .cells [.dat (.slice (.pair tI (.pair tI (.pair tI (.pair tI (.pair tI (.slice tI))))))) a0]), (3, .cells [.dat tI a1]), (5, .one (.pair tI (.pair tI (.pair tI (.pair tI (.pair tI (.slice tI)))))) v1)]) (obs := []) rfl (by kernel_rfl) allP0 ?_
      rcases Bool.eq_false_or_eq_true (v1.1 == (2 : Int)) with h17 | h17
      · replace h := ofT h17 h
        refine WO_run (j := 8) (k := 4) (orcs := [(8, .known true), (10, .known true), (12, .known true), (15, .val (.dat .bool true))]) (kF := [2, 3, 5, 6, 24]) (kL := [2, 3, 5]) (fr' := [(2, .one (.ptr 2 0)), (3, .one (.ptr 3 0)), (5, .one (.ptr 5 0)), (6, aI (0 : Int)), (24, aB true)]) (L' := [(2, .cells [.dat (.slice (.pair tI (.pair tI (.pair tI (.pair tI (.pair tI (.slice tI))))))) a0]), (3, .cells [.dat tI a1]), (5, .one (.pair tI (.pair tI (.pair tI (.pair tI (.pair tI (.slice tI)))))) v1)]) (obs := [((v1.1 == (2 : Int)) = true), ((v1.1 == (2 : Int)) = true), ((v1.1 == (2 : Int)) = true), ((v1.1 == (2 : Int)) = true)]) rfl (by kernel_rfl) (allP2 h17 (allP2 h17 (allP2 h17 (allP1 h17)))) ?_
        obtain rfl := Option.some.inj h
        refine WO_fin [2, 3, 5, 6, 24] [2, 3, 5] (fr' := [(2, .one (.ptr 2 0)), (3, .one (.ptr 3 0)), (5, .one (.ptr 5 0)), (6, aI (0 : Int)), (24, aB true)]) (L' := [(2, .cells [.dat (.slice (.pair tI (.pair tI (.pair tI (.pair tI (.pair tI (.slice tI))))))) a0]), (3, .cells [.dat tI a1]), (5, .one (.pair tI (.pair tI (.pair tI (.pair tI (.pair tI (.slice tI)))))) v1)]) (by kernel_rfl) (by kernel_rfl) ?_
        exact exQ_mk (by kernel_rfl) (by kernel_rfl)
      · replace h := ofF h17 h
        refine WO_run (j := 8) (k := 4) (orcs := [(8, .known false), (10, .known false), (12, .known false), (15, .val (.dat .bool false))]) (kF := [2, 3, 5, 6, 24]) (kL := [2, 3, 5]) (fr' := [(2, .one (.ptr 2 0)), (3, .one (.ptr 3 0)), (5, .one (.ptr 5 0)), (6, aI (0 : Int)), (24, aB (v1.1 == (5 : Int)))]) (L' := [(2, .cells [.dat (.slice (.pair tI (.pair tI (.pair tI (.pair tI (.pair tI (.slice tI))))))) a0]), (3, .cells [.dat tI a1]), (5, .one (.pair tI (.pair tI (.pair tI (.pair tI (.pair tI (.slice tI)))))) v1)]) (obs := [((v1.1 == (2 : Int)) = false), ((v1.1 == (2 : Int)) = false), ((v1.1 == (2 : Int)) = false), ((v1.1 == (2 : Int)) = false)]) rfl (by kernel_rfl) (allP2 h17 (allP2 h17 (allP2 h17 (allP1 h17)))) ?_
        obtain rfl := Option.some.inj h
        refine WO_fin [2, 3, 5, 6, 24] [2, 3, 5] (fr' := [(2, .one (.ptr 2 0)), (3, .one (.ptr 3 0)), (5, .one (.ptr 5 0)), (6, aI (0 : Int)), (24, aB (v1.1 == (5 : Int)))]) (L' := [(2, .cells [.dat (.slice (.pair tI (.pair tI (.pair tI (.pair tI (.pair tI (.slice tI))))))) a0]), (3, .cells [.dat tI a1]), (5, .one (.pair tI (.pair tI (.pair tI (.pair tI (.pair tI (.slice tI)))))) v1)]) (by kernel_rfl) (by kernel_rfl) ?_
        exact exQ_mk (by kernel_rfl) (by kernel_rfl)
    · intro e fr L hJ
      obtain ⟨rfl, rfl, rfl⟩ := hJ
      refine LT_keep [2, 3, 5, 6, 24] [2, 3, 5] (fr' := [(2, .one (.ptr 2 0)), (3, .one (.ptr 3 0)), (5, .one (.ptr 5 0)), (6, aI (0 : Int)), (24, aB v18)]) (L' := [(2, .cells [.dat (.slice (.pair tI (.pair tI (.pair tI (.pair tI (.pair tI (.slice tI))))))) a0]), (3, .cells [.dat tI a1]), (5, .one (.pair tI (.pair tI (.pair tI (.pair tI (.pair tI (.slice tI)))))) v1)]) (by kernel_rfl) ?_
      refine seqQ_norm ?_
      refine W_cond (o := .tmp 24) (b := v18) (by kernel_rfl) (by kernel_rfl) (fun h20 => ?_) (fun h20 => ?_)
      · replace h := ofT h20 h
        obtain rfl := Option.some.inj h
        refine W_run 1 [] [2, 3, 5, 6] [2, 3, 5] (fr' := [(2, .one (.ptr 2 0)), (3, .one (.ptr 3 0)), (5, .one (.ptr 5 0)), (6, aI (1 : Int))]) (L' := [(2, .cells [.dat (.slice (.pair tI (.pair tI (.pair tI (.pair tI (.pair tI (.slice tI))))))) a0]), (3, .cells [.dat tI a1]), (5, .one (.pair tI (.pair tI (.pair tI (.pair tI (.pair tI (.slice tI)))))) v1)]) (obs := []) (by kernel_rfl) (by kernel_rfl) (by kernel_rfl) allP0 ?_
        exact exQ_mk (by kernel_rfl) (by kernel_rfl)
      · replace h := ofF h20 h
        obtain rfl := Option.some.inj h
        refine W_skip [2, 3, 5, 6] [2, 3, 5] (fr' := [(2, .one (.ptr 2 0)), (3, .one (.ptr 3 0)), (5, .one (.ptr 5 0)), (6, aI (0 : Int))]) (L' := [(2, .cells [.dat (.slice (.pair tI (.pair tI (.pair tI (.pair tI (.pair tI (.slice tI))))))) a0]), (3, .cells [.dat tI a1]), (5, .one (.pair tI (.pair tI (.pair tI (.pair tI (.pair tI (.slice tI)))))) v1)]) (by kernel_rfl) (by kernel_rfl) ?_
        exact exQ_mk (by kernel_rfl) (by kernel_rfl)
  · intro e fr L hJ
    obtain ⟨rfl, rfl, rfl⟩ := hJ
    refine LT_keep [2, 3, 5, 6] [2, 3, 5] (fr' := [(2, .one (.ptr 2 0)), (3, .one (.ptr 3 0)), (5, .one (.ptr 5 0)), (6, aI v21)]) (L' := [(2, .cells [.dat (.slice (.pair tI (.pair tI (.pair tI (.pair tI (.pair tI (.slice tI))))))) a0]), (3, .cells [.dat tI a1]), (5, .one (.pair tI (.pair tI (.pair tI (.pair tI (.pair tI (.slice tI)))))) v1)]) (by kernel_rfl) ?_
    refine seqQ_norm ?_
    refine W_seq (by kernel_rfl) ?_
    refine W_run 2 [] [5, 6, 7] [5, 2, 3] (fr' := [(5, .one (.ptr 5 0)), (6, aI v21), (7, .one (.fn 57 [(3, 0), (2, 0)]))]) (L' := [(5, .one (.pair tI (.pair tI (.pair tI (.pair tI (.pair tI (.slice tI)))))) v1), (2, .cells [.dat (.slice (.pair tI (.pair tI (.pair tI (.pair tI (.pair tI (.slice tI))))))) a0]), (3, .cells [.dat tI a1])]) (obs := []) (by kernel_rfl) (by kernel_rfl) (by kernel_rfl) allP0 ?_
    refine seqQ_norm ?_
    refine W_seq (by kernel_rfl) ?_
    refine W_block (id := 0) (by kernel_rfl) ?_
    refine W_seq (by kernel_rfl) ?_
    obtain ⟨v26, h27, h⟩ := bind_of h
    refine W_cutK (Q' := (exQ .normal (funcs_wrong_s24 a0 a1 v1 v21)) v26) ?_ ?_
    · replace h := h27
      refine W_region (by kernel_rfl) ?_
      refine WO_run (j := 4) (k := 4) (orcs := []) (kF := [5, 6, 7, 30]) (kL := [2, 3, 5]) (fr' := [(5, .one (.ptr 5 0)), (6, aI v21), (7, .one (.fn 57 [(3, 0), (2, 0)])), (30, aB (decide (v1.1 < (1 : Int))))]) (L' := [(2, .cells [.dat (.slice (.pair tI (.pair tI (.pair tI (.pair tI (.pair tI (.slice tI))))))) a0]), (3, .cells [.dat tI a1]), (5, .one (.pair tI (.pair tI (.pair tI (.pair tI (.pair tI (.slice tI)))))) v1)]) (obs := []) rfl (by kernel_rfl) allP0 ?_
      rcases Bool.eq_false_or_eq_true (decide (v1.1 < (1 : Int))) with h25 | h25
      · replace h := ofT h25 h
        refine WO_run (j := 9) (k := 5) (orcs := [(8, .known true), (10, .known true), (12, .known true), (15, .val (.dat .bool true))]) (kF := [5, 6, 7, 26]) (kL := [2, 3, 5]) (fr' := [(5, .one (.ptr 5 0)), (6, aI v21), (7, .one (.fn 57 [(3, 0), (2, 0)])), (26, aB true)]) (L' := [(2, .cells [.dat (.slice (.pair tI (.pair tI (.pair tI (.pair tI (.pair tI (.slice tI))))))) a0]), (3, .cells [.dat tI a1]), (5, .one (.pair tI (.pair tI (.pair tI (.pair tI (.pair tI (.slice tI)))))) v1)]) (obs := [((decide (v1.1 < (1 : Int))) = true), ((decide (v1.1 < (1 : Int))) = true), ((decide (v1.1 < (1 : Int))) = true), ((decide (v1.1 < (1 : Int))) = true)]) rfl (by kernel_rfl) (allP2 h25 (allP2 h25 (allP2 h25 (allP1 h25)))) ?_
        obtain rfl := Option.some.inj h
        refine WO_fin [5, 6, 7, 26] [5, 2, 3] (fr' := [(5, .one (.ptr 5 0)), (6, aI v21), (7, .one (.fn 57 [(3, 0), (2, 0)])), (26, aB true)]) (L' := [(5, .one (.pair tI (.pair tI (.pair tI (.pair tI (.pair tI (.slice tI)))))) v1), (2, .cells [.dat (.slice (.pair tI (.pair tI (.pair tI (.pair tI (.pair tI (.slice tI))))))) a0]), (3, .cells [.dat tI a1])]) (by kernel_rfl) (by kernel_rfl) ?_
        exact exQ_mk (by kernel_rfl) (by kernel_rfl)
      · replace h := ofF h25 h
        refine WO_run (j := 9) (k := 5) (orcs := [(8, .known false), (10, .known false), (12, .known false), (15, .val (.dat .bool false))]) (kF := [5, 6, 7, 26]) (kL := [2, 3, 5]) (fr' := [(5, .one (.ptr 5 0)), (6, aI v21), (7, .one (.fn 57 [(3, 0), (2, 0)])), (26, aB (decide (v1.1 > (5 : Int))))]) (L' := [(2, .cells [.dat (.slice (.pair tI (.pair tI (.pair tI (.pair tI (.pair tI (.slice tI))))))) a0]), (3, .cells [.dat tI a1]), (5, .one (.pair tI (.pair tI (.pair tI (.pair tI (.pair tI (.slice tI)))))) v1)]) (obs := [((decide (v1.1 < (1 : Int))) = false), ((decide (v1.1 < (1 : Int))) = false), ((decide (v1.1 < (1 : Int))) = false), ((decide (v1.1 < (1 : Int))) = false)]) rfl (by kernel_rfl) (allP2 h25 (allP2 h25 (allP2 h25 (allP1 h25)))) ?_
        obtain rfl := Option.some.inj h
        refine WO_fin [5, 6, 7, 26] [5, 2, 3] (fr' := [(5, .one (.ptr 5 0)), (6, aI v21), (7, .one (.fn 57 [(3, 0), (2, 0)])), (26, aB (decide (v1.1 > (5 : Int))))]) (L' := [(5, .one (.pair tI (.pair tI (.pair tI (.pair tI (.pair tI (.slice tI)))))) v1), (2, .cells [.dat (.slice (.pair tI (.pair tI (.pair tI (.pair tI (.pair tI (.slice tI))))))) a0]), (3, .cells [.dat tI a1])]) (by kernel_rfl) (by kernel_rfl) ?_
        exact exQ_mk (by kernel_rfl) (by kernel_rfl)
    · intro e fr L hJ
      obtain ⟨rfl, rfl, rfl⟩ := hJ
      refine LT_keep [5, 6, 7, 26] [5, 2, 3] (fr' := [(5, .one (.ptr 5 0)), (6, aI v21), (7, .one (.fn 57 [(3, 0), (2, 0)])), (26, aB v26)]) (L' := [(5, .one (.pair tI (.pair tI (.pair tI (.pair tI (.pair tI (.slice tI)))))) v1), (2, .cells [.dat (.slice (.pair tI (.pair tI (.pair tI (.pair tI (.pair tI (.slice tI))))))) a0]), (3, .cells [.dat tI a1])]) (by kernel_rfl) ?_
      refine seqQ_norm ?_
      refine W_cond (o := .tmp 26) (b := v26) (by kernel_rfl) (by kernel_rfl) (fun h28 => ?_) (fun h28 => ?_)
      · replace h := ofT h28 h
        refine W_seq (by kernel_rfl) ?_
        refine W_run 1 [] [4] [] (fr' := [(4, aI (6 : Int))]) (L' := []) (obs := []) (by kernel_rfl) (by kernel_rfl) (by kernel_rfl) allP0 ?_
        refine seqQ_norm ?_
        obtain rfl := Option.some.inj h
        refine W_ret [4] [] (fr' := [(4, aI (6 : Int))]) (L' := []) (by kernel_rfl) (by kernel_rfl) ?_
        refine blockQ_ret ?_
        refine seqQ_ret ?_
        exact retQ_mk (by kernel_rfl) (by kernel_rfl) (by kernel_rfl)
      · replace h := ofF h28 h
        refine W_seq (by kernel_rfl) ?_
        obtain ⟨v47, h48, h⟩ := bind_of h
        refine W_cutK (Q' := (exQ .normal (funcs_wrong_s23 a0 a1 v1)) v47) ?_ ?_
        · replace h := h48
          refine W_region (by kernel_rfl) ?_
          refine WO_run (j := 5) (k := 5) (orcs := []) (kF := [5, 7, 40]) (kL := [2, 3, 5]) (fr' := [(5, .one (.ptr 5 0)), (7, .one (.fn 57 [(3, 0), (2, 0)])), (40, aB (decide (v1.2.1 < v21)))]) (L' := [(2, .cells [.dat (.slice (.pair tI (.pair tI (.pair tI (.pair tI (.pair tI (.slice tI))))))) a0]), (3, .cells [.dat tI a1]), (5, .one (.pair tI (.pair tI (.pair tI (.pair tI (.pair tI (.slice tI)))))) v1)]) (obs := []) rfl (by kernel_rfl) allP0 ?_
          rcases Bool.eq_false_or_eq_true (decide (v1.2.1 < v21)) with h41 | h41
          · replace h := ofT h41 h
            refine WO_run (j := 31) (k := 26) (orcs := [(10, .known true), (12, .known true), (14, .known true), (17, .val (.dat .bool true)), (20, .known true), (22, .known true), (24, .known true), (26, .known true), (28, .known true), (30, .known true), (32, .known true), (34, .known true), (37, .val (.dat .bool true)), (40, .known true), (42, .known true), (44, .known true), (46, .known true), (48, .known true), (50, .known true), (52, .known true), (54, .known true), (56, .known true), (59, .val (.dat .bool true))]) (kF := [5, 7, 35]) (kL := [2, 3, 5]) (fr' := [(5, .one (.ptr 5 0)), (7, .one (.fn 57 [(3, 0), (2, 0)])), (35, aB true)]) (L' := [(2, .cells [.dat (.slice (.pair tI (.pair tI (.pair tI (.pair tI (.pair tI (.slice tI))))))) a0]), (3, .cells [.dat tI a1]), (5, .one (.pair tI (.pair tI (.pair tI (.pair tI (.pair tI (.slice tI)))))) v1)]) (obs := [((decide (v1.2.1 < v21)) = true), ((decide (v1.2.1 < v21)) = true), ((decide (v1.2.1 < v21)) = true), ((decide (v1.2.1 < v21)) = true), (true = true), (true = true), (true = true), (true = true), (true = true), (true = true), (true = true), (true = true), (true = true), (true = true), (true = true), (true = true)]) rfl (by kernel_rfl) (allP2 h41 (allP2 h41 (allP2 h41 (allP2 h41 (allP2 rfl (allP2 rfl (allP2 rfl (allP2 rfl (allP2 rfl (allP2 rfl (allP2 rfl (allP2 rfl (allP2 rfl (allP2 rfl (allP2 rfl (allP1 rfl)))))))))))))))) ?_
            obtain rfl := Option.some.inj h
            refine WO_fin [5, 7, 35] [5, 2, 3] (fr' := [(5, .one (.ptr 5 0)), (7, .one (.fn 57 [(3, 0), (2, 0)])), (35, aB true)]) (L' := [(5, .one (.pair tI (.pair tI (.pair tI (.pair tI (.pair tI (.slice tI)))))) v1), (2, .cells [.dat (.slice (.pair tI (.pair tI (.pair tI (.pair tI (.pair tI (.slice tI))))))) a0]), (3, .cells [.dat tI a1])]) (by kernel_rfl) (by kernel_rfl) ?_
            exact exQ_mk (by kernel_rfl) (by kernel_rfl)
          · replace h := ofF h41 h
            refine WO_run (j := 10) (k := 5) (orcs := [(10, .known false), (12, .known false), (14, .known false), (17, .val (.dat .bool false))]) (kF := [5, 7, 45]) (kL := [2, 3, 5]) (fr' := [(5, .one (.ptr 5 0)), (7, .one (.fn 57 [(3, 0), (2, 0)])), (45, aB (decide (v1.2.1 > (4 : Int))))]) (L' := [(2, .cells [.dat (.slice (.pair tI (.pair tI (.pair tI (.pair tI (.pair tI (.slice tI))))))) a0]), (3, .cells [.dat tI a1]), (5, .one (.pair tI (.pair tI (.pair tI (.pair tI (.pair tI (.slice tI)))))) v1)]) (obs := [((decide (v1.2.1 < v21)) = false), ((decide (v1.2.1 < v21)) = false), ((decide (v1.2.1 < v21)) = false), ((decide (v1.2.1 < v21)) = false)]) rfl (by kernel_rfl) (allP2 h41 (allP2 h41 (allP2 h41 (allP1 h41)))) ?_
            rcases Bool.eq_false_or_eq_true (decide (v1.2.1 > (4 : Int))) with h42 | h42
            · replace h := ofT h42 h
              refine WO_run (j := 31) (k := 21) (orcs := [(20, .known true), (22, .known true), (24, .known true), (26, .known true), (28, .known true), (30, .known true), (32, .known true), (34, .known true), (37, .val (.dat .bool true)), (40, .known true), (42, .known true), (44, .known true), (46, .known true), (48, .known true), (50, .known true), (52, .known true), (54, .known true), (56, .known true), (59, .val (.dat .bool true))]) (kF := [5, 7, 35]) (kL := [2, 3, 5]) (fr' := [(5, .one (.ptr 5 0)), (7, .one (.fn 57 [(3, 0), (2, 0)])), (35, aB true)]) (L' := [(2, .cells [.dat (.slice (.pair tI (.pair tI (.pair tI (.pair tI (.pair tI (.slice tI))))))) a0]), (3, .cells [.dat tI a1]), (5, .one (.pair tI (.pair tI (.pair tI (.pair tI (.pair tI (.slice tI)))))) v1)]) (obs := [((decide (v1.2.1 > (4 : Int))) = true), ((decide (v1.2.1 > (4 : Int))) = true), ((decide (v1.2.1 > (4 : Int))) = true), ((decide (v1.2.1 > (4 : Int))) = true), ((decide (v1.2.1 > (4 : Int))) = true), ((decide (v1.2.1 > (4 : Int))) = true), (true = true), (true = true), (true = true), (true = true), (true = true), (true = true)]) rfl (by kernel_rfl) (allP2 h42 (allP2 h42 (allP2 h42 (allP2 h42 (allP2 h42 (allP2 h42 (allP2 rfl (allP2 rfl (allP2 rfl (allP2 rfl (allP2 rfl (allP1 rfl)))))))))))) ?_
              obtain rfl := Option.some.inj h
              refine WO_fin [5, 7, 35] [5, 2, 3] (fr' := [(5, .one (.ptr 5 0)), (7, .one (.fn 57 [(3, 0), (2, 0)])), (35, aB true)]) (L' := [(5, .one (.pair tI (.pair tI (.pair tI (.pair tI (.pair tI (.slice tI)))))) v1), (2, .cells [.dat (.slice (.pair tI (.pair tI (.pair tI (.pair tI (.pair tI (.slice tI))))))) a0]), (3, .cells [.dat tI a1])]) (by kernel_rfl) (by kernel_rfl) ?_
              exact exQ_mk (by kernel_rfl) (by kernel_rfl)
            · replace h := ofF h42 h
              refine WO_run (j := 14) (k := 4) (orcs := [(20, .known false), (22, .known false), (24, .known false), (26, .known false)]) (kF := [5, 7, 45, 49]) (kL := [2, 3, 5]) (fr' := [(5, .one (.ptr 5 0)), (7, .one (.fn 57 [(3, 0), (2, 0)])), (45, aB (decide (v1.2.1 > (4 : Int)))), (49, aB (v1.1 == (2 : Int)))]) (L' := [(2, .cells [.dat (.slice (.pair tI (.pair tI (.pair tI (.pair tI (.pair tI (.slice tI))))))) a0]), (3, .cells [.dat tI a1]), (5, .one (.pair tI (.pair tI (.pair tI (.pair tI (.pair tI (.slice tI)))))) v1)]) (obs := [((decide (v1.2.1 > (4 : Int))) = false), ((decide (v1.2.1 > (4 : Int))) = false), ((decide (v1.2.1 > (4 : Int))) = false), ((decide (v1.2.1 > (4 : Int))) = false)]) rfl (by kernel_rfl) (allP2 h42 (allP2 h42 (allP2 h42 (allP1 h42)))) ?_
              rcases Bool.eq_false_or_eq_true (v1.1 == (2 : Int)) with h43 | h43
              · replace h := ofT h43 h
                refine WO_run (j := 20) (k := 6) (orcs := [(28, .known true), (30, .known true), (32, .known true), (34, .known false), (35, .val (.dat .bool true)), (37, .val (.dat .bool false))]) (kF := [5, 7, 55]) (kL := [2, 3, 5]) (fr' := [(5, .one (.ptr 5 0)), (7, .one (.fn 57 [(3, 0), (2, 0)])), (55, aB (decide (v1.2.1 > (1 : Int))))]) (L' := [(2, .cells [.dat (.slice (.pair tI (.pair tI (.pair tI (.pair tI (.pair tI (.slice tI))))))) a0]), (3, .cells [.dat tI a1]), (5, .one (.pair tI (.pair tI (.pair tI (.pair tI (.pair tI (.slice tI)))))) v1)]) (obs := [((v1.1 == (2 : Int)) = true), ((v1.1 == (2 : Int)) = true), ((v1.1 == (2 : Int)) = true), ((decide (v1.2.1 > (4 : Int))) = false), ((v1.1 == (2 : Int)) = true), ((decide (v1.2.1 > (4 : Int))) = false)]) rfl (by kernel_rfl) (allP2 h43 (allP2 h43 (allP2 h43 (allP2 h42 (allP2 h43 (allP1 h42)))))) ?_
                rcases Bool.eq_false_or_eq_true (decide (v1.2.1 > (1 : Int))) with h44 | h44
                · replace h := ofT h44 h
                  refine WO_run (j := 31) (k := 11) (orcs := [(40, .known true), (42, .known true), (44, .known true), (46, .known true), (48, .known true), (50, .known true), (52, .known true), (54, .known true), (56, .known true), (59, .val (.dat .bool true))]) (kF := [5, 7, 35]) (kL := [2, 3, 5]) (fr' := [(5, .one (.ptr 5 0)), (7, .one (.fn 57 [(3, 0), (2, 0)])), (35, aB true)]) (L' := [(2, .cells [.dat (.slice (.pair tI (.pair tI (.pair tI (.pair tI (.pair tI (.slice tI))))))) a0]), (3, .cells [.dat tI a1]), (5, .one (.pair tI (.pair tI (.pair tI (.pair tI (.pair tI (.slice tI)))))) v1)]) (obs := [((decide (v1.2.1 > (1 : Int))) = true), ((decide (v1.2.1 > (1 : Int))) = true), ((decide (v1.2.1 > (1 : Int))) = true), ((decide (v1.2.1 > (1 : Int))) = true), ((decide (v1.2.1 > (1 : Int))) = true), ((decide (v1.2.1 > (1 : Int))) = true)]) rfl (by kernel_rfl) (allP2 h44 (allP2 h44 (allP2 h44 (allP2 h44 (allP2 h44 (allP1 h44)))))) ?_
                  obtain rfl := Option.some.inj h
                  refine WO_fin [5, 7, 35] [5, 2, 3] (fr' := [(5, .one (.ptr 5 0)), (7, .one (.fn 57 [(3, 0), (2, 0)])), (35, aB true)]) (L' := [(5, .one (.pair tI (.pair tI (.pair tI (.pair tI (.pair tI (.slice tI)))))) v1), (2, .cells [.dat (.slice (.pair tI (.pair tI (.pair tI (.pair tI (.pair tI (.slice tI))))))) a0]), (3, .cells [.dat tI a1])]) (by kernel_rfl) (by kernel_rfl) ?_
                  exact exQ_mk (by kernel_rfl) (by kernel_rfl)
                · replace h := ofF h44 h
                  refine WO_run (j := 24) (k := 4) (orcs := [(40, .known false), (42, .known false), (44, .known false), (46, .known false)]) (kF := [5, 7, 55, 59]) (kL := [2, 3, 5]) (fr' := [(5, .one (.ptr 5 0)), (7, .one (.fn 57 [(3, 0), (2, 0)])), (55, aB (decide (v1.2.1 > (1 : Int)))), (59, aB (v1.1 == (4 : Int)))]) (L' := [(2, .cells [.dat (.slice (.pair tI (.pair tI (.pair tI (.pair tI (.pair tI (.slice tI))))))) a0]), (3, .cells [.dat tI a1]), (5, .one (.pair tI (.pair tI (.pair tI (.pair tI (.pair tI (.slice tI)))))) v1)]) (obs := [((decide (v1.2.1 > (1 : Int))) = false), ((decide (v1.2.1 > (1 : Int))) = false), ((decide (v1.2.1 > (1 : Int))) = false), ((decide (v1.2.1 > (1 : Int))) = false)]) rfl (by kernel_rfl) (allP2 h44 (allP2 h44 (allP2 h44 (allP1 h44)))) ?_
                  rcases Bool.eq_false_or_eq_true (v1.1 == (4 : Int)) with h45 | h45
                  · replace h := ofT h45 h
                    refine WO_run (j := 31) (k := 7) (orcs := [(48, .known true), (50, .known true), (52, .known true), (54, .known true), (56, .known false), (57, .val (.dat .bool true)), (59, .val (.dat .bool false))]) (kF := [5, 7, 35]) (kL := [2, 3, 5]) (fr' := [(5, .one (.ptr 5 0)), (7, .one (.fn 57 [(3, 0), (2, 0)])), (35, aB (decide ((List.length v1.2.2.2.2.2 : Int) > (4 : Int))))]) (L' := [(2, .cells [.dat (.slice (.pair tI (.pair tI (.pair tI (.pair tI (.pair tI (.slice tI))))))) a0]), (3, .cells [.dat tI a1]), (5, .one (.pair tI (.pair tI (.pair tI (.pair tI (.pair tI (.slice tI)))))) v1)]) (obs := [((v1.1 == (4 : Int)) = true), ((v1.1 == (4 : Int)) = true), ((v1.1 == (4 : Int)) = true), ((v1.1 == (4 : Int)) = true), ((decide (v1.2.1 > (1 : Int))) = false), ((v1.1 == (4 : Int)) = true), ((decide (v1.2.1 > (1 : Int))) = false)]) rfl (by kernel_rfl) (allP2 h45 (allP2 h45 (allP2 h45 (allP2 h45 (allP2 h44 (allP2 h45 (allP1 h44))))))) ?_
                    obtain rfl := Option.some.inj h
                    refine WO_fin [5, 7, 35] [5, 2, 3] (fr' := [(5, .one (.ptr 5 0)), (7, .one (.fn 57 [(3, 0), (2, 0)])), (35, aB (decide ((List.length v1.2.2.2.2.2 : Int) > (4 : Int))))]) (L' := [(5, .one (.pair tI (.pair tI (.pair tI (.pair tI (.pair tI (.slice tI)))))) v1), (2, .cells [.dat (.slice (.pair tI (.pair tI (.pair tI (.pair tI (.pair tI (.slice tI))))))) a0]), (3, .cells [.dat tI a1])]) (by kernel_rfl) (by kernel_rfl) ?_
                    exact exQ_mk (by kernel_rfl) (by kernel_rfl)
                  · replace h := ofF h45 h
                    refine WO_run (j := 31) (k := 7) (orcs := [(48, .known false), (50, .known false), (52, .known false), (54, .known false), (56, .known false), (57, .val (.dat .bool false)), (59, .val (.dat .bool false))]) (kF := [5, 7, 35]) (kL := [2, 3, 5]) (fr' := [(5, .one (.ptr 5 0)), (7, .one (.fn 57 [(3, 0), (2, 0)])), (35, aB false)]) (L' := [(2, .cells [.dat (.slice (.pair tI (.pair tI (.pair tI (.pair tI (.pair tI (.slice tI))))))) a0]), (3, .cells [.dat tI a1]), (5, .one (.pair tI (.pair tI (.pair tI (.pair tI (.pair tI (.slice tI)))))) v1)]) (obs := [((v1.1 == (4 : Int)) = false), ((v1.1 == (4 : Int)) = false), ((v1.1 == (4 : Int)) = false), ((v1.1 == (4 : Int)) = false), ((decide (v1.2.1 > (1 : Int))) = false), ((v1.1 == (4 : Int)) = false), ((decide (v1.2.1 > (1 : Int))) = false)]) rfl (by kernel_rfl) (allP2 h45 (allP2 h45 (allP2 h45 (allP2 h45 (allP2 h44 (allP2 h45 (allP1 h44))))))) ?_
                    obtain rfl := Option.some.inj h
                    refine WO_fin [5, 7, 35] [5, 2, 3] (fr' := [(5, .one (.ptr 5 0)), (7, .one (.fn 57 [(3, 0), (2, 0)])), (35, aB false)]) (L' := [(5, .one (.pair tI (.pair tI (.pair tI (.pair tI (.pair tI (.slice tI)))))) v1), (2, .cells [.dat (.slice (.pair tI (.pair tI (.pair tI (.pair tI (.pair tI (.slice tI))))))) a0]), (3, .cells [.dat tI a1])]) (by kernel_rfl) (by kernel_rfl) ?_
                    exact exQ_mk (by kernel_rfl) (by kernel_rfl)
              · replace h := ofF h43 h
                refine WO_run (j := 24) (k := 10) (orcs := [(28, .known false), (30, .known false), (32, .known false), (34, .known false), (35, .val (.dat .bool false)), (37, .val (.dat .bool false)), (40, .known false), (42, .known false), (44, .known false), (46, .known false)]) (kF := [5, 7, 55, 59]) (kL := [2, 3, 5]) (fr' := [(5, .one (.ptr 5 0)), (7, .one (.fn 57 [(3, 0), (2, 0)])), (55, aB false), (59, aB (v1.1 == (4 : Int)))]) (L' := [(2, .cells [.dat (.slice (.pair tI (.pair tI (.pair tI (.pair tI (.pair tI (.slice tI))))))) a0]), (3, .cells [.dat tI a1]), (5, .one (.pair tI (.pair tI (.pair tI (.pair tI (.pair tI (.slice tI)))))) v1)]) (obs := [((v1.1 == (2 : Int)) = false), ((v1.1 == (2 : Int)) = false), ((v1.1 == (2 : Int)) = false), ((decide (v1.2.1 > (4 : Int))) = false), ((v1.1 == (2 : Int)) = false), ((decide (v1.2.1 > (4 : Int))) = false), (false = false), (false = false), (false = false), (false = false)]) rfl (by kernel_rfl) (allP2 h43 (allP2 h43 (allP2 h43 (allP2 h42 (allP2 h43 (allP2 h42 (allP2 rfl (allP2 rfl (allP2 rfl (allP1 rfl)))))))))) ?_
                rcases Bool.eq_false_or_eq_true (v1.1 == (4 : Int)) with h46 | h46
                · replace h := ofT h46 h
                  refine WO_run (j := 31) (k := 7) (orcs := [(48, .known true), (50, .known true), (52, .known true), (54, .known true), (56, .known false), (57, .val (.dat .bool true)), (59, .val (.dat .bool false))]) (kF := [5, 7, 35]) (kL := [2, 3, 5]) (fr' := [(5, .one (.ptr 5 0)), (7, .one (.fn 57 [(3, 0), (2, 0)])), (35, aB (decide ((List.length v1.2.2.2.2.2 : Int) > (4 : Int))))]) (L' := [(2, .cells [.dat (.slice (.pair tI (.pair tI (.pair tI (.pair tI (.pair tI (.slice tI))))))) a0]), (3, .cells [.dat tI a1]), (5, .one (.pair tI (.pair tI (.pair tI (.pair tI (.pair tI (.slice tI)))))) v1)]) (obs := [((v1.1 == (4 : Int)) = true), ((v1.1 == (4 : Int)) = true), ((v1.1 == (4 : Int)) = true), ((v1.1 == (4 : Int)) = true), (false = false), ((v1.1 == (4 : Int)) = true), (false = false)]) rfl (by kernel_rfl) (allP2 h46 (allP2 h46 (allP2 h46 (allP2 h46 (allP2 rfl (allP2 h46 (allP1 rfl))))))) ?_
                  obtain rfl := Option.some.inj h
                  refine WO_fin [5, 7, 35] [5, 2, 3] (fr' := [(5, .one (.ptr 5 0)), (7, .one (.fn 57 [(3, 0), (2, 0)])), (35, aB (decide ((List.length v1.2.2.2.2.2 : Int) > (4 : Int))))]) (L' := [(5, .one (.pair tI (.pair tI (.pair tI (.pair tI (.pair tI (.slice tI)))))) v1), (2, .cells [.dat (.slice (.pair tI (.pair tI (.pair tI (.pair tI (.pair tI (.slice tI))))))) a0]), (3, .cells [.dat tI a1])]) (by kernel_rfl) (by kernel_rfl) ?_
                  exact exQ_mk (by kernel_rfl) (by kernel_rfl)
                · replace h := ofF h46 h
                  refine WO_run (j := 31) (k := 7) (orcs := [(48, .known false), (50, .known false), (52, .known false), (54, .known false), (56, .known false), (57, .val (.dat .bool false)), (59, .val (.dat .bool false))]) (kF := [5, 7, 35]) (kL := [2, 3, 5]) (fr' := [(5, .one (.ptr 5 0)), (7, .one (.fn 57 [(3, 0), (2, 0)])), (35, aB false)]) (L' := [(2, .cells [.dat (.slice (.pair tI (.pair tI (.pair tI (.pair tI (.pair tI (.slice tI))))))) a0]), (3, .cells [.dat tI a1]), (5, .one (.pair tI (.pair tI (.pair tI (.pair tI (.pair tI (.slice tI)))))) v1)]) (obs := [((v1.1 == (4 : Int)) = false), ((v1.1 == (4 : Int)) = false), ((v1.1 == (4 : Int)) = false), ((v1.1 == (4 : Int)) = false), (false = false), ((v1.1 == (4 : Int)) = false), (false = false)]) rfl (by kernel_rfl) (allP2 h46 (allP2 h46 (allP2 h46 (allP2 h46 (allP2 rfl (allP2 h46 (allP1 rfl))))))) ?_
                  obtain rfl := Option.some.inj h
                  refine WO_fin [5, 7, 35] [5, 2, 3] (fr' := [(5, .one (.ptr 5 0)), (7, .one (.fn 57 [(3, 0), (2, 0)])), (35, aB false)]) (L' := [(5, .one (.pair tI (.pair tI (.pair tI (.pair tI (.pair tI (.slice tI)))))) v1), (2, .cells [.dat (.slice (.pair tI (.pair tI (.pair tI (.pair tI (.pair tI (.slice tI))))))) a0]), (3, .cells [.dat tI a1])]) (by kernel_rfl) (by kernel_rfl) ?_
                  exact exQ_mk (by kernel_rfl) (by kernel_rfl)
        · intro e fr L hJ
          obtain ⟨rfl, rfl, rfl⟩ := hJ
          refine LT_keep [5, 7, 35] [5, 2, 3] (fr' := [(5, .one (.ptr 5 0)), (7, .one (.fn 57 [(3, 0), (2, 0)])), (35, aB v47)]) (L' := [(5, .one (.pair tI (.pair tI (.pair tI (.pair tI (.pair tI (.slice tI)))))) v1), (2, .cells [.dat (.slice (.pair tI (.pair tI (.pair tI (.pair tI (.pair tI (.slice tI))))))) a0]), (3, .cells [.dat tI a1])]) (by kernel_rfl) ?_
          refine seqQ_norm ?_
          refine W_cond (o := .tmp 35) (b := v47) (by kernel_rfl) (by kernel_rfl) (fun h49 => ?_) (fun h49 => ?_)
          · replace h := ofT h49 h
            refine W_seq (by kernel_rfl) ?_
            refine W_run 1 [] [4] [] (fr' := [(4, aI (1 : Int))]) (L' := []) (obs := []) (by kernel_rfl) (by kernel_rfl) (by kernel_rfl) allP0 ?_
            refine seqQ_norm ?_
            obtain rfl := Option.some.inj h
            refine W_ret [4] [] (fr' := [(4, aI (1 : Int))]) (L' := []) (by kernel_rfl) (by kernel_rfl) ?_
            refine blockQ_ret ?_
            refine seqQ_ret ?_
            exact retQ_mk (by kernel_rfl) (by kernel_rfl) (by kernel_rfl)
          · replace h := ofF h49 h
            refine W_seq (by kernel_rfl) ?_
            obtain ⟨v56, h57, h⟩ := bind_of h
            refine W_cutK (Q' := (exQ .normal (funcs_wrong_s22 a0 a1 v1)) v56) ?_ ?_
            · replace h := h57
              refine W_region (by kernel_rfl) ?_
              refine WO_run (j := 4) (k := 4) (orcs := []) (kF := [5, 7, 70]) (kL := [2, 3, 5]) (fr' := [(5, .one (.ptr 5 0)), (7, .one (.fn 57 [(3, 0), (2, 0)])), (70, aB (v1.1 == (3 : Int)))]) (L' := [(2, .cells [.dat (.slice (.pair tI (.pair tI (.pair tI (.pair tI (.pair tI (.slice tI))))))) a0]), (3, .cells [.dat tI a1]), (5, .one (.pair tI (.pair tI (.pair tI (.pair tI (.pair tI (.slice tI)))))) v1)]) (obs := []) rfl (by kernel_rfl) allP0 ?_
              rcases Bool.eq_false_or_eq_true (v1.1 == (3 : Int)) with h54 | h54
              · replace h := ofT h54 h
                refine WO_run (j := 8) (k := 4) (orcs := [(8, .known true), (10, .known true), (12, .known true), (14, .known true)]) (kF := [5, 7, 70, 74]) (kL := [2, 3, 5]) (fr' := [(5, .one (.ptr 5 0)), (7, .one (.fn 57 [(3, 0), (2, 0)])), (70, aB (v1.1 == (3 : Int))), (74, aB (decide (v1.2.2.1 < (0 : Int))))]) (L' := [(2, .cells [.dat (.slice (.pair tI (.pair tI (.pair tI (.pair tI (.pair tI (.slice tI))))))) a0]), (3, .cells [.dat tI a1]), (5, .one (.pair tI (.pair tI (.pair tI (.pair tI (.pair tI (.slice tI)))))) v1)]) (obs := [((v1.1 == (3 : Int)) = true), ((v1.1 == (3 : Int)) = true), ((v1.1 == (3 : Int)) = true), ((v1.1 == (3 : Int)) = true)]) rfl (by kernel_rfl) (allP2 h54 (allP2 h54 (allP2 h54 (allP1 h54)))) ?_
                rcases Bool.eq_false_or_eq_true (decide (v1.2.2.1 < (0 : Int))) with h55 | h55
                · replace h := ofT h55 h
                  refine WO_run (j := 16) (k := 8) (orcs := [(16, .known true), (18, .known true), (20, .known true), (22, .known true), (24, .known true), (26, .known true), (27, .val (.dat .bool true)), (29, .val (.dat .bool true))]) (kF := [5, 7, 66]) (kL := [2, 3, 5]) (fr' := [(5, .one (.ptr 5 0)), (7, .one (.fn 57 [(3, 0), (2, 0)])), (66, aB true)]) (L' := [(2, .cells [.dat (.slice (.pair tI (.pair tI (.pair tI (.pair tI (.pair tI (.slice tI))))))) a0]), (3, .cells [.dat tI a1]), (5, .one (.pair tI (.pair tI (.pair tI (.pair tI (.pair tI (.slice tI)))))) v1)]) (obs := [((decide (v1.2.2.1 < (0 : Int))) = true), ((decide (v1.2.2.1 < (0 : Int))) = true), ((decide (v1.2.2.1 < (0 : Int))) = true), ((decide (v1.2.2.1 < (0 : Int))) = true), ((decide (v1.2.2.1 < (0 : Int))) = true), ((v1.1 == (3 : Int)) = true), ((decide (v1.2.2.1 < (0 : Int))) = true), ((v1.1 == (3 : Int)) = true)]) rfl (by kernel_rfl) (allP2 h55 (allP2 h55 (allP2 h55 (allP2 h55 (allP2 h55 (allP2 h54 (allP2 h55 (allP1 h54)))))))) ?_
                  obtain rfl := Option.some.inj h
                  refine WO_fin [5, 7, 66] [5, 2, 3] (fr' := [(5, .one (.ptr 5 0)), (7, .one (.fn 57 [(3, 0), (2, 0)])), (66, aB true)]) (L' := [(5, .one (.pair tI (.pair tI (.pair tI (.pair tI (.pair tI (.slice tI)))))) v1), (2, .cells [.dat (.slice (.pair tI (.pair tI (.pair tI (.pair tI (.pair tI (.slice tI))))))) a0]), (3, .cells [.dat tI a1])]) (by kernel_rfl) (by kernel_rfl) ?_
                  exact exQ_mk (by kernel_rfl) (by kernel_rfl)
                · replace h := ofF h55 h
                  refine WO_run (j := 16) (k := 8) (orcs := [(16, .known false), (18, .known false), (20, .known false), (22, .known false), (24, .known false), (26, .known true), (27, .val (.dat .bool false)), (29, .val (.dat .bool true))]) (kF := [5, 7, 66]) (kL := [2, 3, 5]) (fr' := [(5, .one (.ptr 5 0)), (7, .one (.fn 57 [(3, 0), (2, 0)])), (66, aB (decide (v1.2.2.1 ≥ v1.2.1)))]) (L' := [(2, .cells [.dat (.slice (.pair tI (.pair tI (.pair tI (.pair tI (.pair tI (.slice tI))))))) a0]), (3, .cells [.dat tI a1]), (5, .one (.pair tI (.pair tI (.pair tI (.pair tI (.pair tI (.slice tI)))))) v1)]) (obs := [((decide (v1.2.2.1 < (0 : Int))) = false), ((decide (v1.2.2.1 < (0 : Int))) = false), ((decide (v1.2.2.1 < (0 : Int))) = false), ((decide (v1.2.2.1 < (0 : Int))) = false), ((decide (v1.2.2.1 < (0 : Int))) = false), ((v1.1 == (3 : Int)) = true), ((decide (v1.2.2.1 < (0 : Int))) = false), ((v1.1 == (3 : Int)) = true)]) rfl (by kernel_rfl) (allP2 h55 (allP2 h55 (allP2 h55 (allP2 h55 (allP2 h55 (allP2 h54 (allP2 h55 (allP1 h54)))))))) ?_
                  obtain rfl := Option.some.inj h
                  refine WO_fin [5, 7, 66] [5, 2, 3] (fr' := [(5, .one (.ptr 5 0)), (7, .one (.fn 57 [(3, 0), (2, 0)])), (66, aB (decide (v1.2.2.1 ≥ v1.2.1)))]) (L' := [(5, .one (.pair tI (.pair tI (.pair tI (.pair tI (.pair tI (.slice tI)))))) v1), (2, .cells [.dat (.slice (.pair tI (.pair tI (.pair tI (.pair tI (.pair tI (.slice tI))))))) a0]), (3, .cells [.dat tI a1])]) (by kernel_rfl) (by kernel_rfl) ?_
                  exact exQ_mk (by kernel_rfl) (by kernel_rfl)
              · replace h := ofF h54 h
                refine WO_run (j := 16) (k := 12) (orcs := [(8, .known false), (10, .known false), (12, .known false), (14, .known false), (16, .known true), (18, .known true), (20, .known true), (22, .known true), (24, .known true), (26, .known false), (29, .val (.dat .bool false))]) (kF := [5, 7, 66]) (kL := [2, 3, 5]) (fr' := [(5, .one (.ptr 5 0)), (7, .one (.fn 57 [(3, 0), (2, 0)])), (66, aB false)]) (L' := [(2, .cells [.dat (.slice (.pair tI (.pair tI (.pair tI (.pair tI (.pair tI (.slice tI))))))) a0]), (3, .cells [.dat tI a1]), (5, .one (.pair tI (.pair tI (.pair tI (.pair tI (.pair tI (.slice tI)))))) v1)]) (obs := [((v1.1 == (3 : Int)) = false), ((v1.1 == (3 : Int)) = false), ((v1.1 == (3 : Int)) = false), ((v1.1 == (3 : Int)) = false), ((v1.1 == (3 : Int)) = false), ((v1.1 == (3 : Int)) = false)]) rfl (by kernel_rfl) (allP2 h54 (allP2 h54 (allP2 h54 (allP2 h54 (allP2 h54 (allP1 h54)))))) ?_
                obtain rfl := Option.some.inj h
                refine WO_fin [5, 7, 66] [5, 2, 3] (fr' := [(5, .one (.ptr 5 0)), (7, .one (.fn 57 [(3, 0), (2, 0)])), (66, aB false)]) (L' := [(5, .one (.pair tI (.pair tI (.pair tI (.pair tI (.pair tI (.slice tI)))))) v1), (2, .cells [.dat (.slice (.pair tI (.pair tI (.pair tI (.pair tI (.pair tI (.slice tI))))))) a0]), (3, .cells [.dat tI a1])]) (by kernel_rfl) (by kernel_rfl) ?_
                exact exQ_mk (by kernel_rfl) (by kernel_rfl)
            · intro e fr L hJ
              obtain ⟨rfl, rfl, rfl⟩ := hJ
              refine LT_keep [5, 7, 66] [5, 2, 3] (fr' := [(5, .one (.ptr 5 0)), (7, .one (.fn 57 [(3, 0), (2, 0)])), (66, aB v56)]) (L' := [(5, .one (.pair tI (.pair tI (.pair tI (.pair tI (.pair tI (.slice tI)))))) v1), (2, .cells [.dat (.slice (.pair tI (.pair tI (.pair tI (.pair tI (.pair tI (.slice tI))))))) a0]), (3, .cells [.dat tI a1])]) (by kernel_rfl) ?_
              refine seqQ_norm ?_
              refine W_cond (o := .tmp 66) (b := v56) (by kernel_rfl) (by kernel_rfl) (fun h58 => ?_) (fun h58 => ?_)
              · replace h := ofT h58 h
                refine W_seq (by kernel_rfl) ?_
                refine W_run 1 [] [4] [] (fr' := [(4, aI (4 : Int))]) (L' := []) (obs := []) (by kernel_rfl) (by kernel_rfl) (by kernel_rfl) allP0 ?_
                refine seqQ_norm ?_
                obtain rfl := Option.some.inj h
                refine W_ret [4] [] (fr' := [(4, aI (4 : Int))]) (L' := []) (by kernel_rfl) (by kernel_rfl) ?_
                refine blockQ_ret ?_
                refine seqQ_ret ?_
                exact retQ_mk (by kernel_rfl) (by kernel_rfl) (by kernel_rfl)
              · replace h := ofF h58 h
                refine W_skip [5, 7] [5, 2, 3] (fr' := [(5, .one (.ptr 5 0)), (7, .one (.fn 57 [(3, 0), (2, 0)]))]) (L' := [(5, .one (.pair tI (.pair tI (.pair tI (.pair tI (.pair tI (.slice tI)))))) v1), (2, .cells [.dat (.slice (.pair tI (.pair tI (.pair tI (.pair tI (.pair tI (.slice tI))))))) a0]), (3, .cells [.dat tI a1])]) (by kernel_rfl) (by kernel_rfl) ?_
                refine blockQ_norm ?_
                refine seqQ_norm ?_
                refine W_seq (by kernel_rfl) ?_
                refine W_run 1 [] [5, 7, 8] [5, 2, 3] (fr' := [(5, .one (.ptr 5 0)), (7, .one (.fn 57 [(3, 0), (2, 0)])), (8, .one (.nilS))]) (L' := [(5, .one (.pair tI (.pair tI (.pair tI (.pair tI (.pair tI (.slice tI)))))) v1), (2, .cells [.dat (.slice (.pair tI (.pair tI (.pair tI (.pair tI (.pair tI (.slice tI))))))) a0]), (3, .cells [.dat tI a1])]) (obs := []) (by kernel_rfl) (by kernel_rfl) (by kernel_rfl) allP0 ?_
                refine seqQ_norm ?_
                refine W_seq (by kernel_rfl) ?_
                obtain ⟨v152, h153, h⟩ := bind_of h
                refine W_cutK (Q' := (exQ .normal (funcs_wrong_s21 a0 a1 v1)) v152) ?_ ?_
                · replace h := h153
                  refine W_seq (by kernel_rfl) ?_
                  refine W_run 3 [] [5, 7, 8, 84] [5, 2, 3] (fr' := [(5, .one (.ptr 5 0)), (7, .one (.fn 57 [(3, 0), (2, 0)])), (8, .one (.nilS)), (84, aB (v1.1 == (4 : Int)))]) (L' := [(5, .one (.pair tI (.pair tI (.pair tI (.pair tI (.pair tI (.slice tI)))))) v1), (2, .cells [.dat (.slice (.pair tI (.pair tI (.pair tI (.pair tI (.pair tI (.slice tI))))))) a0]), (3, .cells [.dat tI a1])]) (obs := []) (by kernel_rfl) (by kernel_rfl) (by kernel_rfl) allP0 ?_
                  refine seqQ_norm ?_
                  refine W_cond (o := .tmp 84) (b := v1.1 == (4 : Int)) (by kernel_rfl) (by kernel_rfl) (fun h121 => ?_) (fun h121 => ?_)
                  · replace h := ofT h121 h
                    refine W_seq (by kernel_rfl) ?_
                    refine W_region (by kernel_rfl) ?_
                    refine WO_run (j := 7) (k := 7) (orcs := []) (kF := [5, 7, 8, 85, 86, 88, 91]) (kL := [2, 3, 5]) (fr' := [(5, .one (.ptr 5 0)), (7, .one (.fn 57 [(3, 0), (2, 0)])), (8, .one (.nilS)), (85, .one (.nilS)), (86, .one (.fn 57 [(3, 0), (2, 0)])), (88, aI v1.2.2.2.1), (91, aI (List.length v1.2.2.2.2.2 : Int))]) (L' := [(2, .cells [.dat (.slice (.pair tI (.pair tI (.pair tI (.pair tI (.pair tI (.slice tI))))))) a0]), (3, .cells [.dat tI a1]), (5, .one (.pair tI (.pair tI (.pair tI (.pair tI (.pair tI (.slice tI)))))) v1)]) (obs := []) rfl (by kernel_rfl) allP0 ?_
                    obtain ⟨r122, h123, h⟩ := bind_of h
                    refine WO_lend [(1000, 3), (1001, 2)] (us := [none, none, none, none]) (d := 92) (p := True) (j := 8) rfl ⟨by kernel_rfl, by kernel_rfl, by kernel_rfl⟩ trivial (funcs_wrong_1_ok h123) (by kernel_rfl) (by kernel_rfl) ?_
                    refine WO_run (j := 11) (k := 3) (orcs := []) (kF := [5, 7, 8]) (kL := [2, 3, 5, 93, 94]) (fr' := [(5, .one (.ptr 5 0)), (7, .one (.fn 57 [(3, 0), (2, 0)])), (8, .one (.slc 94))]) (L' := [(2, .cells [.dat (.slice (.pair tI (.pair tI (.pair tI (.pair tI (.pair tI (.slice tI))))))) a0]), (3, .cells [.dat tI a1]), (5, .one (.pair tI (.pair tI (.pair tI (.pair tI (.pair tI (.slice tI)))))) v1), (93, .seq tI [r122]), (94, .seq tI [r122])]) (obs := [SmallLen (List.length [r122])]) rfl (by kernel_rfl) (allP1 (by unfold SmallLen; exact of_decide_eq_true (by kernel_rfl))) ?_
                    refine WO_fin [5, 7, 8] [5, 2, 3, 94] (fr' := [(5, .one (.ptr 5 0)), (7, .one (.fn 57 [(3, 0), (2, 0)])), (8, .one (.slc 94))]) (L' := [(5, .one (.pair tI (.pair tI (.pair tI (.pair tI (.pair tI (.slice tI)))))) v1), (2, .cells [.dat (.slice (.pair tI (.pair tI (.pair tI (.pair tI (.pair tI (.slice tI))))))) a0]), (3, .cells [.dat tI a1]), (94, .seq tI [r122])]) (by kernel_rfl) (by kernel_rfl) ?_
                    refine seqQ_norm ?_
                    refine W_seq (by kernel_rfl) ?_
                    refine W_run 4 [] [5, 7, 8, 96, 97, 98] [5, 2, 3, 94] (fr' := [(5, .one (.ptr 5 0)), (7, .one (.fn 57 [(3, 0), (2, 0)])), (8, .one (.slc 94)), (96, aD (.slice tI) v1.2.2.2.2.2), (97, aI (List.length v1.2.2.2.2.2 : Int)), (98, aI (0 : Int))]) (L' := [(5, .one (.pair tI (.pair tI (.pair tI (.pair tI (.pair tI (.slice tI)))))) v1), (2, .cells [.dat (.slice (.pair tI (.pair tI (.pair tI (.pair tI (.pair tI (.slice tI))))))) a0]), (3, .cells [.dat tI a1]), (94, .seq tI [r122])]) (obs := []) (by kernel_rfl) (by kernel_rfl) (by kernel_rfl) allP0 ?_
                    refine seqQ_norm ?_
                    refine W_block (id := 1) (by kernel_rfl) ?_
                    obtain ⟨v147, h148, h⟩ := bind_of h
                    refine W_len (t := 96) (u := tI) (xs := v1.2.2.2.2.2) (by kernel_rfl) (fun h151 => ?_)
                    obtain ⟨h149, h150⟩ := forL_iter h151 h148
                    refine W_weaken [5, 7, 8, 96, 97, 98] [5, 2, 3, 94] (fr' := ((funcs_wrong_s12 a0 a1 v1) ((0 : Int), [r122])).1) (L' := ((funcs_wrong_s12 a0 a1 v1) ((0 : Int), [r122])).2) (by kernel_rfl) ?_
                    refine W_cutK (W_loop (S := (funcs_wrong_s12 a0 a1 v1)) (J := (exQ (.exit 1) (funcs_wrong_s13 a0 a1 v1))) (by kernel_rfl) ?_ h149 _ v147 h150) ?_
                    · rintro ⟨i137, x138⟩ s h
                      refine W_seq (by kernel_rfl) ?_
                      refine W_run 1 [] [5, 7, 8, 96, 97, 98, 99] [5, 2, 3, 94] (fr' := [(5, .one (.ptr 5 0)), (7, .one (.fn 57 [(3, 0), (2, 0)])), (8, .one (.slc 94)), (96, aD (.slice tI) v1.2.2.2.2.2), (97, aI (List.length v1.2.2.2.2.2 : Int)), (98, aI i137), (99, aB (decide (i137 < (List.length v1.2.2.2.2.2 : Int))))]) (L' := [(5, .one (.pair tI (.pair tI (.pair tI (.pair tI (.pair tI (.slice tI)))))) v1), (2, .cells [.dat (.slice (.pair tI (.pair tI (.pair tI (.pair tI (.pair tI (.slice tI))))))) a0]), (3, .cells [.dat tI a1]), (94, .seq tI x138)]) (obs := []) (by kernel_rfl) (by kernel_rfl) (by kernel_rfl) allP0 ?_
                      refine seqQ_norm ?_
                      refine W_seq (by kernel_rfl) ?_
                      refine W_cond (o := .tmp 99) (b := decide (i137 < (List.length v1.2.2.2.2.2 : Int))) (by kernel_rfl) (by kernel_rfl) (fun h142 => ?_) (fun h142 => ?_)
                      · replace h := stepL_true h142 h
                        obtain ⟨v140, _, h141, h, rfl⟩ := h
                        refine W_skip [5, 7, 8, 96, 97, 98] [5, 2, 3, 94] (fr' := [(5, .one (.ptr 5 0)), (7, .one (.fn 57 [(3, 0), (2, 0)])), (8, .one (.slc 94)), (96, aD (.slice tI) v1.2.2.2.2.2), (97, aI (List.length v1.2.2.2.2.2 : Int)), (98, aI i137)]) (L' := [(5, .one (.pair tI (.pair tI (.pair tI (.pair tI (.pair tI (.slice tI)))))) v1), (2, .cells [.dat (.slice (.pair tI (.pair tI (.pair tI (.pair tI (.pair tI (.slice tI))))))) a0]), (3, .cells [.dat tI a1]), (94, .seq tI x138)]) (by kernel_rfl) (by kernel_rfl) ?_
                        refine seqQ_norm ?_
                        refine W_seq (by kernel_rfl) ?_
                        refine W_block (id := 2) (by kernel_rfl) ?_
                        refine W_seq (by kernel_rfl) ?_
                        refine W_run 3 [(1, .val (.dat tI v140))] [5, 7, 8, 10, 96, 97, 98] [5, 2, 3, 94] (fr' := [(5, .one (.ptr 5 0)), (7, .one (.fn 57 [(3, 0), (2, 0)])), (8, .one (.slc 94)), (10, aI v140), (96, aD (.slice tI) v1.2.2.2.2.2), (97, aI (List.length v1.2.2.2.2.2 : Int)), (98, aI i137)]) (L' := [(5, .one (.pair tI (.pair tI (.pair tI (.pair tI (.pair tI (.slice tI)))))) v1), (2, .cells [.dat (.slice (.pair tI (.pair tI (.pair tI (.pair tI (.pair tI (.slice tI))))))) a0]), (3, .cells [.dat tI a1]), (94, .seq tI x138)]) (obs := [Idx v1.2.2.2.2.2 i137 v140]) (by kernel_rfl) (by kernel_rfl) (by kernel_rfl) (allP1 (Idx.of h141)) ?_
                        refine seqQ_norm ?_
                        refine W_region (by kernel_rfl) ?_
                        refine WO_run (j := 5) (k := 5) (orcs := []) (kF := [5, 7, 8, 96, 97, 98, 102, 103, 104, 106]) (kL := [2, 3, 5, 94]) (fr' := [(5, .one (.ptr 5 0)), (7, .one (.fn 57 [(3, 0), (2, 0)])), (8, .one (.slc 94)), (96, aD (.slice tI) v1.2.2.2.2.2), (97, aI (List.length v1.2.2.2.2.2 : Int)), (98, aI i137), (102, .one (.slc 94)), (103, .one (.fn 57 [(3, 0), (2, 0)])), (104, aI v140), (106, aI v1.2.1)]) (L' := [(2, .cells [.dat (.slice (.pair tI (.pair tI (.pair tI (.pair tI (.pair tI (.slice tI))))))) a0]), (3, .cells [.dat tI a1]), (5, .one (.pair tI (.pair tI (.pair tI (.pair tI (.pair tI (.slice tI)))))) v1), (94, .seq tI x138)]) (obs := []) rfl (by kernel_rfl) allP0 ?_
                        obtain ⟨r143, h144, h⟩ := bind_of h
                        refine WO_lend [(1000, 3), (1001, 2)] (us := [none, none, none, none]) (d := 107) (p := True) (j := 6) rfl ⟨by kernel_rfl, by kernel_rfl, by kernel_rfl⟩ trivial (funcs_wrong_1_ok h144) (by kernel_rfl) (by kernel_rfl) ?_
                        obtain ⟨_, h145, h⟩ := bind_of h
                        replace h145 := ck_some h145
                        refine WO_run (j := 9) (k := 3) (orcs := []) (kF := [5, 7, 8, 96, 97, 98]) (kL := [2, 3, 5, 94, 108]) (fr' := [(5, .one (.ptr 5 0)), (7, .one (.fn 57 [(3, 0), (2, 0)])), (8, .one (.slc 94)), (96, aD (.slice tI) v1.2.2.2.2.2), (97, aI (List.length v1.2.2.2.2.2 : Int)), (98, aI i137)]) (L' := [(2, .cells [.dat (.slice (.pair tI (.pair tI (.pair tI (.pair tI (.pair tI (.slice tI))))))) a0]), (3, .cells [.dat tI a1]), (5, .one (.pair tI (.pair tI (.pair tI (.pair tI (.pair tI (.slice tI)))))) v1), (94, .seq tI (x138 ++ [r143])), (108, .seq tI [r143])]) (obs := [SmallLen (List.length x138 + List.length [r143])]) rfl (by kernel_rfl) (allP1 h145) ?_
                        refine WO_fin [5, 7, 8, 96, 97, 98] [5, 2, 3, 94] (fr' := [(5, .one (.ptr 5 0)), (7, .one (.fn 57 [(3, 0), (2, 0)])), (8, .one (.slc 94)), (96, aD (.slice tI) v1.2.2.2.2.2), (97, aI (List.length v1.2.2.2.2.2 : Int)), (98, aI i137)]) (L' := [(5, .one (.pair tI (.pair tI (.pair tI (.pair tI (.pair tI (.slice tI)))))) v1), (2, .cells [.dat (.slice (.pair tI (.pair tI (.pair tI (.pair tI (.pair tI (.slice tI))))))) a0]), (3, .cells [.dat tI a1]), (94, .seq tI (x138 ++ [r143]))]) (by kernel_rfl) (by kernel_rfl) ?_
                        refine blockQ_norm ?_
                        refine seqQ_norm ?_
                        obtain rfl := Option.some.inj h
                        refine W_run 2 [] [5, 7, 8, 96, 97, 98] [5, 2, 3, 94] (fr' := [(5, .one (.ptr 5 0)), (7, .one (.fn 57 [(3, 0), (2, 0)])), (8, .one (.slc 94)), (96, aD (.slice tI) v1.2.2.2.2.2), (97, aI (List.length v1.2.2.2.2.2 : Int)), (98, aI (w64 (i137 + (1 : Int))))]) (L' := [(5, .one (.pair tI (.pair tI (.pair tI (.pair tI (.pair tI (.slice tI)))))) v1), (2, .cells [.dat (.slice (.pair tI (.pair tI (.pair tI (.pair tI (.pair tI (.slice tI))))))) a0]), (3, .cells [.dat tI a1]), (94, .seq tI (x138 ++ [r143]))]) (obs := []) (by kernel_rfl) (by kernel_rfl) (by kernel_rfl) allP0 ?_
                        exact round_next' (by kernel_rfl) (by kernel_rfl)
                      · obtain rfl := stepL_false h142 h
                        refine W_exit (id := 1) [5, 7, 8] [5, 2, 3, 94] (fr' := [(5, .one (.ptr 5 0)), (7, .one (.fn 57 [(3, 0), (2, 0)])), (8, .one (.slc 94))]) (L' := [(5, .one (.pair tI (.pair tI (.pair tI (.pair tI (.pair tI (.slice tI)))))) v1), (2, .cells [.dat (.slice (.pair tI (.pair tI (.pair tI (.pair tI (.pair tI (.slice tI))))))) a0]), (3, .cells [.dat tI a1]), (94, .seq tI x138)]) (by kernel_rfl) (by kernel_rfl) ?_
                        refine seqQ_exit ?_
                        refine round_exit ?_
                        exact exQ_mk (by kernel_rfl) (by kernel_rfl)
                    · intro e fr L hJ
                      obtain ⟨rfl, rfl, rfl⟩ := hJ
                      obtain rfl := Option.some.inj h
                      refine LT_keep [5, 7, 8] [5, 2, 3, 94] (fr' := [(5, .one (.ptr 5 0)), (7, .one (.fn 57 [(3, 0), (2, 0)])), (8, .one (.slc 94))]) (L' := [(5, .one (.pair tI (.pair tI (.pair tI (.pair tI (.pair tI (.slice tI)))))) v1), (2, .cells [.dat (.slice (.pair tI (.pair tI (.pair tI (.pair tI (.pair tI (.slice tI))))))) a0]), (3, .cells [.dat tI a1]), (94, .seq tI v147)]) (by kernel_rfl) ?_
                      refine blockQ_hit ?_
                      exact exQ_mk (by kernel_rfl) (by kernel_rfl)
                  · replace h := ofF h121 h
                    obtain rfl := Option.some.inj h
                    refine W_mine 8 94 tI (by kernel_rfl) ?_
                    refine W_skip [5, 7, 8] [5, 2, 3, 94] (fr' := [(5, .one (.ptr 5 0)), (7, .one (.fn 57 [(3, 0), (2, 0)])), (8, .one (.slc 94))]) (L' := [(5, .one (.pair tI (.pair tI (.pair tI (.pair tI (.pair tI (.slice tI)))))) v1), (2, .cells [.dat (.slice (.pair tI (.pair tI (.pair tI (.pair tI (.pair tI (.slice tI))))))) a0]), (3, .cells [.dat tI a1]), (94, .seq tI [])]) (by kernel_rfl) (by kernel_rfl) ?_
                    exact exQ_mk (by kernel_rfl) (by kernel_rfl)
                · intro e fr L hJ
                  obtain ⟨rfl, rfl, rfl⟩ := hJ
                  refine LT_keep [5, 7, 8] [5, 2, 3, 94] (fr' := [(5, .one (.ptr 5 0)), (7, .one (.fn 57 [(3, 0), (2, 0)])), (8, .one (.slc 94))]) (L' := [(5, .one (.pair tI (.pair tI (.pair tI (.pair tI (.pair tI (.slice tI)))))) v1), (2, .cells [.dat (.slice (.pair tI (.pair tI (.pair tI (.pair tI (.pair tI (.slice tI))))))) a0]), (3, .cells [.dat tI a1]), (94, .seq tI v152)]) (by kernel_rfl) ?_
                  refine seqQ_norm ?_
                  refine W_seq (by kernel_rfl) ?_
                  obtain ⟨v172, h173, h⟩ := bind_of h
                  refine W_cutK (Q' := (exQ .normal funcs_wrong_s20) v172) ?_ ?_
                  · replace h := h173
                    refine W_seq (by kernel_rfl) ?_
                    refine W_run 3 [] [5, 7, 8, 113] [5, 2, 3, 94] (fr' := [(5, .one (.ptr 5 0)), (7, .one (.fn 57 [(3, 0), (2, 0)])), (8, .one (.slc 94)), (113, aB (v1.1 == (5 : Int)))]) (L' := [(5, .one (.pair tI (.pair tI (.pair tI (.pair tI (.pair tI (.slice tI)))))) v1), (2, .cells [.dat (.slice (.pair tI (.pair tI (.pair tI (.pair tI (.pair tI (.slice tI))))))) a0]), (3, .cells [.dat tI a1]), (94, .seq tI v152)]) (obs := []) (by kernel_rfl) (by kernel_rfl) (by kernel_rfl) allP0 ?_
                    refine seqQ_norm ?_
                    refine W_cond (o := .tmp 113) (b := v1.1 == (5 : Int)) (by kernel_rfl) (by kernel_rfl) (fun h166 => ?_) (fun h166 => ?_)
                    · replace h := ofT h166 h
                      obtain ⟨r167, h168, h⟩ := bind_of h
                      obtain ⟨r169, h170, h⟩ := bind_of h
                      obtain ⟨_, h171, h⟩ := bind_of h
                      replace h171 := ck_some h171
                      obtain rfl := Option.some.inj h
                      refine W_draw4 15 [0] [] [(7, [none, none, none, none], aI r167), (14, [none, none, none, none], aI r169)] [8] [94] (fr' := [(8, .one (.slc 94))]) (L' := [(94, .seq tI (v152 ++ [r167, r169]))]) (out := [(114, .one (.slc 94)), (115, .one (.fn 57 [(3, 0), (2, 0)])), (116, .one (.ptr 5 3)), (117, aI v1.2.2.2.1), (118, .one (.ptr 5 1)), (119, aI v1.2.1), (120, aI (w64 (v1.2.1 - (1 : Int)))), (121, aI r167), (122, .one (.fn 57 [(3, 0), (2, 0)])), (123, .one (.ptr 5 4)), (124, aI v1.2.2.2.2.1), (125, .one (.ptr 5 1)), (126, aI v1.2.1), (127, aI (w64 (v1.2.1 + (1 : Int)))), (128, aI r169)]) (obs := [True, True]) (obs2 := [SmallLen (List.length v152 + List.length [r167, r169])]) (calls := [(57, [aI v1.2.2.2.1, aI (w64 (v1.2.1 - (1 : Int))), .one (.ptr 3 0), .one (.ptr 2 0)], aI r167), (57, [aI v1.2.2.2.2.1, aI (w64 (v1.2.1 + (1 : Int))), .one (.ptr 3 0), .one (.ptr 2 0)], aI r169)]) (by kernel_rfl) (by kernel_rfl) (by kernel_rfl) (by kernel_rfl) (allP2 trivial (allP1 trivial)) (allD2 [(1000, 3), (1001, 2)] _ _ (by kernel_rfl) (funcs_wrong_1_ok h168) (by kernel_rfl) (by kernel_rfl) (by kernel_rfl) (by kernel_rfl) (allD2 [(1000, 3), (1001, 2)] _ _ (by kernel_rfl) (funcs_wrong_1_ok h170) (by kernel_rfl) (by kernel_rfl) (by kernel_rfl) (by kernel_rfl) allD0)) (by kernel_rfl) (allP1 h171) ?_
                      exact exQ_mk (by kernel_rfl) (by kernel_rfl)
                    · replace h := ofF h166 h
                      obtain rfl := Option.some.inj h
                      refine W_skip [8] [94] (fr' := [(8, .one (.slc 94))]) (L' := [(94, .seq tI v152)]) (by kernel_rfl) (by kernel_rfl) ?_
                      exact exQ_mk (by kernel_rfl) (by kernel_rfl)
                  · intro e fr L hJ
                    obtain ⟨rfl, rfl, rfl⟩ := hJ
                    refine LT_keep [8] [94] (fr' := [(8, .one (.slc 94))]) (L' := [(94, .seq tI v172)]) (by kernel_rfl) ?_
                    refine seqQ_norm ?_
                    refine W_seq (by kernel_rfl) ?_
                    refine W_seq (by kernel_rfl) ?_
                    refine W_run 3 [] [8, 131, 132, 133] [94, 131] (fr' := [(8, .one (.slc 94)), (131, .one (.slc 131)), (132, aI (2 : Int)), (133, aI (0 : Int))]) (L' := [(94, .seq tI v172), (131, .seq tI [(2 : Int), (3 : Int)])]) (obs := []) (by kernel_rfl) (by kernel_rfl) (by kernel_rfl) allP0 ?_
                    refine seqQ_norm ?_
                    refine W_block (id := 3) (by kernel_rfl) ?_
                    obtain ⟨v196, h197, h⟩ := bind_of h
                    obtain ⟨h198, h199⟩ := forI_iter h197
                    refine W_weaken [8, 131, 132, 133] [94, 131] (fr' := ((funcs_wrong_s17 v172) ((0 : Int), ())).1) (L' := ((funcs_wrong_s17 v172) ((0 : Int), ())).2) (by kernel_rfl) ?_
                    refine W_cutK (W_loop (S := (funcs_wrong_s17 v172)) (J := (escQ (exQ .ret funcs_wrong_s18) (exQ (.exit 3) funcs_wrong_s19))) (by kernel_rfl) ?_ h198 _ v196 h199) ?_
                    · rintro ⟨i186, x187⟩ s h
                      refine W_seq (by kernel_rfl) ?_
                      refine W_run 1 [] [8, 131, 132, 133, 134] [94, 131] (fr' := [(8, .one (.slc 94)), (131, .one (.slc 131)), (132, aI (2 : Int)), (133, aI i186), (134, aB (decide (i186 < (2 : Int))))]) (L' := [(94, .seq tI v172), (131, .seq tI [(2 : Int), (3 : Int)])]) (obs := []) (by kernel_rfl) (by kernel_rfl) (by kernel_rfl) allP0 ?_
                      refine seqQ_norm ?_
                      refine W_seq (by kernel_rfl) ?_
                      refine W_cond (o := .tmp 134) (b := decide (i186 < (2 : Int))) (by kernel_rfl) (by kernel_rfl) (fun h189 => ?_) (fun h189 => ?_)
                      · replace h := stepI_true h189 h
                        obtain ⟨_, h, rfl⟩ := h
                        refine W_skip [8, 131, 132, 133] [94, 131] (fr' := [(8, .one (.slc 94)), (131, .one (.slc 131)), (132, aI (2 : Int)), (133, aI i186)]) (L' := [(94, .seq tI v172), (131, .seq tI [(2 : Int), (3 : Int)])]) (by kernel_rfl) (by kernel_rfl) ?_
                        refine seqQ_norm ?_
                        refine W_seq (by kernel_rfl) ?_
                        refine W_block (id := 4) (by kernel_rfl) ?_
                        refine W_seq (by kernel_rfl) ?_
                        obtain ⟨v190, h191, h⟩ := bind_of h
                        refine W_run 3 [(3, .val (.dat tI v190))] [8, 12, 131, 132, 133] [94, 131] (fr' := [(8, .one (.slc 94)), (12, aI v190), (131, .one (.slc 131)), (132, aI (2 : Int)), (133, aI i186)]) (L' := [(94, .seq tI v172), (131, .seq tI [(2 : Int), (3 : Int)])]) (obs := [InR i186 (List.length [(2 : Int), (3 : Int)]), Idx [(2 : Int), (3 : Int)] i186 v190]) (by kernel_rfl) (by kernel_rfl) (by kernel_rfl) (allP2 (InR.of h191) (allP1 (Idx.of h191))) ?_
                        refine seqQ_norm ?_
                        refine W_seq (by kernel_rfl) ?_
                        refine W_region (by kernel_rfl) ?_
                        refine WO_run (j := 2) (k := 2) (orcs := []) (kF := [8, 12, 131, 132, 133, 137, 138]) (kL := [94, 131]) (fr' := [(8, .one (.slc 94)), (12, aI v190), (131, .one (.slc 131)), (132, aI (2 : Int)), (133, aI i186), (137, .one (.slc 94)), (138, aI v190)]) (L' := [(94, .seq tI v172), (131, .seq tI [(2 : Int), (3 : Int)])]) (obs := []) rfl (by kernel_rfl) allP0 ?_
                        obtain ⟨r192, h193, h⟩ := bind_of h
                        refine WO_lend [(1000, 94)] (us := [none, none]) (d := 139) (p := True) (j := 3) rfl ⟨by kernel_rfl, by kernel_rfl, by kernel_rfl⟩ trivial (slices_Contains_LapiErrnoapiErrno_ok h193) (by kernel_rfl) (by kernel_rfl) ?_
                        refine WO_fin [8, 12, 131, 132, 133, 139] [94, 131] (fr' := [(8, .one (.slc 94)), (12, aI v190), (131, .one (.slc 131)), (132, aI (2 : Int)), (133, aI i186), (139, aB r192)]) (L' := [(94, .seq tI v172), (131, .seq tI [(2 : Int), (3 : Int)])]) (by kernel_rfl) (by kernel_rfl) ?_
                        refine seqQ_norm ?_
                        refine W_cond (o := .tmp 139) (b := r192) (by kernel_rfl) (by kernel_rfl) (fun h194 => ?_) (fun h194 => ?_)
                        · replace h := ofT h194 h
                          refine W_seq (by kernel_rfl) ?_
                          refine W_run 2 [] [4] [] (fr' := [(4, aI v190)]) (L' := []) (obs := []) (by kernel_rfl) (by kernel_rfl) (by kernel_rfl) allP0 ?_
                          refine seqQ_norm ?_
                          obtain rfl := Option.some.inj h
                          refine W_ret [4] [] (fr' := [(4, aI v190)]) (L' := []) (by kernel_rfl) (by kernel_rfl) ?_
                          refine blockQ_ret ?_
                          refine seqQ_ret ?_
                          refine round_ret ?_
                          refine escQ_ret ?_
                          exact exQ_mk (by kernel_rfl) (by kernel_rfl)
                        · replace h := ofF h194 h
                          refine W_skip [8, 131, 132, 133] [94, 131] (fr' := [(8, .one (.slc 94)), (131, .one (.slc 131)), (132, aI (2 : Int)), (133, aI i186)]) (L' := [(94, .seq tI v172), (131, .seq tI [(2 : Int), (3 : Int)])]) (by kernel_rfl) (by kernel_rfl) ?_
                          refine blockQ_norm ?_
                          refine seqQ_norm ?_
                          obtain rfl := Option.some.inj h
                          refine W_run 2 [] [8, 131, 132, 133] [94, 131] (fr' := [(8, .one (.slc 94)), (131, .one (.slc 131)), (132, aI (2 : Int)), (133, aI (w64 (i186 + (1 : Int))))]) (L' := [(94, .seq tI v172), (131, .seq tI [(2 : Int), (3 : Int)])]) (obs := []) (by kernel_rfl) (by kernel_rfl) (by kernel_rfl) allP0 ?_
                          exact round_next' (by kernel_rfl) (by kernel_rfl)
                      · obtain rfl := stepI_false h189 h
                        refine W_exit (id := 3) [] [] (fr' := []) (L' := []) (by kernel_rfl) (by kernel_rfl) ?_
                        refine seqQ_exit ?_
                        refine round_exit ?_
                        refine escQ_brk ?_
                        exact exQ_mk (by kernel_rfl) (by kernel_rfl)
                    · intro e fr L hJ
                      rcases v196 with v200 | v201
                      · obtain ⟨rfl, rfl, rfl⟩ := hJ
                        obtain rfl := Option.some.inj h
                        refine LT_keep [4] [] (fr' := [(4, aI v200)]) (L' := []) (by kernel_rfl) ?_
                        refine blockQ_ret ?_
                        refine seqQ_ret ?_
                        exact retQ_mk (by kernel_rfl) (by kernel_rfl) (by kernel_rfl)
                      · obtain ⟨rfl, rfl, rfl⟩ := hJ
                        refine LT_keep [] [] (fr' := []) (L' := []) (by kernel_rfl) ?_
                        refine blockQ_hit ?_
                        refine seqQ_norm ?_
                        refine W_seq (by kernel_rfl) ?_
                        refine W_run 1 [] [4] [] (fr' := [(4, aI (0 : Int))]) (L' := []) (obs := []) (by kernel_rfl) (by kernel_rfl) (by kernel_rfl) allP0 ?_
                        refine seqQ_norm ?_
                        obtain rfl := Option.some.inj h
                        refine W_ret [4] [] (fr' := [(4, aI (0 : Int))]) (L' := []) (by kernel_rfl) (by kernel_rfl) ?_
                        exact retQ_mk (by kernel_rfl) (by kernel_rfl) (by kernel_rfl)

def funcs_Check_b1 (a0 : (List (Int × (Int × (Int × (Int × (Int × (List Int)))))))) (i12 : Int) (v15 : (Int × (Int × (Int × (Int × (Int × (List Int))))))) (x13 : Unit) : Option (Flow Unit (Esc Int Unit)) :=
(funcs_wrong a0 i12).bind fun r18 =>
bif r18 != (0 : Int) then
(some (.done (.ret r18)))
else
(some (.next ()))
@[reducible] def funcs_Check_s2 (a0 : (List (Int × (Int × (Int × (Int × (Int × (List Int)))))))) (v : Int × Unit) : Fr × LL := ([(0, aD (.slice (.pair tI (.pair tI (.pair tI (.pair tI (.pair tI (.slice tI))))))) a0), (14, aI (List.length a0 : Int)), (15, aI v.1)], [])
@[reducible] def funcs_Check_s3 (v : Int) : Fr × LL := ([(2, aI v)], [])
@[reducible] def funcs_Check_s4 (v : Unit) : Fr × LL := ([], [])
def funcs_Check (a0 : (List (Int × (Int × (Int × (Int × (Int × (List Int)))))))) : Option Int :=
bif (decide ((List.length a0 : Int) < (1 : Int))) || (decide ((List.length a0 : Int) > (12 : Int))) then
(some (1 : Int))
else
((forL (funcs_Check_b1 a0) (fun x13 => (.brk ())) a0 0 ()).bind fun v22 =>
match v22 with
| .ret v27 =>
(some v27)
| .brk v28 =>
(some (0 : Int)))
theorem funcs_Check_ok {a0 : (List (Int × (Int × (Int × (Int × (Int × (List Int)))))))} {r : Int} (h : funcs_Check a0 = some r) : FnC Try.prog 31 [aD (.slice (.pair tI (.pair tI (.pair tI (.pair tI (.pair tI (.slice tI))))))) a0] [] (aI r) [] := by
  refine fnC_of_W (B := bodyOf Try.f31) (n := 25) Try.func31 (by kernel_rfl) (by kernel_rfl) (by kernel_rfl) (by kernel_rfl) (by kernel_rfl) ?_
  intro K
  refine W_seq (by kernel_rfl) ?_
  refine W_run 1 [] [0] [] (fr' := [(0, aD (.slice (.pair tI (.pair tI (.pair tI (.pair tI (.pair tI (.slice tI))))))) a0)]) (L' := []) (obs := []) (by kernel_rfl) (by kernel_rfl) (by kernel_rfl) allP0 ?_
  refine seqQ_norm ?_
  refine W_seq (by kernel_rfl) ?_
  refine W_seq (by kernel_rfl) ?_
  refine W_run 8 [] [0, 12] [] (fr' := [(0, aD (.slice (.pair tI (.pair tI (.pair tI (.pair tI (.pair tI (.slice tI))))))) a0), (12, aB ((decide ((List.length a0 : Int) < (1 : Int))) || (decide ((List.length a0 : Int) > (12 : Int)))))]) (L' := []) (obs := []) (by kernel_rfl) (by kernel_rfl) (by kernel_rfl) allP0 ?_
  refine seqQ_norm ?_
  refine W_cond (o := .tmp 12) (b := (decide ((List.length a0 : Int) < (1 : Int))) || (decide ((List.length a0 : Int) > (12 : Int)))) (by kernel_rfl) (by kernel_rfl) (fun h1 => ?_) (fun h1 => ?_)
  · replace h := ofT h1 h
    refine W_seq (by kernel_rfl) ?_
    refine W_run 1 [] [2] [] (fr' := [(2, aI (1 : Int))]) (L' := []) (obs := []) (by kernel_rfl) (by kernel_rfl) (by kernel_rfl) allP0 ?_
    refine seqQ_norm ?_
    obtain rfl := Option.some.inj h
    refine W_ret [2] [] (fr' := [(2, aI (1 : Int))]) (L' := []) (by kernel_rfl) (by kernel_rfl) ?_
    refine seqQ_ret ?_
    exact retQ_mk (by kernel_rfl) (by kernel_rfl) (by kernel_rfl)
  · replace h := ofF h1 h
    refine W_skip [0] [] (fr' := [(0, aD (.slice (.pair tI (.pair tI (.pair tI (.pair tI (.pair tI (.slice tI))))))) a0)]) (L' := []) (by kernel_rfl) (by kernel_rfl) ?_
    refine seqQ_norm ?_
    refine W_seq (by kernel_rfl) ?_
    refine W_seq (by kernel_rfl) ?_
    refine W_run 3 [] [0, 14, 15] [] (fr' := [(0, aD (.slice (.pair tI (.pair tI (.pair tI (.pair tI (.pair tI (.slice tI))))))) a0), (14, aI (List.length a0 : Int)), (15, aI (0 : Int))]) (L' := []) (obs := []) (by kernel_rfl) (by kernel_rfl) (by kernel_rfl) allP0 ?_
    refine seqQ_norm ?_
    refine W_block (id := 0) (by kernel_rfl) ?_
    obtain ⟨v22, h23, h⟩ := bind_of h
    refine W_len (t := 0) (u := (.pair tI (.pair tI (.pair tI (.pair tI (.pair tI (.slice tI))))))) (xs := a0) (by kernel_rfl) (fun h26 => ?_)
    obtain ⟨h24, h25⟩ := forL_iter h26 h23
    refine W_weaken [0, 14, 15] [] (fr' := ((funcs_Check_s2 a0) ((0 : Int), ())).1) (L' := ((funcs_Check_s2 a0) ((0 : Int), ())).2) (by kernel_rfl) ?_
    refine W_cutK (W_loop (S := (funcs_Check_s2 a0)) (J := (escQ (exQ .ret funcs_Check_s3) (exQ (.exit 0) funcs_Check_s4))) (by kernel_rfl) ?_ h24 _ v22 h25) ?_
    · rintro ⟨i12, x13⟩ s h
      refine W_seq (by kernel_rfl) ?_
      refine W_run 1 [] [0, 14, 15, 16] [] (fr' := [(0, aD (.slice (.pair tI (.pair tI (.pair tI (.pair tI (.pair tI (.slice tI))))))) a0), (14, aI (List.length a0 : Int)), (15, aI i12), (16, aB (decide (i12 < (List.length a0 : Int))))]) (L' := []) (obs := []) (by kernel_rfl) (by kernel_rfl) (by kernel_rfl) allP0 ?_
      refine seqQ_norm ?_
      refine W_seq (by kernel_rfl) ?_
      refine W_cond (o := .tmp 16) (b := decide (i12 < (List.length a0 : Int))) (by kernel_rfl) (by kernel_rfl) (fun h17 => ?_) (fun h17 => ?_)
      · replace h := stepL_true h17 h
        obtain ⟨v15, _, h16, h, rfl⟩ := h
        refine W_skip [0, 14, 15] [] (fr' := [(0, aD (.slice (.pair tI (.pair tI (.pair tI (.pair tI (.pair tI (.slice tI))))))) a0), (14, aI (List.length a0 : Int)), (15, aI i12)]) (L' := []) (by kernel_rfl) (by kernel_rfl) ?_
        refine seqQ_norm ?_
        refine W_seq (by kernel_rfl) ?_
        refine W_block (id := 1) (by kernel_rfl) ?_
        refine W_seq (by kernel_rfl) ?_
        refine W_run 2 [] [0, 3, 14, 15] [] (fr' := [(0, aD (.slice (.pair tI (.pair tI (.pair tI (.pair tI (.pair tI (.slice tI))))))) a0), (3, aI i12), (14, aI (List.length a0 : Int)), (15, aI i12)]) (L' := []) (obs := []) (by kernel_rfl) (by kernel_rfl) (by kernel_rfl) allP0 ?_
        refine seqQ_norm ?_
        refine W_seq (by kernel_rfl) ?_
        refine W_region (by kernel_rfl) ?_
        refine WO_run (j := 2) (k := 2) (orcs := []) (kF := [0, 14, 15, 18, 19]) (kL := []) (fr' := [(0, aD (.slice (.pair tI (.pair tI (.pair tI (.pair tI (.pair tI (.slice tI))))))) a0), (14, aI (List.length a0 : Int)), (15, aI i12), (18, aD (.slice (.pair tI (.pair tI (.pair tI (.pair tI (.pair tI (.slice tI))))))) a0), (19, aI i12)]) (L' := []) (obs := []) rfl (by kernel_rfl) allP0 ?_
        obtain ⟨r18, h19, h⟩ := bind_of h
        refine WO_call0 (us := [none, none]) (d := 20) (p := True) (j := 3) rfl ⟨by kernel_rfl, by kernel_rfl, by kernel_rfl⟩ trivial (funcs_wrong_ok h19) (by kernel_rfl) ?_
        refine WO_run (j := 4) (k := 1) (orcs := []) (kF := [0, 4, 14, 15]) (kL := []) (fr' := [(0, aD (.slice (.pair tI (.pair tI (.pair tI (.pair tI (.pair tI (.slice tI))))))) a0), (4, aI r18), (14, aI (List.length a0 : Int)), (15, aI i12)]) (L' := []) (obs := []) rfl (by kernel_rfl) allP0 ?_
        refine WO_fin [0, 4, 14, 15] [] (fr' := [(0, aD (.slice (.pair tI (.pair tI (.pair tI (.pair tI (.pair tI (.slice tI))))))) a0), (4, aI r18), (14, aI (List.length a0 : Int)), (15, aI i12)]) (L' := []) (by kernel_rfl) (by kernel_rfl) ?_
        refine seqQ_norm ?_
        refine W_seq (by kernel_rfl) ?_
        refine W_run 2 [] [0, 4, 14, 15, 22] [] (fr' := [(0, aD (.slice (.pair tI (.pair tI (.pair tI (.pair tI (.pair tI (.slice tI))))))) a0), (4, aI r18), (14, aI (List.length a0 : Int)), (15, aI i12), (22, aB (r18 != (0 : Int)))]) (L' := []) (obs := []) (by kernel_rfl) (by kernel_rfl) (by kernel_rfl) allP0 ?_
        refine seqQ_norm ?_
        refine W_cond (o := .tmp 22) (b := r18 != (0 : Int)) (by kernel_rfl) (by kernel_rfl) (fun h20 => ?_) (fun h20 => ?_)
        · replace h := ofT h20 h
          refine W_seq (by kernel_rfl) ?_
          refine W_run 2 [] [2] [] (fr' := [(2, aI r18)]) (L' := []) (obs := []) (by kernel_rfl) (by kernel_rfl) (by kernel_rfl) allP0 ?_
          refine seqQ_norm ?_
          obtain rfl := Option.some.inj h
          refine W_ret [2] [] (fr' := [(2, aI r18)]) (L' := []) (by kernel_rfl) (by kernel_rfl) ?_
          refine blockQ_ret ?_
          refine seqQ_ret ?_
          refine round_ret ?_
          refine escQ_ret ?_
          exact exQ_mk (by kernel_rfl) (by kernel_rfl)
        · replace h := ofF h20 h
          refine W_skip [0, 14, 15] [] (fr' := [(0, aD (.slice (.pair tI (.pair tI (.pair tI (.pair tI (.pair tI (.slice tI))))))) a0), (14, aI (List.length a0 : Int)), (15, aI i12)]) (L' := []) (by kernel_rfl) (by kernel_rfl) ?_
          refine blockQ_norm ?_
          refine seqQ_norm ?_
          obtain rfl := Option.some.inj h
          refine W_run 2 [] [0, 14, 15] [] (fr' := [(0, aD (.slice (.pair tI (.pair tI (.pair tI (.pair tI (.pair tI (.slice tI))))))) a0), (14, aI (List.length a0 : Int)), (15, aI (w64 (i12 + (1 : Int))))]) (L' := []) (obs := []) (by kernel_rfl) (by kernel_rfl) (by kernel_rfl) allP0 ?_
          exact round_next' (by kernel_rfl) (by kernel_rfl)
      · obtain rfl := stepL_false h17 h
        refine W_exit (id := 0) [] [] (fr' := []) (L' := []) (by kernel_rfl) (by kernel_rfl) ?_
        refine seqQ_exit ?_
        refine round_exit ?_
        refine escQ_brk ?_
        exact exQ_mk (by kernel_rfl) (by kernel_rfl)
    · intro e fr L hJ
      rcases v22 with v27 | v28
      · obtain ⟨rfl, rfl, rfl⟩ := hJ
        obtain rfl := Option.some.inj h
        refine LT_keep [2] [] (fr' := [(2, aI v27)]) (L' := []) (by kernel_rfl) ?_
        refine blockQ_ret ?_
        refine seqQ_ret ?_
        exact retQ_mk (by kernel_rfl) (by kernel_rfl) (by kernel_rfl)
      · obtain ⟨rfl, rfl, rfl⟩ := hJ
        refine LT_keep [] [] (fr' := []) (L' := []) (by kernel_rfl) ?_
        refine blockQ_hit ?_
        refine seqQ_norm ?_
        refine W_seq (by kernel_rfl) ?_
        refine W_run 1 [] [2] [] (fr' := [(2, aI (0 : Int))]) (L' := []) (obs := []) (by kernel_rfl) (by kernel_rfl) (by kernel_rfl) allP0 ?_
        refine seqQ_norm ?_
        obtain rfl := Option.some.inj h
        refine W_ret [2] [] (fr' := [(2, aI (0 : Int))]) (L' := []) (by kernel_rfl) (by kernel_rfl) ?_
        exact retQ_mk (by kernel_rfl) (by kernel_rfl) (by kernel_rfl)

def funcs_Rank_b40 (x235 : (List Int)) (i428 : Int) (v431 : Int) (x429 : Int) : Option (Flow Int Int) :=
(idx x235 v431).bind fun v434 =>
some (.next (imax x429 (w64 (v434 + (2 : Int)))))
@[reducible] def funcs_Rank_s41 (a0 : (List (Int × (Int × (Int × (Int × (Int × (List Int)))))))) (i234 : Int) (x235 : (List Int)) (v237 : (Int × (Int × (Int × (Int × (Int × (List Int))))))) (v : Int × Int) : Fr × LL := ([(5, .one (.slc 64)), (8, aI v.2), (16, aD (.slice (.pair tI (.pair tI (.pair tI (.pair tI (.pair tI (.slice tI))))))) a0), (17, aI (List.length a0 : Int)), (18, aI i234), (33, aD (.slice tI) v237.2.2.2.2.2), (34, aI (List.length v237.2.2.2.2.2 : Int)), (35, aI v.1)], [(64, .seq tI x235)])
@[reducible] def funcs_Rank_s42 (a0 : (List (Int × (Int × (Int × (Int × (Int × (List Int)))))))) (i234 : Int) (x235 : (List Int)) (v : Int) : Fr × LL := ([(5, .one (.slc 64)), (8, aI v), (16, aD (.slice (.pair tI (.pair tI (.pair tI (.pair tI (.pair tI (.slice tI))))))) a0), (17, aI (List.length a0 : Int)), (18, aI i234)], [(64, .seq tI x235)])
def funcs_Rank_g43 (x235 : (List Int)) (v237 : (Int × (Int × (Int × (Int × (Int × (List Int))))))) : Option Int :=
bif v237.1 == (4 : Int) then
((idx x235 v237.2.2.2.1).bind fun v414 =>
(forL (funcs_Rank_b40 x235) (fun x429 => x429) v237.2.2.2.2.2 0 (w64 (v414 + (2 : Int)))).bind fun v437 =>
some v437)
else
(bif v237.1 == (5 : Int) then
((idx x235 v237.2.2.2.1).bind fun v443 =>
(idx x235 v237.2.2.2.2.1).bind fun v445 =>
some (w64 ((imax v443 v445) + (3 : Int))))
else
(some (1 : Int)))
@[reducible] def funcs_Rank_s44 (a0 : (List (Int × (Int × (Int × (Int × (Int × (List Int)))))))) (i234 : Int) (x235 : (List Int)) (v : Int) : Fr × LL := ([(5, .one (.slc 64)), (8, aI v), (16, aD (.slice (.pair tI (.pair tI (.pair tI (.pair tI (.pair tI (.slice tI))))))) a0), (17, aI (List.length a0 : Int)), (18, aI i234)], [(64, .seq tI x235)])
def funcs_Rank_b45 (i234 : Int) (v237 : (Int × (Int × (Int × (Int × (Int × (List Int))))))) (x235 : (List Int)) : Option (Flow (List Int) (List Int)) :=
(funcs_Rank_g43 x235 v237).bind fun v447 =>
(ck ((List.length x235 : Int) + 1 ≤ 4294967296)).bind fun _ =>
some (.next (x235 ++ [v447]))
@[reducible] def funcs_Rank_s46 (a0 : (List (Int × (Int × (Int × (Int × (Int × (List Int)))))))) (v : Int × (List Int)) : Fr × LL := ([(5, .one (.slc 64)), (16, aD (.slice (.pair tI (.pair tI (.pair tI (.pair tI (.pair tI (.slice tI))))))) a0), (17, aI (List.length a0 : Int)), (18, aI v.1)], [(64, .seq tI v.2)])
@[reducible] def funcs_Rank_s47 (v : (List Int)) : Fr × LL := ([(5, .one (.slc 64))], [(64, .seq tI v)])
def funcs_Rank (a0 : (List (Int × (Int × (Int × (Int × (Int × (List Int)))))))) : Option (Int × Int) :=
(funcs_Check a0).bind fun r1 =>
bif r1 != (0 : Int) then
(some ((0 : Int), r1))
else
((forL funcs_Rank_b45 (fun x235 => x235) a0 0 []).bind fun v451 =>
(idx v451 (w64 ((List.length v451 : Int) - (1 : Int)))).bind fun v456 =>
some (v456, (0 : Int)))
theorem funcs_Rank_ok {a0 : (List (Int × (Int × (Int × (Int × (Int × (List Int)))))))} {r : (Int × Int)} (h : funcs_Rank a0 = some r) : FnC Try.prog 33 [aD (.slice (.pair tI (.pair tI (.pair tI (.pair tI (.pair tI (.slice tI))))))) a0] [] (.tup [.dat tI r.1, .dat tI r.2]) [] := by
  refine fnC_of_W (B := bodyOf Try.f33) (n := 72) Try.func33 (by kernel_rfl) (by kernel_rfl) (by kernel_rfl) (by kernel_rfl) (by kernel_rfl) ?_
  intro K
  refine W_seq (by kernel_rfl) ?_
  refine W_run 2 [] [0] [] (fr' := [(0, aD (.slice (.pair tI (.pair tI (.pair tI (.pair tI (.pair tI (.slice tI))))))) a0)]) (L' := []) (obs := []) (by kernel_rfl) (by kernel_rfl) (by kernel_rfl) allP0 ?_
  refine seqQ_norm ?_
  refine W_seq (by kernel_rfl) ?_
  refine W_seq (by kernel_rfl) ?_
  refine W_region (by kernel_rfl) ?_
  refine WO_run (j := 1) (k := 1) (orcs := []) (kF := [0, 11]) (kL := []) (fr' := [(0, aD (.slice (.pair tI (.pair tI (.pair tI (.pair tI (.pair tI (.slice tI))))))) a0), (11, aD (.slice (.pair tI (.pair tI (.pair tI (.pair tI (.pair tI (.slice tI))))))) a0)]) (L' := []) (obs := []) rfl (by kernel_rfl) allP0 ?_
  obtain ⟨r1, h2, h⟩ := bind_of h
  refine WO_call0 (us := [none]) (d := 12) (p := True) (j := 2) rfl ⟨by kernel_rfl, by kernel_rfl, by kernel_rfl⟩ trivial (funcs_Check_ok h2) (by kernel_rfl) ?_
  refine WO_run (j := 3) (k := 1) (orcs := []) (kF := [0, 4]) (kL := []) (fr' := [(0, aD (.slice (.pair tI (.pair tI (.pair tI (.pair tI (.pair tI (.slice tI))))))) a0), (4, aI r1)]) (L' := []) (obs := []) rfl (by kernel_rfl) allP0 ?_
  refine WO_fin [0, 4] [] (fr' := [(0, aD (.slice (.pair tI (.pair tI (.pair tI (.pair tI (.pair tI (.slice tI))))))) a0), (4, aI r1)]) (L' := []) (by kernel_rfl) (by kernel_rfl) ?_
  refine seqQ_norm ?_
  refine W_seq (by kernel_rfl) ?_
  refine W_run 2 [] [0, 4, 14] [] (fr' := [(0, aD (.slice (.pair tI (.pair tI (.pair tI (.pair tI (.pair tI (.slice tI))))))) a0), (4, aI r1), (14, aB (r1 != (0 : Int)))]) (L' := []) (obs := []) (by kernel_rfl) (by kernel_rfl) (by kernel_rfl) allP0 ?_
  refine seqQ_norm ?_
  refine W_cond (o := .tmp 14) (b := r1 != (0 : Int)) (by kernel_rfl) (by kernel_rfl) (fun h3 => ?_) (fun h3 => ?_)
  · replace h := ofT h3 h
    refine W_seq (by kernel_rfl) ?_
    refine W_run 3 [] [2, 3] [] (fr' := [(2, aI (0 : Int)), (3, aI r1)]) (L' := []) (obs := []) (by kernel_rfl) (by kernel_rfl) (by kernel_rfl) allP0 ?_
    refine seqQ_norm ?_
    obtain rfl := Option.some.inj h
    refine W_ret [2, 3] [] (fr' := [(2, aI (0 : Int)), (3, aI r1)]) (L' := []) (by kernel_rfl) (by kernel_rfl) ?_
    refine seqQ_ret ?_
    exact retQ_mk (by kernel_rfl) (by kernel_rfl) (by kernel_rfl)
  · replace h := ofF h3 h
    refine W_skip [0] [] (fr' := [(0, aD (.slice (.pair tI (.pair tI (.pair tI (.pair tI (.pair tI (.slice tI))))))) a0)]) (L' := []) (by kernel_rfl) (by kernel_rfl) ?_
    refine seqQ_norm ?_
    refine W_seq (by kernel_rfl) ?_
    refine W_run 1 [] [0, 5] [] (fr' := [(0, aD (.slice (.pair tI (.pair tI (.pair tI (.pair tI (.pair tI (.slice tI))))))) a0), (5, .one (.nilS))]) (L' := []) (obs := []) (by kernel_rfl) (by kernel_rfl) (by kernel_rfl) allP0 ?_
    refine seqQ_norm ?_
    refine W_seq (by kernel_rfl) ?_
    refine W_seq (by kernel_rfl) ?_
    refine W_run 3 [] [5, 16, 17, 18] [] (fr' := [(5, .one (.nilS)), (16, aD (.slice (.pair tI (.pair tI (.pair tI (.pair tI (.pair tI (.slice tI))))))) a0), (17, aI (List.length a0 : Int)), (18, aI (0 : Int))]) (L' := []) (obs := []) (by kernel_rfl) (by kernel_rfl) (by kernel_rfl) allP0 ?_
    refine seqQ_norm ?_
    refine W_block (id := 0) (by kernel_rfl) ?_
    obtain ⟨v451, h452, h⟩ := bind_of h
    refine W_len (t := 16) (u := (.pair tI (.pair tI (.pair tI (.pair tI (.pair tI (.slice tI))))))) (xs := a0) (by kernel_rfl) (fun h455 => ?_)
    obtain ⟨h453, h454⟩ := forL_iter h455 h452
    refine W_mine 5 64 tI (by kernel_rfl) ?_
    refine W_weaken [5, 16, 17, 18] [64] (fr' := ((funcs_Rank_s46 a0) ((0 : Int), [])).1) (L' := ((funcs_Rank_s46 a0) ((0 : Int), [])).2) (by kernel_rfl) ?_
    refine W_cutK (W_loop (S := (funcs_Rank_s46 a0)) (J := (exQ (.exit 0) funcs_Rank_s47)) (by kernel_rfl) ?_ h453 _ v451 h454) ?_
    · rintro ⟨i234, x235⟩ s h
      refine W_seq (by kernel_rfl) ?_
      refine W_run 1 [] [5, 16, 17, 18, 19] [64] (fr' := [(5, .one (.slc 64)), (16, aD (.slice (.pair tI (.pair tI (.pair tI (.pair tI (.pair tI (.slice tI))))))) a0), (17, aI (List.length a0 : Int)), (18, aI i234), (19, aB (decide (i234 < (List.length a0 : Int))))]) (L' := [(64, .seq tI x235)]) (obs := []) (by kernel_rfl) (by kernel_rfl) (by kernel_rfl) allP0 ?_
      refine seqQ_norm ?_
      refine W_seq (by kernel_rfl) ?_
      refine W_cond (o := .tmp 19) (b := decide (i234 < (List.length a0 : Int))) (by kernel_rfl) (by kernel_rfl) (fun h239 => ?_) (fun h239 => ?_)
      · replace h := stepL_true h239 h
        obtain ⟨v237, _, h238, h, rfl⟩ := h
        refine W_skip [5, 16, 17, 18] [64] (fr' := [(5, .one (.slc 64)), (16, aD (.slice (.pair tI (.pair tI (.pair tI (.pair tI (.pair tI (.slice tI))))))) a0), (17, aI (List.length a0 : Int)), (18, aI i234)]) (L' := [(64, .seq tI x235)]) (by kernel_rfl) (by kernel_rfl) ?_
        refine seqQ_norm ?_
        refine W_seq (by kernel_rfl) ?_
        refine W_block (id := 1) (by kernel_rfl) ?_
        refine W_seq (by kernel_rfl) ?_
        refine W_run 4 [(1, .val (.dat (.pair tI (.pair tI (.pair tI (.pair tI (.pair tI (.slice tI)))))) v237)), (5, .typed)] [5, 7, 16, 17, 18] [64, 7] (fr' := [(5, .one (.slc 64)), (7, .one (.ptr 7 0)), (16, aD (.slice (.pair tI (.pair tI (.pair tI (.pair tI (.pair tI (.slice tI))))))) a0), (17, aI (List.length a0 : Int)), (18, aI i234)]) (L' := [(64, .seq tI x235), (7, .one (.pair tI (.pair tI (.pair tI (.pair tI (.pair tI (.slice tI)))))) v237)]) (obs := [Idx a0 i234 v237, True]) (by kernel_rfl) (by kernel_rfl) (by kernel_rfl) (allP2 (Idx.of h238) (allP1 trivial)) ?_
        refine seqQ_norm ?_
        refine W_seq (by kernel_rfl) ?_
        refine W_run 1 [] [5, 7, 8, 16, 17, 18] [64, 7] (fr' := [(5, .one (.slc 64)), (7, .one (.ptr 7 0)), (8, aI (1 : Int)), (16, aD (.slice (.pair tI (.pair tI (.pair tI (.pair tI (.pair tI (.slice tI))))))) a0), (17, aI (List.length a0 : Int)), (18, aI i234)]) (L' := [(64, .seq tI x235), (7, .one (.pair tI (.pair tI (.pair tI (.pair tI (.pair tI (.slice tI)))))) v237)]) (obs := []) (by kernel_rfl) (by kernel_rfl) (by kernel_rfl) allP0 ?_
        refine seqQ_norm ?_
        refine W_seq (by kernel_rfl) ?_
        obtain ⟨v447, h448, h⟩ := bind_of h
        refine W_cutK (Q' := (exQ .normal (funcs_Rank_s44 a0 i234 x235)) v447) ?_ ?_
        · replace h := h448
          refine W_seq (by kernel_rfl) ?_
          refine W_run 2 [] [5, 7, 8, 16, 17, 18, 23] [64, 7] (fr' := [(5, .one (.slc 64)), (7, .one (.ptr 7 0)), (8, aI (1 : Int)), (16, aD (.slice (.pair tI (.pair tI (.pair tI (.pair tI (.pair tI (.slice tI))))))) a0), (17, aI (List.length a0 : Int)), (18, aI i234), (23, aI v237.1)]) (L' := [(64, .seq tI x235), (7, .one (.pair tI (.pair tI (.pair tI (.pair tI (.pair tI (.slice tI)))))) v237)]) (obs := []) (by kernel_rfl) (by kernel_rfl) (by kernel_rfl) allP0 ?_
          refine seqQ_norm ?_
          refine W_block (id := 2) (by kernel_rfl) ?_
          refine W_seq (by kernel_rfl) ?_
          refine W_run 2 [] [5, 7, 8, 16, 17, 18, 23, 24] [64, 7] (fr' := [(5, .one (.slc 64)), (7, .one (.ptr 7 0)), (8, aI (1 : Int)), (16, aD (.slice (.pair tI (.pair tI (.pair tI (.pair tI (.pair tI (.slice tI))))))) a0), (17, aI (List.length a0 : Int)), (18, aI i234), (23, aI v237.1), (24, aB (v237.1 == (4 : Int)))]) (L' := [(64, .seq tI x235), (7, .one (.pair tI (.pair tI (.pair tI (.pair tI (.pair tI (.slice tI)))))) v237)]) (obs := []) (by kernel_rfl) (by kernel_rfl) (by kernel_rfl) allP0 ?_
          refine seqQ_norm ?_
          refine W_cond (o := .tmp 24) (b := v237.1 == (4 : Int)) (by kernel_rfl) (by kernel_rfl) (fun h413 => ?_) (fun h413 => ?_)
          · replace h := ofT h413 h
            refine W_seq (by kernel_rfl) ?_
            obtain ⟨v414, h415, h⟩ := bind_of h
            refine W_run 7 [(9, .val (.dat tI v414))] [5, 7, 8, 16, 17, 18] [64, 7] (fr' := [(5, .one (.slc 64)), (7, .one (.ptr 7 0)), (8, aI (w64 (v414 + (2 : Int)))), (16, aD (.slice (.pair tI (.pair tI (.pair tI (.pair tI (.pair tI (.slice tI))))))) a0), (17, aI (List.length a0 : Int)), (18, aI i234)]) (L' := [(64, .seq tI x235), (7, .one (.pair tI (.pair tI (.pair tI (.pair tI (.pair tI (.slice tI)))))) v237)]) (obs := [InR v237.2.2.2.1 (List.length x235), Idx x235 v237.2.2.2.1 v414]) (by kernel_rfl) (by kernel_rfl) (by kernel_rfl) (allP2 (InR.of h415) (allP1 (Idx.of h415))) ?_
            refine seqQ_norm ?_
            refine W_seq (by kernel_rfl) ?_
            refine W_run 4 [] [5, 8, 16, 17, 18, 33, 34, 35] [64] (fr' := [(5, .one (.slc 64)), (8, aI (w64 (v414 + (2 : Int)))), (16, aD (.slice (.pair tI (.pair tI (.pair tI (.pair tI (.pair tI (.slice tI))))))) a0), (17, aI (List.length a0 : Int)), (18, aI i234), (33, aD (.slice tI) v237.2.2.2.2.2), (34, aI (List.length v237.2.2.2.2.2 : Int)), (35, aI (0 : Int))]) (L' := [(64, .seq tI x235)]) (obs := []) (by kernel_rfl) (by kernel_rfl) (by kernel_rfl) allP0 ?_
            refine seqQ_norm ?_
            refine W_block (id := 3) (by kernel_rfl) ?_
            obtain ⟨v437, h438, h⟩ := bind_of h
            refine W_len (t := 33) (u := tI) (xs := v237.2.2.2.2.2) (by kernel_rfl) (fun h441 => ?_)
            obtain ⟨h439, h440⟩ := forL_iter h441 h438
            refine W_weaken [5, 8, 16, 17, 18, 33, 34, 35] [64] (fr' := ((funcs_Rank_s41 a0 i234 x235 v237) ((0 : Int), w64 (v414 + (2 : Int)))).1) (L' := ((funcs_Rank_s41 a0 i234 x235 v237) ((0 : Int), w64 (v414 + (2 : Int)))).2) (by kernel_rfl) ?_
            refine W_cutK (W_loop (S := (funcs_Rank_s41 a0 i234 x235 v237)) (J := (exQ (.exit 3) (funcs_Rank_s42 a0 i234 x235))) (by kernel_rfl) ?_ h439 _ v437 h440) ?_
            · rintro ⟨i428, x429⟩ s h
              refine W_seq (by kernel_rfl) ?_
              refine W_run 1 [] [5, 8, 16, 17, 18, 33, 34, 35, 36] [64] (fr' := [(5, .one (.slc 64)), (8, aI x429), (16, aD (.slice (.pair tI (.pair tI (.pair tI (.pair tI (.pair tI (.slice tI))))))) a0), (17, aI (List.length a0 : Int)), (18, aI i234), (33, aD (.slice tI) v237.2.2.2.2.2), (34, aI (List.length v237.2.2.2.2.2 : Int)), (35, aI i428), (36, aB (decide (i428 < (List.length v237.2.2.2.2.2 : Int))))]) (L' := [(64, .seq tI x235)]) (obs := []) (by kernel_rfl) (by kernel_rfl) (by kernel_rfl) allP0 ?_
              refine seqQ_norm ?_
              refine W_seq (by kernel_rfl) ?_
              refine W_cond (o := .tmp 36) (b := decide (i428 < (List.length v237.2.2.2.2.2 : Int))) (by kernel_rfl) (by kernel_rfl) (fun h433 => ?_) (fun h433 => ?_)
              · replace h := stepL_true h433 h
                obtain ⟨v431, _, h432, h, rfl⟩ := h
                refine W_skip [5, 8, 16, 17, 18, 33, 34, 35] [64] (fr' := [(5, .one (.slc 64)), (8, aI x429), (16, aD (.slice (.pair tI (.pair tI (.pair tI (.pair tI (.pair tI (.slice tI))))))) a0), (17, aI (List.length a0 : Int)), (18, aI i234), (33, aD (.slice tI) v237.2.2.2.2.2), (34, aI (List.length v237.2.2.2.2.2 : Int)), (35, aI i428)]) (L' := [(64, .seq tI x235)]) (by kernel_rfl) (by kernel_rfl) ?_
                refine seqQ_norm ?_
                refine W_seq (by kernel_rfl) ?_
                refine W_block (id := 4) (by kernel_rfl) ?_
                refine W_seq (by kernel_rfl) ?_
                refine W_run 3 [(1, .val (.dat tI v431))] [5, 8, 10, 16, 17, 18, 33, 34, 35] [64] (fr' := [(5, .one (.slc 64)), (8, aI x429), (10, aI v431), (16, aD (.slice (.pair tI (.pair tI (.pair tI (.pair tI (.pair tI (.slice tI))))))) a0), (17, aI (List.length a0 : Int)), (18, aI i234), (33, aD (.slice tI) v237.2.2.2.2.2), (34, aI (List.length v237.2.2.2.2.2 : Int)), (35, aI i428)]) (L' := [(64, .seq tI x235)]) (obs := [Idx v237.2.2.2.2.2 i428 v431]) (by kernel_rfl) (by kernel_rfl) (by kernel_rfl) (allP1 (Idx.of h432)) ?_
                refine seqQ_norm ?_
                obtain ⟨v434, h435, h⟩ := bind_of h
                refine W_run 8 [(9, .val (.dat tI v434))] [5, 8, 16, 17, 18, 33, 34, 35] [64] (fr' := [(5, .one (.slc 64)), (8, aI (imax x429 (w64 (v434 + (2 : Int))))), (16, aD (.slice (.pair tI (.pair tI (.pair tI (.pair tI (.pair tI (.slice tI))))))) a0), (17, aI (List.length a0 : Int)), (18, aI i234), (33, aD (.slice tI) v237.2.2.2.2.2), (34, aI (List.length v237.2.2.2.2.2 : Int)), (35, aI i428)]) (L' := [(64, .seq tI x235)]) (obs := [InR v431 (List.length x235), Idx x235 v431 v434]) (by kernel_rfl) (by kernel_rfl) (by kernel_rfl) (allP2 (InR.of h435) (allP1 (Idx.of h435))) ?_
                refine blockQ_norm ?_
                refine seqQ_norm ?_
                obtain rfl := Option.some.inj h
                refine W_run 2 [] [5, 8, 16, 17, 18, 33, 34, 35] [64] (fr' := [(5, .one (.slc 64)), (8, aI (imax x429 (w64 (v434 + (2 : Int))))), (16, aD (.slice (.pair tI (.pair tI (.pair tI (.pair tI (.pair tI (.slice tI))))))) a0), (17, aI (List.length a0 : Int)), (18, aI i234), (33, aD (.slice tI) v237.2.2.2.2.2), (34, aI (List.length v237.2.2.2.2.2 : Int)), (35, aI (w64 (i428 + (1 : Int))))]) (L' := [(64, .seq tI x235)]) (obs := []) (by kernel_rfl) (by kernel_rfl) (by kernel_rfl) allP0 ?_
                exact round_next' (by kernel_rfl) (by kernel_rfl)
              · obtain rfl := stepL_false h433 h
                refine W_exit (id := 3) [5, 8, 16, 17, 18] [64] (fr' := [(5, .one (.slc 64)), (8, aI x429), (16, aD (.slice (.pair tI (.pair tI (.pair tI (.pair tI (.pair tI (.slice tI))))))) a0), (17, aI (List.length a0 : Int)), (18, aI i234)]) (L' := [(64, .seq tI x235)]) (by kernel_rfl) (by kernel_rfl) ?_
                refine seqQ_exit ?_
                refine round_exit ?_
                exact exQ_mk (by kernel_rfl) (by kernel_rfl)
            · intro e fr L hJ
              obtain ⟨rfl, rfl, rfl⟩ := hJ
              obtain rfl := Option.some.inj h
              refine LT_keep [5, 8, 16, 17, 18] [64] (fr' := [(5, .one (.slc 64)), (8, aI v437), (16, aD (.slice (.pair tI (.pair tI (.pair tI (.pair tI (.pair tI (.slice tI))))))) a0), (17, aI (List.length a0 : Int)), (18, aI i234)]) (L' := [(64, .seq tI x235)]) (by kernel_rfl) ?_
              refine blockQ_hit ?_
              refine blockQ_norm ?_
              exact exQ_mk (by kernel_rfl) (by kernel_rfl)
          · replace h := ofF h413 h
            refine W_seq (by kernel_rfl) ?_
            refine W_run 2 [] [5, 7, 8, 16, 17, 18, 47] [64, 7] (fr' := [(5, .one (.slc 64)), (7, .one (.ptr 7 0)), (8, aI (1 : Int)), (16, aD (.slice (.pair tI (.pair tI (.pair tI (.pair tI (.pair tI (.slice tI))))))) a0), (17, aI (List.length a0 : Int)), (18, aI i234), (47, aB (v237.1 == (5 : Int)))]) (L' := [(64, .seq tI x235), (7, .one (.pair tI (.pair tI (.pair tI (.pair tI (.pair tI (.slice tI)))))) v237)]) (obs := []) (by kernel_rfl) (by kernel_rfl) (by kernel_rfl) allP0 ?_
            refine seqQ_norm ?_
            refine W_cond (o := .tmp 47) (b := v237.1 == (5 : Int)) (by kernel_rfl) (by kernel_rfl) (fun h442 => ?_) (fun h442 => ?_)
            · replace h := ofT h442 h
              obtain ⟨v443, h444, h⟩ := bind_of h
              obtain ⟨v445, h446, h⟩ := bind_of h
              obtain rfl := Option.some.inj h
              refine W_draw2 12 [(9, .val (.dat tI v443)), (19, .val (.dat tI v445))] [] [5, 8, 16, 17, 18] [64] (fr' := [(5, .one (.slc 64)), (8, aI (w64 ((imax v443 v445) + (3 : Int)))), (16, aD (.slice (.pair tI (.pair tI (.pair tI (.pair tI (.pair tI (.slice tI))))))) a0), (17, aI (List.length a0 : Int)), (18, aI i234)]) (L' := [(64, .seq tI x235)]) (out := [(49, .one (.slc 64)), (50, .one (.ptr 7 3)), (51, aI v237.2.2.2.1), (52, .one (.eptr 64 1 v237.2.2.2.1 0)), (53, aI v443), (54, .one (.slc 64)), (55, .one (.ptr 7 4)), (56, aI v237.2.2.2.2.1), (57, .one (.eptr 64 1 v237.2.2.2.2.1 0)), (58, aI v445), (59, aI (imax v443 v445)), (60, aI (w64 ((imax v443 v445) + (3 : Int))))]) (obs := [InR v237.2.2.2.1 (List.length x235), Idx x235 v237.2.2.2.1 v443, InR v237.2.2.2.2.1 (List.length x235), Idx x235 v237.2.2.2.2.1 v445]) (obs2 := []) (calls := []) (by kernel_rfl) (by kernel_rfl) (by kernel_rfl) (by kernel_rfl) (allP2 (InR.of h444) (allP2 (Idx.of h444) (allP2 (InR.of h446) (allP1 (Idx.of h446))))) allC0 (by kernel_rfl) allP0 ?_
              refine blockQ_norm ?_
              exact exQ_mk (by kernel_rfl) (by kernel_rfl)
            · replace h := ofF h442 h
              obtain rfl := Option.some.inj h
              refine W_skip [5, 8, 16, 17, 18] [64] (fr' := [(5, .one (.slc 64)), (8, aI (1 : Int)), (16, aD (.slice (.pair tI (.pair tI (.pair tI (.pair tI (.pair tI (.slice tI))))))) a0), (17, aI (List.length a0 : Int)), (18, aI i234)]) (L' := [(64, .seq tI x235)]) (by kernel_rfl) (by kernel_rfl) ?_
              refine blockQ_norm ?_
              exact exQ_mk (by kernel_rfl) (by kernel_rfl)
        · intro e fr L hJ
          obtain ⟨rfl, rfl, rfl⟩ := hJ
          refine LT_keep [5, 8, 16, 17, 18] [64] (fr' := [(5, .one (.slc 64)), (8, aI v447), (16, aD (.slice (.pair tI (.pair tI (.pair tI (.pair tI (.pair tI (.slice tI))))))) a0), (17, aI (List.length a0 : Int)), (18, aI i234)]) (L' := [(64, .seq tI x235)]) (by kernel_rfl) ?_
          refine seqQ_norm ?_
          obtain ⟨_, h449, h⟩ := bind_of h
          replace h449 := ck_some h449
          refine W_run 5 [] [5, 16, 17, 18] [64] (fr' := [(5, .one (.slc 64)), (16, aD (.slice (.pair tI (.pair tI (.pair tI (.pair tI (.pair tI (.slice tI))))))) a0), (17, aI (List.length a0 : Int)), (18, aI i234)]) (L' := [(64, .seq tI (x235 ++ [v447]))]) (obs := [SmallLen (List.length x235 + List.length [v447])]) (by kernel_rfl) (by kernel_rfl) (by kernel_rfl) (allP1 h449) ?_
          refine blockQ_norm ?_
          refine seqQ_norm ?_
          obtain rfl := Option.some.inj h
          refine W_run 2 [] [5, 16, 17, 18] [64] (fr' := [(5, .one (.slc 64)), (16, aD (.slice (.pair tI (.pair tI (.pair tI (.pair tI (.pair tI (.slice tI))))))) a0), (17, aI (List.length a0 : Int)), (18, aI (w64 (i234 + (1 : Int))))]) (L' := [(64, .seq tI (x235 ++ [v447]))]) (obs := []) (by kernel_rfl) (by kernel_rfl) (by kernel_rfl) allP0 ?_
          exact round_next' (by kernel_rfl) (by kernel_rfl)
      · obtain rfl := stepL_false h239 h
        refine W_exit (id := 0) [5] [64] (fr' := [(5, .one (.slc 64))]) (L' := [(64, .seq tI x235)]) (by kernel_rfl) (by kernel_rfl) ?_
        refine seqQ_exit ?_
        refine round_exit ?_
        exact exQ_mk (by kernel_rfl) (by kernel_rfl)
    · intro e fr L hJ
      obtain ⟨rfl, rfl, rfl⟩ := hJ
      refine LT_keep [5] [64] (fr' := [(5, .one (.slc 64))]) (L' := [(64, .seq tI v451)]) (by kernel_rfl) ?_
      refine blockQ_hit ?_
      refine seqQ_norm ?_
      refine W_seq (by kernel_rfl) ?_
      obtain ⟨v456, h457, h⟩ := bind_of h
      refine W_run 8 [(11, .val (.dat tI v456))] [2, 3] [] (fr' := [(2, aI v456), (3, aI (0 : Int))]) (L' := []) (obs := [InR (w64 ((List.length v451 : Int) - (1 : Int))) (List.length v451), Idx v451 (w64 ((List.length v451 : Int) - (1 : Int))) v456]) (by kernel_rfl) (by kernel_rfl) (by kernel_rfl) (allP2 (InR.of h457) (allP1 (Idx.of h457))) ?_
      refine seqQ_norm ?_
      obtain rfl := Option.some.inj h
      refine W_ret [2, 3] [] (fr' := [(2, aI v456), (3, aI (0 : Int))]) (L' := []) (by kernel_rfl) (by kernel_rfl) ?_
      exact retQ_mk (by kernel_rfl) (by kernel_rfl) (by kernel_rfl)

def ref_Within (a0 : Int) (a1 : Int) (a2 : Int) : Option Bool :=
some ((decide (a0 ≤ a1)) && (decide (a1 ≤ a2)))
theorem ref_Within_ok {a0 : Int} {a1 : Int} {a2 : Int} {r : Bool} (h : ref_Within a0 a1 a2 = some r) : FnC Try.prog 20 [aI a0, aI a1, aI a2] [] (aB r) [] := by
  refine fnC_of_W (B := bodyOf Try.f20) (n := 15) Try.func20 (by kernel_rfl) (by kernel_rfl) (by kernel_rfl) (by kernel_rfl) (by kernel_rfl) ?_
  intro K
  refine W_seq (by kernel_rfl) ?_
  refine W_run 1 [] [0, 1, 2] [] (fr' := [(0, aI a0), (1, aI a1), (2, aI a2)]) (L' := []) (obs := []) (by kernel_rfl) (by kernel_rfl) (by kernel_rfl) allP0 ?_
  refine seqQ_norm ?_
  refine W_seq (by kernel_rfl) ?_
  refine W_run 9 [] [6] [] (fr' := [(6, aB ((decide (a0 ≤ a1)) && (decide (a1 ≤ a2))))]) (L' := []) (obs := []) (by kernel_rfl) (by kernel_rfl) (by kernel_rfl) allP0 ?_
  refine seqQ_norm ?_
  obtain rfl := Option.some.inj h
  refine W_ret [6] [] (fr' := [(6, aB ((decide (a0 ≤ a1)) && (decide (a1 ≤ a2))))]) (L' := []) (by kernel_rfl) (by kernel_rfl) ?_
  exact retQ_mk (by kernel_rfl) (by kernel_rfl) (by kernel_rfl)

def ref_Inside_b1 (a0 : Int) (i11 : Int) (v14 : Int) (x12 : Unit) : Option (Flow Unit (Esc Bool Unit)) :=
bif (decide (v14 < (0 : Int))) || (decide (v14 ≥ a0)) then
(some (.done (.ret false)))
else
(some (.next ()))
@[reducible] def ref_Inside_s2 (a0 : Int) (a1 : (List Int)) (v : Int × Unit) : Fr × LL := ([(0, aI a0), (7, aD (.slice tI) a1), (8, aI (List.length a1 : Int)), (9, aI v.1)], [])
@[reducible] def ref_Inside_s3 (v : Bool) : Fr × LL := ([(4, aB v)], [])
@[reducible] def ref_Inside_s4 (v : Unit) : Fr × LL := ([], [])
def ref_Inside (a0 : Int) (a1 : (List Int)) : Option Bool :=
(forL (ref_Inside_b1 a0) (fun x12 => (.brk ())) a1 0 ()).bind fun v19 =>
match v19 with
| .ret v24 =>
(some v24)
| .brk v25 =>
(some true)
theorem ref_Inside_ok {a0 : Int} {a1 : (List Int)} {r : Bool} (h : ref_Inside a0 a1 = some r) : FnC Try.prog 25 [aI a0, aD (.slice tI) a1] [] (aB r) [] := by
  refine fnC_of_W (B := bodyOf Try.f25) (n := 21) Try.func25 (by kernel_rfl) (by kernel_rfl) (by kernel_rfl) (by kernel_rfl) (by kernel_rfl) ?_
  intro K
  refine W_seq (by kernel_rfl) ?_
  refine W_run 1 [] [0, 1] [] (fr' := [(0, aI a0), (1, aD (.slice tI) a1)]) (L' := []) (obs := []) (by kernel_rfl) (by kernel_rfl) (by kernel_rfl) allP0 ?_
  refine seqQ_norm ?_
  refine W_seq (by kernel_rfl) ?_
  refine W_seq (by kernel_rfl) ?_
  refine W_run 3 [] [0, 7, 8, 9] [] (fr' := [(0, aI a0), (7, aD (.slice tI) a1), (8, aI (List.length a1 : Int)), (9, aI (0 : Int))]) (L' := []) (obs := []) (by kernel_rfl) (by kernel_rfl) (by kernel_rfl) allP0 ?_
  refine seqQ_norm ?_
  refine W_block (id := 0) (by kernel_rfl) ?_
  obtain ⟨v19, h20, h⟩ := bind_of h
  refine W_len (t := 7) (u := tI) (xs := a1) (by kernel_rfl) (fun h23 => ?_)
  obtain ⟨h21, h22⟩ := forL_iter h23 h20
  refine W_weaken [0, 7, 8, 9] [] (fr' := ((ref_Inside_s2 a0 a1) ((0 : Int), ())).1) (L' := ((ref_Inside_s2 a0 a1) ((0 : Int), ())).2) (by kernel_rfl) ?_
  refine W_cutK (W_loop (S := (ref_Inside_s2 a0 a1)) (J := (escQ (exQ .ret ref_Inside_s3) (exQ (.exit 0) ref_Inside_s4))) (by kernel_rfl) ?_ h21 _ v19 h22) ?_
  · rintro ⟨i11, x12⟩ s h
    refine W_seq (by kernel_rfl) ?_
    refine W_run 1 [] [0, 7, 8, 9, 10] [] (fr' := [(0, aI a0), (7, aD (.slice tI) a1), (8, aI (List.length a1 : Int)), (9, aI i11), (10, aB (decide (i11 < (List.length a1 : Int))))]) (L' := []) (obs := []) (by kernel_rfl) (by kernel_rfl) (by kernel_rfl) allP0 ?_
    refine seqQ_norm ?_
    refine W_seq (by kernel_rfl) ?_
    refine W_cond (o := .tmp 10) (b := decide (i11 < (List.length a1 : Int))) (by kernel_rfl) (by kernel_rfl) (fun h16 => ?_) (fun h16 => ?_)
    · replace h := stepL_true h16 h
      obtain ⟨v14, _, h15, h, rfl⟩ := h
      refine W_skip [0, 7, 8, 9] [] (fr' := [(0, aI a0), (7, aD (.slice tI) a1), (8, aI (List.length a1 : Int)), (9, aI i11)]) (L' := []) (by kernel_rfl) (by kernel_rfl) ?_
      refine seqQ_norm ?_
      refine W_seq (by kernel_rfl) ?_
      refine W_block (id := 1) (by kernel_rfl) ?_
      refine W_seq (by kernel_rfl) ?_
      refine W_run 3 [(1, .val (.dat tI v14))] [0, 6, 7, 8, 9] [] (fr' := [(0, aI a0), (6, aI v14), (7, aD (.slice tI) a1), (8, aI (List.length a1 : Int)), (9, aI i11)]) (L' := []) (obs := [Idx a1 i11 v14]) (by kernel_rfl) (by kernel_rfl) (by kernel_rfl) (allP1 (Idx.of h15)) ?_
      refine seqQ_norm ?_
      refine W_seq (by kernel_rfl) ?_
      refine W_run 7 [] [0, 7, 8, 9, 19] [] (fr' := [(0, aI a0), (7, aD (.slice tI) a1), (8, aI (List.length a1 : Int)), (9, aI i11), (19, aB ((decide (v14 < (0 : Int))) || (decide (v14 ≥ a0))))]) (L' := []) (obs := []) (by kernel_rfl) (by kernel_rfl) (by kernel_rfl) allP0 ?_
      refine seqQ_norm ?_
      refine W_cond (o := .tmp 19) (b := (decide (v14 < (0 : Int))) || (decide (v14 ≥ a0))) (by kernel_rfl) (by kernel_rfl) (fun h17 => ?_) (fun h17 => ?_)
      · replace h := ofT h17 h
        refine W_seq (by kernel_rfl) ?_
        refine W_run 1 [] [4] [] (fr' := [(4, aB false)]) (L' := []) (obs := []) (by kernel_rfl) (by kernel_rfl) (by kernel_rfl) allP0 ?_
        refine seqQ_norm ?_
        obtain rfl := Option.some.inj h
        refine W_ret [4] [] (fr' := [(4, aB false)]) (L' := []) (by kernel_rfl) (by kernel_rfl) ?_
        refine blockQ_ret ?_
        refine seqQ_ret ?_
        refine round_ret ?_
        refine escQ_ret ?_
        exact exQ_mk (by kernel_rfl) (by kernel_rfl)
      · replace h := ofF h17 h
        refine W_skip [0, 7, 8, 9] [] (fr' := [(0, aI a0), (7, aD (.slice tI) a1), (8, aI (List.length a1 : Int)), (9, aI i11)]) (L' := []) (by kernel_rfl) (by kernel_rfl) ?_
        refine blockQ_norm ?_
        refine seqQ_norm ?_
        obtain rfl := Option.some.inj h
        refine W_run 2 [] [0, 7, 8, 9] [] (fr' := [(0, aI a0), (7, aD (.slice tI) a1), (8, aI (List.length a1 : Int)), (9, aI (w64 (i11 + (1 : Int))))]) (L' := []) (obs := []) (by kernel_rfl) (by kernel_rfl) (by kernel_rfl) allP0 ?_
        exact round_next' (by kernel_rfl) (by kernel_rfl)
    · obtain rfl := stepL_false h16 h
      refine W_exit (id := 0) [] [] (fr' := []) (L' := []) (by kernel_rfl) (by kernel_rfl) ?_
      refine seqQ_exit ?_
      refine round_exit ?_
      refine escQ_brk ?_
      exact exQ_mk (by kernel_rfl) (by kernel_rfl)
  · intro e fr L hJ
    rcases v19 with v24 | v25
    · obtain ⟨rfl, rfl, rfl⟩ := hJ
      obtain rfl := Option.some.inj h
      refine LT_keep [4] [] (fr' := [(4, aB v24)]) (L' := []) (by kernel_rfl) ?_
      refine blockQ_ret ?_
      refine seqQ_ret ?_
      exact retQ_mk (by kernel_rfl) (by kernel_rfl) (by kernel_rfl)
    · obtain ⟨rfl, rfl, rfl⟩ := hJ
      refine LT_keep [] [] (fr' := []) (L' := []) (by kernel_rfl) ?_
      refine blockQ_hit ?_
      refine seqQ_norm ?_
      refine W_seq (by kernel_rfl) ?_
      refine W_run 1 [] [4] [] (fr' := [(4, aB true)]) (L' := []) (obs := []) (by kernel_rfl) (by kernel_rfl) (by kernel_rfl) allP0 ?_
      refine seqQ_norm ?_
      obtain rfl := Option.some.inj h
      refine W_ret [4] [] (fr' := [(4, aB true)]) (L' := []) (by kernel_rfl) (by kernel_rfl) ?_
      exact retQ_mk (by kernel_rfl) (by kernel_rfl) (by kernel_rfl)

@[reducible] def ref_FuncsCheck_s192 (a0 : (List (Int × (Int × (Int × (Int × (Int × (List Int)))))))) (i1492 : Int) (v1495 : (Int × (Int × (Int × (Int × (Int × (List Int))))))) (v : Bool) : Fr × LL := ([(0, aD (.slice (.pair tI (.pair tI (.pair tI (.pair tI (.pair tI (.slice tI))))))) a0), (3, aI i1492), (4, .one (.ptr 4 0)), (5, aI (0 : Int)), (12, aD (.slice (.pair tI (.pair tI (.pair tI (.pair tI (.pair tI (.slice tI))))))) a0), (13, aI (List.length a0 : Int)), (14, aI i1492), (30, aB v)], [(4, .one (.pair tI (.pair tI (.pair tI (.pair tI (.pair tI (.slice tI)))))) v1495)])
def ref_FuncsCheck_g193 (v1495 : (Int × (Int × (Int × (Int × (Int × (List Int))))))) (v2007 : Int) : Option Bool :=
(ref_Within v2007 v1495.2.1 (4 : Int)).bind fun r2023 =>
bif !r2023 then
(some true)
else
(bif v1495.1 == (2 : Int) then
(bif v1495.2.1 != (1 : Int) then
(some true)
else
(bif v1495.1 == (4 : Int) then
(some (decide ((List.length v1495.2.2.2.2.2 : Int) > (4 : Int))))
else
(some false)))
else
(bif v1495.1 == (4 : Int) then
(some (decide ((List.length v1495.2.2.2.2.2 : Int) > (4 : Int))))
else
(some false)))
def ref_FuncsCheck_b202 (a0 : (List (Int × (Int × (Int × (Int × (Int × (List Int)))))))) (v1495 : (Int × (Int × (Int × (Int × (Int × (List Int))))))) (i2187 : Int) (v2190 : Int) (x2188 : Unit) : Option (Flow Unit (Esc Int Unit)) :=
(idx a0 v2190).bind fun v2193 =>
bif v2193.2.1 != v1495.2.1 then
(some (.done (.ret (3 : Int))))
else
(some (.next ()))
@[reducible] def ref_FuncsCheck_s203 (a0 : (List (Int × (Int × (Int × (Int × (Int × (List Int)))))))) (i1492 : Int) (v1495 : (Int × (Int × (Int × (Int × (Int × (List Int))))))) (v : Int × Unit) : Fr × LL := ([(0, aD (.slice (.pair tI (.pair tI (.pair tI (.pair tI (.pair tI (.slice tI))))))) a0), (3, aI i1492), (4, .one (.ptr 4 0)), (12, aD (.slice (.pair tI (.pair tI (.pair tI (.pair tI (.pair tI (.slice tI))))))) a0), (13, aI (List.length a0 : Int)), (14, aI i1492), (96, aD (.slice tI) v1495.2.2.2.2.2), (97, aI (List.length v1495.2.2.2.2.2 : Int)), (98, aI v.1)], [(4, .one (.pair tI (.pair tI (.pair tI (.pair tI (.pair tI (.slice tI)))))) v1495)])
@[reducible] def ref_FuncsCheck_s204 (v : Int) : Fr × LL := ([(2, aI v)], [])
@[reducible] def ref_FuncsCheck_s205 (a0 : (List (Int × (Int × (Int × (Int × (Int × (List Int)))))))) (i1492 : Int) (v1495 : (Int × (Int × (Int × (Int × (Int × (List Int))))))) (v : Unit) : Fr × LL := ([(0, aD (.slice (.pair tI (.pair tI (.pair tI (.pair tI (.pair tI (.slice tI))))))) a0), (3, aI i1492), (4, .one (.ptr 4 0)), (12, aD (.slice (.pair tI (.pair tI (.pair tI (.pair tI (.pair tI (.slice tI))))))) a0), (13, aI (List.length a0 : Int)), (14, aI i1492)], [(4, .one (.pair tI (.pair tI (.pair tI (.pair tI (.pair tI (.slice tI)))))) v1495)])
@[reducible] def ref_FuncsCheck_s206 (a0 : (List (Int × (Int × (Int × (Int × (Int × (List Int)))))))) (i1492 : Int) (v1495 : (Int × (Int × (Int × (Int × (Int × (List Int))))))) (v : Bool) : Fr × LL := ([(0, aD (.slice (.pair tI (.pair tI (.pair tI (.pair tI (.pair tI (.slice tI))))))) a0), (3, aI i1492), (4, .one (.ptr 4 0)), (12, aD (.slice (.pair tI (.pair tI (.pair tI (.pair tI (.pair tI (.slice tI))))))) a0), (13, aI (List.length a0 : Int)), (14, aI i1492), (84, aB v)], [(4, .one (.pair tI (.pair tI (.pair tI (.pair tI (.pair tI (.slice tI)))))) v1495)])
def ref_FuncsCheck_g207 (a0 : (List (Int × (Int × (Int × (Int × (Int × (List Int)))))))) (i1492 : Int) (v1495 : (Int × (Int × (Int × (Int × (Int × (List Int))))))) : Option (Esc Int Unit) :=
bif v1495.1 == (4 : Int) then
(((ref_Inside i1492 [v1495.2.2.2.1]).bind fun r2162 =>
bif !r2162 then
(some true)
else
((ref_Inside i1492 v1495.2.2.2.2.2).bind fun r2165 =>
some (!r2165))).bind fun v2167 =>
bif v2167 then
(some (.ret (2 : Int)))
else
((idx a0 v1495.2.2.2.1).bind fun v2170 =>
bif v2170.2.1 != (List.length v1495.2.2.2.2.2 : Int) then
(some (.ret (3 : Int)))
else
((forL (ref_FuncsCheck_b202 a0 v1495) (fun x2188 => (.brk ())) v1495.2.2.2.2.2 0 ()).bind fun v2197 =>
match v2197 with
| .ret v2202 =>
(some (.ret v2202))
| .brk v2203 =>
(some (.brk ())))))
else
(some (.brk ()))
def ref_FuncsCheck_g208 (a0 : (List (Int × (Int × (Int × (Int × (Int × (List Int)))))))) (v1495 : (Int × (Int × (Int × (Int × (Int × (List Int))))))) : Option Bool :=
(idx a0 v1495.2.2.2.1).bind fun v2222 =>
bif v2222.2.1 != (w64 (v1495.2.1 - (1 : Int))) then
(some true)
else
((idx a0 v1495.2.2.2.2.1).bind fun v2225 =>
some (v2225.2.1 != (w64 (v1495.2.1 + (1 : Int)))))
@[reducible] def ref_FuncsCheck_s209 (a0 : (List (Int × (Int × (Int × (Int × (Int × (List Int)))))))) (i1492 : Int) (v : Bool) : Fr × LL := ([(0, aD (.slice (.pair tI (.pair tI (.pair tI (.pair tI (.pair tI (.slice tI))))))) a0), (12, aD (.slice (.pair tI (.pair tI (.pair tI (.pair tI (.pair tI (.slice tI))))))) a0), (13, aI (List.length a0 : Int)), (14, aI i1492), (143, aB v)], [])
@[reducible] def ref_FuncsCheck_s210 (v : Int) : Fr × LL := ([(2, aI v)], [])
@[reducible] def ref_FuncsCheck_s211 (a0 : (List (Int × (Int × (Int × (Int × (Int × (List Int)))))))) (i1492 : Int) (v1495 : (Int × (Int × (Int × (Int × (Int × (List Int))))))) (v : Unit) : Fr × LL := ([(0, aD (.slice (.pair tI (.pair tI (.pair tI (.pair tI (.pair tI (.slice tI))))))) a0), (3, aI i1492), (4, .one (.ptr 4 0)), (12, aD (.slice (.pair tI (.pair tI (.pair tI (.pair tI (.pair tI (.slice tI))))))) a0), (13, aI (List.length a0 : Int)), (14, aI i1492)], [(4, .one (.pair tI (.pair tI (.pair tI (.pair tI (.pair tI (.slice tI)))))) v1495)])
@[reducible] def ref_FuncsCheck_s212 (a0 : (List (Int × (Int × (Int × (Int × (Int × (List Int)))))))) (i1492 : Int) (v1495 : (Int × (Int × (Int × (Int × (Int × (List Int))))))) (v : Bool) : Fr × LL := ([(0, aD (.slice (.pair tI (.pair tI (.pair tI (.pair tI (.pair tI (.slice tI))))))) a0), (3, aI i1492), (4, .one (.ptr 4 0)), (12, aD (.slice (.pair tI (.pair tI (.pair tI (.pair tI (.pair tI (.slice tI))))))) a0), (13, aI (List.length a0 : Int)), (14, aI i1492), (68, aB v)], [(4, .one (.pair tI (.pair tI (.pair tI (.pair tI (.pair tI (.slice tI)))))) v1495)])
@[reducible] def ref_FuncsCheck_s213 (a0 : (List (Int × (Int × (Int × (Int × (Int × (List Int)))))))) (i1492 : Int) (v1495 : (Int × (Int × (Int × (Int × (Int × (List Int))))))) (v : Bool) : Fr × LL := ([(0, aD (.slice (.pair tI (.pair tI (.pair tI (.pair tI (.pair tI (.slice tI))))))) a0), (3, aI i1492), (4, .one (.ptr 4 0)), (12, aD (.slice (.pair tI (.pair tI (.pair tI (.pair tI (.pair tI (.slice tI))))))) a0), (13, aI (List.length a0 : Int)), (14, aI i1492), (56, aB v)], [(4, .one (.pair tI (.pair tI (.pair tI (.pair tI (.pair tI (.slice tI)))))) v1495)])
@[reducible] def ref_FuncsCheck_s214 (a0 : (List (Int × (Int × (Int × (Int × (Int × (List Int)))))))) (i1492 : Int) (v1495 : (Int × (Int × (Int × (Int × (Int × (List Int))))))) (v : Int) : Fr × LL := ([(0, aD (.slice (.pair tI (.pair tI (.pair tI (.pair tI (.pair tI (.slice tI))))))) a0), (3, aI i1492), (4, .one (.ptr 4 0)), (5, aI v), (12, aD (.slice (.pair tI (.pair tI (.pair tI (.pair tI (.pair tI (.slice tI))))))) a0), (13, aI (List.length a0 : Int)), (14, aI i1492)], [(4, .one (.pair tI (.pair tI (.pair tI (.pair tI (.pair tI (.slice tI)))))) v1495)])
def ref_FuncsCheck_g215 (a0 : (List (Int × (Int × (Int × (Int × (Int × (List Int)))))))) (i1492 : Int) (v1495 : (Int × (Int × (Int × (Int × (Int × (List Int))))))) : Option (Esc Int Unit) :=
(ref_Within (1 : Int) v1495.1 (5 : Int)).bind fun r1986 =>
bif !r1986 then
(some (.ret (6 : Int)))
else
(((bif v1495.1 == (2 : Int) then
(some true)
else
(some (v1495.1 == (5 : Int)))).bind fun v2004 =>
bif v2004 then
(some (1 : Int))
else
(some (0 : Int))).bind fun v2007 =>
(ref_FuncsCheck_g193 v1495 v2007).bind fun v2030 =>
bif v2030 then
(some (.ret (1 : Int)))
else
((bif v1495.1 == (3 : Int) then
((ref_Inside v1495.2.1 [v1495.2.2.1]).bind fun r2040 =>
some (!r2040))
else
(some false)).bind fun v2042 =>
bif v2042 then
(some (.ret (4 : Int)))
else
((ref_FuncsCheck_g207 a0 i1492 v1495).bind fun v2204 =>
match v2204 with
| .ret v2206 =>
(some (.ret v2206))
| .brk v2207 =>
(bif v1495.1 == (5 : Int) then
((ref_Inside i1492 [v1495.2.2.2.1, v1495.2.2.2.2.1]).bind fun r2209 =>
bif !r2209 then
(some (.ret (2 : Int)))
else
((ref_FuncsCheck_g208 a0 v1495).bind fun v2227 =>
bif v2227 then
(some (.ret (3 : Int)))
else
(some (.brk ()))))
else
(some (.brk ()))))))
@[reducible] def ref_FuncsCheck_s216 (v : Int) : Fr × LL := ([(2, aI v)], [])
@[reducible] def ref_FuncsCheck_s217 (a0 : (List (Int × (Int × (Int × (Int × (Int × (List Int)))))))) (i1492 : Int) (v : Unit) : Fr × LL := ([(0, aD (.slice (.pair tI (.pair tI (.pair tI (.pair tI (.pair tI (.slice tI))))))) a0), (12, aD (.slice (.pair tI (.pair tI (.pair tI (.pair tI (.pair tI (.slice tI))))))) a0), (13, aI (List.length a0 : Int)), (14, aI i1492)], [])
def ref_FuncsCheck_b218 (a0 : (List (Int × (Int × (Int × (Int × (Int × (List Int)))))))) (i1492 : Int) (v1495 : (Int × (Int × (Int × (Int × (Int × (List Int))))))) (x1493 : Unit) : Option (Flow Unit (Esc Int Unit)) :=
(ref_FuncsCheck_g215 a0 i1492 v1495).bind fun v2230 =>
match v2230 with
| .ret v2232 =>
(some (.done (.ret v2232)))
| .brk v2233 =>
(some (.next ()))
@[reducible] def ref_FuncsCheck_s219 (a0 : (List (Int × (Int × (Int × (Int × (Int × (List Int)))))))) (v : Int × Unit) : Fr × LL := ([(0, aD (.slice (.pair tI (.pair tI (.pair tI (.pair tI (.pair tI (.slice tI))))))) a0), (12, aD (.slice (.pair tI (.pair tI (.pair tI (.pair tI (.pair tI (.slice tI))))))) a0), (13, aI (List.length a0 : Int)), (14, aI v.1)], [])
@[reducible] def ref_FuncsCheck_s220 (v : Int) : Fr × LL := ([(2, aI v)], [])
@[reducible] def ref_FuncsCheck_s221 (v : Unit) : Fr × LL := ([], [])
def ref_FuncsCheck (a0 : (List (Int × (Int × (Int × (Int × (Int × (List Int)))))))) : Option Int :=
(ref_Within (1 : Int) (List.length a0 : Int) (12 : Int)).bind fun r1 =>
bif !r1 then
(some (1 : Int))
else
((forL (ref_FuncsCheck_b218 a0) (fun x1493 => (.brk ())) a0 0 ()).bind fun v2235 =>
match v2235 with
| .ret v2240 =>
(some v2240)
| .brk v2241 =>
(some (0 : Int)))
theorem ref_FuncsCheck_ok {a0 : (List (Int × (Int × (Int × (Int × (Int × (List Int)))))))} {r : Int} (h : ref_FuncsCheck a0 = some r) : FnC Try.prog 32 [aD (.slice (.pair tI (.pair tI (.pair tI (.pair tI (.pair tI (.slice tI))))))) a0] [] (aI r) [] := by
  refine fnC_of_W (B := bodyOf Try.f32) (n := 145) Try.func32 (by kernel_rfl) (by kernel_rfl) (by kernel_rfl) (by kernel_rfl) (by kernel_rfl) ?_
  intro K
  refine W_seq (by kernel_rfl) ?_
  refine W_run 1 [] [0] [] (fr' := [(0, aD (.slice (.pair tI (.pair tI (.pair tI (.pair tI (.pair tI (.slice tI))))))) a0)]) (L' := []) (obs := []) (by kernel_rfl) (by kernel_rfl) (by kernel_rfl) allP0 ?_
  refine seqQ_norm ?_
  refine W_seq (by kernel_rfl) ?_
  refine W_seq (by kernel_rfl) ?_
  refine W_region (by kernel_rfl) ?_
  refine WO_run (j := 2) (k := 2) (orcs := []) (kF := [0, 9]) (kL := []) (fr' := [(0, aD (.slice (.pair tI (.pair tI (.pair tI (.pair tI (.pair tI (.slice tI))))))) a0), (9, aI (List.length a0 : Int))]) (L' := []) (obs := []) rfl (by kernel_rfl) allP0 ?_
  obtain ⟨r1, h2, h⟩ := bind_of h
  refine WO_call0 (us := [none, none, none]) (d := 10) (p := True) (j := 3) rfl ⟨by kernel_rfl, by kernel_rfl, by kernel_rfl⟩ trivial (ref_Within_ok h2) (by kernel_rfl) ?_
  refine WO_run (j := 4) (k := 1) (orcs := []) (kF := [0, 11]) (kL := []) (fr' := [(0, aD (.slice (.pair tI (.pair tI (.pair tI (.pair tI (.pair tI (.slice tI))))))) a0), (11, aB (!r1))]) (L' := []) (obs := []) rfl (by kernel_rfl) allP0 ?_
  refine WO_fin [0, 11] [] (fr' := [(0, aD (.slice (.pair tI (.pair tI (.pair tI (.pair tI (.pair tI (.slice tI))))))) a0), (11, aB (!r1))]) (L' := []) (by kernel_rfl) (by kernel_rfl) ?_
  refine seqQ_norm ?_
  refine W_cond (o := .tmp 11) (b := !r1) (by kernel_rfl) (by kernel_rfl) (fun h3 => ?_) (fun h3 => ?_)
  · replace h := ofT h3 h
    refine W_seq (by kernel_rfl) ?_
    refine W_run 1 [] [2] [] (fr' := [(2, aI (1 : Int))]) (L' := []) (obs := []) (by kernel_rfl) (by kernel_rfl) (by kernel_rfl) allP0 ?_
    refine seqQ_norm ?_
    obtain rfl := Option.some.inj h
    refine W_ret [2] [] (fr' := [(2, aI (1 : Int))]) (L' := []) (by kernel_rfl) (by kernel_rfl) ?_
    refine seqQ_ret ?_
    exact retQ_mk (by kernel_rfl) (by kernel_rfl) (by kernel_rfl)
  · replace h := ofF h3 h
    refine W_skip [0] [] (fr' := [(0, aD (.slice (.pair tI (.pair tI (.pair tI (.pair tI (.pair tI (.slice tI))))))) a0)]) (L' := []) (by kernel_rfl) (by kernel_rfl) ?_
    refine seqQ_norm ?_
    refine W_seq (by kernel_rfl) ?_
    refine W_seq (by kernel_rfl) ?_
    refine W_run 3 [] [0, 12, 13, 14] [] (fr' := [(0, aD (.slice (.pair tI (.pair tI (.pair tI (.pair tI (.pair tI (.slice tI))))))) a0), (12, aD (.slice (.pair tI (.pair tI (.pair tI (.pair tI (.pair tI (.slice tI))))))) a0), (13, aI (List.length a0 : Int)), (14, aI (0 : Int))]) (L' := []) (obs := []) (by kernel_rfl) (by kernel_rfl) (by kernel_rfl) allP0 ?_
    refine seqQ_norm ?_
    refine W_block (id := 0) (by kernel_rfl) ?_
    obtain ⟨v2235, h2236, h⟩ := bind_of h
    refine W_len (t := 12) (u := (.pair tI (.pair tI (.pair tI (.pair tI (.pair tI (.slice tI))))))) (xs := a0) (by kernel_rfl) (fun h2239 => ?_)
    obtain ⟨h2237, h2238⟩ := forL_iter h2239 h2236
    refine W_weaken [0, 12, 13, 14] [] (fr' := ((ref_FuncsCheck_s219 a0) ((0 : Int), ())).1) (L' := ((ref_FuncsCheck_s219 a0) ((0 : Int), ())).2) (by kernel_rfl) ?_
    refine W_cutK (W_loop (S := (ref_FuncsCheck_s219 a0)) (J := (escQ (exQ .ret ref_FuncsCheck_s220) (exQ (.exit 0) ref_FuncsCheck_s221))) (by kernel_rfl) ?_ h2237 _ v2235 h2238) ?_
    · rintro ⟨i1492, x1493⟩ s h
      refine W_seq (by kernel_rfl) ?_
      refine W_run 1 [] [0, 12, 13, 14, 15] [] (fr' := [(0, aD (.slice (.pair tI (.pair tI (.pair tI (.pair tI (.pair tI (.slice tI))))))) a0), (12, aD (.slice (.pair tI (.pair tI (.pair tI (.pair tI (.pair tI (.slice tI))))))) a0), (13, aI (List.length a0 : Int)), (14, aI i1492), (15, aB (decide (i1492 < (List.length a0 : Int))))]) (L' := []) (obs := []) (by kernel_rfl) (by kernel_rfl) (by kernel_rfl) allP0 ?_
      refine seqQ_norm ?_
      refine W_seq (by kernel_rfl) ?_
      refine W_cond (o := .tmp 15) (b := decide (i1492 < (List.length a0 : Int))) (by kernel_rfl) (by kernel_rfl) (fun h1497 => ?_) (fun h1497 => ?_)
      · replace h := stepL_true h1497 h
        obtain ⟨v1495, _, h1496, h, rfl⟩ := h
        refine W_skip [0, 12, 13, 14] [] (fr' := [(0, aD (.slice (.pair tI (.pair tI (.pair tI (.pair tI (.pair tI (.slice tI))))))) a0), (12, aD (.slice (.pair tI (.pair tI (.pair tI (.pair tI (.pair tI (.slice tI))))))) a0), (13, aI (List.length a0 : Int)), (14, aI i1492)]) (L' := []) (by kernel_rfl) (by kernel_rfl) ?_
        refine seqQ_norm ?_
        refine W_seq (by kernel_rfl) ?_
        obtain ⟨v2230, h2231, h⟩ := bind_of h
        refine W_cutK (Q' := (escQ (exQ .ret ref_FuncsCheck_s216) (exQ .normal (ref_FuncsCheck_s217 a0 i1492))) v2230) ?_ ?_
        · replace h := h2231
          refine W_block (id := 1) (by kernel_rfl) ?_
          refine W_seq (by kernel_rfl) ?_
          refine W_run 6 [(3, .val (.dat (.pair tI (.pair tI (.pair tI (.pair tI (.pair tI (.slice tI)))))) v1495)), (7, .typed)] [0, 3, 4, 12, 13, 14] [4] (fr' := [(0, aD (.slice (.pair tI (.pair tI (.pair tI (.pair tI (.pair tI (.slice tI))))))) a0), (3, aI i1492), (4, .one (.ptr 4 0)), (12, aD (.slice (.pair tI (.pair tI (.pair tI (.pair tI (.pair tI (.slice tI))))))) a0), (13, aI (List.length a0 : Int)), (14, aI i1492)]) (L' := [(4, .one (.pair tI (.pair tI (.pair tI (.pair tI (.pair tI (.slice tI)))))) v1495)]) (obs := [Idx a0 i1492 v1495, True]) (by kernel_rfl) (by kernel_rfl) (by kernel_rfl) (allP2 (Idx.of h1496) (allP1 trivial)) ?_
          refine seqQ_norm ?_
          refine W_seq (by kernel_rfl) ?_
          refine W_seq (by kernel_rfl) ?_
          refine W_region (by kernel_rfl) ?_
          refine WO_run (j := 2) (k := 2) (orcs := []) (kF := [0, 3, 4, 12, 13, 14, 20]) (kL := [4]) (fr' := [(0, aD (.slice (.pair tI (.pair tI (.pair tI (.pair tI (.pair tI (.slice tI))))))) a0), (3, aI i1492), (4, .one (.ptr 4 0)), (12, aD (.slice (.pair tI (.pair tI (.pair tI (.pair tI (.pair tI (.slice tI))))))) a0), (13, aI (List.length a0 : Int)), (14, aI i1492), (20, aI v1495.1)]) (L' := [(4, .one (.pair tI (.pair tI (.pair tI (.pair tI (.pair tI (.slice tI)))))) v1495)]) (obs := []) rfl (by kernel_rfl) allP0 ?_
          obtain ⟨r1986, h1987, h⟩ := bind_of h
          refine WO_call0 (us := [none, none, none]) (d := 21) (p := True) (j := 3) rfl ⟨by kernel_rfl, by kernel_rfl, by kernel_rfl⟩ trivial (ref_Within_ok h1987) (by kernel_rfl) ?_
          refine WO_run (j := 4) (k := 1) (orcs := []) (kF := [0, 3, 4, 12, 13, 14, 22]) (kL := [4]) (fr' := [(0, aD (.slice (.pair tI (.pair tI (.pair tI (.pair tI (.pair tI (.slice tI))))))) a0), (3, aI i1492), (4, .one (.ptr 4 0)), (12, aD (.slice (.pair tI (.pair tI (.pair tI (.pair tI (.pair tI (.slice tI))))))) a0), (13, aI (List.length a0 : Int)), (14, aI i1492), (22, aB (!r1986))]) (L' := [(4, .one (.pair tI (.pair tI (.pair tI (.pair tI (.pair tI (.slice tI)))))) v1495)]) (obs := []) rfl (by kernel_rfl) allP0 ?_
          refine WO_fin [0, 3, 4, 12, 13, 14, 22] [4] (fr' := [(0, aD (.slice (.pair tI (.pair tI (.pair tI (.pair tI (.pair tI (.slice tI))))))) a0), (3, aI i1492), (4, .one (.ptr 4 0)), (12, aD (.slice (.pair tI (.pair tI (.pair tI (.pair tI (.pair tI (.slice tI))))))) a0), (13, aI (List.length a0 : Int)), (14, aI i1492), (22, aB (!r1986))]) (L' := [(4, .one (.pair tI (.pair tI (.pair tI (.pair tI (.pair tI (.slice tI)))))) v1495)]) (by kernel_rfl) (by kernel_rfl) ?_
          refine seqQ_norm ?_
          refine W_cond (o := .tmp 22) (b := !r1986) (by kernel_rfl) (by kernel_rfl) (fun h1988 => ?_) (fun h1988 => ?_)
          · replace h := ofT h1988 h
            refine W_seq (by kernel_rfl) ?_
            refine W_run 1 [] [2] [] (fr' := [(2, aI (6 : Int))]) (L' := []) (obs := []) (by kernel_rfl) (by kernel_rfl) (by kernel_rfl) allP0 ?_
            refine seqQ_norm ?_
            obtain rfl := Option.some.inj h
            refine W_ret [2] [] (fr' := [(2, aI (6 : Int))]) (L' := []) (by kernel_rfl) (by kernel_rfl) ?_
            refine seqQ_ret ?_
            refine blockQ_ret ?_
            refine escQ_ret ?_
            exact exQ_mk (by kernel_rfl) (by kernel_rfl)
          · replace h := ofF h1988 h
            refine W_skip [0, 3, 4, 12, 13, 14] [4] (fr' := [(0, aD (.slice (.pair tI (.pair tI (.pair tI (.pair tI (.pair tI (.slice tI))))))) a0), (3, aI i1492), (4, .one (.ptr 4 0)), (12, aD (.slice (.pair tI (.pair tI (.pair tI (.pair tI (.pair tI (.slice tI))))))) a0), (13, aI (List.length a0 : Int)), (14, aI i1492)]) (L' := [(4, .one (.pair tI (.pair tI (.pair tI (.pair tI (.pair tI (.slice tI)))))) v1495)]) (by kernel_rfl) (by kernel_rfl) ?_
            refine seqQ_norm ?_
            refine W_seq (by kernel_rfl) ?_
            refine W_run 1 [] [0, 3, 4, 5, 12, 13, 14] [4] (fr' := [(0, aD (.slice (.pair tI (.pair tI (.pair tI (.pair tI (.pair tI (.slice tI))))))) a0), (3, aI i1492), (4, .one (.ptr 4 0)), (5, aI (0 : Int)), (12, aD (.slice (.pair tI (.pair tI (.pair tI (.pair tI (.pair tI (.slice tI))))))) a0), (13, aI (List.length a0 : Int)), (14, aI i1492)]) (L' := [(4, .one (.pair tI (.pair tI (.pair tI (.pair tI (.pair tI (.slice tI)))))) v1495)]) (obs := []) (by kernel_rfl) (by kernel_rfl) (by kernel_rfl) allP0 ?_
            refine seqQ_norm ?_
            refine W_seq (by kernel_rfl) ?_
            obtain ⟨v2007, h2008, h⟩ := bind_of h
            refine W_cutK (Q' := (exQ .normal (ref_FuncsCheck_s214 a0 i1492 v1495)) v2007) ?_ ?_
            · replace h := h2008
              refine W_seq (by kernel_rfl) ?_
              obtain ⟨v2004, h2005, h⟩ := bind_of h
              refine W_cutK (Q' := (exQ .normal (ref_FuncsCheck_s192 a0 i1492 v1495)) v2004) ?_ ?_
              · replace h := h2005
                refine W_region (by kernel_rfl) ?_
                refine WO_run (j := 4) (k := 4) (orcs := []) (kF := [0, 3, 4, 5, 12, 13, 14, 26]) (kL := [4]) (fr' := [(0, aD (.slice (.pair tI (.pair tI (.pair tI (.pair tI (.pair tI (.slice tI))))))) a0), (3, aI i1492), (4, .one (.ptr 4 0)), (5, aI (0 : Int)), (12, aD (.slice (.pair tI (.pair tI (.pair tI (.pair tI (.pair tI (.slice tI))))))) a0), (13, aI (List.length a0 : Int)), (14, aI i1492), (26, aB (v1495.1 == (2 : Int)))]) (L' := [(4, .one (.pair tI (.pair tI (.pair tI (.pair tI (.pair tI (.slice tI)))))) v1495)]) (obs := []) rfl (by kernel_rfl) allP0 ?_
                rcases Bool.eq_false_or_eq_true (v1495.1 == (2 : Int)) with h2003 | h2003
                · replace h := ofT h2003 h
                  refine WO_run (j := 8) (k := 4) (orcs := [(8, .known true), (10, .known true), (12, .known true), (15, .val (.dat .bool true))]) (kF := [0, 3, 4, 5, 12, 13, 14, 30]) (kL := [4]) (fr' := [(0, aD (.slice (.pair tI (.pair tI (.pair tI (.pair tI (.pair tI (.slice tI))))))) a0), (3, aI i1492), (4, .one (.ptr 4 0)), (5, aI (0 : Int)), (12, aD (.slice (.pair tI (.pair tI (.pair tI (.pair tI (.pair tI (.slice tI))))))) a0), (13, aI (List.length a0 : Int)), (14, aI i1492), (30, aB true)]) (L' := [(4, .one (.pair tI (.pair tI (.pair tI (.pair tI (.pair tI (.slice tI)))))) v1495)]) (obs := [((v1495.1 == (2 : Int)) = true), ((v1495.1 == (2 : Int)) = true), ((v1495.1 == (2 : Int)) = true), ((v1495.1 == (2 : Int)) = true)]) rfl (by kernel_rfl) (allP2 h2003 (allP2 h2003 (allP2 h2003 (allP1 h2003)))) ?_
                  obtain rfl := Option.some.inj h
                  refine WO_fin [0, 3, 4, 5, 12, 13, 14, 30] [4] (fr' := [(0, aD (.slice (.pair tI (.pair tI (.pair tI (.pair tI (.pair tI (.slice tI))))))) a0), (3, aI i1492), (4, .one (.ptr 4 0)), (5, aI (0 : Int)), (12, aD (.slice (.pair tI (.pair tI (.pair tI (.pair tI (.pair tI (.slice tI))))))) a0), (13, aI (List.length a0 : Int)), (14, aI i1492), (30, aB true)]) (L' := [(4, .one (.pair tI (.pair tI (.pair tI (.pair tI (.pair tI (.slice tI)))))) v1495)]) (by kernel_rfl) (by kernel_rfl) ?_
                  exact exQ_mk (by kernel_rfl) (by kernel_rfl)
                · replace h := ofF h2003 h
                  refine WO_run (j := 8) (k := 4) (orcs := [(8, .known false), (10, .known false), (12, .known false), (15, .val (.dat .bool false))]) (kF := [0, 3, 4, 5, 12, 13, 14, 30]) (kL := [4]) (fr' := [(0, aD (.slice (.pair tI (.pair tI (.pair tI (.pair tI (.pair tI (.slice tI))))))) a0), (3, aI i1492), (4, .one (.ptr 4 0)), (5, aI (0 : Int)), (12, aD (.slice (.pair tI (.pair tI (.pair tI (.pair tI (.pair tI (.slice tI))))))) a0), (13, aI (List.length a0 : Int)), (14, aI i1492), (30, aB (v1495.1 == (5 : Int)))]) (L' := [(4, .one (.pair tI (.pair tI (.pair tI (.pair tI (.pair tI (.slice tI)))))) v1495)]) (obs := [((v1495.1 == (2 : Int)) = false), ((v1495.1 == (2 : Int)) = false), ((v1495.1 == (2 : Int)) = false), ((v1495.1 == (2 : Int)) = false)]) rfl (by kernel_rfl) (allP2 h2003 (allP2 h2003 (allP2 h2003 (allP1 h2003)))) ?_
                  obtain rfl := Option.some.inj h
                  refine WO_fin [0, 3, 4, 5, 12, 13, 14, 30] [4] (fr' := [(0, aD (.slice (.pair tI (.pair tI (.pair tI (.pair tI (.pair tI (.slice tI))))))) a0), (3, aI i1492), (4, .one (.ptr 4 0)), (5, aI (0 : Int)), (12, aD (.slice (.pair tI (.pair tI (.pair tI (.pair tI (.pair tI (.slice tI))))))) a0), (13, aI (List.length a0 : Int)), (14, aI i1492), (30, aB (v1495.1 == (5 : Int)))]) (L' := [(4, .one (.pair tI (.pair tI (.pair tI (.pair tI (.pair tI (.slice tI)))))) v1495)]) (by kernel_rfl) (by kernel_rfl) ?_
                  exact exQ_mk (by kernel_rfl) (by kernel_rfl)
              · intro e fr L hJ
                obtain ⟨rfl, rfl, rfl⟩ := hJ
                refine LT_keep [0, 3, 4, 5, 12, 13, 14, 30] [4] (fr' := [(0, aD (.slice (.pair tI (.pair tI (.pair tI (.pair tI (.pair tI (.slice tI))))))) a0), (3, aI i1492), (4, .one (.ptr 4 0)), (5, aI (0 : Int)), (12, aD (.slice (.pair tI (.pair tI (.pair tI (.pair tI (.pair tI (.slice tI))))))) a0), (13, aI (List.length a0 : Int)), (14, aI i1492), (30, aB v2004)]) (L' := [(4, .one (.pair tI (.pair tI (.pair tI (.pair tI (.pair tI (.slice tI)))))) v1495)]) (by kernel_rfl) ?_
                refine seqQ_norm ?_
                refine W_cond (o := .tmp 30) (b := v2004) (by kernel_rfl) (by kernel_rfl) (fun h2006 => ?_) (fun h2006 => ?_)
                · replace h := ofT h2006 h
                  obtain rfl := Option.some.inj h
                  refine W_run 1 [] [0, 3, 4, 5, 12, 13, 14] [4] (fr' := [(0, aD (.slice (.pair tI (.pair tI (.pair tI (.pair tI (.pair tI (.slice tI))))))) a0), (3, aI i1492), (4, .one (.ptr 4 0)), (5, aI (1 : Int)), (12, aD (.slice (.pair tI (.pair tI (.pair tI (.pair tI (.pair tI (.slice tI))))))) a0), (13, aI (List.length a0 : Int)), (14, aI i1492)]) (L' := [(4, .one (.pair tI (.pair tI (.pair tI (.pair tI (.pair tI (.slice tI)))))) v1495)]) (obs := []) (by kernel_rfl) (by kernel_rfl) (by kernel_rfl) allP0 ?_
                  exact exQ_mk (by kernel_rfl) (by kernel_rfl)
                · replace h := ofF h2006 h
                  obtain rfl := Option.some.inj h
                  refine W_skip [0, 3, 4, 5, 12, 13, 14] [4] (fr' := [(0, aD (.slice (.pair tI (.pair tI (.pair tI (.pair tI (.pair tI (.slice tI))))))) a0), (3, aI i1492), (4, .one (.ptr 4 0)), (5, aI (0 : Int)), (12, aD (.slice (.pair tI (.pair tI (.pair tI (.pair tI (.pair tI (.slice tI))))))) a0), (13, aI (List.length a0 : Int)), (14, aI i1492)]) (L' := [(4, .one (.pair tI (.pair tI (.pair tI (.pair tI (.pair tI (.slice tI)))))) v1495)]) (by kernel_rfl) (by kernel_rfl) ?_
                  exact exQ_mk (by kernel_rfl) (by kernel_rfl)
            · intro e fr L hJ
              obtain ⟨rfl, rfl, rfl⟩ := hJ
              refine LT_keep [0, 3, 4, 5, 12, 13, 14] [4] (fr' := [(0, aD (.slice (.pair tI (.pair tI (.pair tI (.pair tI (.pair tI (.slice tI))))))) a0), (3, aI i1492), (4, .one (.ptr 4 0)), (5, aI v2007), (12, aD (.slice (.pair tI (.pair tI (.pair tI (.pair tI (.pair tI (.slice tI))))))) a0), (13, aI (List.length a0 : Int)), (14, aI i1492)]) (L' := [(4, .one (.pair tI (.pair tI (.pair tI (.pair tI (.pair tI (.slice tI)))))) v1495)]) (by kernel_rfl) ?_
              refine seqQ_norm ?_
              refine W_seq (by kernel_rfl) ?_
              refine W_seq (by kernel_rfl) ?_
              obtain ⟨v2030, h2031, h⟩ := bind_of h
              refine W_cutK (Q' := (exQ .normal (ref_FuncsCheck_s213 a0 i1492 v1495)) v2030) ?_ ?_
              · replace h := h2031
                refine W_region (by kernel_rfl) ?_
                refine WO_run (j := 3) (k := 3) (orcs := []) (kF := [0, 3, 4, 12, 13, 14, 31, 33]) (kL := [4]) (fr' := [(0, aD (.slice (.pair tI (.pair tI (.pair tI (.pair tI (.pair tI (.slice tI))))))) a0), (3, aI i1492), (4, .one (.ptr 4 0)), (12, aD (.slice (.pair tI (.pair tI (.pair tI (.pair tI (.pair tI (.slice tI))))))) a0), (13, aI (List.length a0 : Int)), (14, aI i1492), (31, aI v2007), (33, aI v1495.2.1)]) (L' := [(4, .one (.pair tI (.pair tI (.pair tI (.pair tI (.pair tI (.slice tI)))))) v1495)]) (obs := []) rfl (by kernel_rfl) allP0 ?_
                obtain ⟨r2023, h2024, h⟩ := bind_of h
                refine WO_call0 (us := [none, none, none]) (d := 34) (p := True) (j := 4) rfl ⟨by kernel_rfl, by kernel_rfl, by kernel_rfl⟩ trivial (ref_Within_ok h2024) (by kernel_rfl) ?_
                refine WO_run (j := 6) (k := 2) (orcs := []) (kF := [0, 3, 4, 12, 13, 14, 36]) (kL := [4]) (fr' := [(0, aD (.slice (.pair tI (.pair tI (.pair tI (.pair tI (.pair tI (.slice tI))))))) a0), (3, aI i1492), (4, .one (.ptr 4 0)), (12, aD (.slice (.pair tI (.pair tI (.pair tI (.pair tI (.pair tI (.slice tI))))))) a0), (13, aI (List.length a0 : Int)), (14, aI i1492), (36, aB (!r2023))]) (L' := [(4, .one (.pair tI (.pair tI (.pair tI (.pair tI (.pair tI (.slice tI)))))) v1495)]) (obs := []) rfl (by kernel_rfl) allP0 ?_
                rcases Bool.eq_false_or_eq_true (!r2023) with h2025 | h2025
                · replace h := ofT h2025 h
                  refine WO_run (j := 26) (k := 20) (orcs := [(12, .known true), (14, .known true), (16, .known true), (18, .known true), (20, .known true), (22, .known true), (24, .known true), (26, .known true), (29, .val (.dat .bool true)), (32, .known true), (34, .known true), (36, .known true), (38, .known true), (40, .known true), (42, .known true), (44, .known true), (46, .known true), (48, .known true), (51, .val (.dat .bool true))]) (kF := [0, 3, 4, 12, 13, 14, 56]) (kL := [4]) (fr' := [(0, aD (.slice (.pair tI (.pair tI (.pair tI (.pair tI (.pair tI (.slice tI))))))) a0), (3, aI i1492), (4, .one (.ptr 4 0)), (12, aD (.slice (.pair tI (.pair tI (.pair tI (.pair tI (.pair tI (.slice tI))))))) a0), (13, aI (List.length a0 : Int)), (14, aI i1492), (56, aB true)]) (L' := [(4, .one (.pair tI (.pair tI (.pair tI (.pair tI (.pair tI (.slice tI)))))) v1495)]) (obs := [((!r2023) = true), ((!r2023) = true), ((!r2023) = true), ((!r2023) = true), ((!r2023) = true), ((!r2023) = true), (true = true), (true = true), (true = true), (true = true), (true = true), (true = true)]) rfl (by kernel_rfl) (allP2 h2025 (allP2 h2025 (allP2 h2025 (allP2 h2025 (allP2 h2025 (allP2 h2025 (allP2 rfl (allP2 rfl (allP2 rfl (allP2 rfl (allP2 rfl (allP1 rfl)))))))))))) ?_
                  obtain rfl := Option.some.inj h
                  refine WO_fin [0, 3, 4, 12, 13, 14, 56] [4] (fr' := [(0, aD (.slice (.pair tI (.pair tI (.pair tI (.pair tI (.pair tI (.slice tI))))))) a0), (3, aI i1492), (4, .one (.ptr 4 0)), (12, aD (.slice (.pair tI (.pair tI (.pair tI (.pair tI (.pair tI (.slice tI))))))) a0), (13, aI (List.length a0 : Int)), (14, aI i1492), (56, aB true)]) (L' := [(4, .one (.pair tI (.pair tI (.pair tI (.pair tI (.pair tI (.slice tI)))))) v1495)]) (by kernel_rfl) (by kernel_rfl) ?_
                  exact exQ_mk (by kernel_rfl) (by kernel_rfl)
                · replace h := ofF h2025 h
                  refine WO_run (j := 10) (k := 4) (orcs := [(12, .known false), (14, .known false), (16, .known false), (18, .known false)]) (kF := [0, 3, 4, 12, 13, 14, 36, 40]) (kL := [4]) (fr' := [(0, aD (.slice (.pair tI (.pair tI (.pair tI (.pair tI (.pair tI (.slice tI))))))) a0), (3, aI i1492), (4, .one (.ptr 4 0)), (12, aD (.slice (.pair tI (.pair tI (.pair tI (.pair tI (.pair tI (.slice tI))))))) a0), (13, aI (List.length a0 : Int)), (14, aI i1492), (36, aB (!r2023)), (40, aB (v1495.1 == (2 : Int)))]) (L' := [(4, .one (.pair tI (.pair tI (.pair tI (.pair tI (.pair tI (.slice tI)))))) v1495)]) (obs := [((!r2023) = false), ((!r2023) = false), ((!r2023) = false), ((!r2023) = false)]) rfl (by kernel_rfl) (allP2 h2025 (allP2 h2025 (allP2 h2025 (allP1 h2025)))) ?_
                  rcases Bool.eq_false_or_eq_true (v1495.1 == (2 : Int)) with h2026 | h2026
                  · replace h := ofT h2026 h
                    refine WO_run (j := 16) (k := 6) (orcs := [(20, .known true), (22, .known true), (24, .known true), (26, .known false), (27, .val (.dat .bool true)), (29, .val (.dat .bool false))]) (kF := [0, 3, 4, 12, 13, 14, 46]) (kL := [4]) (fr' := [(0, aD (.slice (.pair tI (.pair tI (.pair tI (.pair tI (.pair tI (.slice tI))))))) a0), (3, aI i1492), (4, .one (.ptr 4 0)), (12, aD (.slice (.pair tI (.pair tI (.pair tI (.pair tI (.pair tI (.slice tI))))))) a0), (13, aI (List.length a0 : Int)), (14, aI i1492), (46, aB (v1495.2.1 != (1 : Int)))]) (L' := [(4, .one (.pair tI (.pair tI (.pair tI (.pair tI (.pair tI (.slice tI)))))) v1495)]) (obs := [((v1495.1 == (2 : Int)) = true), ((v1495.1 == (2 : Int)) = true), ((v1495.1 == (2 : Int)) = true), ((!r2023) = false), ((v1495.1 == (2 : Int)) = true), ((!r2023) = false)]) rfl (by kernel_rfl) (allP2 h2026 (allP2 h2026 (allP2 h2026 (allP2 h2025 (allP2 h2026 (allP1 h2025)))))) ?_
                    rcases Bool.eq_false_or_eq_true (v1495.2.1 != (1 : Int)) with h2027 | h2027
                    · replace h := ofT h2027 h
                      refine WO_run (j := 26) (k := 10) (orcs := [(32, .known true), (34, .known true), (36, .known true), (38, .known true), (40, .known true), (42, .known true), (44, .known true), (46, .known true), (48, .known true), (51, .val (.dat .bool true))]) (kF := [0, 3, 4, 12, 13, 14, 56]) (kL := [4]) (fr' := [(0, aD (.slice (.pair tI (.pair tI (.pair tI (.pair tI (.pair tI (.slice tI))))))) a0), (3, aI i1492), (4, .one (.ptr 4 0)), (12, aD (.slice (.pair tI (.pair tI (.pair tI (.pair tI (.pair tI (.slice tI))))))) a0), (13, aI (List.length a0 : Int)), (14, aI i1492), (56, aB true)]) (L' := [(4, .one (.pair tI (.pair tI (.pair tI (.pair tI (.pair tI (.slice tI)))))) v1495)]) (obs := [((v1495.2.1 != (1 : Int)) = true), ((v1495.2.1 != (1 : Int)) = true), ((v1495.2.1 != (1 : Int)) = true), ((v1495.2.1 != (1 : Int)) = true), ((v1495.2.1 != (1 : Int)) = true), ((v1495.2.1 != (1 : Int)) = true)]) rfl (by kernel_rfl) (allP2 h2027 (allP2 h2027 (allP2 h2027 (allP2 h2027 (allP2 h2027 (allP1 h2027)))))) ?_
                      obtain rfl := Option.some.inj h
                      refine WO_fin [0, 3, 4, 12, 13, 14, 56] [4] (fr' := [(0, aD (.slice (.pair tI (.pair tI (.pair tI (.pair tI (.pair tI (.slice tI))))))) a0), (3, aI i1492), (4, .one (.ptr 4 0)), (12, aD (.slice (.pair tI (.pair tI (.pair tI (.pair tI (.pair tI (.slice tI))))))) a0), (13, aI (List.length a0 : Int)), (14, aI i1492), (56, aB true)]) (L' := [(4, .one (.pair tI (.pair tI (.pair tI (.pair tI (.pair tI (.slice tI)))))) v1495)]) (by kernel_rfl) (by kernel_rfl) ?_
                      exact exQ_mk (by kernel_rfl) (by kernel_rfl)
                    · replace h := ofF h2027 h
                      refine WO_run (j := 20) (k := 4) (orcs := [(32, .known false), (34, .known false), (36, .known false), (38, .known false)]) (kF := [0, 3, 4, 12, 13, 14, 46, 50]) (kL := [4]) (fr' := [(0, aD (.slice (.pair tI (.pair tI (.pair tI (.pair tI (.pair tI (.slice tI))))))) a0), (3, aI i1492), (4, .one (.ptr 4 0)), (12, aD (.slice (.pair tI (.pair tI (.pair tI (.pair tI (.pair tI (.slice tI))))))) a0), (13, aI (List.length a0 : Int)), (14, aI i1492), (46, aB (v1495.2.1 != (1 : Int))), (50, aB (v1495.1 == (4 : Int)))]) (L' := [(4, .one (.pair tI (.pair tI (.pair tI (.pair tI (.pair tI (.slice tI)))))) v1495)]) (obs := [((v1495.2.1 != (1 : Int)) = false), ((v1495.2.1 != (1 : Int)) = false), ((v1495.2.1 != (1 : Int)) = false), ((v1495.2.1 != (1 : Int)) = false)]) rfl (by kernel_rfl) (allP2 h2027 (allP2 h2027 (allP2 h2027 (allP1 h2027)))) ?_
                      rcases Bool.eq_false_or_eq_true (v1495.1 == (4 : Int)) with h2028 | h2028
                      · replace h := ofT h2028 h
                        refine WO_run (j := 26) (k := 6) (orcs := [(40, .known true), (42, .known true), (44, .known true), (46, .known true), (48, .known false), (49, .val (.dat .bool true)), (51, .val (.dat .bool false))]) (kF := [0, 3, 4, 12, 13, 14, 56]) (kL := [4]) (fr' := [(0, aD (.slice (.pair tI (.pair tI (.pair tI (.pair tI (.pair tI (.slice tI))))))) a0), (3, aI i1492), (4, .one (.ptr 4 0)), (12, aD (.slice (.pair tI (.pair tI (.pair tI (.pair tI (.pair tI (.slice tI))))))) a0), (13, aI (List.length a0 : Int)), (14, aI i1492), (56, aB (decide ((List.length v1495.2.2.2.2.2 : Int) > (4 : Int))))]) (L' := [(4, .one (.pair tI (.pair tI (.pair tI (.pair tI (.pair tI (.slice tI)))))) v1495)]) (obs := [((v1495.1 == (4 : Int)) = true), ((v1495.1 == (4 : Int)) = true), ((v1495.1 == (4 : Int)) = true), ((v1495.1 == (4 : Int)) = true), ((v1495.2.1 != (1 : Int)) = false), ((v1495.1 == (4 : Int)) = true), ((v1495.2.1 != (1 : Int)) = false)]) rfl (by kernel_rfl) (allP2 h2028 (allP2 h2028 (allP2 h2028 (allP2 h2028 (allP2 h2027 (allP2 h2028 (allP1 h2027))))))) ?_
                        obtain rfl := Option.some.inj h
                        refine WO_fin [0, 3, 4, 12, 13, 14, 56] [4] (fr' := [(0, aD (.slice (.pair tI (.pair tI (.pair tI (.pair tI (.pair tI (.slice tI))))))) a0), (3, aI i1492), (4, .one (.ptr 4 0)), (12, aD (.slice (.pair tI (.pair tI (.pair tI (.pair tI (.pair tI (.slice tI))))))) a0), (13, aI (List.length a0 : Int)), (14, aI i1492), (56, aB (decide ((List.length v1495.2.2.2.2.2 : Int) > (4 : Int))))]) (L' := [(4, .one (.pair tI (.pair tI (.pair tI (.pair tI (.pair tI (.slice tI)))))) v1495)]) (by kernel_rfl) (by kernel_rfl) ?_
                        exact exQ_mk (by kernel_rfl) (by kernel_rfl)
                      · replace h := ofF h2028 h
                        refine WO_run (j := 26) (k := 6) (orcs := [(40, .known false), (42, .known false), (44, .known false), (46, .known false), (48, .known false), (49, .val (.dat .bool false)), (51, .val (.dat .bool false))]) (kF := [0, 3, 4, 12, 13, 14, 56]) (kL := [4]) (fr' := [(0, aD (.slice (.pair tI (.pair tI (.pair tI (.pair tI (.pair tI (.slice tI))))))) a0), (3, aI i1492), (4, .one (.ptr 4 0)), (12, aD (.slice (.pair tI (.pair tI (.pair tI (.pair tI (.pair tI (.slice tI))))))) a0), (13, aI (List.length a0 : Int)), (14, aI i1492), (56, aB false)]) (L' := [(4, .one (.pair tI (.pair tI (.pair tI (.pair tI (.pair tI (.slice tI)))))) v1495)]) (obs := [((v1495.1 == (4 : Int)) = false), ((v1495.1 == (4 : Int)) = false), ((v1495.1 == (4 : Int)) = false), ((v1495.1 == (4 : Int)) = false), ((v1495.2.1 != (1 : Int)) = false), ((v1495.1 == (4 : Int)) = false), ((v1495.2.1 != (1 : Int)) = false)]) rfl (by kernel_rfl) (allP2 h2028 (allP2 h2028 (allP2 h2028 (allP2 h2028 (allP2 h2027 (allP2 h2028 (allP1 h2027))))))) ?_
                        obtain rfl := Option.some.inj h
                        refine WO_fin [0, 3, 4, 12, 13, 14, 56] [4] (fr' := [(0, aD (.slice (.pair tI (.pair tI (.pair tI (.pair tI (.pair tI (.slice tI))))))) a0), (3, aI i1492), (4, .one (.ptr 4 0)), (12, aD (.slice (.pair tI (.pair tI (.pair tI (.pair tI (.pair tI (.slice tI))))))) a0), (13, aI (List.length a0 : Int)), (14, aI i1492), (56, aB false)]) (L' := [(4, .one (.pair tI (.pair tI (.pair tI (.pair tI (.pair tI (.slice tI)))))) v1495)]) (by kernel_rfl) (by kernel_rfl) ?_
                        exact exQ_mk (by kernel_rfl) (by kernel_rfl)
                  · replace h := ofF h2026 h
                    refine WO_run (j := 20) (k := 10) (orcs := [(20, .known false), (22, .known false), (24, .known false), (26, .known false), (27, .val (.dat .bool false)), (29, .val (.dat .bool false)), (32, .known false), (34, .known false), (36, .known false), (38, .known false)]) (kF := [0, 3, 4, 12, 13, 14, 46, 50]) (kL := [4]) (fr' := [(0, aD (.slice (.pair tI (.pair tI (.pair tI (.pair tI (.pair tI (.slice tI))))))) a0), (3, aI i1492), (4, .one (.ptr 4 0)), (12, aD (.slice (.pair tI (.pair tI (.pair tI (.pair tI (.pair tI (.slice tI))))))) a0), (13, aI (List.length a0 : Int)), (14, aI i1492), (46, aB false), (50, aB (v1495.1 == (4 : Int)))]) (L' := [(4, .one (.pair tI (.pair tI (.pair tI (.pair tI (.pair tI (.slice tI)))))) v1495)]) (obs := [((v1495.1 == (2 : Int)) = false), ((v1495.1 == (2 : Int)) = false), ((v1495.1 == (2 : Int)) = false), ((!r2023) = false), ((v1495.1 == (2 : Int)) = false), ((!r2023) = false), (false = false), (false = false), (false = false), (false = false)]) rfl (by kernel_rfl) (allP2 h2026 (allP2 h2026 (allP2 h2026 (allP2 h2025 (allP2 h2026 (allP2 h2025 (allP2 rfl (allP2 rfl (allP2 rfl (allP1 rfl)))))))))) ?_
                    rcases Bool.eq_false_or_eq_true (v1495.1 == (4 : Int)) with h2029 | h2029
                    · replace h := ofT h2029 h
                      refine WO_run (j := 26) (k := 6) (orcs := [(40, .known true), (42, .known true), (44, .known true), (46, .known true), (48, .known false), (49, .val (.dat .bool true)), (51, .val (.dat .bool false))]) (kF := [0, 3, 4, 12, 13, 14, 56]) (kL := [4]) (fr' := [(0, aD (.slice (.pair tI (.pair tI (.pair tI (.pair tI (.pair tI (.slice tI))))))) a0), (3, aI i1492), (4, .one (.ptr 4 0)), (12, aD (.slice (.pair tI (.pair tI (.pair tI (.pair tI (.pair tI (.slice tI))))))) a0), (13, aI (List.length a0 : Int)), (14, aI i1492), (56, aB (decide ((List.length v1495.2.2.2.2.2 : Int) > (4 : Int))))]) (L' := [(4, .one (.pair tI (.pair tI (.pair tI (.pair tI (.pair tI (.slice tI)))))) v1495)]) (obs := [((v1495.1 == (4 : Int)) = true), ((v1495.1 == (4 : Int)) = true), ((v1495.1 == (4 : Int)) = true), ((v1495.1 == (4 : Int)) = true), (false = false), ((v1495.1 == (4 : Int)) = true), (false = false)]) rfl (by kernel_rfl) (allP2 h2029 (allP2 h2029 (allP2 h2029 (allP2 h2029 (allP2 rfl (allP2 h2029 (allP1 rfl))))))) ?_
                      obtain rfl := Option.some.inj h
                      refine WO_fin [0, 3, 4, 12, 13, 14, 56] [4] (fr' := [(0, aD (.slice (.pair tI (.pair tI (.pair tI (.pair tI (.pair tI (.slice tI))))))) a0), (3, aI i1492), (4, .one (.ptr 4 0)), (12, aD (.slice (.pair tI (.pair tI (.pair tI (.pair tI (.pair tI (.slice tI))))))) a0), (13, aI (List.length a0 : Int)), (14, aI i1492), (56, aB (decide ((List.length v1495.2.2.2.2.2 : Int) > (4 : Int))))]) (L' := [(4, .one (.pair tI (.pair tI (.pair tI (.pair tI (.pair tI (.slice tI)))))) v1495)]) (by kernel_rfl) (by kernel_rfl) ?_
                      exact exQ_mk (by kernel_rfl) (by kernel_rfl)
                    · replace h := ofF h2029 h
                      refine WO_run (j := 26) (k := 6) (orcs := [(40, .known false), (42, .known false), (44, .known false), (46, .known false), (48, .known false), (49, .val (.dat .bool false)), (51, .val (.dat .bool false))]) (kF := [0, 3, 4, 12, 13, 14, 56]) (kL := [4]) (fr' := [(0, aD (.slice (.pair tI (.pair tI (.pair tI (.pair tI (.pair tI (.slice tI))))))) a0), (3, aI i1492), (4, .one (.ptr 4 0)), (12, aD (.slice (.pair tI (.pair tI (.pair tI (.pair tI (.pair tI (.slice tI))))))) a0), (13, aI (List.length a0 : Int)), (14, aI i1492), (56, aB false)]) (L' := [(4, .one (.pair tI (.pair tI (.pair tI (.pair tI (.pair tI (.slice tI)))))) v1495)]) (obs := [((v1495.1 == (4 : Int)) = false), ((v1495.1 == (4 : Int)) = false), ((v1495.1 == (4 : Int)) = false), ((v1495.1 == (4 : Int)) = false), (false = false), ((v1495.1 == (4 : Int)) = false), (false = false)]) rfl (by kernel_rfl) (allP2 h2029 (allP2 h2029 (allP2 h2029 (allP2 h2029 (allP2 rfl (allP2 h2029 (allP1 rfl))))))) ?_
                      obtain rfl := Option.some.inj h
                      refine WO_fin [0, 3, 4, 12, 13, 14, 56] [4] (fr' := [(0, aD (.slice (.pair tI (.pair tI (.pair tI (.pair tI (.pair tI (.slice tI))))))) a0), (3, aI i1492), (4, .one (.ptr 4 0)), (12, aD (.slice (.pair tI (.pair tI (.pair tI (.pair tI (.pair tI (.slice tI))))))) a0), (13, aI (List.length a0 : Int)), (14, aI i1492), (56, aB false)]) (L' := [(4, .one (.pair tI (.pair tI (.pair tI (.pair tI (.pair tI (.slice tI)))))) v1495)]) (by kernel_rfl) (by kernel_rfl) ?_
                      exact exQ_mk (by kernel_rfl) (by kernel_rfl)
              · intro e fr L hJ
                obtain ⟨rfl, rfl, rfl⟩ := hJ
                refine LT_keep [0, 3, 4, 12, 13, 14, 56] [4] (fr' := [(0, aD (.slice (.pair tI (.pair tI (.pair tI (.pair tI (.pair tI (.slice tI))))))) a0), (3, aI i1492), (4, .one (.ptr 4 0)), (12, aD (.slice (.pair tI (.pair tI (.pair tI (.pair tI (.pair tI (.slice tI))))))) a0), (13, aI (List.length a0 : Int)), (14, aI i1492), (56, aB v2030)]) (L' := [(4, .one (.pair tI (.pair tI (.pair tI (.pair tI (.pair tI (.slice tI)))))) v1495)]) (by kernel_rfl) ?_
                refine seqQ_norm ?_
                refine W_cond (o := .tmp 56) (b := v2030) (by kernel_rfl) (by kernel_rfl) (fun h2032 => ?_) (fun h2032 => ?_)
                · replace h := ofT h2032 h
                  refine W_seq (by kernel_rfl) ?_
                  refine W_run 1 [] [2] [] (fr' := [(2, aI (1 : Int))]) (L' := []) (obs := []) (by kernel_rfl) (by kernel_rfl) (by kernel_rfl) allP0 ?_
                  refine seqQ_norm ?_
                  obtain rfl := Option.some.inj h
                  refine W_ret [2] [] (fr' := [(2, aI (1 : Int))]) (L' := []) (by kernel_rfl) (by kernel_rfl) ?_
                  refine seqQ_ret ?_
                  refine blockQ_ret ?_
                  refine escQ_ret ?_
                  exact exQ_mk (by kernel_rfl) (by kernel_rfl)
                · replace h := ofF h2032 h
                  refine W_skip [0, 3, 4, 12, 13, 14] [4] (fr' := [(0, aD (.slice (.pair tI (.pair tI (.pair tI (.pair tI (.pair tI (.slice tI))))))) a0), (3, aI i1492), (4, .one (.ptr 4 0)), (12, aD (.slice (.pair tI (.pair tI (.pair tI (.pair tI (.pair tI (.slice tI))))))) a0), (13, aI (List.length a0 : Int)), (14, aI i1492)]) (L' := [(4, .one (.pair tI (.pair tI (.pair tI (.pair tI (.pair tI (.slice tI)))))) v1495)]) (by kernel_rfl) (by kernel_rfl) ?_
                  refine seqQ_norm ?_
                  refine W_seq (by kernel_rfl) ?_
                  refine W_seq (by kernel_rfl) ?_
                  obtain ⟨v2042, h2043, h⟩ := bind_of h
                  refine W_cutK (Q' := (exQ .normal (ref_FuncsCheck_s212 a0 i1492 v1495)) v2042) ?_ ?_
                  · replace h := h2043
                    refine W_region (by kernel_rfl) ?_
                    refine WO_run (j := 4) (k := 4) (orcs := []) (kF := [0, 3, 4, 12, 13, 14, 60]) (kL := [4]) (fr' := [(0, aD (.slice (.pair tI (.pair tI (.pair tI (.pair tI (.pair tI (.slice tI))))))) a0), (3, aI i1492), (4, .one (.ptr 4 0)), (12, aD (.slice (.pair tI (.pair tI (.pair tI (.pair tI (.pair tI (.slice tI))))))) a0), (13, aI (List.length a0 : Int)), (14, aI i1492), (60, aB (v1495.1 == (3 : Int)))]) (L' := [(4, .one (.pair tI (.pair tI (.pair tI (.pair tI (.pair tI (.slice tI)))))) v1495)]) (obs := []) rfl (by kernel_rfl) allP0 ?_
                    rcases Bool.eq_false_or_eq_true (v1495.1 == (3 : Int)) with h2039 | h2039
                    · replace h := ofT h2039 h
                      refine WO_run (j := 9) (k := 5) (orcs := [(8, .known true), (10, .known true), (12, .known true), (14, .known true), (16, .known true)]) (kF := [0, 3, 4, 12, 13, 14, 60, 62, 65]) (kL := [4, 65]) (fr' := [(0, aD (.slice (.pair tI (.pair tI (.pair tI (.pair tI (.pair tI (.slice tI))))))) a0), (3, aI i1492), (4, .one (.ptr 4 0)), (12, aD (.slice (.pair tI (.pair tI (.pair tI (.pair tI (.pair tI (.slice tI))))))) a0), (13, aI (List.length a0 : Int)), (14, aI i1492), (60, aB (v1495.1 == (3 : Int))), (62, aI v1495.2.1), (65, .one (.slc 65))]) (L' := [(4, .one (.pair tI (.pair tI (.pair tI (.pair tI (.pair tI (.slice tI)))))) v1495), (65, .seq tI [v1495.2.2.1])]) (obs := [((v1495.1 == (3 : Int)) = true), ((v1495.1 == (3 : Int)) = true), ((v1495.1 == (3 : Int)) = true), ((v1495.1 == (3 : Int)) = true), ((v1495.1 == (3 : Int)) = true)]) rfl (by kernel_rfl) (allP2 h2039 (allP2 h2039 (allP2 h2039 (allP2 h2039 (allP1 h2039))))) ?_
                      obtain ⟨r2040, h2041, h⟩ := bind_of h
                      refine WO_frz 65 (by kernel_rfl) ?_
                      refine WO_call0 (us := [none, none]) (d := 66) (p := ((v1495.1 == (3 : Int)) = true)) (j := 10) rfl ⟨by kernel_rfl, by kernel_rfl, by kernel_rfl⟩ h2039 (ref_Inside_ok h2041) (by kernel_rfl) ?_
                      refine WO_run (j := 12) (k := 2) (orcs := [(20, .known true), (23, .val (.dat .bool true))]) (kF := [0, 3, 4, 12, 13, 14, 68]) (kL := [4]) (fr' := [(0, aD (.slice (.pair tI (.pair tI (.pair tI (.pair tI (.pair tI (.slice tI))))))) a0), (3, aI i1492), (4, .one (.ptr 4 0)), (12, aD (.slice (.pair tI (.pair tI (.pair tI (.pair tI (.pair tI (.slice tI))))))) a0), (13, aI (List.length a0 : Int)), (14, aI i1492), (68, aB (!r2040))]) (L' := [(4, .one (.pair tI (.pair tI (.pair tI (.pair tI (.pair tI (.slice tI)))))) v1495)]) (obs := [((v1495.1 == (3 : Int)) = true), ((v1495.1 == (3 : Int)) = true)]) rfl (by kernel_rfl) (allP2 h2039 (allP1 h2039)) ?_
                      obtain rfl := Option.some.inj h
                      refine WO_fin [0, 3, 4, 12, 13, 14, 68] [4] (fr' := [(0, aD (.slice (.pair tI (.pair tI (.pair tI (.pair tI (.pair tI (.slice tI))))))) a0), (3, aI i1492), (4, .one (.ptr 4 0)), (12, aD (.slice (.pair tI (.pair tI (.pair tI (.pair tI (.pair tI (.slice tI))))))) a0), (13, aI (List.length a0 : Int)), (14, aI i1492), (68, aB (!r2040))]) (L' := [(4, .one (.pair tI (.pair tI (.pair tI (.pair tI (.pair tI (.slice tI)))))) v1495)]) (by kernel_rfl) (by kernel_rfl) ?_
                      exact exQ_mk (by kernel_rfl) (by kernel_rfl)
                    · replace h := ofF h2039 h
                      refine WO_run (j := 12) (k := 8) (orcs := [(8, .known false), (10, .known false), (12, .known false), (14, .known false), (16, .known false), (18, .known false), (20, .known false), (23, .val (.dat .bool false))]) (kF := [0, 3, 4, 12, 13, 14, 68]) (kL := [4]) (fr' := [(0, aD (.slice (.pair tI (.pair tI (.pair tI (.pair tI (.pair tI (.slice tI))))))) a0), (3, aI i1492), (4, .one (.ptr 4 0)), (12, aD (.slice (.pair tI (.pair tI (.pair tI (.pair tI (.pair tI (.slice tI))))))) a0), (13, aI (List.length a0 : Int)), (14, aI i1492), (68, aB false)]) (L' := [(4, .one (.pair tI (.pair tI (.pair tI (.pair tI (.pair tI (.slice tI)))))) v1495)]) (obs := [((v1495.1 == (3 : Int)) = false), ((v1495.1 == (3 : Int)) = false), ((v1495.1 == (3 : Int)) = false), ((v1495.1 == (3 : Int)) = false), ((v1495.1 == (3 : Int)) = false), ((v1495.1 == (3 : Int)) = false), ((v1495.1 == (3 : Int)) = false), ((v1495.1 == (3 : Int)) = false)]) rfl (by kernel_rfl) (allP2 h2039 (allP2 h2039 (allP2 h2039 (allP2 h2039 (allP2 h2039 (allP2 h2039 (allP2 h2039 (allP1 h2039)))))))) ?_
                      obtain rfl := Option.some.inj h
                      refine WO_fin [0, 3, 4, 12, 13, 14, 68] [4] (fr' := [(0, aD (.slice (.pair tI (.pair tI (.pair tI (.pair tI (.pair tI (.slice tI))))))) a0), (3, aI i1492), (4, .one (.ptr 4 0)), (12, aD (.slice (.pair tI (.pair tI (.pair tI (.pair tI (.pair tI (.slice tI))))))) a0), (13, aI (List.length a0 : Int)), (14, aI i1492), (68, aB false)]) (L' := [(4, .one (.pair tI (.pair tI (.pair tI (.pair tI (.pair tI (.slice tI)))))) v1495)]) (by kernel_rfl) (by kernel_rfl) ?_
                      exact exQ_mk (by kernel_rfl) (by kernel_rfl)
                  · intro e fr L hJ
                    obtain ⟨rfl, rfl, rfl⟩ := hJ
                    refine LT_keep [0, 3, 4, 12, 13, 14, 68] [4] (fr' := [(0, aD (.slice (.pair tI (.pair tI (.pair tI (.pair tI (.pair tI (.slice tI))))))) a0), (3, aI i1492), (4, .one (.ptr 4 0)), (12, aD (.slice (.pair tI (.pair tI (.pair tI (.pair tI (.pair tI (.slice tI))))))) a0), (13, aI (List.length a0 : Int)), (14, aI i1492), (68, aB v2042)]) (L' := [(4, .one (.pair tI (.pair tI (.pair tI (.pair tI (.pair tI (.slice tI)))))) v1495)]) (by kernel_rfl) ?_
                    refine seqQ_norm ?_
                    refine W_cond (o := .tmp 68) (b := v2042) (by kernel_rfl) (by kernel_rfl) (fun h2044 => ?_) (fun h2044 => ?_)
                    · replace h := ofT h2044 h
                      refine W_seq (by kernel_rfl) ?_
                      refine W_run 1 [] [2] [] (fr' := [(2, aI (4 : Int))]) (L' := []) (obs := []) (by kernel_rfl) (by kernel_rfl) (by kernel_rfl) allP0 ?_
                      refine seqQ_norm ?_
                      obtain rfl := Option.some.inj h
                      refine W_ret [2] [] (fr' := [(2, aI (4 : Int))]) (L' := []) (by kernel_rfl) (by kernel_rfl) ?_
                      refine seqQ_ret ?_
                      refine blockQ_ret ?_
                      refine escQ_ret ?_
                      exact exQ_mk (by kernel_rfl) (by kernel_rfl)
                    · replace h := ofF h2044 h
                      refine W_skip [0, 3, 4, 12, 13, 14] [4] (fr' := [(0, aD (.slice (.pair tI (.pair tI (.pair tI (.pair tI (.pair tI (.slice tI))))))) a0), (3, aI i1492), (4, .one (.ptr 4 0)), (12, aD (.slice (.pair tI (.pair tI (.pair tI (.pair tI (.pair tI (.slice tI))))))) a0), (13, aI (List.length a0 : Int)), (14, aI i1492)]) (L' := [(4, .one (.pair tI (.pair tI (.pair tI (.pair tI (.pair tI (.slice tI)))))) v1495)]) (by kernel_rfl) (by kernel_rfl) ?_
                      refine seqQ_norm ?_
                      refine W_seq (by kernel_rfl) ?_
                      obtain ⟨v2204, h2205, h⟩ := bind_of h
                      refine W_cutK (Q' := (escQ (exQ .ret ref_FuncsCheck_s210) (exQ .normal (ref_FuncsCheck_s211 a0 i1492 v1495))) v2204) ?_ ?_
                      · replace h := h2205
                        refine W_seq (by kernel_rfl) ?_
                        refine W_run 3 [] [0, 3, 4, 12, 13, 14, 71] [4] (fr' := [(0, aD (.slice (.pair tI (.pair tI (.pair tI (.pair tI (.pair tI (.slice tI))))))) a0), (3, aI i1492), (4, .one (.ptr 4 0)), (12, aD (.slice (.pair tI (.pair tI (.pair tI (.pair tI (.pair tI (.slice tI))))))) a0), (13, aI (List.length a0 : Int)), (14, aI i1492), (71, aB (v1495.1 == (4 : Int)))]) (L' := [(4, .one (.pair tI (.pair tI (.pair tI (.pair tI (.pair tI (.slice tI)))))) v1495)]) (obs := []) (by kernel_rfl) (by kernel_rfl) (by kernel_rfl) allP0 ?_
                        refine seqQ_norm ?_
                        refine W_cond (o := .tmp 71) (b := v1495.1 == (4 : Int)) (by kernel_rfl) (by kernel_rfl) (fun h2151 => ?_) (fun h2151 => ?_)
                        · replace h := ofT h2151 h
                          refine W_seq (by kernel_rfl) ?_
                          refine W_seq (by kernel_rfl) ?_
                          obtain ⟨v2167, h2168, h⟩ := bind_of h
                          refine W_cutK (Q' := (exQ .normal (ref_FuncsCheck_s206 a0 i1492 v1495)) v2167) ?_ ?_
                          · replace h := h2168
                            refine W_region (by kernel_rfl) ?_
                            refine WO_run (j := 4) (k := 4) (orcs := []) (kF := [0, 3, 4, 12, 13, 14, 72, 75]) (kL := [4, 75]) (fr' := [(0, aD (.slice (.pair tI (.pair tI (.pair tI (.pair tI (.pair tI (.slice tI))))))) a0), (3, aI i1492), (4, .one (.ptr 4 0)), (12, aD (.slice (.pair tI (.pair tI (.pair tI (.pair tI (.pair tI (.slice tI))))))) a0), (13, aI (List.length a0 : Int)), (14, aI i1492), (72, aI i1492), (75, .one (.slc 75))]) (L' := [(4, .one (.pair tI (.pair tI (.pair tI (.pair tI (.pair tI (.slice tI)))))) v1495), (75, .seq tI [v1495.2.2.2.1])]) (obs := []) rfl (by kernel_rfl) allP0 ?_
                            obtain ⟨r2162, h2163, h⟩ := bind_of h
                            refine WO_frz 75 (by kernel_rfl) ?_
                            refine WO_call0 (us := [none, none]) (d := 76) (p := True) (j := 5) rfl ⟨by kernel_rfl, by kernel_rfl, by kernel_rfl⟩ trivial (ref_Inside_ok h2163) (by kernel_rfl) ?_
                            refine WO_run (j := 7) (k := 2) (orcs := []) (kF := [0, 3, 4, 12, 13, 14, 78]) (kL := [4]) (fr' := [(0, aD (.slice (.pair tI (.pair tI (.pair tI (.pair tI (.pair tI (.slice tI))))))) a0), (3, aI i1492), (4, .one (.ptr 4 0)), (12, aD (.slice (.pair tI (.pair tI (.pair tI (.pair tI (.pair tI (.slice tI))))))) a0), (13, aI (List.length a0 : Int)), (14, aI i1492), (78, aB (!r2162))]) (L' := [(4, .one (.pair tI (.pair tI (.pair tI (.pair tI (.pair tI (.slice tI)))))) v1495)]) (obs := []) rfl (by kernel_rfl) allP0 ?_
                            rcases Bool.eq_false_or_eq_true (!r2162) with h2164 | h2164
                            · replace h := ofT h2164 h
                              refine WO_run (j := 13) (k := 6) (orcs := [(14, .known true), (16, .known true), (18, .known true), (20, .known true), (22, .known true), (25, .val (.dat .bool true))]) (kF := [0, 3, 4, 12, 13, 14, 84]) (kL := [4]) (fr' := [(0, aD (.slice (.pair tI (.pair tI (.pair tI (.pair tI (.pair tI (.slice tI))))))) a0), (3, aI i1492), (4, .one (.ptr 4 0)), (12, aD (.slice (.pair tI (.pair tI (.pair tI (.pair tI (.pair tI (.slice tI))))))) a0), (13, aI (List.length a0 : Int)), (14, aI i1492), (84, aB true)]) (L' := [(4, .one (.pair tI (.pair tI (.pair tI (.pair tI (.pair tI (.slice tI)))))) v1495)]) (obs := [((!r2162) = true), ((!r2162) = true), ((!r2162) = true), ((!r2162) = true), ((!r2162) = true), ((!r2162) = true)]) rfl (by kernel_rfl) (allP2 h2164 (allP2 h2164 (allP2 h2164 (allP2 h2164 (allP2 h2164 (allP1 h2164)))))) ?_
                              obtain rfl := Option.some.inj h
                              refine WO_fin [0, 3, 4, 12, 13, 14, 84] [4] (fr' := [(0, aD (.slice (.pair tI (.pair tI (.pair tI (.pair tI (.pair tI (.slice tI))))))) a0), (3, aI i1492), (4, .one (.ptr 4 0)), (12, aD (.slice (.pair tI (.pair tI (.pair tI (.pair tI (.pair tI (.slice tI))))))) a0), (13, aI (List.length a0 : Int)), (14, aI i1492), (84, aB true)]) (L' := [(4, .one (.pair tI (.pair tI (.pair tI (.pair tI (.pair tI (.slice tI)))))) v1495)]) (by kernel_rfl) (by kernel_rfl) ?_
                              exact exQ_mk (by kernel_rfl) (by kernel_rfl)
                            · replace h := ofF h2164 h
                              refine WO_run (j := 10) (k := 3) (orcs := [(14, .known false), (16, .known false), (18, .known false)]) (kF := [0, 3, 4, 12, 13, 14, 78, 79, 81]) (kL := [4]) (fr' := [(0, aD (.slice (.pair tI (.pair tI (.pair tI (.pair tI (.pair tI (.slice tI))))))) a0), (3, aI i1492), (4, .one (.ptr 4 0)), (12, aD (.slice (.pair tI (.pair tI (.pair tI (.pair tI (.pair tI (.slice tI))))))) a0), (13, aI (List.length a0 : Int)), (14, aI i1492), (78, aB (!r2162)), (79, aI i1492), (81, aD (.slice tI) v1495.2.2.2.2.2)]) (L' := [(4, .one (.pair tI (.pair tI (.pair tI (.pair tI (.pair tI (.slice tI)))))) v1495)]) (obs := [((!r2162) = false), ((!r2162) = false), ((!r2162) = false)]) rfl (by kernel_rfl) (allP2 h2164 (allP2 h2164 (allP1 h2164))) ?_
                              obtain ⟨r2165, h2166, h⟩ := bind_of h
                              refine WO_call0 (us := [none, none]) (d := 82) (p := ((!r2162) = false)) (j := 11) rfl ⟨by kernel_rfl, by kernel_rfl, by kernel_rfl⟩ h2164 (ref_Inside_ok h2166) (by kernel_rfl) ?_
                              refine WO_run (j := 13) (k := 2) (orcs := [(22, .known false), (25, .val (.dat .bool false))]) (kF := [0, 3, 4, 12, 13, 14, 84]) (kL := [4]) (fr' := [(0, aD (.slice (.pair tI (.pair tI (.pair tI (.pair tI (.pair tI (.slice tI))))))) a0), (3, aI i1492), (4, .one (.ptr 4 0)), (12, aD (.slice (.pair tI (.pair tI (.pair tI (.pair tI (.pair tI (.slice tI))))))) a0), (13, aI (List.length a0 : Int)), (14, aI i1492), (84, aB (!r2165))]) (L' := [(4, .one (.pair tI (.pair tI (.pair tI (.pair tI (.pair tI (.slice tI)))))) v1495)]) (obs := [((!r2162) = false), ((!r2162) = false)]) rfl (by kernel_rfl) (allP2 h2164 (allP1 h2164)) ?_
                              obtain rfl := Option.some.inj h
                              refine WO_fin [0, 3, 4, 12, 13, 14, 84] [4] (fr' := [(0, aD (.slice (.pair tI (.pair tI (.pair tI (.pair tI (.pair tI (.slice tI))))))) a0), (3, aI i1492), (4, .one (.ptr 4 0)), (12, aD (.slice (.pair tI (.pair tI (.pair tI (.pair tI (.pair tI (.slice tI))))))) a0), (13, aI (List.length a0 : Int)), (14, aI i1492), (84, aB (!r2165))]) (L' := [(4, .one (.pair tI (.pair tI (.pair tI (.pair tI (.pair tI (.slice tI)))))) v1495)]) (by kernel_rfl) (by kernel_rfl) ?_
                              exact exQ_mk (by kernel_rfl) (by kernel_rfl)
                          · intro e fr L hJ
                            obtain ⟨rfl, rfl, rfl⟩ := hJ
                            refine LT_keep [0, 3, 4, 12, 13, 14, 84] [4] (fr' := [(0, aD (.slice (.pair tI (.pair tI (.pair tI (.pair tI (.pair tI (.slice tI))))))) a0), (3, aI i1492), (4, .one (.ptr 4 0)), (12, aD (.slice (.pair tI (.pair tI (.pair tI (.pair tI (.pair tI (.slice tI))))))) a0), (13, aI (List.length a0 : Int)), (14, aI i1492), (84, aB v2167)]) (L' := [(4, .one (.pair tI (.pair tI (.pair tI (.pair tI (.pair tI (.slice tI)))))) v1495)]) (by kernel_rfl) ?_
                            refine seqQ_norm ?_
                            refine W_cond (o := .tmp 84) (b := v2167) (by kernel_rfl) (by kernel_rfl) (fun h2169 => ?_) (fun h2169 => ?_)
                            · replace h := ofT h2169 h
                              refine W_seq (by kernel_rfl) ?_
                              refine W_run 1 [] [2] [] (fr' := [(2, aI (2 : Int))]) (L' := []) (obs := []) (by kernel_rfl) (by kernel_rfl) (by kernel_rfl) allP0 ?_
                              refine seqQ_norm ?_
                              obtain rfl := Option.some.inj h
                              refine W_ret [2] [] (fr' := [(2, aI (2 : Int))]) (L' := []) (by kernel_rfl) (by kernel_rfl) ?_
                              refine seqQ_ret ?_
                              refine escQ_ret ?_
                              exact exQ_mk (by kernel_rfl) (by kernel_rfl)
                            · replace h := ofF h2169 h
                              refine W_skip [0, 3, 4, 12, 13, 14] [4] (fr' := [(0, aD (.slice (.pair tI (.pair tI (.pair tI (.pair tI (.pair tI (.slice tI))))))) a0), (3, aI i1492), (4, .one (.ptr 4 0)), (12, aD (.slice (.pair tI (.pair tI (.pair tI (.pair tI (.pair tI (.slice tI))))))) a0), (13, aI (List.length a0 : Int)), (14, aI i1492)]) (L' := [(4, .one (.pair tI (.pair tI (.pair tI (.pair tI (.pair tI (.slice tI)))))) v1495)]) (by kernel_rfl) (by kernel_rfl) ?_
                              refine seqQ_norm ?_
                              refine W_seq (by kernel_rfl) ?_
                              refine W_seq (by kernel_rfl) ?_
                              obtain ⟨v2170, h2171, h⟩ := bind_of h
                              refine W_draw2 10 [(7, .val (.dat (.pair tI (.pair tI (.pair tI (.pair tI (.pair tI (.slice tI)))))) v2170))] [] [0, 3, 4, 12, 13, 14, 94] [4] (fr' := [(0, aD (.slice (.pair tI (.pair tI (.pair tI (.pair tI (.pair tI (.slice tI))))))) a0), (3, aI i1492), (4, .one (.ptr 4 0)), (12, aD (.slice (.pair tI (.pair tI (.pair tI (.pair tI (.pair tI (.slice tI))))))) a0), (13, aI (List.length a0 : Int)), (14, aI i1492), (94, aB (v2170.2.1 != (List.length v1495.2.2.2.2.2 : Int)))]) (L' := [(4, .one (.pair tI (.pair tI (.pair tI (.pair tI (.pair tI (.slice tI)))))) v1495)]) (out := [(85, aD (.slice (.pair tI (.pair tI (.pair tI (.pair tI (.pair tI (.slice tI))))))) a0), (86, .one (.ptr 4 3)), (87, aI v1495.2.2.2.1), (88, .one (.dptr (.pair tI (.pair tI (.pair tI (.pair tI (.pair tI (.slice tI)))))) v2170)), (89, .one (.dptr tI v2170.2.1)), (90, aI v2170.2.1), (91, .one (.ptr 4 5)), (92, aD (.slice tI) v1495.2.2.2.2.2), (93, aI (List.length v1495.2.2.2.2.2 : Int)), (94, aB (v2170.2.1 != (List.length v1495.2.2.2.2.2 : Int)))]) (obs := [Idx a0 v1495.2.2.2.1 v2170]) (obs2 := []) (calls := []) (by kernel_rfl) (by kernel_rfl) (by kernel_rfl) (by kernel_rfl) (allP1 (Idx.of h2171)) allC0 (by kernel_rfl) allP0 ?_
                              refine seqQ_norm ?_
                              refine W_cond (o := .tmp 94) (b := v2170.2.1 != (List.length v1495.2.2.2.2.2 : Int)) (by kernel_rfl) (by kernel_rfl) (fun h2172 => ?_) (fun h2172 => ?_)
                              · replace h := ofT h2172 h
                                refine W_seq (by kernel_rfl) ?_
                                refine W_run 1 [] [2] [] (fr' := [(2, aI (3 : Int))]) (L' := []) (obs := []) (by kernel_rfl) (by kernel_rfl) (by kernel_rfl) allP0 ?_
                                refine seqQ_norm ?_
                                obtain rfl := Option.some.inj h
                                refine W_ret [2] [] (fr' := [(2, aI (3 : Int))]) (L' := []) (by kernel_rfl) (by kernel_rfl) ?_
                                refine seqQ_ret ?_
                                refine escQ_ret ?_
                                exact exQ_mk (by kernel_rfl) (by kernel_rfl)
                              · replace h := ofF h2172 h
                                refine W_skip [0, 3, 4, 12, 13, 14] [4] (fr' := [(0, aD (.slice (.pair tI (.pair tI (.pair tI (.pair tI (.pair tI (.slice tI))))))) a0), (3, aI i1492), (4, .one (.ptr 4 0)), (12, aD (.slice (.pair tI (.pair tI (.pair tI (.pair tI (.pair tI (.slice tI))))))) a0), (13, aI (List.length a0 : Int)), (14, aI i1492)]) (L' := [(4, .one (.pair tI (.pair tI (.pair tI (.pair tI (.pair tI (.slice tI)))))) v1495)]) (by kernel_rfl) (by kernel_rfl) ?_
                                refine seqQ_norm ?_
                                refine W_seq (by kernel_rfl) ?_
                                refine W_run 4 [] [0, 3, 4, 12, 13, 14, 96, 97, 98] [4] (fr' := [(0, aD (.slice (.pair tI (.pair tI (.pair tI (.pair tI (.pair tI (.slice tI))))))) a0), (3, aI i1492), (4, .one (.ptr 4 0)), (12, aD (.slice (.pair tI (.pair tI (.pair tI (.pair tI (.pair tI (.slice tI))))))) a0), (13, aI (List.length a0 : Int)), (14, aI i1492), (96, aD (.slice tI) v1495.2.2.2.2.2), (97, aI (List.length v1495.2.2.2.2.2 : Int)), (98, aI (0 : Int))]) (L' := [(4, .one (.pair tI (.pair tI (.pair tI (.pair tI (.pair tI (.slice tI)))))) v1495)]) (obs := []) (by kernel_rfl) (by kernel_rfl) (by kernel_rfl) allP0 ?_
                                refine seqQ_norm ?_
                                refine W_block (id := 2) (by kernel_rfl) ?_
                                obtain ⟨v2197, h2198, h⟩ := bind_of h
                                refine W_len (t := 96) (u := tI) (xs := v1495.2.2.2.2.2) (by kernel_rfl) (fun h2201 => ?_)
                                obtain ⟨h2199, h2200⟩ := forL_iter h2201 h2198
                                refine W_weaken [0, 3, 4, 12, 13, 14, 96, 97, 98] [4] (fr' := ((ref_FuncsCheck_s203 a0 i1492 v1495) ((0 : Int), ())).1) (L' := ((ref_FuncsCheck_s203 a0 i1492 v1495) ((0 : Int), ())).2) (by kernel_rfl) ?_
                                refine W_cutK (W_loop (S := (ref_FuncsCheck_s203 a0 i1492 v1495)) (J := (escQ (exQ .ret ref_FuncsCheck_s204) (exQ (.exit 2) (ref_FuncsCheck_s205 a0 i1492 v1495)))) (by kernel_rfl) ?_ h2199 _ v2197 h2200) ?_
                                · rintro ⟨i2187, x2188⟩ s h
                                  refine W_seq (by kernel_rfl) ?_
                                  refine W_run 1 [] [0, 3, 4, 12, 13, 14, 96, 97, 98, 99] [4] (fr' := [(0, aD (.slice (.pair tI (.pair tI (.pair tI (.pair tI (.pair tI (.slice tI))))))) a0), (3, aI i1492), (4, .one (.ptr 4 0)), (12, aD (.slice (.pair tI (.pair tI (.pair tI (.pair tI (.pair tI (.slice tI))))))) a0), (13, aI (List.length a0 : Int)), (14, aI i1492), (96, aD (.slice tI) v1495.2.2.2.2.2), (97, aI (List.length v1495.2.2.2.2.2 : Int)), (98, aI i2187), (99, aB (decide (i2187 < (List.length v1495.2.2.2.2.2 : Int))))]) (L' := [(4, .one (.pair tI (.pair tI (.pair tI (.pair tI (.pair tI (.slice tI)))))) v1495)]) (obs := []) (by kernel_rfl) (by kernel_rfl) (by kernel_rfl) allP0 ?_
                                  refine seqQ_norm ?_
                                  refine W_seq (by kernel_rfl) ?_
                                  refine W_cond (o := .tmp 99) (b := decide (i2187 < (List.length v1495.2.2.2.2.2 : Int))) (by kernel_rfl) (by kernel_rfl) (fun h2192 => ?_) (fun h2192 => ?_)
                                  · replace h := stepL_true h2192 h
                                    obtain ⟨v2190, _, h2191, h, rfl⟩ := h
                                    refine W_skip [0, 3, 4, 12, 13, 14, 96, 97, 98] [4] (fr' := [(0, aD (.slice (.pair tI (.pair tI (.pair tI (.pair tI (.pair tI (.slice tI))))))) a0), (3, aI i1492), (4, .one (.ptr 4 0)), (12, aD (.slice (.pair tI (.pair tI (.pair tI (.pair tI (.pair tI (.slice tI))))))) a0), (13, aI (List.length a0 : Int)), (14, aI i1492), (96, aD (.slice tI) v1495.2.2.2.2.2), (97, aI (List.length v1495.2.2.2.2.2 : Int)), (98, aI i2187)]) (L' := [(4, .one (.pair tI (.pair tI (.pair tI (.pair tI (.pair tI (.slice tI)))))) v1495)]) (by kernel_rfl) (by kernel_rfl) ?_
                                    refine seqQ_norm ?_
                                    refine W_seq (by kernel_rfl) ?_
                                    refine W_block (id := 3) (by kernel_rfl) ?_
                                    refine W_seq (by kernel_rfl) ?_
                                    refine W_run 3 [(1, .val (.dat tI v2190))] [0, 3, 4, 7, 12, 13, 14, 96, 97, 98] [4] (fr' := [(0, aD (.slice (.pair tI (.pair tI (.pair tI (.pair tI (.pair tI (.slice tI))))))) a0), (3, aI i1492), (4, .one (.ptr 4 0)), (7, aI v2190), (12, aD (.slice (.pair tI (.pair tI (.pair tI (.pair tI (.pair tI (.slice tI))))))) a0), (13, aI (List.length a0 : Int)), (14, aI i1492), (96, aD (.slice tI) v1495.2.2.2.2.2), (97, aI (List.length v1495.2.2.2.2.2 : Int)), (98, aI i2187)]) (L' := [(4, .one (.pair tI (.pair tI (.pair tI (.pair tI (.pair tI (.slice tI)))))) v1495)]) (obs := [Idx v1495.2.2.2.2.2 i2187 v2190]) (by kernel_rfl) (by kernel_rfl) (by kernel_rfl) (allP1 (Idx.of h2191)) ?_
                                    refine seqQ_norm ?_
                                    refine W_seq (by kernel_rfl) ?_
                                    obtain ⟨v2193, h2194, h⟩ := bind_of h
                                    refine W_draw2 8 [(5, .val (.dat (.pair tI (.pair tI (.pair tI (.pair tI (.pair tI (.slice tI)))))) v2193))] [] [0, 3, 4, 12, 13, 14, 96, 97, 98, 109] [4] (fr' := [(0, aD (.slice (.pair tI (.pair tI (.pair tI (.pair tI (.pair tI (.slice tI))))))) a0), (3, aI i1492), (4, .one (.ptr 4 0)), (12, aD (.slice (.pair tI (.pair tI (.pair tI (.pair tI (.pair tI (.slice tI))))))) a0), (13, aI (List.length a0 : Int)), (14, aI i1492), (96, aD (.slice tI) v1495.2.2.2.2.2), (97, aI (List.length v1495.2.2.2.2.2 : Int)), (98, aI i2187), (109, aB (v2193.2.1 != v1495.2.1))]) (L' := [(4, .one (.pair tI (.pair tI (.pair tI (.pair tI (.pair tI (.slice tI)))))) v1495)]) (out := [(102, aD (.slice (.pair tI (.pair tI (.pair tI (.pair tI (.pair tI (.slice tI))))))) a0), (103, aI v2190), (104, .one (.dptr (.pair tI (.pair tI (.pair tI (.pair tI (.pair tI (.slice tI)))))) v2193)), (105, .one (.dptr tI v2193.2.1)), (106, aI v2193.2.1), (107, .one (.ptr 4 1)), (108, aI v1495.2.1), (109, aB (v2193.2.1 != v1495.2.1))]) (obs := [Idx a0 v2190 v2193]) (obs2 := []) (calls := []) (by kernel_rfl) (by kernel_rfl) (by kernel_rfl) (by kernel_rfl) (allP1 (Idx.of h2194)) allC0 (by kernel_rfl) allP0 ?_
                                    refine seqQ_norm ?_
                                    refine W_cond (o := .tmp 109) (b := v2193.2.1 != v1495.2.1) (by kernel_rfl) (by kernel_rfl) (fun h2195 => ?_) (fun h2195 => ?_)
                                    · replace h := ofT h2195 h
                                      refine W_seq (by kernel_rfl) ?_
                                      refine W_run 1 [] [2] [] (fr' := [(2, aI (3 : Int))]) (L' := []) (obs := []) (by kernel_rfl) (by kernel_rfl) (by kernel_rfl) allP0 ?_
                                      refine seqQ_norm ?_
                                      obtain rfl := Option.some.inj h
                                      refine W_ret [2] [] (fr' := [(2, aI (3 : Int))]) (L' := []) (by kernel_rfl) (by kernel_rfl) ?_
                                      refine blockQ_ret ?_
                                      refine seqQ_ret ?_
                                      refine round_ret ?_
                                      refine escQ_ret ?_
                                      exact exQ_mk (by kernel_rfl) (by kernel_rfl)
                                    · replace h := ofF h2195 h
                                      refine W_skip [0, 3, 4, 12, 13, 14, 96, 97, 98] [4] (fr' := [(0, aD (.slice (.pair tI (.pair tI (.pair tI (.pair tI (.pair tI (.slice tI))))))) a0), (3, aI i1492), (4, .one (.ptr 4 0)), (12, aD (.slice (.pair tI (.pair tI (.pair tI (.pair tI (.pair tI (.slice tI))))))) a0), (13, aI (List.length a0 : Int)), (14, aI i1492), (96, aD (.slice tI) v1495.2.2.2.2.2), (97, aI (List.length v1495.2.2.2.2.2 : Int)), (98, aI i2187)]) (L' := [(4, .one (.pair tI (.pair tI (.pair tI (.pair tI (.pair tI (.slice tI)))))) v1495)]) (by kernel_rfl) (by kernel_rfl) ?_
                                      refine blockQ_norm ?_
                                      refine seqQ_norm ?_
                                      obtain rfl := Option.some.inj h
                                      refine W_run 2 [] [0, 3, 4, 12, 13, 14, 96, 97, 98] [4] (fr' := [(0, aD (.slice (.pair tI (.pair tI (.pair tI (.pair tI (.pair tI (.slice tI))))))) a0), (3, aI i1492), (4, .one (.ptr 4 0)), (12, aD (.slice (.pair tI (.pair tI (.pair tI (.pair tI (.pair tI (.slice tI))))))) a0), (13, aI (List.length a0 : Int)), (14, aI i1492), (96, aD (.slice tI) v1495.2.2.2.2.2), (97, aI (List.length v1495.2.2.2.2.2 : Int)), (98, aI (w64 (i2187 + (1 : Int))))]) (L' := [(4, .one (.pair tI (.pair tI (.pair tI (.pair tI (.pair tI (.slice tI)))))) v1495)]) (obs := []) (by kernel_rfl) (by kernel_rfl) (by kernel_rfl) allP0 ?_
                                      exact round_next' (by kernel_rfl) (by kernel_rfl)
                                  · obtain rfl := stepL_false h2192 h
                                    refine W_exit (id := 2) [0, 3, 4, 12, 13, 14] [4] (fr' := [(0, aD (.slice (.pair tI (.pair tI (.pair tI (.pair tI (.pair tI (.slice tI))))))) a0), (3, aI i1492), (4, .one (.ptr 4 0)), (12, aD (.slice (.pair tI (.pair tI (.pair tI (.pair tI (.pair tI (.slice tI))))))) a0), (13, aI (List.length a0 : Int)), (14, aI i1492)]) (L' := [(4, .one (.pair tI (.pair tI (.pair tI (.pair tI (.pair tI (.slice tI)))))) v1495)]) (by kernel_rfl) (by kernel_rfl) ?_
                                    refine seqQ_exit ?_
                                    refine round_exit ?_
                                    refine escQ_brk ?_
                                    exact exQ_mk (by kernel_rfl) (by kernel_rfl)
                                · intro e fr L hJ
                                  rcases v2197 with v2202 | v2203
                                  · obtain ⟨rfl, rfl, rfl⟩ := hJ
                                    obtain rfl := Option.some.inj h
                                    refine LT_keep [2] [] (fr' := [(2, aI v2202)]) (L' := []) (by kernel_rfl) ?_
                                    refine blockQ_ret ?_
                                    refine escQ_ret ?_
                                    exact exQ_mk (by kernel_rfl) (by kernel_rfl)
                                  · obtain ⟨rfl, rfl, rfl⟩ := hJ
                                    obtain rfl := Option.some.inj h
                                    refine LT_keep [0, 3, 4, 12, 13, 14] [4] (fr' := [(0, aD (.slice (.pair tI (.pair tI (.pair tI (.pair tI (.pair tI (.slice tI))))))) a0), (3, aI i1492), (4, .one (.ptr 4 0)), (12, aD (.slice (.pair tI (.pair tI (.pair tI (.pair tI (.pair tI (.slice tI))))))) a0), (13, aI (List.length a0 : Int)), (14, aI i1492)]) (L' := [(4, .one (.pair tI (.pair tI (.pair tI (.pair tI (.pair tI (.slice tI)))))) v1495)]) (by kernel_rfl) ?_
                                    refine blockQ_hit ?_
                                    refine escQ_brk ?_
                                    exact exQ_mk (by kernel_rfl) (by kernel_rfl)
                        · replace h := ofF h2151 h
                          obtain rfl := Option.some.inj h
                          refine W_skip [0, 3, 4, 12, 13, 14] [4] (fr' := [(0, aD (.slice (.pair tI (.pair tI (.pair tI (.pair tI (.pair tI (.slice tI))))))) a0), (3, aI i1492), (4, .one (.ptr 4 0)), (12, aD (.slice (.pair tI (.pair tI (.pair tI (.pair tI (.pair tI (.slice tI))))))) a0), (13, aI (List.length a0 : Int)), (14, aI i1492)]) (L' := [(4, .one (.pair tI (.pair tI (.pair tI (.pair tI (.pair tI (.slice tI)))))) v1495)]) (by kernel_rfl) (by kernel_rfl) ?_
                          refine escQ_brk ?_
                          exact exQ_mk (by kernel_rfl) (by kernel_rfl)
                      · intro e fr L hJ
                        rcases v2204 with v2206 | v2207
                        · obtain ⟨rfl, rfl, rfl⟩ := hJ
                          obtain rfl := Option.some.inj h
                          refine LT_keep [2] [] (fr' := [(2, aI v2206)]) (L' := []) (by kernel_rfl) ?_
                          refine seqQ_ret ?_
                          refine blockQ_ret ?_
                          refine escQ_ret ?_
                          exact exQ_mk (by kernel_rfl) (by kernel_rfl)
                        · obtain ⟨rfl, rfl, rfl⟩ := hJ
                          refine LT_keep [0, 3, 4, 12, 13, 14] [4] (fr' := [(0, aD (.slice (.pair tI (.pair tI (.pair tI (.pair tI (.pair tI (.slice tI))))))) a0), (3, aI i1492), (4, .one (.ptr 4 0)), (12, aD (.slice (.pair tI (.pair tI (.pair tI (.pair tI (.pair tI (.slice tI))))))) a0), (13, aI (List.length a0 : Int)), (14, aI i1492)]) (L' := [(4, .one (.pair tI (.pair tI (.pair tI (.pair tI (.pair tI (.slice tI)))))) v1495)]) (by kernel_rfl) ?_
                          refine seqQ_norm ?_
                          refine W_seq (by kernel_rfl) ?_
                          refine W_run 3 [] [0, 3, 4, 12, 13, 14, 113] [4] (fr' := [(0, aD (.slice (.pair tI (.pair tI (.pair tI (.pair tI (.pair tI (.slice tI))))))) a0), (3, aI i1492), (4, .one (.ptr 4 0)), (12, aD (.slice (.pair tI (.pair tI (.pair tI (.pair tI (.pair tI (.slice tI))))))) a0), (13, aI (List.length a0 : Int)), (14, aI i1492), (113, aB (v1495.1 == (5 : Int)))]) (L' := [(4, .one (.pair tI (.pair tI (.pair tI (.pair tI (.pair tI (.slice tI)))))) v1495)]) (obs := []) (by kernel_rfl) (by kernel_rfl) (by kernel_rfl) allP0 ?_
                          refine seqQ_norm ?_
                          refine W_cond (o := .tmp 113) (b := v1495.1 == (5 : Int)) (by kernel_rfl) (by kernel_rfl) (fun h2208 => ?_) (fun h2208 => ?_)
                          · replace h := ofT h2208 h
                            refine W_seq (by kernel_rfl) ?_
                            refine W_seq (by kernel_rfl) ?_
                            refine W_region (by kernel_rfl) ?_
                            refine WO_run (j := 6) (k := 6) (orcs := []) (kF := [0, 4, 12, 13, 14, 114, 119]) (kL := [4, 119]) (fr' := [(0, aD (.slice (.pair tI (.pair tI (.pair tI (.pair tI (.pair tI (.slice tI))))))) a0), (4, .one (.ptr 4 0)), (12, aD (.slice (.pair tI (.pair tI (.pair tI (.pair tI (.pair tI (.slice tI))))))) a0), (13, aI (List.length a0 : Int)), (14, aI i1492), (114, aI i1492), (119, .one (.slc 119))]) (L' := [(4, .one (.pair tI (.pair tI (.pair tI (.pair tI (.pair tI (.slice tI)))))) v1495), (119, .seq tI [v1495.2.2.2.1, v1495.2.2.2.2.1])]) (obs := []) rfl (by kernel_rfl) allP0 ?_
                            obtain ⟨r2209, h2210, h⟩ := bind_of h
                            refine WO_frz 119 (by kernel_rfl) ?_
                            refine WO_call0 (us := [none, none]) (d := 120) (p := True) (j := 7) rfl ⟨by kernel_rfl, by kernel_rfl, by kernel_rfl⟩ trivial (ref_Inside_ok h2210) (by kernel_rfl) ?_
                            refine WO_run (j := 8) (k := 1) (orcs := []) (kF := [0, 4, 12, 13, 14, 121]) (kL := [4]) (fr' := [(0, aD (.slice (.pair tI (.pair tI (.pair tI (.pair tI (.pair tI (.slice tI))))))) a0), (4, .one (.ptr 4 0)), (12, aD (.slice (.pair tI (.pair tI (.pair tI (.pair tI (.pair tI (.slice tI))))))) a0), (13, aI (List.length a0 : Int)), (14, aI i1492), (121, aB (!r2209))]) (L' := [(4, .one (.pair tI (.pair tI (.pair tI (.pair tI (.pair tI (.slice tI)))))) v1495)]) (obs := []) rfl (by kernel_rfl) allP0 ?_
                            refine WO_fin [0, 4, 12, 13, 14, 121] [4] (fr' := [(0, aD (.slice (.pair tI (.pair tI (.pair tI (.pair tI (.pair tI (.slice tI))))))) a0), (4, .one (.ptr 4 0)), (12, aD (.slice (.pair tI (.pair tI (.pair tI (.pair tI (.pair tI (.slice tI))))))) a0), (13, aI (List.length a0 : Int)), (14, aI i1492), (121, aB (!r2209))]) (L' := [(4, .one (.pair tI (.pair tI (.pair tI (.pair tI (.pair tI (.slice tI)))))) v1495)]) (by kernel_rfl) (by kernel_rfl) ?_
                            refine seqQ_norm ?_
                            refine W_cond (o := .tmp 121) (b := !r2209) (by kernel_rfl) (by kernel_rfl) (fun h2211 => ?_) (fun h2211 => ?_)
                            · replace h := ofT h2211 h
                              refine W_seq (by kernel_rfl) ?_
                              refine W_run 1 [] [2] [] (fr' := [(2, aI (2 : Int))]) (L' := []) (obs := []) (by kernel_rfl) (by kernel_rfl) (by kernel_rfl) allP0 ?_
                              refine seqQ_norm ?_
                              obtain rfl := Option.some.inj h
                              refine W_ret [2] [] (fr' := [(2, aI (2 : Int))]) (L' := []) (by kernel_rfl) (by kernel_rfl) ?_
                              refine seqQ_ret ?_
                              refine blockQ_ret ?_
                              refine escQ_ret ?_
                              exact exQ_mk (by kernel_rfl) (by kernel_rfl)
                            · replace h := ofF h2211 h
                              refine W_skip [0, 4, 12, 13, 14] [4] (fr' := [(0, aD (.slice (.pair tI (.pair tI (.pair tI (.pair tI (.pair tI (.slice tI))))))) a0), (4, .one (.ptr 4 0)), (12, aD (.slice (.pair tI (.pair tI (.pair tI (.pair tI (.pair tI (.slice tI))))))) a0), (13, aI (List.length a0 : Int)), (14, aI i1492)]) (L' := [(4, .one (.pair tI (.pair tI (.pair tI (.pair tI (.pair tI (.slice tI)))))) v1495)]) (by kernel_rfl) (by kernel_rfl) ?_
                              refine seqQ_norm ?_
                              refine W_seq (by kernel_rfl) ?_
                              obtain ⟨v2227, h2228, h⟩ := bind_of h
                              refine W_cutK (Q' := (exQ .normal (ref_FuncsCheck_s209 a0 i1492)) v2227) ?_ ?_
                              · replace h := h2228
                                obtain ⟨v2222, h2223, h⟩ := bind_of h
                                rcases Bool.eq_false_or_eq_true (v2222.2.1 != (w64 (v1495.2.1 - (1 : Int)))) with h2224 | h2224
                                · replace h := ofT h2224 h
                                  obtain rfl := Option.some.inj h
                                  refine W_draw2 22 [(7, .val (.dat (.pair tI (.pair tI (.pair tI (.pair tI (.pair tI (.slice tI)))))) v2222)), (22, .known true), (24, .known true), (26, .known true), (28, .known true), (30, .known true), (32, .known true), (34, .known true), (36, .known true), (38, .known true), (40, .known true), (43, .val (.dat .bool true))] [] [0, 12, 13, 14, 143] [] (fr' := [(0, aD (.slice (.pair tI (.pair tI (.pair tI (.pair tI (.pair tI (.slice tI))))))) a0), (12, aD (.slice (.pair tI (.pair tI (.pair tI (.pair tI (.pair tI (.slice tI))))))) a0), (13, aI (List.length a0 : Int)), (14, aI i1492), (143, aB true)]) (L' := []) (out := [(122, aD (.slice (.pair tI (.pair tI (.pair tI (.pair tI (.pair tI (.slice tI))))))) a0), (123, .one (.ptr 4 3)), (124, aI v1495.2.2.2.1), (125, .one (.dptr (.pair tI (.pair tI (.pair tI (.pair tI (.pair tI (.slice tI)))))) v2222)), (126, .one (.dptr tI v2222.2.1)), (127, aI v2222.2.1), (128, .one (.ptr 4 1)), (129, aI v1495.2.1), (130, aI (w64 (v1495.2.1 - (1 : Int)))), (131, aB (v2222.2.1 != (w64 (v1495.2.1 - (1 : Int))))), (132, aB (v2222.2.1 != (w64 (v1495.2.1 - (1 : Int))))), (133, .tup []), (134, .tup []), (135, .tup []), (136, .tup []), (137, .tup []), (138, .tup []), (139, .tup []), (140, .tup []), (141, .tup []), (142, .tup []), (143, aB true)]) (obs := [Idx a0 v1495.2.2.2.1 v2222, ((v2222.2.1 != (w64 (v1495.2.1 - (1 : Int)))) = true), ((v2222.2.1 != (w64 (v1495.2.1 - (1 : Int)))) = true), ((v2222.2.1 != (w64 (v1495.2.1 - (1 : Int)))) = true), ((v2222.2.1 != (w64 (v1495.2.1 - (1 : Int)))) = true), ((v2222.2.1 != (w64 (v1495.2.1 - (1 : Int)))) = true), ((v2222.2.1 != (w64 (v1495.2.1 - (1 : Int)))) = true), ((v2222.2.1 != (w64 (v1495.2.1 - (1 : Int)))) = true), ((v2222.2.1 != (w64 (v1495.2.1 - (1 : Int)))) = true), ((v2222.2.1 != (w64 (v1495.2.1 - (1 : Int)))) = true), ((v2222.2.1 != (w64 (v1495.2.1 - (1 : Int)))) = true), ((v2222.2.1 != (w64 (v1495.2.1 - (1 : Int)))) = true)]) (obs2 := []) (calls := []) (by kernel_rfl) (by kernel_rfl) (by kernel_rfl) (by kernel_rfl) (allP2 (Idx.of h2223) (allP2 h2224 (allP2 h2224 (allP2 h2224 (allP2 h2224 (allP2 h2224 (allP2 h2224 (allP2 h2224 (allP2 h2224 (allP2 h2224 (allP2 h2224 (allP1 h2224)))))))))))) allC0 (by kernel_rfl) allP0 ?_
                                  exact exQ_mk (by kernel_rfl) (by kernel_rfl)
                                · replace h := ofF h2224 h
                                  obtain ⟨v2225, h2226, h⟩ := bind_of h
                                  obtain rfl := Option.some.inj h
                                  refine W_draw2 22 [(7, .val (.dat (.pair tI (.pair tI (.pair tI (.pair tI (.pair tI (.slice tI)))))) v2222)), (22, .known false), (24, .known false), (26, .known false), (28, .known false), (29, .val (.dat (.pair tI (.pair tI (.pair tI (.pair tI (.pair tI (.slice tI)))))) v2225)), (30, .known false), (32, .known false), (34, .known false), (36, .known false), (38, .known false), (40, .known false), (43, .val (.dat .bool false))] [] [0, 12, 13, 14, 143] [] (fr' := [(0, aD (.slice (.pair tI (.pair tI (.pair tI (.pair tI (.pair tI (.slice tI))))))) a0), (12, aD (.slice (.pair tI (.pair tI (.pair tI (.pair tI (.pair tI (.slice tI))))))) a0), (13, aI (List.length a0 : Int)), (14, aI i1492), (143, aB (v2225.2.1 != (w64 (v1495.2.1 + (1 : Int)))))]) (L' := []) (out := [(122, aD (.slice (.pair tI (.pair tI (.pair tI (.pair tI (.pair tI (.slice tI))))))) a0), (123, .one (.ptr 4 3)), (124, aI v1495.2.2.2.1), (125, .one (.dptr (.pair tI (.pair tI (.pair tI (.pair tI (.pair tI (.slice tI)))))) v2222)), (126, .one (.dptr tI v2222.2.1)), (127, aI v2222.2.1), (128, .one (.ptr 4 1)), (129, aI v1495.2.1), (130, aI (w64 (v1495.2.1 - (1 : Int)))), (131, aB (v2222.2.1 != (w64 (v1495.2.1 - (1 : Int))))), (132, aB (v2222.2.1 != (w64 (v1495.2.1 - (1 : Int))))), (133, aD (.slice (.pair tI (.pair tI (.pair tI (.pair tI (.pair tI (.slice tI))))))) a0), (134, .one (.ptr 4 4)), (135, aI v1495.2.2.2.2.1), (136, .one (.dptr (.pair tI (.pair tI (.pair tI (.pair tI (.pair tI (.slice tI)))))) v2225)), (137, .one (.dptr tI v2225.2.1)), (138, aI v2225.2.1), (139, .one (.ptr 4 1)), (140, aI v1495.2.1), (141, aI (w64 (v1495.2.1 + (1 : Int)))), (142, aB (v2225.2.1 != (w64 (v1495.2.1 + (1 : Int))))), (143, aB (v2225.2.1 != (w64 (v1495.2.1 + (1 : Int)))))]) (obs := [Idx a0 v1495.2.2.2.1 v2222, ((v2222.2.1 != (w64 (v1495.2.1 - (1 : Int)))) = false), ((v2222.2.1 != (w64 (v1495.2.1 - (1 : Int)))) = false), ((v2222.2.1 != (w64 (v1495.2.1 - (1 : Int)))) = false), ((v2222.2.1 != (w64 (v1495.2.1 - (1 : Int)))) = false), Idx a0 v1495.2.2.2.2.1 v2225, ((v2222.2.1 != (w64 (v1495.2.1 - (1 : Int)))) = false), ((v2222.2.1 != (w64 (v1495.2.1 - (1 : Int)))) = false), ((v2222.2.1 != (w64 (v1495.2.1 - (1 : Int)))) = false), ((v2222.2.1 != (w64 (v1495.2.1 - (1 : Int)))) = false), ((v2222.2.1 != (w64 (v1495.2.1 - (1 : Int)))) = false), ((v2222.2.1 != (w64 (v1495.2.1 - (1 : Int)))) = false), ((v2222.2.1 != (w64 (v1495.2.1 - (1 : Int)))) = false)]) (obs2 := []) (calls := []) (by kernel_rfl) (by kernel_rfl) (by kernel_rfl) (by kernel_rfl) (allP2 (Idx.of h2223) (allP2 h2224 (allP2 h2224 (allP2 h2224 (allP2 h2224 (allP2 (Idx.of h2226) (allP2 h2224 (allP2 h2224 (allP2 h2224 (allP2 h2224 (allP2 h2224 (allP2 h2224 (allP1 h2224))))))))))))) allC0 (by kernel_rfl) allP0 ?_
                                  exact exQ_mk (by kernel_rfl) (by kernel_rfl)
                              · intro e fr L hJ
                                obtain ⟨rfl, rfl, rfl⟩ := hJ
                                refine LT_keep [0, 12, 13, 14, 143] [] (fr' := [(0, aD (.slice (.pair tI (.pair tI (.pair tI (.pair tI (.pair tI (.slice tI))))))) a0), (12, aD (.slice (.pair tI (.pair tI (.pair tI (.pair tI (.pair tI (.slice tI))))))) a0), (13, aI (List.length a0 : Int)), (14, aI i1492), (143, aB v2227)]) (L' := []) (by kernel_rfl) ?_
                                refine seqQ_norm ?_
                                refine W_cond (o := .tmp 143) (b := v2227) (by kernel_rfl) (by kernel_rfl) (fun h2229 => ?_) (fun h2229 => ?_)
                                · replace h := ofT h2229 h
                                  refine W_seq (by kernel_rfl) ?_
                                  refine W_run 1 [] [2] [] (fr' := [(2, aI (3 : Int))]) (L' := []) (obs := []) (by kernel_rfl) (by kernel_rfl) (by kernel_rfl) allP0 ?_
                                  refine seqQ_norm ?_
                                  obtain rfl := Option.some.inj h
                                  refine W_ret [2] [] (fr' := [(2, aI (3 : Int))]) (L' := []) (by kernel_rfl) (by kernel_rfl) ?_
                                  refine blockQ_ret ?_
                                  refine escQ_ret ?_
                                  exact exQ_mk (by kernel_rfl) (by kernel_rfl)
                                · replace h := ofF h2229 h
                                  obtain rfl := Option.some.inj h
                                  refine W_skip [0, 12, 13, 14] [] (fr' := [(0, aD (.slice (.pair tI (.pair tI (.pair tI (.pair tI (.pair tI (.slice tI))))))) a0), (12, aD (.slice (.pair tI (.pair tI (.pair tI (.pair tI (.pair tI (.slice tI))))))) a0), (13, aI (List.length a0 : Int)), (14, aI i1492)]) (L' := []) (by kernel_rfl) (by kernel_rfl) ?_
                                  refine blockQ_norm ?_
                                  refine escQ_brk ?_
                                  exact exQ_mk (by kernel_rfl) (by kernel_rfl)
                          · replace h := ofF h2208 h
                            obtain rfl := Option.some.inj h
                            refine W_skip [0, 12, 13, 14] [] (fr' := [(0, aD (.slice (.pair tI (.pair tI (.pair tI (.pair tI (.pair tI (.slice tI))))))) a0), (12, aD (.slice (.pair tI (.pair tI (.pair tI (.pair tI (.pair tI (.slice tI))))))) a0), (13, aI (List.length a0 : Int)), (14, aI i1492)]) (L' := []) (by kernel_rfl) (by kernel_rfl) ?_
                            refine blockQ_norm ?_
                            refine escQ_brk ?_
                            exact exQ_mk (by kernel_rfl) (by kernel_rfl)
        · intro e fr L hJ
          rcases v2230 with v2232 | v2233
          · obtain ⟨rfl, rfl, rfl⟩ := hJ
            obtain rfl := Option.some.inj h
            refine LT_keep [2] [] (fr' := [(2, aI v2232)]) (L' := []) (by kernel_rfl) ?_
            refine seqQ_ret ?_
            refine round_ret ?_
            refine escQ_ret ?_
            exact exQ_mk (by kernel_rfl) (by kernel_rfl)
          · obtain ⟨rfl, rfl, rfl⟩ := hJ
            refine LT_keep [0, 12, 13, 14] [] (fr' := [(0, aD (.slice (.pair tI (.pair tI (.pair tI (.pair tI (.pair tI (.slice tI))))))) a0), (12, aD (.slice (.pair tI (.pair tI (.pair tI (.pair tI (.pair tI (.slice tI))))))) a0), (13, aI (List.length a0 : Int)), (14, aI i1492)]) (L' := []) (by kernel_rfl) ?_
            refine seqQ_norm ?_
            obtain rfl := Option.some.inj h
            refine W_run 2 [] [0, 12, 13, 14] [] (fr' := [(0, aD (.slice (.pair tI (.pair tI (.pair tI (.pair tI (.pair tI (.slice tI))))))) a0), (12, aD (.slice (.pair tI (.pair tI (.pair tI (.pair tI (.pair tI (.slice tI))))))) a0), (13, aI (List.length a0 : Int)), (14, aI (w64 (i1492 + (1 : Int))))]) (L' := []) (obs := []) (by kernel_rfl) (by kernel_rfl) (by kernel_rfl) allP0 ?_
            exact round_next' (by kernel_rfl) (by kernel_rfl)
      · obtain rfl := stepL_false h1497 h
        refine W_exit (id := 0) [] [] (fr' := []) (L' := []) (by kernel_rfl) (by kernel_rfl) ?_
        refine seqQ_exit ?_
        refine round_exit ?_
        refine escQ_brk ?_
        exact exQ_mk (by kernel_rfl) (by kernel_rfl)
    · intro e fr L hJ
      rcases v2235 with v2240 | v2241
      · obtain ⟨rfl, rfl, rfl⟩ := hJ
        obtain rfl := Option.some.inj h
        refine LT_keep [2] [] (fr' := [(2, aI v2240)]) (L' := []) (by kernel_rfl) ?_
        refine blockQ_ret ?_
        refine seqQ_ret ?_
        exact retQ_mk (by kernel_rfl) (by kernel_rfl) (by kernel_rfl)
      · obtain ⟨rfl, rfl, rfl⟩ := hJ
        refine LT_keep [] [] (fr' := []) (L' := []) (by kernel_rfl) ?_
        refine blockQ_hit ?_
        refine seqQ_norm ?_
        refine W_seq (by kernel_rfl) ?_
        refine W_run 1 [] [2] [] (fr' := [(2, aI (0 : Int))]) (L' := []) (obs := []) (by kernel_rfl) (by kernel_rfl) (by kernel_rfl) allP0 ?_
        refine seqQ_norm ?_
        obtain rfl := Option.some.inj h
        refine W_ret [2] [] (fr' := [(2, aI (0 : Int))]) (L' := []) (by kernel_rfl) (by kernel_rfl) ?_
        exact retQ_mk (by kernel_rfl) (by kernel_rfl) (by kernel_rfl)

def ref_Rank_g40 (v222 : (Int × (Int × (Int × (Int × (Int × (List Int))))))) : Option (Int × (List Int)) :=
bif v222.1 == (4 : Int) then
((ck ((1 : Int) + (List.length v222.2.2.2.2.2 : Int) ≤ 4294967296)).bind fun _ =>
some ((2 : Int), [v222.2.2.2.1] ++ v222.2.2.2.2.2))
else
(some ((1 : Int), []))
@[reducible] def ref_Rank_s43 (a0 : (List (Int × (Int × (Int × (Int × (Int × (List Int)))))))) (i219 : Int) (x220 : (List Int)) (v311 : (Int × (List Int))) (i351 : Int) (v : Int) : Fr × LL := ([(3, .one (.slc 58)), (6, aI v), (7, aI v311.1), (11, aD (.slice (.pair tI (.pair tI (.pair tI (.pair tI (.pair tI (.slice tI))))))) a0), (12, aI (List.length a0 : Int)), (13, aI i219), (36, .one (.slc 24)), (37, aI (List.length v311.2 : Int)), (38, aI i351)], [(58, .seq tI x220), (24, .seq tI v311.2)])
def ref_Rank_b44 (x220 : (List Int)) (i351 : Int) (v354 : Int) (x352 : Int) : Option (Flow Int Int) :=
((idx x220 v354).bind fun v363 =>
bif decide (v363 > x352) then
(some v363)
else
(some x352)).bind fun v366 =>
some (.next v366)
@[reducible] def ref_Rank_s45 (a0 : (List (Int × (Int × (Int × (Int × (Int × (List Int)))))))) (i219 : Int) (x220 : (List Int)) (v311 : (Int × (List Int))) (v : Int × Int) : Fr × LL := ([(3, .one (.slc 58)), (6, aI v.2), (7, aI v311.1), (11, aD (.slice (.pair tI (.pair tI (.pair tI (.pair tI (.pair tI (.slice tI))))))) a0), (12, aI (List.length a0 : Int)), (13, aI i219), (36, .one (.slc 24)), (37, aI (List.length v311.2 : Int)), (38, aI v.1)], [(58, .seq tI x220), (24, .seq tI v311.2)])
@[reducible] def ref_Rank_s46 (a0 : (List (Int × (Int × (Int × (Int × (Int × (List Int)))))))) (i219 : Int) (x220 : (List Int)) (v311 : (Int × (List Int))) (v : Int) : Fr × LL := ([(3, .one (.slc 58)), (6, aI v), (7, aI v311.1), (11, aD (.slice (.pair tI (.pair tI (.pair tI (.pair tI (.pair tI (.slice tI))))))) a0), (12, aI (List.length a0 : Int)), (13, aI i219)], [(58, .seq tI x220)])
@[reducible] def ref_Rank_s47 (a0 : (List (Int × (Int × (Int × (Int × (Int × (List Int)))))))) (i219 : Int) (x220 : (List Int)) (v : (Int × (List Int))) : Fr × LL := ([(3, .one (.slc 58)), (6, aI (0 : Int)), (7, aI v.1), (8, .one (.slc 24)), (11, aD (.slice (.pair tI (.pair tI (.pair tI (.pair tI (.pair tI (.slice tI))))))) a0), (12, aI (List.length a0 : Int)), (13, aI i219)], [(58, .seq tI x220), (24, .seq tI v.2)])
@[reducible] def ref_Rank_s48 (a0 : (List (Int × (Int × (Int × (Int × (Int × (List Int)))))))) (i219 : Int) (x220 : (List Int)) (v222 : (Int × (Int × (Int × (Int × (Int × (List Int))))))) (v : (Int × (List Int))) : Fr × LL := ([(3, .one (.slc 58)), (5, .one (.ptr 5 0)), (6, aI (0 : Int)), (7, aI v.1), (8, .one (.slc 24)), (11, aD (.slice (.pair tI (.pair tI (.pair tI (.pair tI (.pair tI (.slice tI))))))) a0), (12, aI (List.length a0 : Int)), (13, aI i219)], [(58, .seq tI x220), (5, .one (.pair tI (.pair tI (.pair tI (.pair tI (.pair tI (.slice tI)))))) v222), (24, .seq tI v.2)])
def ref_Rank_b49 (i219 : Int) (v222 : (Int × (Int × (Int × (Int × (Int × (List Int))))))) (x220 : (List Int)) : Option (Flow (List Int) (List Int)) :=
(ref_Rank_g40 v222).bind fun v306 =>
(bif v222.1 == (5 : Int) then
(some ((3 : Int), [v222.2.2.2.1, v222.2.2.2.2.1]))
else
(some (v306.1, v306.2))).bind fun v311 =>
(forL (ref_Rank_b44 x220) (fun x352 => x352) v311.2 0 (0 : Int)).bind fun v369 =>
(ck ((List.length x220 : Int) + 1 ≤ 4294967296)).bind fun _ =>
some (.next (x220 ++ [w64 (v369 + v311.1)]))
@[reducible] def ref_Rank_s50 (a0 : (List (Int × (Int × (Int × (Int × (Int × (List Int)))))))) (v : Int × (List Int)) : Fr × LL := ([(3, .one (.slc 58)), (11, aD (.slice (.pair tI (.pair tI (.pair tI (.pair tI (.pair tI (.slice tI))))))) a0), (12, aI (List.length a0 : Int)), (13, aI v.1)], [(58, .seq tI v.2)])
@[reducible] def ref_Rank_s51 (v : (List Int)) : Fr × LL := ([(3, .one (.slc 58))], [(58, .seq tI v)])
def ref_Rank (fuel : Nat) (a0 : (List (Int × (Int × (Int × (Int × (Int × (List Int)))))))) : Option Int :=
(forL ref_Rank_b49 (fun x220 => x220) a0 0 []).bind fun v376 =>
(idx v376 (w64 ((List.length v376 : Int) - (1 : Int)))).bind fun v381 =>
some v381
theorem ref_Rank_ok {fuel : Nat} {a0 : (List (Int × (Int × (Int × (Int × (Int × (List Int)))))))} {r : Int} (h : ref_Rank fuel a0 = some r) : FnC Try.prog 34 [aD (.slice (.pair tI (.pair tI (.pair tI (.pair tI (.pair tI (.slice tI))))))) a0] [] (aI r) [] := by
  refine fnC_of_W (B := bodyOf Try.f34) (n := 66) Try.func34 (by kernel_rfl) (by kernel_rfl) (by kernel_rfl) (by kernel_rfl) (by kernel_rfl) ?_
  intro K
  refine W_seq (by kernel_rfl) ?_
  refine W_run 1 [] [0] [] (fr' := [(0, aD (.slice (.pair tI (.pair tI (.pair tI (.pair tI (.pair tI (.slice tI))))))) a0)]) (L' := []) (obs := []) (by kernel_rfl) (by kernel_rfl) (by kernel_rfl) allP0 ?_
  refine seqQ_norm ?_
  refine W_seq (by kernel_rfl) ?_
  refine W_run 1 [] [0, 3] [] (fr' := [(0, aD (.slice (.pair tI (.pair tI (.pair tI (.pair tI (.pair tI (.slice tI))))))) a0), (3, .one (.nilS))]) (L' := []) (obs := []) (by kernel_rfl) (by kernel_rfl) (by kernel_rfl) allP0 ?_
  refine seqQ_norm ?_
  refine W_seq (by kernel_rfl) ?_
  refine W_seq (by kernel_rfl) ?_
  refine W_run 3 [] [3, 11, 12, 13] [] (fr' := [(3, .one (.nilS)), (11, aD (.slice (.pair tI (.pair tI (.pair tI (.pair tI (.pair tI (.slice tI))))))) a0), (12, aI (List.length a0 : Int)), (13, aI (0 : Int))]) (L' := []) (obs := []) (by kernel_rfl) (by kernel_rfl) (by kernel_rfl) allP0 ?_
  refine seqQ_norm ?_
  refine W_block (id := 0) (by kernel_rfl) ?_
  obtain ⟨v376, h377, h⟩ := bind_of h
  refine W_len (t := 11) (u := (.pair tI (.pair tI (.pair tI (.pair tI (.pair tI (.slice tI))))))) (xs := a0) (by kernel_rfl) (fun h380 => ?_)
  obtain ⟨h378, h379⟩ := forL_iter h380 h377
  refine W_mine 3 58 tI (by kernel_rfl) ?_
  refine W_weaken [3, 11, 12, 13] [58] (fr' := ((ref_Rank_s50 a0) ((0 : Int), [])).1) (L' := ((ref_Rank_s50 a0) ((0 : Int), [])).2) (by kernel_rfl) ?_
  refine W_cutK (W_loop (S := (ref_Rank_s50 a0)) (J := (exQ (.exit 0) ref_Rank_s51)) (by kernel_rfl) ?_ h378 _ v376 h379) ?_
  · rintro ⟨i219, x220⟩ s h
    refine W_seq (by kernel_rfl) ?_
    refine W_run 1 [] [3, 11, 12, 13, 14] [58] (fr' := [(3, .one (.slc 58)), (11, aD (.slice (.pair tI (.pair tI (.pair tI (.pair tI (.pair tI (.slice tI))))))) a0), (12, aI (List.length a0 : Int)), (13, aI i219), (14, aB (decide (i219 < (List.length a0 : Int))))]) (L' := [(58, .seq tI x220)]) (obs := []) (by kernel_rfl) (by kernel_rfl) (by kernel_rfl) allP0 ?_
    refine seqQ_norm ?_
    refine W_seq (by kernel_rfl) ?_
    refine W_cond (o := .tmp 14) (b := decide (i219 < (List.length a0 : Int))) (by kernel_rfl) (by kernel_rfl) (fun h224 => ?_) (fun h224 => ?_)
    · replace h := stepL_true h224 h
      obtain ⟨v222, _, h223, h, rfl⟩ := h
      refine W_skip [3, 11, 12, 13] [58] (fr' := [(3, .one (.slc 58)), (11, aD (.slice (.pair tI (.pair tI (.pair tI (.pair tI (.pair tI (.slice tI))))))) a0), (12, aI (List.length a0 : Int)), (13, aI i219)]) (L' := [(58, .seq tI x220)]) (by kernel_rfl) (by kernel_rfl) ?_
      refine seqQ_norm ?_
      refine W_seq (by kernel_rfl) ?_
      refine W_block (id := 1) (by kernel_rfl) ?_
      refine W_seq (by kernel_rfl) ?_
      refine W_run 4 [(1, .val (.dat (.pair tI (.pair tI (.pair tI (.pair tI (.pair tI (.slice tI)))))) v222)), (5, .typed)] [3, 5, 11, 12, 13] [58, 5] (fr' := [(3, .one (.slc 58)), (5, .one (.ptr 5 0)), (11, aD (.slice (.pair tI (.pair tI (.pair tI (.pair tI (.pair tI (.slice tI))))))) a0), (12, aI (List.length a0 : Int)), (13, aI i219)]) (L' := [(58, .seq tI x220), (5, .one (.pair tI (.pair tI (.pair tI (.pair tI (.pair tI (.slice tI)))))) v222)]) (obs := [Idx a0 i219 v222, True]) (by kernel_rfl) (by kernel_rfl) (by kernel_rfl) (allP2 (Idx.of h223) (allP1 trivial)) ?_
      refine seqQ_norm ?_
      refine W_seq (by kernel_rfl) ?_
      refine W_run 1 [] [3, 5, 6, 11, 12, 13] [58, 5] (fr' := [(3, .one (.slc 58)), (5, .one (.ptr 5 0)), (6, aI (0 : Int)), (11, aD (.slice (.pair tI (.pair tI (.pair tI (.pair tI (.pair tI (.slice tI))))))) a0), (12, aI (List.length a0 : Int)), (13, aI i219)]) (L' := [(58, .seq tI x220), (5, .one (.pair tI (.pair tI (.pair tI (.pair tI (.pair tI (.slice tI)))))) v222)]) (obs := []) (by kernel_rfl) (by kernel_rfl) (by kernel_rfl) allP0 ?_
      refine seqQ_norm ?_
      refine W_seq (by kernel_rfl) ?_
      refine W_run 1 [] [3, 5, 6, 7, 11, 12, 13] [58, 5] (fr' := [(3, .one (.slc 58)), (5, .one (.ptr 5 0)), (6, aI (0 : Int)), (7, aI (1 : Int)), (11, aD (.slice (.pair tI (.pair tI (.pair tI (.pair tI (.pair tI (.slice tI))))))) a0), (12, aI (List.length a0 : Int)), (13, aI i219)]) (L' := [(58, .seq tI x220), (5, .one (.pair tI (.pair tI (.pair tI (.pair tI (.pair tI (.slice tI)))))) v222)]) (obs := []) (by kernel_rfl) (by kernel_rfl) (by kernel_rfl) allP0 ?_
      refine seqQ_norm ?_
      refine W_seq (by kernel_rfl) ?_
      refine W_run 1 [] [3, 5, 6, 7, 8, 11, 12, 13] [58, 5] (fr' := [(3, .one (.slc 58)), (5, .one (.ptr 5 0)), (6, aI (0 : Int)), (7, aI (1 : Int)), (8, .one (.nilS)), (11, aD (.slice (.pair tI (.pair tI (.pair tI (.pair tI (.pair tI (.slice tI))))))) a0), (12, aI (List.length a0 : Int)), (13, aI i219)]) (L' := [(58, .seq tI x220), (5, .one (.pair tI (.pair tI (.pair tI (.pair tI (.pair tI (.slice tI)))))) v222)]) (obs := []) (by kernel_rfl) (by kernel_rfl) (by kernel_rfl) allP0 ?_
      refine seqQ_norm ?_
      refine W_seq (by kernel_rfl) ?_
      obtain ⟨v306, h307, h⟩ := bind_of h
      refine W_cutK (Q' := (exQ .normal (ref_Rank_s48 a0 i219 x220 v222)) v306) ?_ ?_
      · replace h := h307
        refine W_seq (by kernel_rfl) ?_
        refine W_run 3 [] [3, 5, 6, 7, 8, 11, 12, 13, 19] [58, 5] (fr' := [(3, .one (.slc 58)), (5, .one (.ptr 5 0)), (6, aI (0 : Int)), (7, aI (1 : Int)), (8, .one (.nilS)), (11, aD (.slice (.pair tI (.pair tI (.pair tI (.pair tI (.pair tI (.slice tI))))))) a0), (12, aI (List.length a0 : Int)), (13, aI i219), (19, aB (v222.1 == (4 : Int)))]) (L' := [(58, .seq tI x220), (5, .one (.pair tI (.pair tI (.pair tI (.pair tI (.pair tI (.slice tI)))))) v222)]) (obs := []) (by kernel_rfl) (by kernel_rfl) (by kernel_rfl) allP0 ?_
        refine seqQ_norm ?_
        refine W_cond (o := .tmp 19) (b := v222.1 == (4 : Int)) (by kernel_rfl) (by kernel_rfl) (fun h304 => ?_) (fun h304 => ?_)
        · replace h := ofT h304 h
          refine W_seq (by kernel_rfl) ?_
          refine W_drawC5 7 [(4, 24, some (.seq tI [v222.2.2.2.1]))] [(4, .one (.slc 24))] [] [] [3, 5, 6, 8, 11, 12, 13, 24, 26] [5, 24, 58] (out := [(20, .one (.nilS)), (21, .one (.ptr 5 3)), (22, aI v222.2.2.2.1), (23, aD (.slice tI) [v222.2.2.2.1]), (24, .one (.slc 24)), (25, .one (.ptr 5 5)), (26, aD (.slice tI) v222.2.2.2.2.2)]) (obs := [True]) (calls := []) (fr' := [(3, .one (.slc 58)), (5, .one (.ptr 5 0)), (6, aI (0 : Int)), (8, .one (.nilS)), (11, aD (.slice (.pair tI (.pair tI (.pair tI (.pair tI (.pair tI (.slice tI))))))) a0), (12, aI (List.length a0 : Int)), (13, aI i219), (24, .one (.slc 24)), (26, aD (.slice tI) v222.2.2.2.2.2)]) (L' := [(5, .one (.pair tI (.pair tI (.pair tI (.pair tI (.pair tI (.slice tI)))))) v222), (24, .seq tI [v222.2.2.2.1]), (58, .seq tI x220)]) (by kernel_rfl) (by kernel_rfl) (by kernel_rfl) (by kernel_rfl) (by kernel_rfl) (allP1 trivial) allD0 (chDo (d := 24) (nm := 24) (ob := .seq tI [v222.2.2.2.1]) (av := .one (.slc 24)) (p := SmallLen (List.length [v222.2.2.2.1])) (by kernel_rfl) (by unfold SmallLen; exact of_decide_eq_true (by kernel_rfl)) (by kernel_rfl) chNil) (by kernel_rfl) ?_
          obtain ⟨_, h305, h⟩ := bind_of h
          replace h305 := ck_some h305
          refine WO_run (j := 9) (k := 2) (orcs := []) (kF := [3, 5, 6, 8, 11, 12, 13]) (kL := [5, 24, 58]) (fr' := [(3, .one (.slc 58)), (5, .one (.ptr 5 0)), (6, aI (0 : Int)), (8, .one (.slc 24)), (11, aD (.slice (.pair tI (.pair tI (.pair tI (.pair tI (.pair tI (.slice tI))))))) a0), (12, aI (List.length a0 : Int)), (13, aI i219)]) (L' := [(5, .one (.pair tI (.pair tI (.pair tI (.pair tI (.pair tI (.slice tI)))))) v222), (24, .seq tI ([v222.2.2.2.1] ++ v222.2.2.2.2.2)), (58, .seq tI x220)]) (obs := [SmallLen (List.length [v222.2.2.2.1] + List.length v222.2.2.2.2.2)]) rfl (by kernel_rfl) (allP1 h305) ?_
          refine WO_fin [3, 5, 6, 8, 11, 12, 13] [58, 5, 24] (fr' := [(3, .one (.slc 58)), (5, .one (.ptr 5 0)), (6, aI (0 : Int)), (8, .one (.slc 24)), (11, aD (.slice (.pair tI (.pair tI (.pair tI (.pair tI (.pair tI (.slice tI))))))) a0), (12, aI (List.length a0 : Int)), (13, aI i219)]) (L' := [(58, .seq tI x220), (5, .one (.pair tI (.pair tI (.pair tI (.pair tI (.pair tI (.slice tI)))))) v222), (24, .seq tI ([v222.2.2.2.1] ++ v222.2.2.2.2.2))]) (by kernel_rfl) (by kernel_rfl) ?_
          refine ⟨rfl, ?_⟩
          refine seqQ_norm ?_
          obtain rfl := Option.some.inj h
          refine W_run 1 [] [3, 5, 6, 7, 8, 11, 12, 13] [58, 5, 24] (fr' := [(3, .one (.slc 58)), (5, .one (.ptr 5 0)), (6, aI (0 : Int)), (7, aI (2 : Int)), (8, .one (.slc 24)), (11, aD (.slice (.pair tI (.pair tI (.pair tI (.pair tI (.pair tI (.slice tI))))))) a0), (12, aI (List.length a0 : Int)), (13, aI i219)]) (L' := [(58, .seq tI x220), (5, .one (.pair tI (.pair tI (.pair tI (.pair tI (.pair tI (.slice tI)))))) v222), (24, .seq tI ([v222.2.2.2.1] ++ v222.2.2.2.2.2))]) (obs := []) (by kernel_rfl) (by kernel_rfl) (by kernel_rfl) allP0 ?_
          exact exQ_mk (by kernel_rfl) (by kernel_rfl)
        · replace h := ofF h304 h
          obtain rfl := Option.some.inj h
          refine W_mine 8 24 tI (by kernel_rfl) ?_
          refine W_skip [3, 5, 6, 7, 8, 11, 12, 13] [58, 5, 24] (fr' := [(3, .one (.slc 58)), (5, .one (.ptr 5 0)), (6, aI (0 : Int)), (7, aI (1 : Int)), (8, .one (.slc 24)), (11, aD (.slice (.pair tI (.pair tI (.pair tI (.pair tI (.pair tI (.slice tI))))))) a0), (12, aI (List.length a0 : Int)), (13, aI i219)]) (L' := [(58, .seq tI x220), (5, .one (.pair tI (.pair tI (.pair tI (.pair tI (.pair tI (.slice tI)))))) v222), (24, .seq tI [])]) (by kernel_rfl) (by kernel_rfl) ?_
          exact exQ_mk (by kernel_rfl) (by kernel_rfl)
      · intro e fr L hJ
        obtain ⟨rfl, rfl, rfl⟩ := hJ
        refine LT_keep [3, 5, 6, 7, 8, 11, 12, 13] [58, 5, 24] (fr' := [(3, .one (.slc 58)), (5, .one (.ptr 5 0)), (6, aI (0 : Int)), (7, aI v306.1), (8, .one (.slc 24)), (11, aD (.slice (.pair tI (.pair tI (.pair tI (.pair tI (.pair tI (.slice tI))))))) a0), (12, aI (List.length a0 : Int)), (13, aI i219)]) (L' := [(58, .seq tI x220), (5, .one (.pair tI (.pair tI (.pair tI (.pair tI (.pair tI (.slice tI)))))) v222), (24, .seq tI v306.2)]) (by kernel_rfl) ?_
        refine seqQ_norm ?_
        refine W_seq (by kernel_rfl) ?_
        obtain ⟨v311, h312, h⟩ := bind_of h
        refine W_cutK (Q' := (exQ .normal (ref_Rank_s47 a0 i219 x220)) v311) ?_ ?_
        · replace h := h312
          refine W_seq (by kernel_rfl) ?_
          refine W_run 3 [] [3, 5, 6, 7, 8, 11, 12, 13, 30] [58, 5, 24] (fr' := [(3, .one (.slc 58)), (5, .one (.ptr 5 0)), (6, aI (0 : Int)), (7, aI v306.1), (8, .one (.slc 24)), (11, aD (.slice (.pair tI (.pair tI (.pair tI (.pair tI (.pair tI (.slice tI))))))) a0), (12, aI (List.length a0 : Int)), (13, aI i219), (30, aB (v222.1 == (5 : Int)))]) (L' := [(58, .seq tI x220), (5, .one (.pair tI (.pair tI (.pair tI (.pair tI (.pair tI (.slice tI)))))) v222), (24, .seq tI v306.2)]) (obs := []) (by kernel_rfl) (by kernel_rfl) (by kernel_rfl) allP0 ?_
          refine seqQ_norm ?_
          refine W_cond (o := .tmp 30) (b := v222.1 == (5 : Int)) (by kernel_rfl) (by kernel_rfl) (fun h310 => ?_) (fun h310 => ?_)
          · replace h := ofT h310 h
            refine W_seq (by kernel_rfl) ?_
            refine W_run 6 [] [3, 6, 8, 11, 12, 13] [58, 35] (fr' := [(3, .one (.slc 58)), (6, aI (0 : Int)), (8, .one (.slc 35)), (11, aD (.slice (.pair tI (.pair tI (.pair tI (.pair tI (.pair tI (.slice tI))))))) a0), (12, aI (List.length a0 : Int)), (13, aI i219)]) (L' := [(58, .seq tI x220), (35, .seq tI [v222.2.2.2.1, v222.2.2.2.2.1])]) (obs := []) (by kernel_rfl) (by kernel_rfl) (by kernel_rfl) allP0 ?_
            refine seqQ_norm ?_
            refine W_region (by kernel_rfl) ?_
            refine WO_run (j := 1) (k := 1) (orcs := []) (kF := [3, 6, 7, 8, 11, 12, 13]) (kL := [35, 58]) (fr' := [(3, .one (.slc 58)), (6, aI (0 : Int)), (7, aI (3 : Int)), (8, .one (.slc 35)), (11, aD (.slice (.pair tI (.pair tI (.pair tI (.pair tI (.pair tI (.slice tI))))))) a0), (12, aI (List.length a0 : Int)), (13, aI i219)]) (L' := [(35, .seq tI [v222.2.2.2.1, v222.2.2.2.2.1]), (58, .seq tI x220)]) (obs := []) rfl (by kernel_rfl) allP0 ?_
            obtain rfl := Option.some.inj h
            refine WO_ren 35 24 (by kernel_rfl) ?_
            refine WO_fin [3, 6, 7, 8, 11, 12, 13] [58, 24] (fr' := [(3, .one (.slc 58)), (6, aI (0 : Int)), (7, aI (3 : Int)), (8, .one (.slc 24)), (11, aD (.slice (.pair tI (.pair tI (.pair tI (.pair tI (.pair tI (.slice tI))))))) a0), (12, aI (List.length a0 : Int)), (13, aI i219)]) (L' := [(58, .seq tI x220), (24, .seq tI [v222.2.2.2.1, v222.2.2.2.2.1])]) (by kernel_rfl) (by kernel_rfl) ?_
            exact exQ_mk (by kernel_rfl) (by kernel_rfl)
          · replace h := ofF h310 h
            obtain rfl := Option.some.inj h
            refine W_skip [3, 6, 7, 8, 11, 12, 13] [58, 24] (fr' := [(3, .one (.slc 58)), (6, aI (0 : Int)), (7, aI v306.1), (8, .one (.slc 24)), (11, aD (.slice (.pair tI (.pair tI (.pair tI (.pair tI (.pair tI (.slice tI))))))) a0), (12, aI (List.length a0 : Int)), (13, aI i219)]) (L' := [(58, .seq tI x220), (24, .seq tI v306.2)]) (by kernel_rfl) (by kernel_rfl) ?_
            exact exQ_mk (by kernel_rfl) (by kernel_rfl)
        · intro e fr L hJ
          obtain ⟨rfl, rfl, rfl⟩ := hJ
          refine LT_keep [3, 6, 7, 8, 11, 12, 13] [58, 24] (fr' := [(3, .one (.slc 58)), (6, aI (0 : Int)), (7, aI v311.1), (8, .one (.slc 24)), (11, aD (.slice (.pair tI (.pair tI (.pair tI (.pair tI (.pair tI (.slice tI))))))) a0), (12, aI (List.length a0 : Int)), (13, aI i219)]) (L' := [(58, .seq tI x220), (24, .seq tI v311.2)]) (by kernel_rfl) ?_
          refine seqQ_norm ?_
          refine W_seq (by kernel_rfl) ?_
          refine W_seq (by kernel_rfl) ?_
          refine W_run 3 [] [3, 6, 7, 11, 12, 13, 36, 37, 38] [58, 24] (fr' := [(3, .one (.slc 58)), (6, aI (0 : Int)), (7, aI v311.1), (11, aD (.slice (.pair tI (.pair tI (.pair tI (.pair tI (.pair tI (.slice tI))))))) a0), (12, aI (List.length a0 : Int)), (13, aI i219), (36, .one (.slc 24)), (37, aI (List.length v311.2 : Int)), (38, aI (0 : Int))]) (L' := [(58, .seq tI x220), (24, .seq tI v311.2)]) (obs := []) (by kernel_rfl) (by kernel_rfl) (by kernel_rfl) allP0 ?_
          refine seqQ_norm ?_
          refine W_block (id := 2) (by kernel_rfl) ?_
          obtain ⟨v369, h370, h⟩ := bind_of h
          refine W_lenS (s := 24) (u := tI) (xs := v311.2) (by kernel_rfl) (fun h373 => ?_)
          obtain ⟨h371, h372⟩ := forL_iter h373 h370
          refine W_weaken [3, 6, 7, 11, 12, 13, 36, 37, 38] [58, 24] (fr' := ((ref_Rank_s45 a0 i219 x220 v311) ((0 : Int), (0 : Int))).1) (L' := ((ref_Rank_s45 a0 i219 x220 v311) ((0 : Int), (0 : Int))).2) (by kernel_rfl) ?_
          refine W_cutK (W_loop (S := (ref_Rank_s45 a0 i219 x220 v311)) (J := (exQ (.exit 2) (ref_Rank_s46 a0 i219 x220 v311))) (by kernel_rfl) ?_ h371 _ v369 h372) ?_
          · rintro ⟨i351, x352⟩ s h
            refine W_seq (by kernel_rfl) ?_
            refine W_run 1 [] [3, 6, 7, 11, 12, 13, 36, 37, 38, 39] [58, 24] (fr' := [(3, .one (.slc 58)), (6, aI x352), (7, aI v311.1), (11, aD (.slice (.pair tI (.pair tI (.pair tI (.pair tI (.pair tI (.slice tI))))))) a0), (12, aI (List.length a0 : Int)), (13, aI i219), (36, .one (.slc 24)), (37, aI (List.length v311.2 : Int)), (38, aI i351), (39, aB (decide (i351 < (List.length v311.2 : Int))))]) (L' := [(58, .seq tI x220), (24, .seq tI v311.2)]) (obs := []) (by kernel_rfl) (by kernel_rfl) (by kernel_rfl) allP0 ?_
            refine seqQ_norm ?_
            refine W_seq (by kernel_rfl) ?_
            refine W_cond (o := .tmp 39) (b := decide (i351 < (List.length v311.2 : Int))) (by kernel_rfl) (by kernel_rfl) (fun h356 => ?_) (fun h356 => ?_)
            · replace h := stepL_true h356 h
              obtain ⟨v354, _, h355, h, rfl⟩ := h
              refine W_skip [3, 6, 7, 11, 12, 13, 36, 37, 38] [58, 24] (fr' := [(3, .one (.slc 58)), (6, aI x352), (7, aI v311.1), (11, aD (.slice (.pair tI (.pair tI (.pair tI (.pair tI (.pair tI (.slice tI))))))) a0), (12, aI (List.length a0 : Int)), (13, aI i219), (36, .one (.slc 24)), (37, aI (List.length v311.2 : Int)), (38, aI i351)]) (L' := [(58, .seq tI x220), (24, .seq tI v311.2)]) (by kernel_rfl) (by kernel_rfl) ?_
              refine seqQ_norm ?_
              refine W_seq (by kernel_rfl) ?_
              obtain ⟨v366, h367, h⟩ := bind_of h
              refine W_cutK (Q' := (exQ .normal (ref_Rank_s43 a0 i219 x220 v311 i351)) v366) ?_ ?_
              · replace h := h367
                refine W_block (id := 3) (by kernel_rfl) ?_
                refine W_seq (by kernel_rfl) ?_
                refine W_run 3 [(3, .val (.dat tI v354))] [3, 6, 7, 10, 11, 12, 13, 36, 37, 38] [58, 24] (fr' := [(3, .one (.slc 58)), (6, aI x352), (7, aI v311.1), (10, aI v354), (11, aD (.slice (.pair tI (.pair tI (.pair tI (.pair tI (.pair tI (.slice tI))))))) a0), (12, aI (List.length a0 : Int)), (13, aI i219), (36, .one (.slc 24)), (37, aI (List.length v311.2 : Int)), (38, aI i351)]) (L' := [(58, .seq tI x220), (24, .seq tI v311.2)]) (obs := [InR i351 (List.length v311.2), Idx v311.2 i351 v354]) (by kernel_rfl) (by kernel_rfl) (by kernel_rfl) (allP2 (InR.of h355) (allP1 (Idx.of h355))) ?_
                refine seqQ_norm ?_
                refine W_seq (by kernel_rfl) ?_
                obtain ⟨v363, h364, h⟩ := bind_of h
                refine W_run 6 [(7, .val (.dat tI v363))] [3, 6, 7, 10, 11, 12, 13, 36, 37, 38, 47] [58, 24] (fr' := [(3, .one (.slc 58)), (6, aI x352), (7, aI v311.1), (10, aI v354), (11, aD (.slice (.pair tI (.pair tI (.pair tI (.pair tI (.pair tI (.slice tI))))))) a0), (12, aI (List.length a0 : Int)), (13, aI i219), (36, .one (.slc 24)), (37, aI (List.length v311.2 : Int)), (38, aI i351), (47, aB (decide (v363 > x352)))]) (L' := [(58, .seq tI x220), (24, .seq tI v311.2)]) (obs := [InR v354 (List.length x220), Idx x220 v354 v363]) (by kernel_rfl) (by kernel_rfl) (by kernel_rfl) (allP2 (InR.of h364) (allP1 (Idx.of h364))) ?_
                refine seqQ_norm ?_
                refine W_cond (o := .tmp 47) (b := decide (v363 > x352)) (by kernel_rfl) (by kernel_rfl) (fun h365 => ?_) (fun h365 => ?_)
                · replace h := ofT h365 h
                  obtain rfl := Option.some.inj h
                  refine W_run 5 [(7, .val (.dat tI v363))] [3, 6, 7, 11, 12, 13, 36, 37, 38] [58, 24] (fr' := [(3, .one (.slc 58)), (6, aI v363), (7, aI v311.1), (11, aD (.slice (.pair tI (.pair tI (.pair tI (.pair tI (.pair tI (.slice tI))))))) a0), (12, aI (List.length a0 : Int)), (13, aI i219), (36, .one (.slc 24)), (37, aI (List.length v311.2 : Int)), (38, aI i351)]) (L' := [(58, .seq tI x220), (24, .seq tI v311.2)]) (obs := [InR v354 (List.length x220), Idx x220 v354 v363]) (by kernel_rfl) (by kernel_rfl) (by kernel_rfl) (allP2 (InR.of h364) (allP1 (Idx.of h364))) ?_
                  refine blockQ_norm ?_
                  exact exQ_mk (by kernel_rfl) (by kernel_rfl)
                · replace h := ofF h365 h
                  obtain rfl := Option.some.inj h
                  refine W_skip [3, 6, 7, 11, 12, 13, 36, 37, 38] [58, 24] (fr' := [(3, .one (.slc 58)), (6, aI x352), (7, aI v311.1), (11, aD (.slice (.pair tI (.pair tI (.pair tI (.pair tI (.pair tI (.slice tI))))))) a0), (12, aI (List.length a0 : Int)), (13, aI i219), (36, .one (.slc 24)), (37, aI (List.length v311.2 : Int)), (38, aI i351)]) (L' := [(58, .seq tI x220), (24, .seq tI v311.2)]) (by kernel_rfl) (by kernel_rfl) ?_
                  refine blockQ_norm ?_
                  exact exQ_mk (by kernel_rfl) (by kernel_rfl)
              · intro e fr L hJ
                obtain ⟨rfl, rfl, rfl⟩ := hJ
                refine LT_keep [3, 6, 7, 11, 12, 13, 36, 37, 38] [58, 24] (fr' := [(3, .one (.slc 58)), (6, aI v366), (7, aI v311.1), (11, aD (.slice (.pair tI (.pair tI (.pair tI (.pair tI (.pair tI (.slice tI))))))) a0), (12, aI (List.length a0 : Int)), (13, aI i219), (36, .one (.slc 24)), (37, aI (List.length v311.2 : Int)), (38, aI i351)]) (L' := [(58, .seq tI x220), (24, .seq tI v311.2)]) (by kernel_rfl) ?_
                refine seqQ_norm ?_
                obtain rfl := Option.some.inj h
                refine W_run 2 [] [3, 6, 7, 11, 12, 13, 36, 37, 38] [58, 24] (fr' := [(3, .one (.slc 58)), (6, aI v366), (7, aI v311.1), (11, aD (.slice (.pair tI (.pair tI (.pair tI (.pair tI (.pair tI (.slice tI))))))) a0), (12, aI (List.length a0 : Int)), (13, aI i219), (36, .one (.slc 24)), (37, aI (List.length v311.2 : Int)), (38, aI (w64 (i351 + (1 : Int))))]) (L' := [(58, .seq tI x220), (24, .seq tI v311.2)]) (obs := []) (by kernel_rfl) (by kernel_rfl) (by kernel_rfl) allP0 ?_
                exact round_next' (by kernel_rfl) (by kernel_rfl)
            · obtain rfl := stepL_false h356 h
              refine W_exit (id := 2) [3, 6, 7, 11, 12, 13] [58] (fr' := [(3, .one (.slc 58)), (6, aI x352), (7, aI v311.1), (11, aD (.slice (.pair tI (.pair tI (.pair tI (.pair tI (.pair tI (.slice tI))))))) a0), (12, aI (List.length a0 : Int)), (13, aI i219)]) (L' := [(58, .seq tI x220)]) (by kernel_rfl) (by kernel_rfl) ?_
              refine seqQ_exit ?_
              refine round_exit ?_
              exact exQ_mk (by kernel_rfl) (by kernel_rfl)
          · intro e fr L hJ
            obtain ⟨rfl, rfl, rfl⟩ := hJ
            refine LT_keep [3, 6, 7, 11, 12, 13] [58] (fr' := [(3, .one (.slc 58)), (6, aI v369), (7, aI v311.1), (11, aD (.slice (.pair tI (.pair tI (.pair tI (.pair tI (.pair tI (.slice tI))))))) a0), (12, aI (List.length a0 : Int)), (13, aI i219)]) (L' := [(58, .seq tI x220)]) (by kernel_rfl) ?_
            refine blockQ_hit ?_
            refine seqQ_norm ?_
            obtain ⟨_, h374, h⟩ := bind_of h
            replace h374 := ck_some h374
            refine W_run 7 [] [3, 11, 12, 13] [58] (fr' := [(3, .one (.slc 58)), (11, aD (.slice (.pair tI (.pair tI (.pair tI (.pair tI (.pair tI (.slice tI))))))) a0), (12, aI (List.length a0 : Int)), (13, aI i219)]) (L' := [(58, .seq tI (x220 ++ [w64 (v369 + v311.1)]))]) (obs := [SmallLen (List.length x220 + List.length [w64 (v369 + v311.1)])]) (by kernel_rfl) (by kernel_rfl) (by kernel_rfl) (allP1 h374) ?_
            refine blockQ_norm ?_
            refine seqQ_norm ?_
            obtain rfl := Option.some.inj h
            refine W_run 2 [] [3, 11, 12, 13] [58] (fr' := [(3, .one (.slc 58)), (11, aD (.slice (.pair tI (.pair tI (.pair tI (.pair tI (.pair tI (.slice tI))))))) a0), (12, aI (List.length a0 : Int)), (13, aI (w64 (i219 + (1 : Int))))]) (L' := [(58, .seq tI (x220 ++ [w64 (v369 + v311.1)]))]) (obs := []) (by kernel_rfl) (by kernel_rfl) (by kernel_rfl) allP0 ?_
            exact round_next' (by kernel_rfl) (by kernel_rfl)
    · obtain rfl := stepL_false h224 h
      refine W_exit (id := 0) [3] [58] (fr' := [(3, .one (.slc 58))]) (L' := [(58, .seq tI x220)]) (by kernel_rfl) (by kernel_rfl) ?_
      refine seqQ_exit ?_
      refine round_exit ?_
      exact exQ_mk (by kernel_rfl) (by kernel_rfl)
  · intro e fr L hJ
    obtain ⟨rfl, rfl, rfl⟩ := hJ
    refine LT_keep [3] [58] (fr' := [(3, .one (.slc 58))]) (L' := [(58, .seq tI v376)]) (by kernel_rfl) ?_
    refine blockQ_hit ?_
    refine seqQ_norm ?_
    refine W_seq (by kernel_rfl) ?_
    obtain ⟨v381, h382, h⟩ := bind_of h
    refine W_run 7 [(11, .val (.dat tI v381))] [2] [] (fr' := [(2, aI v381)]) (L' := []) (obs := [InR (w64 ((List.length v376 : Int) - (1 : Int))) (List.length v376), Idx v376 (w64 ((List.length v376 : Int) - (1 : Int))) v381]) (by kernel_rfl) (by kernel_rfl) (by kernel_rfl) (allP2 (InR.of h382) (allP1 (Idx.of h382))) ?_
    refine seqQ_norm ?_
    obtain rfl := Option.some.inj h
    refine W_ret [2] [] (fr' := [(2, aI v381)]) (L' := []) (by kernel_rfl) (by kernel_rfl) ?_
    exact retQ_mk (by kernel_rfl) (by kernel_rfl) (by kernel_rfl)
end Go.Proofs.Ytbjfglckfknheaa.funcsRanks
