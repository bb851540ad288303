/- What the functions that TalkRows calls compute, as models, and that they compute it: written by a program of mine. -/
import Derived.Test.YtjghcbdfpcpahaaProg
import Derived.Test.YtjghcbdfpcpahaaSl4
set_option linter.all false
set_option maxRecDepth 100000
namespace Go.Proofs.Ytjghcbdfpcpahaa.talkRows
open Go Go.Sl
def talk_wrong_1 (a0 : (List Bool)) (c0 : (List (List Bool))) : Option Bool :=
(idx c0 (0 : Int)).bind fun v1 =>
some ((List.length a0 : Int) != (List.length v1 : Int))
theorem talk_wrong_1_ok {a0 : (List Bool)} {c0 : (List (List Bool))} {r : Bool} (h : talk_wrong_1 a0 c0 = some r) : FnC Try.prog 56 [aD (.slice .bool) a0, .one (.ptr 1000 0)] [(1000, .cells [.dat (.slice (.slice .bool)) c0])] (aB r) [(1000, .cells [.dat (.slice (.slice .bool)) c0])] := by
  refine fnC_of_W (B := bodyOf Try.f56) (n := 11) Try.func56 (by kernel_rfl) (by kernel_rfl) (by kernel_rfl) (by kernel_rfl) (by kernel_rfl) ?_
  intro K
  refine W_seq (by kernel_rfl) ?_
  refine W_run 1 [] [0, 1] [1000] (fr' := [(0, aD (.slice .bool) a0), (1, .one (.ptr 1000 0))]) (L' := [(1000, .cells [.dat (.slice (.slice .bool)) c0])]) (obs := []) (by kernel_rfl) (by kernel_rfl) (by kernel_rfl) allP0 ?_
  refine seqQ_norm ?_
  refine W_seq (by kernel_rfl) ?_
  obtain ⟨v1, h2, h⟩ := bind_of h
  refine W_run 8 [(7, .val (.dat (.slice .bool) v1))] [3] [1000] (fr' := [(3, aB ((List.length a0 : Int) != (List.length v1 : Int)))]) (L' := [(1000, .cells [.dat (.slice (.slice .bool)) c0])]) (obs := [Idx c0 (0 : Int) v1]) (by kernel_rfl) (by kernel_rfl) (by kernel_rfl) (allP1 (Idx.of h2)) ?_
  refine seqQ_norm ?_
  obtain rfl := Option.some.inj h
  refine W_ret [3] [1000] (fr' := [(3, aB ((List.length a0 : Int) != (List.length v1 : Int)))]) (L' := [(1000, .cells [.dat (.slice (.slice .bool)) c0])]) (by kernel_rfl) (by kernel_rfl) ?_
  exact retQ_mk (by kernel_rfl) (by kernel_rfl) (by kernel_rfl)

def slices_IndexFunc_LLboolLbool_with_talk_wrong_1_b1 (c0 : (List (List Bool))) (i15 : Int) (v18 : (List Bool)) (x16 : Unit) : Option (Flow Unit (Esc Int Unit)) :=
(talk_wrong_1 v18 c0).bind fun r21 =>
bif r21 then
(some (.done (.ret i15)))
else
(some (.next ()))
@[reducible] def slices_IndexFunc_LLboolLbool_with_talk_wrong_1_s2 (a0 : (List (List Bool))) (c0 : (List (List Bool))) (v : Int × Unit) : Fr × LL := ([(0, aD (.slice (.slice .bool)) a0), (1, .one (.fn 56 [(1000, 0)])), (7, aI (List.length a0 : Int)), (8, aI v.1)], [(1000, .cells [.dat (.slice (.slice .bool)) c0])])
@[reducible] def slices_IndexFunc_LLboolLbool_with_talk_wrong_1_s3 (c0 : (List (List Bool))) (v : Int) : Fr × LL := ([(4, aI v)], [(1000, .cells [.dat (.slice (.slice .bool)) c0])])
@[reducible] def slices_IndexFunc_LLboolLbool_with_talk_wrong_1_s4 (c0 : (List (List Bool))) (v : Unit) : Fr × LL := ([], [(1000, .cells [.dat (.slice (.slice .bool)) c0])])
def slices_IndexFunc_LLboolLbool_with_talk_wrong_1 (a0 : (List (List Bool))) (c0 : (List (List Bool))) : Option Int :=
(forL (slices_IndexFunc_LLboolLbool_with_talk_wrong_1_b1 c0) (fun x16 => (.brk ())) a0 0 ()).bind fun v25 =>
match v25 with
| .ret v30 =>
(some v30)
| .brk v31 =>
(some (-1 : Int))
theorem slices_IndexFunc_LLboolLbool_with_talk_wrong_1_ok {a0 : (List (List Bool))} {c0 : (List (List Bool))} {r : Int} (h : slices_IndexFunc_LLboolLbool_with_talk_wrong_1 a0 c0 = some r) : FnC Try.prog 57 [aD (.slice (.slice .bool)) a0, .one (.fn 56 [(1000, 0)])] [(1000, .cells [.dat (.slice (.slice .bool)) c0])] (aI r) [(1000, .cells [.dat (.slice (.slice .bool)) c0])] := by
  refine fnC_of_W (B := bodyOf Try.f57) (n := 19) Try.func57 (by kernel_rfl) (by kernel_rfl) (by kernel_rfl) (by kernel_rfl) (by kernel_rfl) ?_
  intro K
  refine W_seq (by kernel_rfl) ?_
  refine W_run 1 [] [0, 1] [1000] (fr' := [(0, aD (.slice (.slice .bool)) a0), (1, .one (.fn 56 [(1000, 0)]))]) (L' := [(1000, .cells [.dat (.slice (.slice .bool)) c0])]) (obs := []) (by kernel_rfl) (by kernel_rfl) (by kernel_rfl) allP0 ?_
  refine seqQ_norm ?_
  refine W_seq (by kernel_rfl) ?_
  refine W_seq (by kernel_rfl) ?_
  refine W_run 3 [] [0, 1, 7, 8] [1000] (fr' := [(0, aD (.slice (.slice .bool)) a0), (1, .one (.fn 56 [(1000, 0)])), (7, aI (List.length a0 : Int)), (8, aI (0 : Int))]) (L' := [(1000, .cells [.dat (.slice (.slice .bool)) c0])]) (obs := []) (by kernel_rfl) (by kernel_rfl) (by kernel_rfl) allP0 ?_
  refine seqQ_norm ?_
  refine W_block (id := 0) (by kernel_rfl) ?_
  obtain ⟨v25, h26, h⟩ := bind_of h
  refine W_len (t := 0) (u := (.slice .bool)) (xs := a0) (by kernel_rfl) (fun h29 => ?_)
  obtain ⟨h27, h28⟩ := forL_iter h29 h26
  refine W_weaken [0, 1, 7, 8] [1000] (fr' := ((slices_IndexFunc_LLboolLbool_with_talk_wrong_1_s2 a0 c0) ((0 : Int), ())).1) (L' := ((slices_IndexFunc_LLboolLbool_with_talk_wrong_1_s2 a0 c0) ((0 : Int), ())).2) (by kernel_rfl) ?_
  refine W_cutK (W_loop (S := (slices_IndexFunc_LLboolLbool_with_talk_wrong_1_s2 a0 c0)) (J := (escQ (exQ .ret (slices_IndexFunc_LLboolLbool_with_talk_wrong_1_s3 c0)) (exQ (.exit 0) (slices_IndexFunc_LLboolLbool_with_talk_wrong_1_s4 c0)))) (by kernel_rfl) ?_ h27 _ v25 h28) ?_
  · rintro ⟨i15, x16⟩ s h
    refine W_seq (by kernel_rfl) ?_
    refine W_run 1 [] [0, 1, 7, 8, 9] [1000] (fr' := [(0, aD (.slice (.slice .bool)) a0), (1, .one (.fn 56 [(1000, 0)])), (7, aI (List.length a0 : Int)), (8, aI i15), (9, aB (decide (i15 < (List.length a0 : Int))))]) (L' := [(1000, .cells [.dat (.slice (.slice .bool)) c0])]) (obs := []) (by kernel_rfl) (by kernel_rfl) (by kernel_rfl) allP0 ?_
    refine seqQ_norm ?_
    refine W_seq (by kernel_rfl) ?_
    refine W_cond (o := .tmp 9) (b := decide (i15 < (List.length a0 : Int))) (by kernel_rfl) (by kernel_rfl) (fun h20 => ?_) (fun h20 => ?_)
    · replace h := stepL_true h20 h
      obtain ⟨v18, _, h19, h, rfl⟩ := h
      refine W_skip [0, 1, 7, 8] [1000] (fr' := [(0, aD (.slice (.slice .bool)) a0), (1, .one (.fn 56 [(1000, 0)])), (7, aI (List.length a0 : Int)), (8, aI i15)]) (L' := [(1000, .cells [.dat (.slice (.slice .bool)) c0])]) (by kernel_rfl) (by kernel_rfl) ?_
      refine seqQ_norm ?_
      refine W_seq (by kernel_rfl) ?_
      refine W_block (id := 1) (by kernel_rfl) ?_
      refine W_seq (by kernel_rfl) ?_
      refine W_run 2 [] [0, 1, 5, 7, 8] [1000] (fr' := [(0, aD (.slice (.slice .bool)) a0), (1, .one (.fn 56 [(1000, 0)])), (5, aI i15), (7, aI (List.length a0 : Int)), (8, aI i15)]) (L' := [(1000, .cells [.dat (.slice (.slice .bool)) c0])]) (obs := []) (by kernel_rfl) (by kernel_rfl) (by kernel_rfl) allP0 ?_
      refine seqQ_norm ?_
      refine W_seq (by kernel_rfl) ?_
      refine W_region (by kernel_rfl) ?_
      refine WO_run (j := 5) (k := 5) (orcs := [(7, .val (.dat (.slice .bool) v18))]) (kF := [0, 1, 5, 7, 8, 11, 15]) (kL := [1000]) (fr' := [(0, aD (.slice (.slice .bool)) a0), (1, .one (.fn 56 [(1000, 0)])), (5, aI i15), (7, aI (List.length a0 : Int)), (8, aI i15), (11, .one (.fn 56 [(1000, 0)])), (15, aD (.slice .bool) v18)]) (L' := [(1000, .cells [.dat (.slice (.slice .bool)) c0])]) (obs := [Idx a0 i15 v18]) rfl (by kernel_rfl) (allP1 (Idx.of h19)) ?_
      obtain ⟨r21, h22, h⟩ := bind_of h
      refine WO_lend [(1000, 1000)] (us := [none, none]) (d := 16) (p := True) (j := 6) rfl ⟨by kernel_rfl, by kernel_rfl, by kernel_rfl⟩ trivial (talk_wrong_1_ok h22) (by kernel_rfl) (by kernel_rfl) ?_
      refine WO_fin [0, 1, 5, 7, 8, 16] [1000] (fr' := [(0, aD (.slice (.slice .bool)) a0), (1, .one (.fn 56 [(1000, 0)])), (5, aI i15), (7, aI (List.length a0 : Int)), (8, aI i15), (16, aB r21)]) (L' := [(1000, .cells [.dat (.slice (.slice .bool)) c0])]) (by kernel_rfl) (by kernel_rfl) ?_
      refine seqQ_norm ?_
      refine W_cond (o := .tmp 16) (b := r21) (by kernel_rfl) (by kernel_rfl) (fun h23 => ?_) (fun h23 => ?_)
      · replace h := ofT h23 h
        refine W_seq (by kernel_rfl) ?_
        refine W_run 2 [] [4] [1000] (fr' := [(4, aI i15)]) (L' := [(1000, .cells [.dat (.slice (.slice .bool)) c0])]) (obs := []) (by kernel_rfl) (by kernel_rfl) (by kernel_rfl) allP0 ?_
        refine seqQ_norm ?_
        obtain rfl := Option.some.inj h
        refine W_ret [4] [1000] (fr' := [(4, aI i15)]) (L' := [(1000, .cells [.dat (.slice (.slice .bool)) c0])]) (by kernel_rfl) (by kernel_rfl) ?_
        refine blockQ_ret ?_
        refine seqQ_ret ?_
        refine round_ret ?_
        refine escQ_ret ?_
        exact exQ_mk (by kernel_rfl) (by kernel_rfl)
      · replace h := ofF h23 h
        refine W_skip [0, 1, 7, 8] [1000] (fr' := [(0, aD (.slice (.slice .bool)) a0), (1, .one (.fn 56 [(1000, 0)])), (7, aI (List.length a0 : Int)), (8, aI i15)]) (L' := [(1000, .cells [.dat (.slice (.slice .bool)) c0])]) (by kernel_rfl) (by kernel_rfl) ?_
        refine blockQ_norm ?_
        refine seqQ_norm ?_
        obtain rfl := Option.some.inj h
        refine W_run 2 [] [0, 1, 7, 8] [1000] (fr' := [(0, aD (.slice (.slice .bool)) a0), (1, .one (.fn 56 [(1000, 0)])), (7, aI (List.length a0 : Int)), (8, aI (w64 (i15 + (1 : Int))))]) (L' := [(1000, .cells [.dat (.slice (.slice .bool)) c0])]) (obs := []) (by kernel_rfl) (by kernel_rfl) (by kernel_rfl) allP0 ?_
        exact round_next' (by kernel_rfl) (by kernel_rfl)
    · obtain rfl := stepL_false h20 h
      refine W_exit (id := 0) [] [1000] (fr' := []) (L' := [(1000, .cells [.dat (.slice (.slice .bool)) c0])]) (by kernel_rfl) (by kernel_rfl) ?_
      refine seqQ_exit ?_
      refine round_exit ?_
      refine escQ_brk ?_
      exact exQ_mk (by kernel_rfl) (by kernel_rfl)
  · intro e fr L hJ
    rcases v25 with v30 | v31
    · obtain ⟨rfl, rfl, rfl⟩ := hJ
      obtain rfl := Option.some.inj h
      refine LT_keep [4] [1000] (fr' := [(4, aI v30)]) (L' := [(1000, .cells [.dat (.slice (.slice .bool)) c0])]) (by kernel_rfl) ?_
      refine blockQ_ret ?_
      refine seqQ_ret ?_
      exact retQ_mk (by kernel_rfl) (by kernel_rfl) (by kernel_rfl)
    · obtain ⟨rfl, rfl, rfl⟩ := hJ
      refine LT_keep [] [1000] (fr' := []) (L' := [(1000, .cells [.dat (.slice (.slice .bool)) c0])]) (by kernel_rfl) ?_
      refine blockQ_hit ?_
      refine seqQ_norm ?_
      refine W_seq (by kernel_rfl) ?_
      refine W_run 1 [] [4] [1000] (fr' := [(4, aI (-1 : Int))]) (L' := [(1000, .cells [.dat (.slice (.slice .bool)) c0])]) (obs := []) (by kernel_rfl) (by kernel_rfl) (by kernel_rfl) allP0 ?_
      refine seqQ_norm ?_
      obtain rfl := Option.some.inj h
      refine W_ret [4] [1000] (fr' := [(4, aI (-1 : Int))]) (L' := [(1000, .cells [.dat (.slice (.slice .bool)) c0])]) (by kernel_rfl) (by kernel_rfl) ?_
      exact retQ_mk (by kernel_rfl) (by kernel_rfl) (by kernel_rfl)

def slices_ContainsFunc_LLboolLbool_with_talk_wrong_1 (a0 : (List (List Bool))) (c0 : (List (List Bool))) : Option Bool :=
(slices_IndexFunc_LLboolLbool_with_talk_wrong_1 a0 c0).bind fun r1 =>
some (decide (r1 ≥ (0 : Int)))
theorem slices_ContainsFunc_LLboolLbool_with_talk_wrong_1_ok {a0 : (List (List Bool))} {c0 : (List (List Bool))} {r : Bool} (h : slices_ContainsFunc_LLboolLbool_with_talk_wrong_1 a0 c0 = some r) : FnC Try.prog 37 [aD (.slice (.slice .bool)) a0, .one (.fn 56 [(1000, 0)])] [(1000, .cells [.dat (.slice (.slice .bool)) c0])] (aB r) [(1000, .cells [.dat (.slice (.slice .bool)) c0])] := by
  refine fnC_of_W (B := bodyOf Try.f37) (n := 9) Try.func37 (by kernel_rfl) (by kernel_rfl) (by kernel_rfl) (by kernel_rfl) (by kernel_rfl) ?_
  intro K
  refine W_seq (by kernel_rfl) ?_
  refine W_run 1 [] [0, 1] [1000] (fr' := [(0, aD (.slice (.slice .bool)) a0), (1, .one (.fn 56 [(1000, 0)]))]) (L' := [(1000, .cells [.dat (.slice (.slice .bool)) c0])]) (obs := []) (by kernel_rfl) (by kernel_rfl) (by kernel_rfl) allP0 ?_
  refine seqQ_norm ?_
  refine W_seq (by kernel_rfl) ?_
  refine W_region (by kernel_rfl) ?_
  refine WO_run (j := 2) (k := 2) (orcs := []) (kF := [5, 6]) (kL := [1000]) (fr' := [(5, aD (.slice (.slice .bool)) a0), (6, .one (.fn 56 [(1000, 0)]))]) (L' := [(1000, .cells [.dat (.slice (.slice .bool)) c0])]) (obs := []) rfl (by kernel_rfl) allP0 ?_
  obtain ⟨r1, h2, h⟩ := bind_of h
  refine WO_lend [(1000, 1000)] (us := [none, none]) (d := 7) (p := True) (j := 3) rfl ⟨by kernel_rfl, by kernel_rfl, by kernel_rfl⟩ trivial (slices_IndexFunc_LLboolLbool_with_talk_wrong_1_ok h2) (by kernel_rfl) (by kernel_rfl) ?_
  refine WO_run (j := 5) (k := 2) (orcs := []) (kF := [4]) (kL := [1000]) (fr' := [(4, aB (decide (r1 ≥ (0 : Int))))]) (L' := [(1000, .cells [.dat (.slice (.slice .bool)) c0])]) (obs := []) rfl (by kernel_rfl) allP0 ?_
  refine WO_fin [4] [1000] (fr' := [(4, aB (decide (r1 ≥ (0 : Int))))]) (L' := [(1000, .cells [.dat (.slice (.slice .bool)) c0])]) (by kernel_rfl) (by kernel_rfl) ?_
  refine seqQ_norm ?_
  obtain rfl := Option.some.inj h
  refine W_ret [4] [1000] (fr' := [(4, aB (decide (r1 ≥ (0 : Int))))]) (L' := [(1000, .cells [.dat (.slice (.slice .bool)) c0])]) (by kernel_rfl) (by kernel_rfl) ?_
  exact retQ_mk (by kernel_rfl) (by kernel_rfl) (by kernel_rfl)

def talk_wrong_g1 (a0 : (List (List Bool))) : Option Bool :=
bif (decide ((List.length a0 : Int) < (1 : Int))) || (decide ((List.length a0 : Int) > (4 : Int))) then
(some true)
else
((idx a0 (0 : Int)).bind fun v10 =>
bif decide ((List.length v10 : Int) < (1 : Int)) then
(some true)
else
(some (decide ((List.length v10 : Int) > (4 : Int)))))
@[reducible] def talk_wrong_s2 (a0 : (List (List Bool))) (v : Bool) : Fr × LL := ([(1, .one (.ptr 1 0)), (24, aB v)], [(1, .cells [.dat (.slice (.slice .bool)) a0])])
def talk_wrong (a0 : (List (List Bool))) : Option Int :=
(talk_wrong_g1 a0).bind fun v13 =>
bif v13 then
(some (1 : Int))
else
((slices_ContainsFunc_LLboolLbool_with_talk_wrong_1 a0 a0).bind fun r16 =>
bif r16 then
(some (3 : Int))
else
(some (0 : Int)))
theorem talk_wrong_ok {a0 : (List (List Bool))} {r : Int} (h : talk_wrong a0 = some r) : FnC Try.prog 36 [aD (.slice (.slice .bool)) a0] [] (aI r) [] := by
  refine fnC_of_W (B := bodyOf Try.f36) (n := 28) Try.func36 (by kernel_rfl) (by kernel_rfl) (by kernel_rfl) (by kernel_rfl) (by kernel_rfl) ?_
  intro K
  refine W_seq (by kernel_rfl) ?_
  refine W_run 2 [] [1] [1] (fr' := [(1, .one (.ptr 1 0))]) (L' := [(1, .cells [.dat (.slice (.slice .bool)) a0])]) (obs := []) (by kernel_rfl) (by kernel_rfl) (by kernel_rfl) allP0 ?_
  refine seqQ_norm ?_
  refine W_seq (by kernel_rfl) ?_
  refine W_seq (by kernel_rfl) ?_
  obtain ⟨v13, h14, h⟩ := bind_of h
  refine W_cutK (Q' := (exQ .normal (talk_wrong_s2 a0)) v13) ?_ ?_
  · replace h := h14
    refine W_region (by kernel_rfl) ?_
    refine WO_run (j := 9) (k := 9) (orcs := []) (kF := [1, 11]) (kL := [1]) (fr' := [(1, .one (.ptr 1 0)), (11, aB ((decide ((List.length a0 : Int) < (1 : Int))) || (decide ((List.length a0 : Int) > (4 : Int)))))]) (L' := [(1, .cells [.dat (.slice (.slice .bool)) a0])]) (obs := []) rfl (by kernel_rfl) allP0 ?_
    rcases Bool.eq_false_or_eq_true ((decide ((List.length a0 : Int) < (1 : Int))) || (decide ((List.length a0 : Int) > (4 : Int)))) with h9 | h9
    · replace h := ofT h9 h
      refine WO_run (j := 22) (k := 13) (orcs := [(18, .known true), (20, .known true), (22, .known true), (24, .known true), (26, .known true), (29, .val (.dat .bool true)), (32, .known true), (34, .known true), (36, .known true), (38, .known true), (40, .known true), (43, .val (.dat .bool true))]) (kF := [1, 24]) (kL := [1]) (fr' := [(1, .one (.ptr 1 0)), (24, aB true)]) (L' := [(1, .cells [.dat (.slice (.slice .bool)) a0])]) (obs := [(((decide ((List.length a0 : Int) < (1 : Int))) || (decide ((List.length a0 : Int) > (4 : Int)))) = true), (((decide ((List.length a0 : Int) < (1 : Int))) || (decide ((List.length a0 : Int) > (4 : Int)))) = true), (((decide ((List.length a0 : Int) < (1 : Int))) || (decide ((List.length a0 : Int) > (4 : Int)))) = true), (((decide ((List.length a0 : Int) < (1 : Int))) || (decide ((List.length a0 : Int) > (4 : Int)))) = true), (((decide ((List.length a0 : Int) < (1 : Int))) || (decide ((List.length a0 : Int) > (4 : Int)))) = true), (((decide ((List.length a0 : Int) < (1 : Int))) || (decide ((List.length a0 : Int) > (4 : Int)))) = true), (true = true), (true = true), (true = true), (true = true), (true = true), (true = true)]) rfl (by kernel_rfl) (allP2 h9 (allP2 h9 (allP2 h9 (allP2 h9 (allP2 h9 (allP2 h9 (allP2 rfl (allP2 rfl (allP2 rfl (allP2 rfl (allP2 rfl (allP1 rfl)))))))))))) ?_
      obtain rfl := Option.some.inj h
      refine WO_fin [1, 24] [1] (fr' := [(1, .one (.ptr 1 0)), (24, aB true)]) (L' := [(1, .cells [.dat (.slice (.slice .bool)) a0])]) (by kernel_rfl) (by kernel_rfl) ?_
      exact exQ_mk (by kernel_rfl) (by kernel_rfl)
    · replace h := ofF h9 h
      obtain ⟨v10, h11, h⟩ := bind_of h
      refine WO_run (j := 16) (k := 7) (orcs := [(18, .known false), (20, .known false), (21, .val (.dat (.slice .bool) v10)), (22, .known false), (24, .known false), (26, .known false), (29, .val (.dat .bool false))]) (kF := [1, 18]) (kL := [1]) (fr' := [(1, .one (.ptr 1 0)), (18, aB (decide ((List.length v10 : Int) < (1 : Int))))]) (L' := [(1, .cells [.dat (.slice (.slice .bool)) a0])]) (obs := [(((decide ((List.length a0 : Int) < (1 : Int))) || (decide ((List.length a0 : Int) > (4 : Int)))) = false), (((decide ((List.length a0 : Int) < (1 : Int))) || (decide ((List.length a0 : Int) > (4 : Int)))) = false), Idx a0 (0 : Int) v10, (((decide ((List.length a0 : Int) < (1 : Int))) || (decide ((List.length a0 : Int) > (4 : Int)))) = false), (((decide ((List.length a0 : Int) < (1 : Int))) || (decide ((List.length a0 : Int) > (4 : Int)))) = false), (((decide ((List.length a0 : Int) < (1 : Int))) || (decide ((List.length a0 : Int) > (4 : Int)))) = false), (((decide ((List.length a0 : Int) < (1 : Int))) || (decide ((List.length a0 : Int) > (4 : Int)))) = false)]) rfl (by kernel_rfl) (allP2 h9 (allP2 h9 (allP2 (Idx.of h11) (allP2 h9 (allP2 h9 (allP2 h9 (allP1 h9))))))) ?_
      rcases Bool.eq_false_or_eq_true (decide ((List.length v10 : Int) < (1 : Int))) with h12 | h12
      · replace h := ofT h12 h
        refine WO_run (j := 22) (k := 6) (orcs := [(32, .known true), (34, .known true), (36, .known true), (38, .known true), (40, .known true), (43, .val (.dat .bool true))]) (kF := [1, 24]) (kL := [1]) (fr' := [(1, .one (.ptr 1 0)), (24, aB true)]) (L' := [(1, .cells [.dat (.slice (.slice .bool)) a0])]) (obs := [((decide ((List.length v10 : Int) < (1 : Int))) = true), ((decide ((List.length v10 : Int) < (1 : Int))) = true), ((decide ((List.length v10 : Int) < (1 : Int))) = true), ((decide ((List.length v10 : Int) < (1 : Int))) = true), ((decide ((List.length v10 : Int) < (1 : Int))) = true), ((decide ((List.length v10 : Int) < (1 : Int))) = true)]) rfl (by kernel_rfl) (allP2 h12 (allP2 h12 (allP2 h12 (allP2 h12 (allP2 h12 (allP1 h12)))))) ?_
        obtain rfl := Option.some.inj h
        refine WO_fin [1, 24] [1] (fr' := [(1, .one (.ptr 1 0)), (24, aB true)]) (L' := [(1, .cells [.dat (.slice (.slice .bool)) a0])]) (by kernel_rfl) (by kernel_rfl) ?_
        exact exQ_mk (by kernel_rfl) (by kernel_rfl)
      · replace h := ofF h12 h
        refine WO_run (j := 22) (k := 6) (orcs := [(32, .known false), (34, .known false), (35, .val (.dat (.slice .bool) v10)), (36, .known false), (38, .known false), (40, .known false), (43, .val (.dat .bool false))]) (kF := [1, 24]) (kL := [1]) (fr' := [(1, .one (.ptr 1 0)), (24, aB (decide ((List.length v10 : Int) > (4 : Int))))]) (L' := [(1, .cells [.dat (.slice (.slice .bool)) a0])]) (obs := [((decide ((List.length v10 : Int) < (1 : Int))) = false), ((decide ((List.length v10 : Int) < (1 : Int))) = false), Idx a0 (0 : Int) v10, ((decide ((List.length v10 : Int) < (1 : Int))) = false), ((decide ((List.length v10 : Int) < (1 : Int))) = false), ((decide ((List.length v10 : Int) < (1 : Int))) = false), ((decide ((List.length v10 : Int) < (1 : Int))) = false)]) rfl (by kernel_rfl) (allP2 h12 (allP2 h12 (allP2 (Idx.of h11) (allP2 h12 (allP2 h12 (allP2 h12 (allP1 h12))))))) ?_
        obtain rfl := Option.some.inj h
        refine WO_fin [1, 24] [1] (fr' := [(1, .one (.ptr 1 0)), (24, aB (decide ((List.length v10 : Int) > (4 : Int))))]) (L' := [(1, .cells [.dat (.slice (.slice .bool)) a0])]) (by kernel_rfl) (by kernel_rfl) ?_
        exact exQ_mk (by kernel_rfl) (by kernel_rfl)
  · intro e fr L hJ
    obtain ⟨rfl, rfl, rfl⟩ := hJ
    refine LT_keep [1, 24] [1] (fr' := [(1, .one (.ptr 1 0)), (24, aB v13)]) (L' := [(1, .cells [.dat (.slice (.slice .bool)) a0])]) (by kernel_rfl) ?_
    refine seqQ_norm ?_
    refine W_cond (o := .tmp 24) (b := v13) (by kernel_rfl) (by kernel_rfl) (fun h15 => ?_) (fun h15 => ?_)
    · replace h := ofT h15 h
      refine W_seq (by kernel_rfl) ?_
      refine W_run 1 [] [2] [] (fr' := [(2, aI (1 : Int))]) (L' := []) (obs := []) (by kernel_rfl) (by kernel_rfl) (by kernel_rfl) allP0 ?_
      refine seqQ_norm ?_
      obtain rfl := Option.some.inj h
      refine W_ret [2] [] (fr' := [(2, aI (1 : Int))]) (L' := []) (by kernel_rfl) (by kernel_rfl) ?_
      refine seqQ_ret ?_
      exact retQ_mk (by kernel_rfl) (by kernel_rfl) (by kernel_rfl)
    · replace h := ofF h15 h
      refine W_skip [1] [1] (fr' := [(1, .one (.ptr 1 0))]) (L' := [(1, .cells [.dat (.slice (.slice .bool)) a0])]) (by kernel_rfl) (by kernel_rfl) ?_
      refine seqQ_norm ?_
      refine W_seq (by kernel_rfl) ?_
      refine W_seq (by kernel_rfl) ?_
      refine W_region (by kernel_rfl) ?_
      refine WO_run (j := 2) (k := 2) (orcs := []) (kF := [25, 26]) (kL := [1]) (fr' := [(25, aD (.slice (.slice .bool)) a0), (26, .one (.fn 56 [(1, 0)]))]) (L' := [(1, .cells [.dat (.slice (.slice .bool)) a0])]) (obs := []) rfl (by kernel_rfl) allP0 ?_
      obtain ⟨r16, h17, h⟩ := bind_of h
      refine WO_lend [(1000, 1)] (us := [none, none]) (d := 27) (p := True) (j := 3) rfl ⟨by kernel_rfl, by kernel_rfl, by kernel_rfl⟩ trivial (slices_ContainsFunc_LLboolLbool_with_talk_wrong_1_ok h17) (by kernel_rfl) (by kernel_rfl) ?_
      refine WO_fin [27] [] (fr' := [(27, aB r16)]) (L' := []) (by kernel_rfl) (by kernel_rfl) ?_
      refine seqQ_norm ?_
      refine W_cond (o := .tmp 27) (b := r16) (by kernel_rfl) (by kernel_rfl) (fun h18 => ?_) (fun h18 => ?_)
      · replace h := ofT h18 h
        refine W_seq (by kernel_rfl) ?_
        refine W_run 1 [] [2] [] (fr' := [(2, aI (3 : Int))]) (L' := []) (obs := []) (by kernel_rfl) (by kernel_rfl) (by kernel_rfl) allP0 ?_
        refine seqQ_norm ?_
        obtain rfl := Option.some.inj h
        refine W_ret [2] [] (fr' := [(2, aI (3 : Int))]) (L' := []) (by kernel_rfl) (by kernel_rfl) ?_
        refine seqQ_ret ?_
        exact retQ_mk (by kernel_rfl) (by kernel_rfl) (by kernel_rfl)
      · replace h := ofF h18 h
        refine W_skip [] [] (fr' := []) (L' := []) (by kernel_rfl) (by kernel_rfl) ?_
        refine seqQ_norm ?_
        refine W_seq (by kernel_rfl) ?_
        refine W_run 1 [] [2] [] (fr' := [(2, aI (0 : Int))]) (L' := []) (obs := []) (by kernel_rfl) (by kernel_rfl) (by kernel_rfl) allP0 ?_
        refine seqQ_norm ?_
        obtain rfl := Option.some.inj h
        refine W_ret [2] [] (fr' := [(2, aI (0 : Int))]) (L' := []) (by kernel_rfl) (by kernel_rfl) ?_
        exact retQ_mk (by kernel_rfl) (by kernel_rfl) (by kernel_rfl)

def slices_Equal_Lboolbool_b1 (a1 : (List Bool)) (i16 : Int) (v19 : Bool) (x17 : Unit) : Option (Flow Unit (Esc Bool Unit)) :=
(idx a1 i16).bind fun v22 =>
bif !(v19 == v22) then
(some (.done (.ret false)))
else
(some (.next ()))
@[reducible] def slices_Equal_Lboolbool_s2 (a0 : (List Bool)) (a1 : (List Bool)) (v : Int × Unit) : Fr × LL := ([(0, aD (.slice .bool) a0), (1, aD (.slice .bool) a1), (12, aI (List.length a0 : Int)), (13, aI v.1)], [])
@[reducible] def slices_Equal_Lboolbool_s3 (v : Bool) : Fr × LL := ([(4, aB v)], [])
@[reducible] def slices_Equal_Lboolbool_s4 (v : Unit) : Fr × LL := ([], [])
def slices_Equal_Lboolbool (a0 : (List Bool)) (a1 : (List Bool)) : Option Bool :=
bif (List.length a0 : Int) != (List.length a1 : Int) then
(some false)
else
((forL (slices_Equal_Lboolbool_b1 a1) (fun x17 => (.brk ())) a0 0 ()).bind fun v26 =>
match v26 with
| .ret v31 =>
(some v31)
| .brk v32 =>
(some true))
theorem slices_Equal_Lboolbool_ok {a0 : (List Bool)} {a1 : (List Bool)} {r : Bool} (h : slices_Equal_Lboolbool a0 a1 = some r) : FnC Try.prog 39 [aD (.slice .bool) a0, aD (.slice .bool) a1] [] (aB r) [] := by
  refine fnC_of_W (B := bodyOf Try.f39) (n := 26) Try.func39 (by kernel_rfl) (by kernel_rfl) (by kernel_rfl) (by kernel_rfl) (by kernel_rfl) ?_
  intro K
  refine W_seq (by kernel_rfl) ?_
  refine W_run 1 [] [0, 1] [] (fr' := [(0, aD (.slice .bool) a0), (1, aD (.slice .bool) a1)]) (L' := []) (obs := []) (by kernel_rfl) (by kernel_rfl) (by kernel_rfl) allP0 ?_
  refine seqQ_norm ?_
  refine W_seq (by kernel_rfl) ?_
  refine W_seq (by kernel_rfl) ?_
  refine W_run 5 [] [0, 1, 10] [] (fr' := [(0, aD (.slice .bool) a0), (1, aD (.slice .bool) a1), (10, aB ((List.length a0 : Int) != (List.length a1 : Int)))]) (L' := []) (obs := []) (by kernel_rfl) (by kernel_rfl) (by kernel_rfl) allP0 ?_
  refine seqQ_norm ?_
  refine W_cond (o := .tmp 10) (b := (List.length a0 : Int) != (List.length a1 : Int)) (by kernel_rfl) (by kernel_rfl) (fun h1 => ?_) (fun h1 => ?_)
  · replace h := ofT h1 h
    refine W_seq (by kernel_rfl) ?_
    refine W_run 1 [] [4] [] (fr' := [(4, aB false)]) (L' := []) (obs := []) (by kernel_rfl) (by kernel_rfl) (by kernel_rfl) allP0 ?_
    refine seqQ_norm ?_
    obtain rfl := Option.some.inj h
    refine W_ret [4] [] (fr' := [(4, aB false)]) (L' := []) (by kernel_rfl) (by kernel_rfl) ?_
    refine seqQ_ret ?_
    exact retQ_mk (by kernel_rfl) (by kernel_rfl) (by kernel_rfl)
  · replace h := ofF h1 h
    refine W_skip [0, 1] [] (fr' := [(0, aD (.slice .bool) a0), (1, aD (.slice .bool) a1)]) (L' := []) (by kernel_rfl) (by kernel_rfl) ?_
    refine seqQ_norm ?_
    refine W_seq (by kernel_rfl) ?_
    refine W_seq (by kernel_rfl) ?_
    refine W_run 3 [] [0, 1, 12, 13] [] (fr' := [(0, aD (.slice .bool) a0), (1, aD (.slice .bool) a1), (12, aI (List.length a0 : Int)), (13, aI (0 : Int))]) (L' := []) (obs := []) (by kernel_rfl) (by kernel_rfl) (by kernel_rfl) allP0 ?_
    refine seqQ_norm ?_
    refine W_block (id := 0) (by kernel_rfl) ?_
    obtain ⟨v26, h27, h⟩ := bind_of h
    refine W_len (t := 0) (u := .bool) (xs := a0) (by kernel_rfl) (fun h30 => ?_)
    obtain ⟨h28, h29⟩ := forL_iter h30 h27
    refine W_weaken [0, 1, 12, 13] [] (fr' := ((slices_Equal_Lboolbool_s2 a0 a1) ((0 : Int), ())).1) (L' := ((slices_Equal_Lboolbool_s2 a0 a1) ((0 : Int), ())).2) (by kernel_rfl) ?_
    refine W_cutK (W_loop (S := (slices_Equal_Lboolbool_s2 a0 a1)) (J := (escQ (exQ .ret slices_Equal_Lboolbool_s3) (exQ (.exit 0) slices_Equal_Lboolbool_s4))) (by kernel_rfl) ?_ h28 _ v26 h29) ?_
    · rintro ⟨i16, x17⟩ s h
      refine W_seq (by kernel_rfl) ?_
      refine W_run 1 [] [0, 1, 12, 13, 14] [] (fr' := [(0, aD (.slice .bool) a0), (1, aD (.slice .bool) a1), (12, aI (List.length a0 : Int)), (13, aI i16), (14, aB (decide (i16 < (List.length a0 : Int))))]) (L' := []) (obs := []) (by kernel_rfl) (by kernel_rfl) (by kernel_rfl) allP0 ?_
      refine seqQ_norm ?_
      refine W_seq (by kernel_rfl) ?_
      refine W_cond (o := .tmp 14) (b := decide (i16 < (List.length a0 : Int))) (by kernel_rfl) (by kernel_rfl) (fun h21 => ?_) (fun h21 => ?_)
      · replace h := stepL_true h21 h
        obtain ⟨v19, _, h20, h, rfl⟩ := h
        refine W_skip [0, 1, 12, 13] [] (fr' := [(0, aD (.slice .bool) a0), (1, aD (.slice .bool) a1), (12, aI (List.length a0 : Int)), (13, aI i16)]) (L' := []) (by kernel_rfl) (by kernel_rfl) ?_
        refine seqQ_norm ?_
        refine W_seq (by kernel_rfl) ?_
        refine W_block (id := 1) (by kernel_rfl) ?_
        refine W_seq (by kernel_rfl) ?_
        refine W_run 2 [] [0, 1, 5, 12, 13] [] (fr' := [(0, aD (.slice .bool) a0), (1, aD (.slice .bool) a1), (5, aI i16), (12, aI (List.length a0 : Int)), (13, aI i16)]) (L' := []) (obs := []) (by kernel_rfl) (by kernel_rfl) (by kernel_rfl) allP0 ?_
        refine seqQ_norm ?_
        refine W_seq (by kernel_rfl) ?_
        obtain ⟨v22, h23, h⟩ := bind_of h
        refine W_draw2 9 [(5, .val (.dat .bool v19)), (13, .val (.dat .bool v22))] [] [0, 1, 12, 13, 24] [] (fr' := [(0, aD (.slice .bool) a0), (1, aD (.slice .bool) a1), (12, aI (List.length a0 : Int)), (13, aI i16), (24, aB (!(v19 == v22)))]) (L' := []) (out := [(16, aD (.slice .bool) a0), (17, aI i16), (18, .one (.dptr .bool v19)), (19, aB v19), (20, aD (.slice .bool) a1), (21, aI i16), (22, .one (.dptr .bool v22)), (23, aB v22), (24, aB (!(v19 == v22)))]) (obs := [Idx a0 i16 v19, Idx a1 i16 v22]) (obs2 := []) (calls := []) (by kernel_rfl) (by kernel_rfl) (by kernel_rfl) (by kernel_rfl) (allP2 (Idx.of h20) (allP1 (Idx.of h23))) allC0 (by kernel_rfl) allP0 ?_
        refine seqQ_norm ?_
        refine W_cond (o := .tmp 24) (b := !(v19 == v22)) (by kernel_rfl) (by kernel_rfl) (fun h24 => ?_) (fun h24 => ?_)
        · replace h := ofT h24 h
          refine W_seq (by kernel_rfl) ?_
          refine W_run 1 [] [4] [] (fr' := [(4, aB false)]) (L' := []) (obs := []) (by kernel_rfl) (by kernel_rfl) (by kernel_rfl) allP0 ?_
          refine seqQ_norm ?_
          obtain rfl := Option.some.inj h
          refine W_ret [4] [] (fr' := [(4, aB false)]) (L' := []) (by kernel_rfl) (by kernel_rfl) ?_
          refine blockQ_ret ?_
          refine seqQ_ret ?_
          refine round_ret ?_
          refine escQ_ret ?_
          exact exQ_mk (by kernel_rfl) (by kernel_rfl)
        · replace h := ofF h24 h
          refine W_skip [0, 1, 12, 13] [] (fr' := [(0, aD (.slice .bool) a0), (1, aD (.slice .bool) a1), (12, aI (List.length a0 : Int)), (13, aI i16)]) (L' := []) (by kernel_rfl) (by kernel_rfl) ?_
          refine blockQ_norm ?_
          refine seqQ_norm ?_
          obtain rfl := Option.some.inj h
          refine W_run 2 [] [0, 1, 12, 13] [] (fr' := [(0, aD (.slice .bool) a0), (1, aD (.slice .bool) a1), (12, aI (List.length a0 : Int)), (13, aI (w64 (i16 + (1 : Int))))]) (L' := []) (obs := []) (by kernel_rfl) (by kernel_rfl) (by kernel_rfl) allP0 ?_
          exact round_next' (by kernel_rfl) (by kernel_rfl)
      · obtain rfl := stepL_false h21 h
        refine W_exit (id := 0) [] [] (fr' := []) (L' := []) (by kernel_rfl) (by kernel_rfl) ?_
        refine seqQ_exit ?_
        refine round_exit ?_
        refine escQ_brk ?_
        exact exQ_mk (by kernel_rfl) (by kernel_rfl)
    · intro e fr L hJ
      rcases v26 with v31 | v32
      · obtain ⟨rfl, rfl, rfl⟩ := hJ
        obtain rfl := Option.some.inj h
        refine LT_keep [4] [] (fr' := [(4, aB v31)]) (L' := []) (by kernel_rfl) ?_
        refine blockQ_ret ?_
        refine seqQ_ret ?_
        exact retQ_mk (by kernel_rfl) (by kernel_rfl) (by kernel_rfl)
      · obtain ⟨rfl, rfl, rfl⟩ := hJ
        refine LT_keep [] [] (fr' := []) (L' := []) (by kernel_rfl) ?_
        refine blockQ_hit ?_
        refine seqQ_norm ?_
        refine W_seq (by kernel_rfl) ?_
        refine W_run 1 [] [4] [] (fr' := [(4, aB true)]) (L' := []) (obs := []) (by kernel_rfl) (by kernel_rfl) (by kernel_rfl) allP0 ?_
        refine seqQ_norm ?_
        obtain rfl := Option.some.inj h
        refine W_ret [4] [] (fr' := [(4, aB true)]) (L' := []) (by kernel_rfl) (by kernel_rfl) ?_
        exact retQ_mk (by kernel_rfl) (by kernel_rfl) (by kernel_rfl)

def talk_Rows_1 (a0 : (List Bool)) (c0 : (List Bool)) : Option Bool :=
(slices_Equal_Lboolbool a0 c0).bind fun r1 =>
some r1
theorem talk_Rows_1_ok {a0 : (List Bool)} {c0 : (List Bool)} {r : Bool} (h : talk_Rows_1 a0 c0 = some r) : FnC Try.prog 38 [aD (.slice .bool) a0, .one (.ptr 1000 0)] [(1000, .cells [.dat (.slice .bool) c0])] (aB r) [(1000, .cells [.dat (.slice .bool) c0])] := by
  refine fnC_of_W (B := bodyOf Try.f38) (n := 7) Try.func38 (by kernel_rfl) (by kernel_rfl) (by kernel_rfl) (by kernel_rfl) (by kernel_rfl) ?_
  intro K
  refine W_seq (by kernel_rfl) ?_
  refine W_run 1 [] [0, 1] [1000] (fr' := [(0, aD (.slice .bool) a0), (1, .one (.ptr 1000 0))]) (L' := [(1000, .cells [.dat (.slice .bool) c0])]) (obs := []) (by kernel_rfl) (by kernel_rfl) (by kernel_rfl) allP0 ?_
  refine seqQ_norm ?_
  refine W_seq (by kernel_rfl) ?_
  refine W_region (by kernel_rfl) ?_
  refine WO_run (j := 2) (k := 2) (orcs := []) (kF := [4, 5]) (kL := [1000]) (fr' := [(4, aD (.slice .bool) a0), (5, aD (.slice .bool) c0)]) (L' := [(1000, .cells [.dat (.slice .bool) c0])]) (obs := []) rfl (by kernel_rfl) allP0 ?_
  obtain ⟨r1, h2, h⟩ := bind_of h
  refine WO_call0 (us := [none, none]) (d := 6) (p := True) (j := 3) rfl ⟨by kernel_rfl, by kernel_rfl, by kernel_rfl⟩ trivial (slices_Equal_Lboolbool_ok h2) (by kernel_rfl) ?_
  refine WO_run (j := 4) (k := 1) (orcs := []) (kF := [3]) (kL := [1000]) (fr' := [(3, aB r1)]) (L' := [(1000, .cells [.dat (.slice .bool) c0])]) (obs := []) rfl (by kernel_rfl) allP0 ?_
  refine WO_fin [3] [1000] (fr' := [(3, aB r1)]) (L' := [(1000, .cells [.dat (.slice .bool) c0])]) (by kernel_rfl) (by kernel_rfl) ?_
  refine seqQ_norm ?_
  obtain rfl := Option.some.inj h
  refine W_ret [3] [1000] (fr' := [(3, aB r1)]) (L' := [(1000, .cells [.dat (.slice .bool) c0])]) (by kernel_rfl) (by kernel_rfl) ?_
  exact retQ_mk (by kernel_rfl) (by kernel_rfl) (by kernel_rfl)

def slices_IndexFunc_LLboolLbool_with_talk_Rows_1_b1 (c0 : (List Bool)) (i15 : Int) (v18 : (List Bool)) (x16 : Unit) : Option (Flow Unit (Esc Int Unit)) :=
(talk_Rows_1 v18 c0).bind fun r21 =>
bif r21 then
(some (.done (.ret i15)))
else
(some (.next ()))
@[reducible] def slices_IndexFunc_LLboolLbool_with_talk_Rows_1_s2 (a0 : (List (List Bool))) (c0 : (List Bool)) (v : Int × Unit) : Fr × LL := ([(0, aD (.slice (.slice .bool)) a0), (1, .one (.fn 38 [(1000, 0)])), (7, aI (List.length a0 : Int)), (8, aI v.1)], [(1000, .cells [.dat (.slice .bool) c0])])
@[reducible] def slices_IndexFunc_LLboolLbool_with_talk_Rows_1_s3 (c0 : (List Bool)) (v : Int) : Fr × LL := ([(4, aI v)], [(1000, .cells [.dat (.slice .bool) c0])])
@[reducible] def slices_IndexFunc_LLboolLbool_with_talk_Rows_1_s4 (c0 : (List Bool)) (v : Unit) : Fr × LL := ([], [(1000, .cells [.dat (.slice .bool) c0])])
def slices_IndexFunc_LLboolLbool_with_talk_Rows_1 (a0 : (List (List Bool))) (c0 : (List Bool)) : Option Int :=
(forL (slices_IndexFunc_LLboolLbool_with_talk_Rows_1_b1 c0) (fun x16 => (.brk ())) a0 0 ()).bind fun v25 =>
match v25 with
| .ret v30 =>
(some v30)
| .brk v31 =>
(some (-1 : Int))
theorem slices_IndexFunc_LLboolLbool_with_talk_Rows_1_ok {a0 : (List (List Bool))} {c0 : (List Bool)} {r : Int} (h : slices_IndexFunc_LLboolLbool_with_talk_Rows_1 a0 c0 = some r) : FnC Try.prog 57 [aD (.slice (.slice .bool)) a0, .one (.fn 38 [(1000, 0)])] [(1000, .cells [.dat (.slice .bool) c0])] (aI r) [(1000, .cells [.dat (.slice .bool) c0])] := by
  refine fnC_of_W (B := bodyOf Try.f57) (n := 19) Try.func57 (by kernel_rfl) (by kernel_rfl) (by kernel_rfl) (by kernel_rfl) (by kernel_rfl) ?_
  intro K
  refine W_seq (by kernel_rfl) ?_
  refine W_run 1 [] [0, 1] [1000] (fr' := [(0, aD (.slice (.slice .bool)) a0), (1, .one (.fn 38 [(1000, 0)]))]) (L' := [(1000, .cells [.dat (.slice .bool) c0])]) (obs := []) (by kernel_rfl) (by kernel_rfl) (by kernel_rfl) allP0 ?_
  refine seqQ_norm ?_
  refine W_seq (by kernel_rfl) ?_
  refine W_seq (by kernel_rfl) ?_
  refine W_run 3 [] [0, 1, 7, 8] [1000] (fr' := [(0, aD (.slice (.slice .bool)) a0), (1, .one (.fn 38 [(1000, 0)])), (7, aI (List.length a0 : Int)), (8, aI (0 : Int))]) (L' := [(1000, .cells [.dat (.slice .bool) c0])]) (obs := []) (by kernel_rfl) (by kernel_rfl) (by kernel_rfl) allP0 ?_
  refine seqQ_norm ?_
  refine W_block (id := 0) (by kernel_rfl) ?_
  obtain ⟨v25, h26, h⟩ := bind_of h
  refine W_len (t := 0) (u := (.slice .bool)) (xs := a0) (by kernel_rfl) (fun h29 => ?_)
  obtain ⟨h27, h28⟩ := forL_iter h29 h26
  refine W_weaken [0, 1, 7, 8] [1000] (fr' := ((slices_IndexFunc_LLboolLbool_with_talk_Rows_1_s2 a0 c0) ((0 : Int), ())).1) (L' := ((slices_IndexFunc_LLboolLbool_with_talk_Rows_1_s2 a0 c0) ((0 : Int), ())).2) (by kernel_rfl) ?_
  refine W_cutK (W_loop (S := (slices_IndexFunc_LLboolLbool_with_talk_Rows_1_s2 a0 c0)) (J := (escQ (exQ .ret (slices_IndexFunc_LLboolLbool_with_talk_Rows_1_s3 c0)) (exQ (.exit 0) (slices_IndexFunc_LLboolLbool_with_talk_Rows_1_s4 c0)))) (by kernel_rfl) ?_ h27 _ v25 h28) ?_
  · rintro ⟨i15, x16⟩ s h
    refine W_seq (by kernel_rfl) ?_
    refine W_run 1 [] [0, 1, 7, 8, 9] [1000] (fr' := [(0, aD (.slice (.slice .bool)) a0), (1, .one (.fn 38 [(1000, 0)])), (7, aI (List.length a0 : Int)), (8, aI i15), (9, aB (decide (i15 < (List.length a0 : Int))))]) (L' := [(1000, .cells [.dat (.slice .bool) c0])]) (obs := []) (by kernel_rfl) (by kernel_rfl) (by kernel_rfl) allP0 ?_
    refine seqQ_norm ?_
    refine W_seq (by kernel_rfl) ?_
    refine W_cond (o := .tmp 9) (b := decide (i15 < (List.length a0 : Int))) (by kernel_rfl) (by kernel_rfl) (fun h20 => ?_) (fun h20 => ?_)
    · replace h := stepL_true h20 h
      obtain ⟨v18, _, h19, h, rfl⟩ := h
      refine W_skip [0, 1, 7, 8] [1000] (fr' := [(0, aD (.slice (.slice .bool)) a0), (1, .one (.fn 38 [(1000, 0)])), (7, aI (List.length a0 : Int)), (8, aI i15)]) (L' := [(1000, .cells [.dat (.slice .bool) c0])]) (by kernel_rfl) (by kernel_rfl) ?_
      refine seqQ_norm ?_
      refine W_seq (by kernel_rfl) ?_
      refine W_block (id := 1) (by kernel_rfl) ?_
      refine W_seq (by kernel_rfl) ?_
      refine W_run 2 [] [0, 1, 5, 7, 8] [1000] (fr' := [(0, aD (.slice (.slice .bool)) a0), (1, .one (.fn 38 [(1000, 0)])), (5, aI i15), (7, aI (List.length a0 : Int)), (8, aI i15)]) (L' := [(1000, .cells [.dat (.slice .bool) c0])]) (obs := []) (by kernel_rfl) (by kernel_rfl) (by kernel_rfl) allP0 ?_
      refine seqQ_norm ?_
      refine W_seq (by kernel_rfl) ?_
      refine W_region (by kernel_rfl) ?_
      refine WO_run (j := 5) (k := 5) (orcs := [(7, .val (.dat (.slice .bool) v18))]) (kF := [0, 1, 5, 7, 8, 11, 15]) (kL := [1000]) (fr' := [(0, aD (.slice (.slice .bool)) a0), (1, .one (.fn 38 [(1000, 0)])), (5, aI i15), (7, aI (List.length a0 : Int)), (8, aI i15), (11, .one (.fn 38 [(1000, 0)])), (15, aD (.slice .bool) v18)]) (L' := [(1000, .cells [.dat (.slice .bool) c0])]) (obs := [Idx a0 i15 v18]) rfl (by kernel_rfl) (allP1 (Idx.of h19)) ?_
      obtain ⟨r21, h22, h⟩ := bind_of h
      refine WO_lend [(1000, 1000)] (us := [none, none]) (d := 16) (p := True) (j := 6) rfl ⟨by kernel_rfl, by kernel_rfl, by kernel_rfl⟩ trivial (talk_Rows_1_ok h22) (by kernel_rfl) (by kernel_rfl) ?_
      refine WO_fin [0, 1, 5, 7, 8, 16] [1000] (fr' := [(0, aD (.slice (.slice .bool)) a0), (1, .one (.fn 38 [(1000, 0)])), (5, aI i15), (7, aI (List.length a0 : Int)), (8, aI i15), (16, aB r21)]) (L' := [(1000, .cells [.dat (.slice .bool) c0])]) (by kernel_rfl) (by kernel_rfl) ?_
      refine seqQ_norm ?_
      refine W_cond (o := .tmp 16) (b := r21) (by kernel_rfl) (by kernel_rfl) (fun h23 => ?_) (fun h23 => ?_)
      · replace h := ofT h23 h
        refine W_seq (by kernel_rfl) ?_
        refine W_run 2 [] [4] [1000] (fr' := [(4, aI i15)]) (L' := [(1000, .cells [.dat (.slice .bool) c0])]) (obs := []) (by kernel_rfl) (by kernel_rfl) (by kernel_rfl) allP0 ?_
        refine seqQ_norm ?_
        obtain rfl := Option.some.inj h
        refine W_ret [4] [1000] (fr' := [(4, aI i15)]) (L' := [(1000, .cells [.dat (.slice .bool) c0])]) (by kernel_rfl) (by kernel_rfl) ?_
        refine blockQ_ret ?_
        refine seqQ_ret ?_
        refine round_ret ?_
        refine escQ_ret ?_
        exact exQ_mk (by kernel_rfl) (by kernel_rfl)
      · replace h := ofF h23 h
        refine W_skip [0, 1, 7, 8] [1000] (fr' := [(0, aD (.slice (.slice .bool)) a0), (1, .one (.fn 38 [(1000, 0)])), (7, aI (List.length a0 : Int)), (8, aI i15)]) (L' := [(1000, .cells [.dat (.slice .bool) c0])]) (by kernel_rfl) (by kernel_rfl) ?_
        refine blockQ_norm ?_
        refine seqQ_norm ?_
        obtain rfl := Option.some.inj h
        refine W_run 2 [] [0, 1, 7, 8] [1000] (fr' := [(0, aD (.slice (.slice .bool)) a0), (1, .one (.fn 38 [(1000, 0)])), (7, aI (List.length a0 : Int)), (8, aI (w64 (i15 + (1 : Int))))]) (L' := [(1000, .cells [.dat (.slice .bool) c0])]) (obs := []) (by kernel_rfl) (by kernel_rfl) (by kernel_rfl) allP0 ?_
        exact round_next' (by kernel_rfl) (by kernel_rfl)
    · obtain rfl := stepL_false h20 h
      refine W_exit (id := 0) [] [1000] (fr' := []) (L' := [(1000, .cells [.dat (.slice .bool) c0])]) (by kernel_rfl) (by kernel_rfl) ?_
      refine seqQ_exit ?_
      refine round_exit ?_
      refine escQ_brk ?_
      exact exQ_mk (by kernel_rfl) (by kernel_rfl)
  · intro e fr L hJ
    rcases v25 with v30 | v31
    · obtain ⟨rfl, rfl, rfl⟩ := hJ
      obtain rfl := Option.some.inj h
      refine LT_keep [4] [1000] (fr' := [(4, aI v30)]) (L' := [(1000, .cells [.dat (.slice .bool) c0])]) (by kernel_rfl) ?_
      refine blockQ_ret ?_
      refine seqQ_ret ?_
      exact retQ_mk (by kernel_rfl) (by kernel_rfl) (by kernel_rfl)
    · obtain ⟨rfl, rfl, rfl⟩ := hJ
      refine LT_keep [] [1000] (fr' := []) (L' := [(1000, .cells [.dat (.slice .bool) c0])]) (by kernel_rfl) ?_
      refine blockQ_hit ?_
      refine seqQ_norm ?_
      refine W_seq (by kernel_rfl) ?_
      refine W_run 1 [] [4] [1000] (fr' := [(4, aI (-1 : Int))]) (L' := [(1000, .cells [.dat (.slice .bool) c0])]) (obs := []) (by kernel_rfl) (by kernel_rfl) (by kernel_rfl) allP0 ?_
      refine seqQ_norm ?_
      obtain rfl := Option.some.inj h
      refine W_ret [4] [1000] (fr' := [(4, aI (-1 : Int))]) (L' := [(1000, .cells [.dat (.slice .bool) c0])]) (by kernel_rfl) (by kernel_rfl) ?_
      exact retQ_mk (by kernel_rfl) (by kernel_rfl) (by kernel_rfl)

def slices_ContainsFunc_LLboolLbool_with_talk_Rows_1 (a0 : (List (List Bool))) (c0 : (List Bool)) : Option Bool :=
(slices_IndexFunc_LLboolLbool_with_talk_Rows_1 a0 c0).bind fun r1 =>
some (decide (r1 ≥ (0 : Int)))
theorem slices_ContainsFunc_LLboolLbool_with_talk_Rows_1_ok {a0 : (List (List Bool))} {c0 : (List Bool)} {r : Bool} (h : slices_ContainsFunc_LLboolLbool_with_talk_Rows_1 a0 c0 = some r) : FnC Try.prog 37 [aD (.slice (.slice .bool)) a0, .one (.fn 38 [(1000, 0)])] [(1000, .cells [.dat (.slice .bool) c0])] (aB r) [(1000, .cells [.dat (.slice .bool) c0])] := by
  refine fnC_of_W (B := bodyOf Try.f37) (n := 9) Try.func37 (by kernel_rfl) (by kernel_rfl) (by kernel_rfl) (by kernel_rfl) (by kernel_rfl) ?_
  intro K
  refine W_seq (by kernel_rfl) ?_
  refine W_run 1 [] [0, 1] [1000] (fr' := [(0, aD (.slice (.slice .bool)) a0), (1, .one (.fn 38 [(1000, 0)]))]) (L' := [(1000, .cells [.dat (.slice .bool) c0])]) (obs := []) (by kernel_rfl) (by kernel_rfl) (by kernel_rfl) allP0 ?_
  refine seqQ_norm ?_
  refine W_seq (by kernel_rfl) ?_
  refine W_region (by kernel_rfl) ?_
  refine WO_run (j := 2) (k := 2) (orcs := []) (kF := [5, 6]) (kL := [1000]) (fr' := [(5, aD (.slice (.slice .bool)) a0), (6, .one (.fn 38 [(1000, 0)]))]) (L' := [(1000, .cells [.dat (.slice .bool) c0])]) (obs := []) rfl (by kernel_rfl) allP0 ?_
  obtain ⟨r1, h2, h⟩ := bind_of h
  refine WO_lend [(1000, 1000)] (us := [none, none]) (d := 7) (p := True) (j := 3) rfl ⟨by kernel_rfl, by kernel_rfl, by kernel_rfl⟩ trivial (slices_IndexFunc_LLboolLbool_with_talk_Rows_1_ok h2) (by kernel_rfl) (by kernel_rfl) ?_
  refine WO_run (j := 5) (k := 2) (orcs := []) (kF := [4]) (kL := [1000]) (fr' := [(4, aB (decide (r1 ≥ (0 : Int))))]) (L' := [(1000, .cells [.dat (.slice .bool) c0])]) (obs := []) rfl (by kernel_rfl) allP0 ?_
  refine WO_fin [4] [1000] (fr' := [(4, aB (decide (r1 ≥ (0 : Int))))]) (L' := [(1000, .cells [.dat (.slice .bool) c0])]) (by kernel_rfl) (by kernel_rfl) ?_
  refine seqQ_norm ?_
  obtain rfl := Option.some.inj h
  refine W_ret [4] [1000] (fr' := [(4, aB (decide (r1 ≥ (0 : Int))))]) (L' := [(1000, .cells [.dat (.slice .bool) c0])]) (by kernel_rfl) (by kernel_rfl) ?_
  exact retQ_mk (by kernel_rfl) (by kernel_rfl) (by kernel_rfl)

def talk_Rows_g5 (a0 : (List (List Bool))) (i48 : Int) (x49 : Int) (v51 : (List Bool)) : Option Int :=
(ck (0 ≤ (0 : Int) ∧ (0 : Int) ≤ i48 ∧ i48 ≤ (List.length a0 : Int))).bind fun _ =>
(slices_ContainsFunc_LLboolLbool_with_talk_Rows_1 (sub a0 (0 : Int) i48) v51).bind fun r63 =>
bif !r63 then
(some (w64 (x49 + (1 : Int))))
else
(some x49)
@[reducible] def talk_Rows_s6 (a0 : (List (List Bool))) (i48 : Int) (v : Int) : Fr × LL := ([(0, aD (.slice (.slice .bool)) a0), (5, aI v), (13, aD (.slice (.slice .bool)) a0), (14, aI (List.length a0 : Int)), (15, aI i48)], [])
def talk_Rows_b7 (a0 : (List (List Bool))) (i48 : Int) (v51 : (List Bool)) (x49 : Int) : Option (Flow Int Int) :=
(talk_Rows_g5 a0 i48 x49 v51).bind fun v66 =>
some (.next v66)
@[reducible] def talk_Rows_s8 (a0 : (List (List Bool))) (v : Int × Int) : Fr × LL := ([(0, aD (.slice (.slice .bool)) a0), (5, aI v.2), (13, aD (.slice (.slice .bool)) a0), (14, aI (List.length a0 : Int)), (15, aI v.1)], [])
@[reducible] def talk_Rows_s9 (v : Int) : Fr × LL := ([(5, aI v)], [])
def talk_Rows (a0 : (List (List Bool))) : Option (Int × Int) :=
(talk_wrong a0).bind fun r1 =>
bif r1 != (0 : Int) then
(some ((0 : Int), r1))
else
((forL (talk_Rows_b7 a0) (fun x49 => x49) a0 0 (0 : Int)).bind fun v69 =>
some (v69, (0 : Int)))
theorem talk_Rows_ok {a0 : (List (List Bool))} {r : (Int × Int)} (h : talk_Rows a0 = some r) : FnC Try.prog 12 [aD (.slice (.slice .bool)) a0] [] (.tup [.dat tI r.1, .dat tI r.2]) [] := by
  refine fnC_of_W (B := bodyOf Try.f12) (n := 30) Try.func12 (by kernel_rfl) (by kernel_rfl) (by kernel_rfl) (by kernel_rfl) (by kernel_rfl) ?_
  intro K
  refine W_seq (by kernel_rfl) ?_
  refine W_run 2 [] [0] [] (fr' := [(0, aD (.slice (.slice .bool)) a0)]) (L' := []) (obs := []) (by kernel_rfl) (by kernel_rfl) (by kernel_rfl) allP0 ?_
  refine seqQ_norm ?_
  refine W_seq (by kernel_rfl) ?_
  refine W_seq (by kernel_rfl) ?_
  refine W_region (by kernel_rfl) ?_
  refine WO_run (j := 1) (k := 1) (orcs := []) (kF := [0, 8]) (kL := []) (fr' := [(0, aD (.slice (.slice .bool)) a0), (8, aD (.slice (.slice .bool)) a0)]) (L' := []) (obs := []) rfl (by kernel_rfl) allP0 ?_
  obtain ⟨r1, h2, h⟩ := bind_of h
  refine WO_call0 (us := [none]) (d := 9) (p := True) (j := 2) rfl ⟨by kernel_rfl, by kernel_rfl, by kernel_rfl⟩ trivial (talk_wrong_ok h2) (by kernel_rfl) ?_
  refine WO_run (j := 3) (k := 1) (orcs := []) (kF := [0, 4]) (kL := []) (fr' := [(0, aD (.slice (.slice .bool)) a0), (4, aI r1)]) (L' := []) (obs := []) rfl (by kernel_rfl) allP0 ?_
  refine WO_fin [0, 4] [] (fr' := [(0, aD (.slice (.slice .bool)) a0), (4, aI r1)]) (L' := []) (by kernel_rfl) (by kernel_rfl) ?_
  refine seqQ_norm ?_
  refine W_seq (by kernel_rfl) ?_
  refine W_run 2 [] [0, 4, 11] [] (fr' := [(0, aD (.slice (.slice .bool)) a0), (4, aI r1), (11, aB (r1 != (0 : Int)))]) (L' := []) (obs := []) (by kernel_rfl) (by kernel_rfl) (by kernel_rfl) allP0 ?_
  refine seqQ_norm ?_
  refine W_cond (o := .tmp 11) (b := r1 != (0 : Int)) (by kernel_rfl) (by kernel_rfl) (fun h3 => ?_) (fun h3 => ?_)
  · replace h := ofT h3 h
    refine W_seq (by kernel_rfl) ?_
    refine W_run 3 [] [2, 3] [] (fr' := [(2, aI (0 : Int)), (3, aI r1)]) (L' := []) (obs := []) (by kernel_rfl) (by kernel_rfl) (by kernel_rfl) allP0 ?_
    refine seqQ_norm ?_
    obtain rfl := Option.some.inj h
    refine W_ret [2, 3] [] (fr' := [(2, aI (0 : Int)), (3, aI r1)]) (L' := []) (by kernel_rfl) (by kernel_rfl) ?_
    refine seqQ_ret ?_
    exact retQ_mk (by kernel_rfl) (by kernel_rfl) (by kernel_rfl)
  · replace h := ofF h3 h
    refine W_skip [0] [] (fr' := [(0, aD (.slice (.slice .bool)) a0)]) (L' := []) (by kernel_rfl) (by kernel_rfl) ?_
    refine seqQ_norm ?_
    refine W_seq (by kernel_rfl) ?_
    refine W_run 1 [] [0, 5] [] (fr' := [(0, aD (.slice (.slice .bool)) a0), (5, aI (0 : Int))]) (L' := []) (obs := []) (by kernel_rfl) (by kernel_rfl) (by kernel_rfl) allP0 ?_
    refine seqQ_norm ?_
    refine W_seq (by kernel_rfl) ?_
    refine W_seq (by kernel_rfl) ?_
    refine W_run 3 [] [0, 5, 13, 14, 15] [] (fr' := [(0, aD (.slice (.slice .bool)) a0), (5, aI (0 : Int)), (13, aD (.slice (.slice .bool)) a0), (14, aI (List.length a0 : Int)), (15, aI (0 : Int))]) (L' := []) (obs := []) (by kernel_rfl) (by kernel_rfl) (by kernel_rfl) allP0 ?_
    refine seqQ_norm ?_
    refine W_block (id := 0) (by kernel_rfl) ?_
    obtain ⟨v69, h70, h⟩ := bind_of h
    refine W_len (t := 13) (u := (.slice .bool)) (xs := a0) (by kernel_rfl) (fun h73 => ?_)
    obtain ⟨h71, h72⟩ := forL_iter h73 h70
    refine W_weaken [0, 5, 13, 14, 15] [] (fr' := ((talk_Rows_s8 a0) ((0 : Int), (0 : Int))).1) (L' := ((talk_Rows_s8 a0) ((0 : Int), (0 : Int))).2) (by kernel_rfl) ?_
    refine W_cutK (W_loop (S := (talk_Rows_s8 a0)) (J := (exQ (.exit 0) talk_Rows_s9)) (by kernel_rfl) ?_ h71 _ v69 h72) ?_
    · rintro ⟨i48, x49⟩ s h
      refine W_seq (by kernel_rfl) ?_
      refine W_run 1 [] [0, 5, 13, 14, 15, 16] [] (fr' := [(0, aD (.slice (.slice .bool)) a0), (5, aI x49), (13, aD (.slice (.slice .bool)) a0), (14, aI (List.length a0 : Int)), (15, aI i48), (16, aB (decide (i48 < (List.length a0 : Int))))]) (L' := []) (obs := []) (by kernel_rfl) (by kernel_rfl) (by kernel_rfl) allP0 ?_
      refine seqQ_norm ?_
      refine W_seq (by kernel_rfl) ?_
      refine W_cond (o := .tmp 16) (b := decide (i48 < (List.length a0 : Int))) (by kernel_rfl) (by kernel_rfl) (fun h53 => ?_) (fun h53 => ?_)
      · replace h := stepL_true h53 h
        obtain ⟨v51, _, h52, h, rfl⟩ := h
        refine W_skip [0, 5, 13, 14, 15] [] (fr' := [(0, aD (.slice (.slice .bool)) a0), (5, aI x49), (13, aD (.slice (.slice .bool)) a0), (14, aI (List.length a0 : Int)), (15, aI i48)]) (L' := []) (by kernel_rfl) (by kernel_rfl) ?_
        refine seqQ_norm ?_
        refine W_seq (by kernel_rfl) ?_
        obtain ⟨v66, h67, h⟩ := bind_of h
        refine W_cutK (Q' := (exQ .normal (talk_Rows_s6 a0 i48)) v66) ?_ ?_
        · replace h := h67
          refine W_block (id := 1) (by kernel_rfl) ?_
          refine W_seq (by kernel_rfl) ?_
          refine W_run 6 [(3, .val (.dat (.slice .bool) v51))] [0, 5, 6, 7, 13, 14, 15] [7] (fr' := [(0, aD (.slice (.slice .bool)) a0), (5, aI x49), (6, aI i48), (7, .one (.ptr 7 0)), (13, aD (.slice (.slice .bool)) a0), (14, aI (List.length a0 : Int)), (15, aI i48)]) (L' := [(7, .cells [.dat (.slice .bool) v51])]) (obs := [Idx a0 i48 v51, True]) (by kernel_rfl) (by kernel_rfl) (by kernel_rfl) (allP2 (Idx.of h52) (allP1 trivial)) ?_
          refine seqQ_norm ?_
          refine W_seq (by kernel_rfl) ?_
          obtain ⟨_, h62, h⟩ := bind_of h
          replace h62 := ck_some h62
          refine W_region (by kernel_rfl) ?_
          refine WO_run (j := 4) (k := 4) (orcs := []) (kF := [0, 5, 13, 14, 15, 22, 23]) (kL := [7]) (fr' := [(0, aD (.slice (.slice .bool)) a0), (5, aI x49), (13, aD (.slice (.slice .bool)) a0), (14, aI (List.length a0 : Int)), (15, aI i48), (22, aD (.slice (.slice .bool)) (sub a0 (0 : Int) i48)), (23, .one (.fn 38 [(7, 0)]))]) (L' := [(7, .cells [.dat (.slice .bool) v51])]) (obs := [Cuts (0 : Int) i48 (List.length a0)]) rfl (by kernel_rfl) (allP1 h62) ?_
          obtain ⟨r63, h64, h⟩ := bind_of h
          refine WO_lend [(1000, 7)] (us := [none, none]) (d := 24) (p := True) (j := 5) rfl ⟨by kernel_rfl, by kernel_rfl, by kernel_rfl⟩ trivial (slices_ContainsFunc_LLboolLbool_with_talk_Rows_1_ok h64) (by kernel_rfl) (by kernel_rfl) ?_
          refine WO_run (j := 6) (k := 1) (orcs := []) (kF := [0, 5, 13, 14, 15, 25]) (kL := [7]) (fr' := [(0, aD (.slice (.slice .bool)) a0), (5, aI x49), (13, aD (.slice (.slice .bool)) a0), (14, aI (List.length a0 : Int)), (15, aI i48), (25, aB (!r63))]) (L' := [(7, .cells [.dat (.slice .bool) v51])]) (obs := []) rfl (by kernel_rfl) allP0 ?_
          refine WO_fin [0, 5, 13, 14, 15, 25] [] (fr' := [(0, aD (.slice (.slice .bool)) a0), (5, aI x49), (13, aD (.slice (.slice .bool)) a0), (14, aI (List.length a0 : Int)), (15, aI i48), (25, aB (!r63))]) (L' := []) (by kernel_rfl) (by kernel_rfl) ?_
          refine seqQ_norm ?_
          refine W_cond (o := .tmp 25) (b := !r63) (by kernel_rfl) (by kernel_rfl) (fun h65 => ?_) (fun h65 => ?_)
          · replace h := ofT h65 h
            obtain rfl := Option.some.inj h
            refine W_run 3 [] [0, 5, 13, 14, 15] [] (fr' := [(0, aD (.slice (.slice .bool)) a0), (5, aI (w64 (x49 + (1 : Int)))), (13, aD (.slice (.slice .bool)) a0), (14, aI (List.length a0 : Int)), (15, aI i48)]) (L' := []) (obs := []) (by kernel_rfl) (by kernel_rfl) (by kernel_rfl) allP0 ?_
            refine blockQ_norm ?_
            exact exQ_mk (by kernel_rfl) (by kernel_rfl)
          · replace h := ofF h65 h
            obtain rfl := Option.some.inj h
            refine W_skip [0, 5, 13, 14, 15] [] (fr' := [(0, aD (.slice (.slice .bool)) a0), (5, aI x49), (13, aD (.slice (.slice .bool)) a0), (14, aI (List.length a0 : Int)), (15, aI i48)]) (L' := []) (by kernel_rfl) (by kernel_rfl) ?_
            refine blockQ_norm ?_
            exact exQ_mk (by kernel_rfl) (by kernel_rfl)
        · intro e fr L hJ
          obtain ⟨rfl, rfl, rfl⟩ := hJ
          refine LT_keep [0, 5, 13, 14, 15] [] (fr' := [(0, aD (.slice (.slice .bool)) a0), (5, aI v66), (13, aD (.slice (.slice .bool)) a0), (14, aI (List.length a0 : Int)), (15, aI i48)]) (L' := []) (by kernel_rfl) ?_
          refine seqQ_norm ?_
          obtain rfl := Option.some.inj h
          refine W_run 2 [] [0, 5, 13, 14, 15] [] (fr' := [(0, aD (.slice (.slice .bool)) a0), (5, aI v66), (13, aD (.slice (.slice .bool)) a0), (14, aI (List.length a0 : Int)), (15, aI (w64 (i48 + (1 : Int))))]) (L' := []) (obs := []) (by kernel_rfl) (by kernel_rfl) (by kernel_rfl) allP0 ?_
          exact round_next' (by kernel_rfl) (by kernel_rfl)
      · obtain rfl := stepL_false h53 h
        refine W_exit (id := 0) [5] [] (fr' := [(5, aI x49)]) (L' := []) (by kernel_rfl) (by kernel_rfl) ?_
        refine seqQ_exit ?_
        refine round_exit ?_
        exact exQ_mk (by kernel_rfl) (by kernel_rfl)
    · intro e fr L hJ
      obtain ⟨rfl, rfl, rfl⟩ := hJ
      refine LT_keep [5] [] (fr' := [(5, aI v69)]) (L' := []) (by kernel_rfl) ?_
      refine blockQ_hit ?_
      refine seqQ_norm ?_
      refine W_seq (by kernel_rfl) ?_
      refine W_run 3 [] [2, 3] [] (fr' := [(2, aI v69), (3, aI (0 : Int))]) (L' := []) (obs := []) (by kernel_rfl) (by kernel_rfl) (by kernel_rfl) allP0 ?_
      refine seqQ_norm ?_
      obtain rfl := Option.some.inj h
      refine W_ret [2, 3] [] (fr' := [(2, aI v69), (3, aI (0 : Int))]) (L' := []) (by kernel_rfl) (by kernel_rfl) ?_
      exact retQ_mk (by kernel_rfl) (by kernel_rfl) (by kernel_rfl)

def ref_Within (a0 : Int) (a1 : Int) (a2 : Int) : Option Bool :=
some ((decide (a0 ≤ a1)) && (decide (a1 ≤ a2)))
theorem ref_Within_ok {a0 : Int} {a1 : Int} {a2 : Int} {r : Bool} (h : ref_Within a0 a1 a2 = some r) : FnC Try.prog 40 [aI a0, aI a1, aI a2] [] (aB r) [] := by
  refine fnC_of_W (B := bodyOf Try.f40) (n := 15) Try.func40 (by kernel_rfl) (by kernel_rfl) (by kernel_rfl) (by kernel_rfl) (by kernel_rfl) ?_
  intro K
  refine W_seq (by kernel_rfl) ?_
  refine W_run 1 [] [0, 1, 2] [] (fr' := [(0, aI a0), (1, aI a1), (2, aI a2)]) (L' := []) (obs := []) (by kernel_rfl) (by kernel_rfl) (by kernel_rfl) allP0 ?_
  refine seqQ_norm ?_
  refine W_seq (by kernel_rfl) ?_
  refine W_run 9 [] [6] [] (fr' := [(6, aB ((decide (a0 ≤ a1)) && (decide (a1 ≤ a2))))]) (L' := []) (obs := []) (by kernel_rfl) (by kernel_rfl) (by kernel_rfl) allP0 ?_
  refine seqQ_norm ?_
  obtain rfl := Option.some.inj h
  refine W_ret [6] [] (fr' := [(6, aB ((decide (a0 ≤ a1)) && (decide (a1 ≤ a2))))]) (L' := []) (by kernel_rfl) (by kernel_rfl) ?_
  exact retQ_mk (by kernel_rfl) (by kernel_rfl) (by kernel_rfl)

def ref_TalkCheck_g1 (a0 : (List (List Bool))) : Option Bool :=
(ref_Within (1 : Int) (List.length a0 : Int) (4 : Int)).bind fun r15 =>
bif !r15 then
(some true)
else
((idx a0 (0 : Int)).bind fun v18 =>
(ref_Within (1 : Int) (List.length v18 : Int) (4 : Int)).bind fun r20 =>
some (!r20))
def ref_TalkCheck_b2 (a0 : (List (List Bool))) (i37 : Int) (v40 : (List Bool)) (x38 : Unit) : Option (Flow Unit (Esc Int Unit)) :=
(idx a0 (0 : Int)).bind fun v43 =>
bif (List.length v40 : Int) != (List.length v43 : Int) then
(some (.done (.ret (3 : Int))))
else
(some (.next ()))
@[reducible] def ref_TalkCheck_s3 (a0 : (List (List Bool))) (v : Int × Unit) : Fr × LL := ([(0, aD (.slice (.slice .bool)) a0), (17, aD (.slice (.slice .bool)) a0), (18, aI (List.length a0 : Int)), (19, aI v.1)], [])
@[reducible] def ref_TalkCheck_s4 (v : Int) : Fr × LL := ([(2, aI v)], [])
@[reducible] def ref_TalkCheck_s5 (v : Unit) : Fr × LL := ([], [])
@[reducible] def ref_TalkCheck_s6 (a0 : (List (List Bool))) (v : Bool) : Fr × LL := ([(0, aD (.slice (.slice .bool)) a0), (16, aB v)], [])
def ref_TalkCheck (a0 : (List (List Bool))) : Option Int :=
(ref_TalkCheck_g1 a0).bind fun v22 =>
bif v22 then
(some (1 : Int))
else
((forL (ref_TalkCheck_b2 a0) (fun x38 => (.brk ())) a0 0 ()).bind fun v47 =>
match v47 with
| .ret v52 =>
(some v52)
| .brk v53 =>
(some (0 : Int)))
theorem ref_TalkCheck_ok {a0 : (List (List Bool))} {r : Int} (h : ref_TalkCheck a0 = some r) : FnC Try.prog 13 [aD (.slice (.slice .bool)) a0] [] (aI r) [] := by
  refine fnC_of_W (B := bodyOf Try.f13) (n := 31) Try.func13 (by kernel_rfl) (by kernel_rfl) (by kernel_rfl) (by kernel_rfl) (by kernel_rfl) ?_
  intro K
  refine W_seq (by kernel_rfl) ?_
  refine W_run 1 [] [0] [] (fr' := [(0, aD (.slice (.slice .bool)) a0)]) (L' := []) (obs := []) (by kernel_rfl) (by kernel_rfl) (by kernel_rfl) allP0 ?_
  refine seqQ_norm ?_
  refine W_seq (by kernel_rfl) ?_
  refine W_seq (by kernel_rfl) ?_
  obtain ⟨v22, h23, h⟩ := bind_of h
  refine W_cutK (Q' := (exQ .normal (ref_TalkCheck_s6 a0)) v22) ?_ ?_
  · replace h := h23
    refine W_region (by kernel_rfl) ?_
    refine WO_run (j := 2) (k := 2) (orcs := []) (kF := [0, 6]) (kL := []) (fr' := [(0, aD (.slice (.slice .bool)) a0), (6, aI (List.length a0 : Int))]) (L' := []) (obs := []) rfl (by kernel_rfl) allP0 ?_
    obtain ⟨r15, h16, h⟩ := bind_of h
    refine WO_call0 (us := [none, none, none]) (d := 7) (p := True) (j := 3) rfl ⟨by kernel_rfl, by kernel_rfl, by kernel_rfl⟩ trivial (ref_Within_ok h16) (by kernel_rfl) ?_
    refine WO_run (j := 5) (k := 2) (orcs := []) (kF := [0, 9]) (kL := []) (fr' := [(0, aD (.slice (.slice .bool)) a0), (9, aB (!r15))]) (L' := []) (obs := []) rfl (by kernel_rfl) allP0 ?_
    rcases Bool.eq_false_or_eq_true (!r15) with h17 | h17
    · replace h := ofT h17 h
      refine WO_run (j := 12) (k := 7) (orcs := [(10, .known true), (12, .known true), (14, .known true), (16, .known true), (18, .known true), (20, .known true), (23, .val (.dat .bool true))]) (kF := [0, 16]) (kL := []) (fr' := [(0, aD (.slice (.slice .bool)) a0), (16, aB true)]) (L' := []) (obs := [((!r15) = true), ((!r15) = true), ((!r15) = true), ((!r15) = true), ((!r15) = true), ((!r15) = true), ((!r15) = true)]) rfl (by kernel_rfl) (allP2 h17 (allP2 h17 (allP2 h17 (allP2 h17 (allP2 h17 (allP2 h17 (allP1 h17))))))) ?_
      obtain rfl := Option.some.inj h
      refine WO_fin [0, 16] [] (fr' := [(0, aD (.slice (.slice .bool)) a0), (16, aB true)]) (L' := []) (by kernel_rfl) (by kernel_rfl) ?_
      exact exQ_mk (by kernel_rfl) (by kernel_rfl)
    · replace h := ofF h17 h
      obtain ⟨v18, h19, h⟩ := bind_of h
      refine WO_run (j := 9) (k := 4) (orcs := [(10, .known false), (12, .known false), (13, .val (.dat (.slice .bool) v18)), (14, .known false), (16, .known false)]) (kF := [0, 9, 13]) (kL := []) (fr' := [(0, aD (.slice (.slice .bool)) a0), (9, aB (!r15)), (13, aI (List.length v18 : Int))]) (L' := []) (obs := [((!r15) = false), ((!r15) = false), Idx a0 (0 : Int) v18, ((!r15) = false), ((!r15) = false)]) rfl (by kernel_rfl) (allP2 h17 (allP2 h17 (allP2 (Idx.of h19) (allP2 h17 (allP1 h17))))) ?_
      obtain ⟨r20, h21, h⟩ := bind_of h
      refine WO_call0 (us := [none, none, none]) (d := 14) (p := ((!r15) = false)) (j := 10) rfl ⟨by kernel_rfl, by kernel_rfl, by kernel_rfl⟩ h17 (ref_Within_ok h21) (by kernel_rfl) ?_
      refine WO_run (j := 12) (k := 2) (orcs := [(20, .known false), (23, .val (.dat .bool false))]) (kF := [0, 16]) (kL := []) (fr' := [(0, aD (.slice (.slice .bool)) a0), (16, aB (!r20))]) (L' := []) (obs := [((!r15) = false), ((!r15) = false)]) rfl (by kernel_rfl) (allP2 h17 (allP1 h17)) ?_
      obtain rfl := Option.some.inj h
      refine WO_fin [0, 16] [] (fr' := [(0, aD (.slice (.slice .bool)) a0), (16, aB (!r20))]) (L' := []) (by kernel_rfl) (by kernel_rfl) ?_
      exact exQ_mk (by kernel_rfl) (by kernel_rfl)
  · intro e fr L hJ
    obtain ⟨rfl, rfl, rfl⟩ := hJ
    refine LT_keep [0, 16] [] (fr' := [(0, aD (.slice (.slice .bool)) a0), (16, aB v22)]) (L' := []) (by kernel_rfl) ?_
    refine seqQ_norm ?_
    refine W_cond (o := .tmp 16) (b := v22) (by kernel_rfl) (by kernel_rfl) (fun h24 => ?_) (fun h24 => ?_)
    · replace h := ofT h24 h
      refine W_seq (by kernel_rfl) ?_
      refine W_run 1 [] [2] [] (fr' := [(2, aI (1 : Int))]) (L' := []) (obs := []) (by kernel_rfl) (by kernel_rfl) (by kernel_rfl) allP0 ?_
      refine seqQ_norm ?_
      obtain rfl := Option.some.inj h
      refine W_ret [2] [] (fr' := [(2, aI (1 : Int))]) (L' := []) (by kernel_rfl) (by kernel_rfl) ?_
      refine seqQ_ret ?_
      exact retQ_mk (by kernel_rfl) (by kernel_rfl) (by kernel_rfl)
    · replace h := ofF h24 h
      refine W_skip [0] [] (fr' := [(0, aD (.slice (.slice .bool)) a0)]) (L' := []) (by kernel_rfl) (by kernel_rfl) ?_
      refine seqQ_norm ?_
      refine W_seq (by kernel_rfl) ?_
      refine W_seq (by kernel_rfl) ?_
      refine W_run 3 [] [0, 17, 18, 19] [] (fr' := [(0, aD (.slice (.slice .bool)) a0), (17, aD (.slice (.slice .bool)) a0), (18, aI (List.length a0 : Int)), (19, aI (0 : Int))]) (L' := []) (obs := []) (by kernel_rfl) (by kernel_rfl) (by kernel_rfl) allP0 ?_
      refine seqQ_norm ?_
      refine W_block (id := 0) (by kernel_rfl) ?_
      obtain ⟨v47, h48, h⟩ := bind_of h
      refine W_len (t := 17) (u := (.slice .bool)) (xs := a0) (by kernel_rfl) (fun h51 => ?_)
      obtain ⟨h49, h50⟩ := forL_iter h51 h48
      refine W_weaken [0, 17, 18, 19] [] (fr' := ((ref_TalkCheck_s3 a0) ((0 : Int), ())).1) (L' := ((ref_TalkCheck_s3 a0) ((0 : Int), ())).2) (by kernel_rfl) ?_
      refine W_cutK (W_loop (S := (ref_TalkCheck_s3 a0)) (J := (escQ (exQ .ret ref_TalkCheck_s4) (exQ (.exit 0) ref_TalkCheck_s5))) (by kernel_rfl) ?_ h49 _ v47 h50) ?_
      · rintro ⟨i37, x38⟩ s h
        refine W_seq (by kernel_rfl) ?_
        refine W_run 1 [] [0, 17, 18, 19, 20] [] (fr' := [(0, aD (.slice (.slice .bool)) a0), (17, aD (.slice (.slice .bool)) a0), (18, aI (List.length a0 : Int)), (19, aI i37), (20, aB (decide (i37 < (List.length a0 : Int))))]) (L' := []) (obs := []) (by kernel_rfl) (by kernel_rfl) (by kernel_rfl) allP0 ?_
        refine seqQ_norm ?_
        refine W_seq (by kernel_rfl) ?_
        refine W_cond (o := .tmp 20) (b := decide (i37 < (List.length a0 : Int))) (by kernel_rfl) (by kernel_rfl) (fun h42 => ?_) (fun h42 => ?_)
        · replace h := stepL_true h42 h
          obtain ⟨v40, _, h41, h, rfl⟩ := h
          refine W_skip [0, 17, 18, 19] [] (fr' := [(0, aD (.slice (.slice .bool)) a0), (17, aD (.slice (.slice .bool)) a0), (18, aI (List.length a0 : Int)), (19, aI i37)]) (L' := []) (by kernel_rfl) (by kernel_rfl) ?_
          refine seqQ_norm ?_
          refine W_seq (by kernel_rfl) ?_
          refine W_block (id := 1) (by kernel_rfl) ?_
          refine W_seq (by kernel_rfl) ?_
          refine W_run 3 [(1, .val (.dat (.slice .bool) v40))] [0, 4, 17, 18, 19] [] (fr' := [(0, aD (.slice (.slice .bool)) a0), (4, aD (.slice .bool) v40), (17, aD (.slice (.slice .bool)) a0), (18, aI (List.length a0 : Int)), (19, aI i37)]) (L' := []) (obs := [Idx a0 i37 v40]) (by kernel_rfl) (by kernel_rfl) (by kernel_rfl) (allP1 (Idx.of h41)) ?_
          refine seqQ_norm ?_
          refine W_seq (by kernel_rfl) ?_
          obtain ⟨v43, h44, h⟩ := bind_of h
          refine W_run 7 [(7, .val (.dat (.slice .bool) v43))] [0, 17, 18, 19, 29] [] (fr' := [(0, aD (.slice (.slice .bool)) a0), (17, aD (.slice (.slice .bool)) a0), (18, aI (List.length a0 : Int)), (19, aI i37), (29, aB ((List.length v40 : Int) != (List.length v43 : Int)))]) (L' := []) (obs := [Idx a0 (0 : Int) v43]) (by kernel_rfl) (by kernel_rfl) (by kernel_rfl) (allP1 (Idx.of h44)) ?_
          refine seqQ_norm ?_
          refine W_cond (o := .tmp 29) (b := (List.length v40 : Int) != (List.length v43 : Int)) (by kernel_rfl) (by kernel_rfl) (fun h45 => ?_) (fun h45 => ?_)
          · replace h := ofT h45 h
            refine W_seq (by kernel_rfl) ?_
            refine W_run 1 [] [2] [] (fr' := [(2, aI (3 : Int))]) (L' := []) (obs := []) (by kernel_rfl) (by kernel_rfl) (by kernel_rfl) allP0 ?_
            refine seqQ_norm ?_
            obtain rfl := Option.some.inj h
            refine W_ret [2] [] (fr' := [(2, aI (3 : Int))]) (L' := []) (by kernel_rfl) (by kernel_rfl) ?_
            refine blockQ_ret ?_
            refine seqQ_ret ?_
            refine round_ret ?_
            refine escQ_ret ?_
            exact exQ_mk (by kernel_rfl) (by kernel_rfl)
          · replace h := ofF h45 h
            refine W_skip [0, 17, 18, 19] [] (fr' := [(0, aD (.slice (.slice .bool)) a0), (17, aD (.slice (.slice .bool)) a0), (18, aI (List.length a0 : Int)), (19, aI i37)]) (L' := []) (by kernel_rfl) (by kernel_rfl) ?_
            refine blockQ_norm ?_
            refine seqQ_norm ?_
            obtain rfl := Option.some.inj h
            refine W_run 2 [] [0, 17, 18, 19] [] (fr' := [(0, aD (.slice (.slice .bool)) a0), (17, aD (.slice (.slice .bool)) a0), (18, aI (List.length a0 : Int)), (19, aI (w64 (i37 + (1 : Int))))]) (L' := []) (obs := []) (by kernel_rfl) (by kernel_rfl) (by kernel_rfl) allP0 ?_
            exact round_next' (by kernel_rfl) (by kernel_rfl)
        · obtain rfl := stepL_false h42 h
          refine W_exit (id := 0) [] [] (fr' := []) (L' := []) (by kernel_rfl) (by kernel_rfl) ?_
          refine seqQ_exit ?_
          refine round_exit ?_
          refine escQ_brk ?_
          exact exQ_mk (by kernel_rfl) (by kernel_rfl)
      · intro e fr L hJ
        rcases v47 with v52 | v53
        · obtain ⟨rfl, rfl, rfl⟩ := hJ
          obtain rfl := Option.some.inj h
          refine LT_keep [2] [] (fr' := [(2, aI v52)]) (L' := []) (by kernel_rfl) ?_
          refine blockQ_ret ?_
          refine seqQ_ret ?_
          exact retQ_mk (by kernel_rfl) (by kernel_rfl) (by kernel_rfl)
        · obtain ⟨rfl, rfl, rfl⟩ := hJ
          refine LT_keep [] [] (fr' := []) (L' := []) (by kernel_rfl) ?_
          refine blockQ_hit ?_
          refine seqQ_norm ?_
          refine W_seq (by kernel_rfl) ?_
          refine W_run 1 [] [2] [] (fr' := [(2, aI (0 : Int))]) (L' := []) (obs := []) (by kernel_rfl) (by kernel_rfl) (by kernel_rfl) allP0 ?_
          refine seqQ_norm ?_
          obtain rfl := Option.some.inj h
          refine W_ret [2] [] (fr' := [(2, aI (0 : Int))]) (L' := []) (by kernel_rfl) (by kernel_rfl) ?_
          exact retQ_mk (by kernel_rfl) (by kernel_rfl) (by kernel_rfl)

def ref_Bools_b1 (a1 : (List Bool)) (i16 : Int) (v19 : Bool) (x17 : Unit) : Option (Flow Unit (Esc Bool Unit)) :=
(idx a1 i16).bind fun v22 =>
bif !(v19 == v22) then
(some (.done (.ret false)))
else
(some (.next ()))
@[reducible] def ref_Bools_s2 (a0 : (List Bool)) (a1 : (List Bool)) (v : Int × Unit) : Fr × LL := ([(0, aD (.slice .bool) a0), (1, aD (.slice .bool) a1), (5, aI v.1)], [])
@[reducible] def ref_Bools_s3 (v : Bool) : Fr × LL := ([(4, aB v)], [])
@[reducible] def ref_Bools_s4 (v : Unit) : Fr × LL := ([], [])
def ref_Bools (a0 : (List Bool)) (a1 : (List Bool)) : Option Bool :=
bif (List.length a0 : Int) != (List.length a1 : Int) then
(some false)
else
((forL (ref_Bools_b1 a1) (fun x17 => (.brk ())) a0 0 ()).bind fun v26 =>
match v26 with
| .ret v31 =>
(some v31)
| .brk v32 =>
(some true))
theorem ref_Bools_ok {a0 : (List Bool)} {a1 : (List Bool)} {r : Bool} (h : ref_Bools a0 a1 = some r) : FnC Try.prog 14 [aD (.slice .bool) a0, aD (.slice .bool) a1] [] (aB r) [] := by
  refine fnC_of_W (B := bodyOf Try.f14) (n := 26) Try.func14 (by kernel_rfl) (by kernel_rfl) (by kernel_rfl) (by kernel_rfl) (by kernel_rfl) ?_
  intro K
  refine W_seq (by kernel_rfl) ?_
  refine W_run 1 [] [0, 1] [] (fr' := [(0, aD (.slice .bool) a0), (1, aD (.slice .bool) a1)]) (L' := []) (obs := []) (by kernel_rfl) (by kernel_rfl) (by kernel_rfl) allP0 ?_
  refine seqQ_norm ?_
  refine W_seq (by kernel_rfl) ?_
  refine W_seq (by kernel_rfl) ?_
  refine W_run 5 [] [0, 1, 10] [] (fr' := [(0, aD (.slice .bool) a0), (1, aD (.slice .bool) a1), (10, aB ((List.length a0 : Int) != (List.length a1 : Int)))]) (L' := []) (obs := []) (by kernel_rfl) (by kernel_rfl) (by kernel_rfl) allP0 ?_
  refine seqQ_norm ?_
  refine W_cond (o := .tmp 10) (b := (List.length a0 : Int) != (List.length a1 : Int)) (by kernel_rfl) (by kernel_rfl) (fun h1 => ?_) (fun h1 => ?_)
  · replace h := ofT h1 h
    refine W_seq (by kernel_rfl) ?_
    refine W_run 1 [] [4] [] (fr' := [(4, aB false)]) (L' := []) (obs := []) (by kernel_rfl) (by kernel_rfl) (by kernel_rfl) allP0 ?_
    refine seqQ_norm ?_
    obtain rfl := Option.some.inj h
    refine W_ret [4] [] (fr' := [(4, aB false)]) (L' := []) (by kernel_rfl) (by kernel_rfl) ?_
    refine seqQ_ret ?_
    exact retQ_mk (by kernel_rfl) (by kernel_rfl) (by kernel_rfl)
  · replace h := ofF h1 h
    refine W_skip [0, 1] [] (fr' := [(0, aD (.slice .bool) a0), (1, aD (.slice .bool) a1)]) (L' := []) (by kernel_rfl) (by kernel_rfl) ?_
    refine seqQ_norm ?_
    refine W_seq (by kernel_rfl) ?_
    refine W_seq (by kernel_rfl) ?_
    refine W_run 1 [] [0, 1, 5] [] (fr' := [(0, aD (.slice .bool) a0), (1, aD (.slice .bool) a1), (5, aI (0 : Int))]) (L' := []) (obs := []) (by kernel_rfl) (by kernel_rfl) (by kernel_rfl) allP0 ?_
    refine seqQ_norm ?_
    refine W_block (id := 0) (by kernel_rfl) ?_
    obtain ⟨v26, h27, h⟩ := bind_of h
    refine W_len (t := 0) (u := .bool) (xs := a0) (by kernel_rfl) (fun h30 => ?_)
    obtain ⟨h28, h29⟩ := forL_iter h30 h27
    refine W_weaken [0, 1, 5] [] (fr' := ((ref_Bools_s2 a0 a1) ((0 : Int), ())).1) (L' := ((ref_Bools_s2 a0 a1) ((0 : Int), ())).2) (by kernel_rfl) ?_
    refine W_cutK (W_loop (S := (ref_Bools_s2 a0 a1)) (J := (escQ (exQ .ret ref_Bools_s3) (exQ (.exit 0) ref_Bools_s4))) (by kernel_rfl) ?_ h28 _ v26 h29) ?_
    · rintro ⟨i16, x17⟩ s h
      refine W_seq (by kernel_rfl) ?_
      refine W_seq (by kernel_rfl) ?_
      refine W_run 4 [] [0, 1, 5, 14] [] (fr' := [(0, aD (.slice .bool) a0), (1, aD (.slice .bool) a1), (5, aI i16), (14, aB (decide (i16 < (List.length a0 : Int))))]) (L' := []) (obs := []) (by kernel_rfl) (by kernel_rfl) (by kernel_rfl) allP0 ?_
      refine seqQ_norm ?_
      refine W_cond (o := .tmp 14) (b := decide (i16 < (List.length a0 : Int))) (by kernel_rfl) (by kernel_rfl) (fun h21 => ?_) (fun h21 => ?_)
      · replace h := stepL_true h21 h
        obtain ⟨v19, _, h20, h, rfl⟩ := h
        refine W_skip [0, 1, 5] [] (fr' := [(0, aD (.slice .bool) a0), (1, aD (.slice .bool) a1), (5, aI i16)]) (L' := []) (by kernel_rfl) (by kernel_rfl) ?_
        refine seqQ_norm ?_
        refine W_seq (by kernel_rfl) ?_
        refine W_block (id := 1) (by kernel_rfl) ?_
        refine W_seq (by kernel_rfl) ?_
        obtain ⟨v22, h23, h⟩ := bind_of h
        refine W_draw2 9 [(5, .val (.dat .bool v19)), (13, .val (.dat .bool v22))] [] [0, 1, 5, 25] [] (fr' := [(0, aD (.slice .bool) a0), (1, aD (.slice .bool) a1), (5, aI i16), (25, aB (!(v19 == v22)))]) (L' := []) (out := [(17, aD (.slice .bool) a0), (18, aI i16), (19, .one (.dptr .bool v19)), (20, aB v19), (21, aD (.slice .bool) a1), (22, aI i16), (23, .one (.dptr .bool v22)), (24, aB v22), (25, aB (!(v19 == v22)))]) (obs := [Idx a0 i16 v19, Idx a1 i16 v22]) (obs2 := []) (calls := []) (by kernel_rfl) (by kernel_rfl) (by kernel_rfl) (by kernel_rfl) (allP2 (Idx.of h20) (allP1 (Idx.of h23))) allC0 (by kernel_rfl) allP0 ?_
        refine seqQ_norm ?_
        refine W_cond (o := .tmp 25) (b := !(v19 == v22)) (by kernel_rfl) (by kernel_rfl) (fun h24 => ?_) (fun h24 => ?_)
        · replace h := ofT h24 h
          refine W_seq (by kernel_rfl) ?_
          refine W_run 1 [] [4] [] (fr' := [(4, aB false)]) (L' := []) (obs := []) (by kernel_rfl) (by kernel_rfl) (by kernel_rfl) allP0 ?_
          refine seqQ_norm ?_
          obtain rfl := Option.some.inj h
          refine W_ret [4] [] (fr' := [(4, aB false)]) (L' := []) (by kernel_rfl) (by kernel_rfl) ?_
          refine blockQ_ret ?_
          refine seqQ_ret ?_
          refine round_ret ?_
          refine escQ_ret ?_
          exact exQ_mk (by kernel_rfl) (by kernel_rfl)
        · replace h := ofF h24 h
          refine W_skip [0, 1, 5] [] (fr' := [(0, aD (.slice .bool) a0), (1, aD (.slice .bool) a1), (5, aI i16)]) (L' := []) (by kernel_rfl) (by kernel_rfl) ?_
          refine blockQ_norm ?_
          refine seqQ_norm ?_
          obtain rfl := Option.some.inj h
          refine W_run 3 [] [0, 1, 5] [] (fr' := [(0, aD (.slice .bool) a0), (1, aD (.slice .bool) a1), (5, aI (w64 (i16 + (1 : Int))))]) (L' := []) (obs := []) (by kernel_rfl) (by kernel_rfl) (by kernel_rfl) allP0 ?_
          exact round_next' (by kernel_rfl) (by kernel_rfl)
      · obtain rfl := stepL_false h21 h
        refine W_exit (id := 0) [] [] (fr' := []) (L' := []) (by kernel_rfl) (by kernel_rfl) ?_
        refine seqQ_exit ?_
        refine round_exit ?_
        refine escQ_brk ?_
        exact exQ_mk (by kernel_rfl) (by kernel_rfl)
    · intro e fr L hJ
      rcases v26 with v31 | v32
      · obtain ⟨rfl, rfl, rfl⟩ := hJ
        obtain rfl := Option.some.inj h
        refine LT_keep [4] [] (fr' := [(4, aB v31)]) (L' := []) (by kernel_rfl) ?_
        refine blockQ_ret ?_
        refine seqQ_ret ?_
        exact retQ_mk (by kernel_rfl) (by kernel_rfl) (by kernel_rfl)
      · obtain ⟨rfl, rfl, rfl⟩ := hJ
        refine LT_keep [] [] (fr' := []) (L' := []) (by kernel_rfl) ?_
        refine blockQ_hit ?_
        refine seqQ_norm ?_
        refine W_seq (by kernel_rfl) ?_
        refine W_run 1 [] [4] [] (fr' := [(4, aB true)]) (L' := []) (obs := []) (by kernel_rfl) (by kernel_rfl) (by kernel_rfl) allP0 ?_
        refine seqQ_norm ?_
        obtain rfl := Option.some.inj h
        refine W_ret [4] [] (fr' := [(4, aB true)]) (L' := []) (by kernel_rfl) (by kernel_rfl) ?_
        exact retQ_mk (by kernel_rfl) (by kernel_rfl) (by kernel_rfl)

def law_TalkRows_b23 (a0 : (List (List Bool))) (v133 : (List Bool)) (i205 : Int) (x206 : Bool) : Option (Flow Bool Bool) :=
bif x206 then
((idx a0 i205).bind fun v210 =>
(ref_Bools v133 v210).bind fun r212 =>
some (.next (!r212)))
else
(some (.next false))
@[reducible] def law_TalkRows_s24 (a0 : (List (List Bool))) (r1 : (Int × Int)) (i130 : Int) (x131 : Int) (v : Int × Bool) : Fr × LL := ([(0, aD (.slice (.slice .bool)) a0), (3, aI r1.1), (4, aI r1.2), (6, aI x131), (7, aI i130), (8, aB v.2), (9, aI v.1)], [])
@[reducible] def law_TalkRows_s25 (a0 : (List (List Bool))) (r1 : (Int × Int)) (i130 : Int) (x131 : Int) (v : Bool) : Fr × LL := ([(0, aD (.slice (.slice .bool)) a0), (3, aI r1.1), (4, aI r1.2), (6, aI x131), (7, aI i130), (8, aB v)], [])
@[reducible] def law_TalkRows_s26 (a0 : (List (List Bool))) (r1 : (Int × Int)) (i130 : Int) (v : Int) : Fr × LL := ([(0, aD (.slice (.slice .bool)) a0), (3, aI r1.1), (4, aI r1.2), (6, aI v), (7, aI i130)], [])
def law_TalkRows_b27 (a0 : (List (List Bool))) (i130 : Int) (v133 : (List Bool)) (x131 : Int) : Option (Flow Int Int) :=
((forI (0 : Int) i130 (law_TalkRows_b23 a0 v133) (fun x206 => x206) true).bind fun v215 =>
bif v215 then
(some (w64 (x131 + (1 : Int))))
else
(some x131)).bind fun v220 =>
some (.next v220)
@[reducible] def law_TalkRows_s28 (a0 : (List (List Bool))) (r1 : (Int × Int)) (v : Int × Int) : Fr × LL := ([(0, aD (.slice (.slice .bool)) a0), (3, aI r1.1), (4, aI r1.2), (6, aI v.2), (7, aI v.1)], [])
@[reducible] def law_TalkRows_s29 (r1 : (Int × Int)) (v : Int) : Fr × LL := ([(3, aI r1.1), (4, aI r1.2), (6, aI v)], [])
def law_TalkRows (fuel : Nat) (a0 : (List (List Bool))) : Option Bool :=
(talk_Rows a0).bind fun r1 =>
(ref_TalkCheck a0).bind fun r3 =>
bif r3 != (0 : Int) then
(some ((r1.2 == r3) && (r1.1 == (0 : Int))))
else
((forL (law_TalkRows_b27 a0) (fun x131 => x131) a0 0 (0 : Int)).bind fun v223 =>
some ((r1.2 == (0 : Int)) && (r1.1 == v223)))
theorem law_TalkRows_ok {fuel : Nat} {a0 : (List (List Bool))} {r : Bool} (h : law_TalkRows fuel a0 = some r) : FnC Try.prog 3 [aD (.slice (.slice .bool)) a0] [] (aB r) [] := by
  refine fnC_of_W (B := bodyOf Try.f3) (n := 60) Try.func3 (by kernel_rfl) (by kernel_rfl) (by kernel_rfl) (by kernel_rfl) (by kernel_rfl) ?_
  intro K
  refine W_seq (by kernel_rfl) ?_
  refine W_run 1 [] [0] [] (fr' := [(0, aD (.slice (.slice .bool)) a0)]) (L' := []) (obs := []) (by kernel_rfl) (by kernel_rfl) (by kernel_rfl) allP0 ?_
  refine seqQ_norm ?_
  refine W_seq (by kernel_rfl) ?_
  refine W_region (by kernel_rfl) ?_
  refine WO_run (j := 1) (k := 1) (orcs := []) (kF := [0, 11]) (kL := []) (fr' := [(0, aD (.slice (.slice .bool)) a0), (11, aD (.slice (.slice .bool)) a0)]) (L' := []) (obs := []) rfl (by kernel_rfl) allP0 ?_
  obtain ⟨r1, h2, h⟩ := bind_of h
  refine WO_call0 (us := [none]) (d := 12) (p := True) (j := 2) rfl ⟨by kernel_rfl, by kernel_rfl, by kernel_rfl⟩ trivial (talk_Rows_ok h2) (by kernel_rfl) ?_
  refine WO_run (j := 7) (k := 5) (orcs := []) (kF := [0, 3, 4]) (kL := []) (fr' := [(0, aD (.slice (.slice .bool)) a0), (3, aI r1.1), (4, aI r1.2)]) (L' := []) (obs := []) rfl (by kernel_rfl) allP0 ?_
  refine WO_fin [0, 3, 4] [] (fr' := [(0, aD (.slice (.slice .bool)) a0), (3, aI r1.1), (4, aI r1.2)]) (L' := []) (by kernel_rfl) (by kernel_rfl) ?_
  refine seqQ_norm ?_
  refine W_seq (by kernel_rfl) ?_
  refine W_region (by kernel_rfl) ?_
  refine WO_run (j := 1) (k := 1) (orcs := []) (kF := [0, 3, 4, 15]) (kL := []) (fr' := [(0, aD (.slice (.slice .bool)) a0), (3, aI r1.1), (4, aI r1.2), (15, aD (.slice (.slice .bool)) a0)]) (L' := []) (obs := []) rfl (by kernel_rfl) allP0 ?_
  obtain ⟨r3, h4, h⟩ := bind_of h
  refine WO_call0 (us := [none]) (d := 16) (p := True) (j := 2) rfl ⟨by kernel_rfl, by kernel_rfl, by kernel_rfl⟩ trivial (ref_TalkCheck_ok h4) (by kernel_rfl) ?_
  refine WO_run (j := 3) (k := 1) (orcs := []) (kF := [0, 3, 4, 5]) (kL := []) (fr' := [(0, aD (.slice (.slice .bool)) a0), (3, aI r1.1), (4, aI r1.2), (5, aI r3)]) (L' := []) (obs := []) rfl (by kernel_rfl) allP0 ?_
  refine WO_fin [0, 3, 4, 5] [] (fr' := [(0, aD (.slice (.slice .bool)) a0), (3, aI r1.1), (4, aI r1.2), (5, aI r3)]) (L' := []) (by kernel_rfl) (by kernel_rfl) ?_
  refine seqQ_norm ?_
  refine W_seq (by kernel_rfl) ?_
  refine W_seq (by kernel_rfl) ?_
  refine W_run 2 [] [0, 3, 4, 5, 18] [] (fr' := [(0, aD (.slice (.slice .bool)) a0), (3, aI r1.1), (4, aI r1.2), (5, aI r3), (18, aB (r3 != (0 : Int)))]) (L' := []) (obs := []) (by kernel_rfl) (by kernel_rfl) (by kernel_rfl) allP0 ?_
  refine seqQ_norm ?_
  refine W_cond (o := .tmp 18) (b := r3 != (0 : Int)) (by kernel_rfl) (by kernel_rfl) (fun h5 => ?_) (fun h5 => ?_)
  · replace h := ofT h5 h
    refine W_seq (by kernel_rfl) ?_
    refine W_run 8 [] [2] [] (fr' := [(2, aB ((r1.2 == r3) && (r1.1 == (0 : Int))))]) (L' := []) (obs := []) (by kernel_rfl) (by kernel_rfl) (by kernel_rfl) allP0 ?_
    refine seqQ_norm ?_
    obtain rfl := Option.some.inj h
    refine W_ret [2] [] (fr' := [(2, aB ((r1.2 == r3) && (r1.1 == (0 : Int))))]) (L' := []) (by kernel_rfl) (by kernel_rfl) ?_
    refine seqQ_ret ?_
    exact retQ_mk (by kernel_rfl) (by kernel_rfl) (by kernel_rfl)
  · replace h := ofF h5 h
    refine W_skip [0, 3, 4] [] (fr' := [(0, aD (.slice (.slice .bool)) a0), (3, aI r1.1), (4, aI r1.2)]) (L' := []) (by kernel_rfl) (by kernel_rfl) ?_
    refine seqQ_norm ?_
    refine W_seq (by kernel_rfl) ?_
    refine W_run 1 [] [0, 3, 4, 6] [] (fr' := [(0, aD (.slice (.slice .bool)) a0), (3, aI r1.1), (4, aI r1.2), (6, aI (0 : Int))]) (L' := []) (obs := []) (by kernel_rfl) (by kernel_rfl) (by kernel_rfl) allP0 ?_
    refine seqQ_norm ?_
    refine W_seq (by kernel_rfl) ?_
    refine W_seq (by kernel_rfl) ?_
    refine W_run 1 [] [0, 3, 4, 6, 7] [] (fr' := [(0, aD (.slice (.slice .bool)) a0), (3, aI r1.1), (4, aI r1.2), (6, aI (0 : Int)), (7, aI (0 : Int))]) (L' := []) (obs := []) (by kernel_rfl) (by kernel_rfl) (by kernel_rfl) allP0 ?_
    refine seqQ_norm ?_
    refine W_block (id := 0) (by kernel_rfl) ?_
    obtain ⟨v223, h224, h⟩ := bind_of h
    refine W_len (t := 0) (u := (.slice .bool)) (xs := a0) (by kernel_rfl) (fun h227 => ?_)
    obtain ⟨h225, h226⟩ := forL_iter h227 h224
    refine W_weaken [0, 3, 4, 6, 7] [] (fr' := ((law_TalkRows_s28 a0 r1) ((0 : Int), (0 : Int))).1) (L' := ((law_TalkRows_s28 a0 r1) ((0 : Int), (0 : Int))).2) (by kernel_rfl) ?_
    refine W_cutK (W_loop (S := (law_TalkRows_s28 a0 r1)) (J := (exQ (.exit 0) (law_TalkRows_s29 r1))) (by kernel_rfl) ?_ h225 _ v223 h226) ?_
    · rintro ⟨i130, x131⟩ s h
      refine W_seq (by kernel_rfl) ?_
      refine W_seq (by kernel_rfl) ?_
      refine W_run 4 [] [0, 3, 4, 6, 7, 29] [] (fr' := [(0, aD (.slice (.slice .bool)) a0), (3, aI r1.1), (4, aI r1.2), (6, aI x131), (7, aI i130), (29, aB (decide (i130 < (List.length a0 : Int))))]) (L' := []) (obs := []) (by kernel_rfl) (by kernel_rfl) (by kernel_rfl) allP0 ?_
      refine seqQ_norm ?_
      refine W_cond (o := .tmp 29) (b := decide (i130 < (List.length a0 : Int))) (by kernel_rfl) (by kernel_rfl) (fun h135 => ?_) (fun h135 => ?_)
      · replace h := stepL_true h135 h
        obtain ⟨v133, _, h134, h, rfl⟩ := h
        refine W_skip [0, 3, 4, 6, 7] [] (fr' := [(0, aD (.slice (.slice .bool)) a0), (3, aI r1.1), (4, aI r1.2), (6, aI x131), (7, aI i130)]) (L' := []) (by kernel_rfl) (by kernel_rfl) ?_
        refine seqQ_norm ?_
        refine W_seq (by kernel_rfl) ?_
        obtain ⟨v220, h221, h⟩ := bind_of h
        refine W_cutK (Q' := (exQ .normal (law_TalkRows_s26 a0 r1 i130)) v220) ?_ ?_
        · replace h := h221
          refine W_block (id := 1) (by kernel_rfl) ?_
          refine W_seq (by kernel_rfl) ?_
          refine W_run 1 [] [0, 3, 4, 6, 7, 8] [] (fr' := [(0, aD (.slice (.slice .bool)) a0), (3, aI r1.1), (4, aI r1.2), (6, aI x131), (7, aI i130), (8, aB true)]) (L' := []) (obs := []) (by kernel_rfl) (by kernel_rfl) (by kernel_rfl) allP0 ?_
          refine seqQ_norm ?_
          refine W_seq (by kernel_rfl) ?_
          refine W_seq (by kernel_rfl) ?_
          refine W_run 1 [] [0, 3, 4, 6, 7, 8, 9] [] (fr' := [(0, aD (.slice (.slice .bool)) a0), (3, aI r1.1), (4, aI r1.2), (6, aI x131), (7, aI i130), (8, aB true), (9, aI (0 : Int))]) (L' := []) (obs := []) (by kernel_rfl) (by kernel_rfl) (by kernel_rfl) allP0 ?_
          refine seqQ_norm ?_
          refine W_block (id := 2) (by kernel_rfl) ?_
          obtain ⟨v215, h216, h⟩ := bind_of h
          obtain ⟨h217, h218⟩ := forI_iter h216
          refine W_weaken [0, 3, 4, 6, 7, 8, 9] [] (fr' := ((law_TalkRows_s24 a0 r1 i130 x131) ((0 : Int), true)).1) (L' := ((law_TalkRows_s24 a0 r1 i130 x131) ((0 : Int), true)).2) (by kernel_rfl) ?_
          refine W_cutK (W_loop (S := (law_TalkRows_s24 a0 r1 i130 x131)) (J := (exQ (.exit 2) (law_TalkRows_s25 a0 r1 i130 x131))) (by kernel_rfl) ?_ h217 _ v215 h218) ?_
          · rintro ⟨i205, x206⟩ s h
            refine W_seq (by kernel_rfl) ?_
            refine W_seq (by kernel_rfl) ?_
            refine W_run 3 [] [0, 3, 4, 6, 7, 8, 9, 34] [] (fr' := [(0, aD (.slice (.slice .bool)) a0), (3, aI r1.1), (4, aI r1.2), (6, aI x131), (7, aI i130), (8, aB x206), (9, aI i205), (34, aB (decide (i205 < i130)))]) (L' := []) (obs := []) (by kernel_rfl) (by kernel_rfl) (by kernel_rfl) allP0 ?_
            refine seqQ_norm ?_
            refine W_cond (o := .tmp 34) (b := decide (i205 < i130)) (by kernel_rfl) (by kernel_rfl) (fun h208 => ?_) (fun h208 => ?_)
            · replace h := stepI_true h208 h
              obtain ⟨_, h, rfl⟩ := h
              refine W_skip [0, 3, 4, 6, 7, 8, 9] [] (fr' := [(0, aD (.slice (.slice .bool)) a0), (3, aI r1.1), (4, aI r1.2), (6, aI x131), (7, aI i130), (8, aB x206), (9, aI i205)]) (L' := []) (by kernel_rfl) (by kernel_rfl) ?_
              refine seqQ_norm ?_
              refine W_seq (by kernel_rfl) ?_
              refine W_block (id := 3) (by kernel_rfl) ?_
              rcases Bool.eq_false_or_eq_true (x206) with h209 | h209
              · replace h := ofT h209 h
                obtain ⟨v210, h211, h⟩ := bind_of h
                obtain ⟨r212, h213, h⟩ := bind_of h
                refine W_draw2 13 [(4, .known true), (6, .known true), (8, .known true), (9, .val (.dat (.slice .bool) v133)), (10, .known true), (12, .known true), (14, .known true), (16, .known true), (17, .val (.dat (.slice .bool) v210)), (18, .known true), (22, .known true), (25, .val (.dat .bool true))] [(10, [none, none], aB r212)] [0, 3, 4, 6, 7, 8, 9] [] (fr' := [(0, aD (.slice (.slice .bool)) a0), (3, aI r1.1), (4, aI r1.2), (6, aI x131), (7, aI i130), (8, aB (!r212)), (9, aI i205)]) (L' := []) (out := [(37, aB x206), (38, aB x206), (39, aD (.slice (.slice .bool)) a0), (40, aI i130), (41, .one (.dptr (.slice .bool) v133)), (42, aD (.slice .bool) v133), (43, aD (.slice (.slice .bool)) a0), (44, aI i205), (45, .one (.dptr (.slice .bool) v210)), (46, aD (.slice .bool) v210), (47, aB r212), (48, aB (!r212)), (49, aB (!r212))]) (obs := [(x206 = true), (x206 = true), (x206 = true), Idx a0 i130 v133, (x206 = true), (x206 = true), (x206 = true), (x206 = true), Idx a0 i205 v210, (x206 = true), (x206 = true), (x206 = true), (x206 = true)]) (obs2 := []) (calls := [(14, [aD (.slice .bool) v133, aD (.slice .bool) v210], aB r212)]) (by kernel_rfl) (by kernel_rfl) (by kernel_rfl) (by kernel_rfl) (allP2 h209 (allP2 h209 (allP2 h209 (allP2 (Idx.of h134) (allP2 h209 (allP2 h209 (allP2 h209 (allP2 h209 (allP2 (Idx.of h211) (allP2 h209 (allP2 h209 (allP2 h209 (allP1 h209))))))))))))) (allC1 (by kernel_rfl) (ref_Bools_ok h213) (by kernel_rfl) allC0) (by kernel_rfl) allP0 ?_
                refine blockQ_norm ?_
                refine seqQ_norm ?_
                obtain rfl := Option.some.inj h
                refine W_run 3 [] [0, 3, 4, 6, 7, 8, 9] [] (fr' := [(0, aD (.slice (.slice .bool)) a0), (3, aI r1.1), (4, aI r1.2), (6, aI x131), (7, aI i130), (8, aB (!r212)), (9, aI (w64 (i205 + (1 : Int))))]) (L' := []) (obs := []) (by kernel_rfl) (by kernel_rfl) (by kernel_rfl) allP0 ?_
                exact round_next' (by kernel_rfl) (by kernel_rfl)
              · replace h := ofF h209 h
                refine W_draw2 13 [(4, .known false), (6, .known false), (8, .known false), (10, .known false), (12, .known false), (14, .known false), (16, .known false), (18, .known false), (20, .known false), (22, .known false), (25, .val (.dat .bool false))] [] [0, 3, 4, 6, 7, 8, 9] [] (fr' := [(0, aD (.slice (.slice .bool)) a0), (3, aI r1.1), (4, aI r1.2), (6, aI x131), (7, aI i130), (8, aB false), (9, aI i205)]) (L' := []) (out := [(37, aB x206), (38, aB x206), (39, .tup []), (40, .tup []), (41, .tup []), (42, .tup []), (43, .tup []), (44, .tup []), (45, .tup []), (46, .tup []), (47, .tup []), (48, .tup []), (49, aB false)]) (obs := [(x206 = false), (x206 = false), (x206 = false), (x206 = false), (x206 = false), (x206 = false), (x206 = false), (x206 = false), (x206 = false), (x206 = false), (x206 = false)]) (obs2 := []) (calls := []) (by kernel_rfl) (by kernel_rfl) (by kernel_rfl) (by kernel_rfl) (allP2 h209 (allP2 h209 (allP2 h209 (allP2 h209 (allP2 h209 (allP2 h209 (allP2 h209 (allP2 h209 (allP2 h209 (allP2 h209 (allP1 h209))))))))))) allC0 (by kernel_rfl) allP0 ?_
                refine blockQ_norm ?_
                refine seqQ_norm ?_
                obtain rfl := Option.some.inj h
                refine W_run 3 [] [0, 3, 4, 6, 7, 8, 9] [] (fr' := [(0, aD (.slice (.slice .bool)) a0), (3, aI r1.1), (4, aI r1.2), (6, aI x131), (7, aI i130), (8, aB false), (9, aI (w64 (i205 + (1 : Int))))]) (L' := []) (obs := []) (by kernel_rfl) (by kernel_rfl) (by kernel_rfl) allP0 ?_
                exact round_next' (by kernel_rfl) (by kernel_rfl)
            · obtain rfl := stepI_false h208 h
              refine W_exit (id := 2) [0, 3, 4, 6, 7, 8] [] (fr' := [(0, aD (.slice (.slice .bool)) a0), (3, aI r1.1), (4, aI r1.2), (6, aI x131), (7, aI i130), (8, aB x206)]) (L' := []) (by kernel_rfl) (by kernel_rfl) ?_
              refine seqQ_exit ?_
              refine round_exit ?_
              exact exQ_mk (by kernel_rfl) (by kernel_rfl)
          · intro e fr L hJ
            obtain ⟨rfl, rfl, rfl⟩ := hJ
            refine LT_keep [0, 3, 4, 6, 7, 8] [] (fr' := [(0, aD (.slice (.slice .bool)) a0), (3, aI r1.1), (4, aI r1.2), (6, aI x131), (7, aI i130), (8, aB v215)]) (L' := []) (by kernel_rfl) ?_
            refine blockQ_hit ?_
            refine seqQ_norm ?_
            refine W_seq (by kernel_rfl) ?_
            refine W_run 1 [] [0, 3, 4, 6, 7, 50] [] (fr' := [(0, aD (.slice (.slice .bool)) a0), (3, aI r1.1), (4, aI r1.2), (6, aI x131), (7, aI i130), (50, aB v215)]) (L' := []) (obs := []) (by kernel_rfl) (by kernel_rfl) (by kernel_rfl) allP0 ?_
            refine seqQ_norm ?_
            refine W_cond (o := .tmp 50) (b := v215) (by kernel_rfl) (by kernel_rfl) (fun h219 => ?_) (fun h219 => ?_)
            · replace h := ofT h219 h
              obtain rfl := Option.some.inj h
              refine W_run 3 [] [0, 3, 4, 6, 7] [] (fr' := [(0, aD (.slice (.slice .bool)) a0), (3, aI r1.1), (4, aI r1.2), (6, aI (w64 (x131 + (1 : Int)))), (7, aI i130)]) (L' := []) (obs := []) (by kernel_rfl) (by kernel_rfl) (by kernel_rfl) allP0 ?_
              refine blockQ_norm ?_
              exact exQ_mk (by kernel_rfl) (by kernel_rfl)
            · replace h := ofF h219 h
              obtain rfl := Option.some.inj h
              refine W_skip [0, 3, 4, 6, 7] [] (fr' := [(0, aD (.slice (.slice .bool)) a0), (3, aI r1.1), (4, aI r1.2), (6, aI x131), (7, aI i130)]) (L' := []) (by kernel_rfl) (by kernel_rfl) ?_
              refine blockQ_norm ?_
              exact exQ_mk (by kernel_rfl) (by kernel_rfl)
        · intro e fr L hJ
          obtain ⟨rfl, rfl, rfl⟩ := hJ
          refine LT_keep [0, 3, 4, 6, 7] [] (fr' := [(0, aD (.slice (.slice .bool)) a0), (3, aI r1.1), (4, aI r1.2), (6, aI v220), (7, aI i130)]) (L' := []) (by kernel_rfl) ?_
          refine seqQ_norm ?_
          obtain rfl := Option.some.inj h
          refine W_run 3 [] [0, 3, 4, 6, 7] [] (fr' := [(0, aD (.slice (.slice .bool)) a0), (3, aI r1.1), (4, aI r1.2), (6, aI v220), (7, aI (w64 (i130 + (1 : Int))))]) (L' := []) (obs := []) (by kernel_rfl) (by kernel_rfl) (by kernel_rfl) allP0 ?_
          exact round_next' (by kernel_rfl) (by kernel_rfl)
      · obtain rfl := stepL_false h135 h
        refine W_exit (id := 0) [3, 4, 6] [] (fr' := [(3, aI r1.1), (4, aI r1.2), (6, aI x131)]) (L' := []) (by kernel_rfl) (by kernel_rfl) ?_
        refine seqQ_exit ?_
        refine round_exit ?_
        exact exQ_mk (by kernel_rfl) (by kernel_rfl)
    · intro e fr L hJ
      obtain ⟨rfl, rfl, rfl⟩ := hJ
      refine LT_keep [3, 4, 6] [] (fr' := [(3, aI r1.1), (4, aI r1.2), (6, aI v223)]) (L' := []) (by kernel_rfl) ?_
      refine blockQ_hit ?_
      refine seqQ_norm ?_
      refine W_seq (by kernel_rfl) ?_
      refine W_run 8 [] [2] [] (fr' := [(2, aB ((r1.2 == (0 : Int)) && (r1.1 == v223)))]) (L' := []) (obs := []) (by kernel_rfl) (by kernel_rfl) (by kernel_rfl) allP0 ?_
      refine seqQ_norm ?_
      obtain rfl := Option.some.inj h
      refine W_ret [2] [] (fr' := [(2, aB ((r1.2 == (0 : Int)) && (r1.1 == v223)))]) (L' := []) (by kernel_rfl) (by kernel_rfl) ?_
      exact retQ_mk (by kernel_rfl) (by kernel_rfl) (by kernel_rfl)
end Go.Proofs.Ytjghcbdfpcpahaa.talkRows
