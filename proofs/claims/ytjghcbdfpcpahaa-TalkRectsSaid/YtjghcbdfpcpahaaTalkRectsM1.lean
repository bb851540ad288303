/- What the functions that TalkRects calls compute, as models, and that they compute it: written by a program of mine. -/
import Derived.Test.YtjghcbdfpcpahaaProg
import Derived.Test.YtjghcbdfpcpahaaSl5
set_option linter.all false
set_option maxRecDepth 100000
namespace Go.Proofs.Ytjghcbdfpcpahaa.talkRects
open Go Go.Sl
def talk_wrong_1 (a0 : (List Bool)) (c0 : (List (List Bool))) : Option Bool :=
(idx c0 (0 : Int)).bind fun v1 =>
some ((List.length a0 : Int) != (List.length v1 : Int))
theorem talk_wrong_1_ok {a0 : (List Bool)} {c0 : (List (List Bool))} {r : Bool} (h : talk_wrong_1 a0 c0 = some r) : FnC Try.prog 56 [aD (.slice .bool) a0, .one (.ptr 1000 0)] [(1000, .cells [.dat (.slice (.slice .bool)) c0])] (aB r) [(1000, .cells [.dat (.slice (.slice .bool)) c0])] := by
  refine fnC_of_W (B := bodyOf Try.f56) (n := 11) Try.func56 (by kernel_rfl) (by kernel_rfl) (by kernel_rfl) (by kernel_rfl) (by kernel_rfl) ?_
  intro K
  refine W_seq (by kernel_rfl) ?_
  refine W_run 1 [] [0, 1] [1000] (fr' := [(0, aD (.slice .bool) a0), (1, .one (.ptr 1000 0))]) (L' := [(1000, .cells [.dat (.slice (.slice .bool)) c0])]) (obs := []) (by kernel_rfl) (by kernel_rfl) (by kernel_rfl) allP0 ?_
  refine seqQ_norm ?_
  refine W_seq (by kernel_rfl) ?_
  obtain ⟨v1, h2, h⟩ := bind_of h
  refine W_run 8 [(7, .val (.dat (.slice .bool) v1))] [3] [1000] (fr' := [(3, aB ((List.length a0 : Int) != (List.length v1 : Int)))]) (L' := [(1000, .cells [.dat (.slice (.slice .bool)) c0])]) (obs := [Idx c0 (0 : Int) v1]) (by kernel_rfl) (by kernel_rfl) (by kernel_rfl) (allP1 (Idx.of h2)) ?_
  refine seqQ_norm ?_
  obtain rfl := Option.some.inj h
  refine W_ret [3] [1000] (fr' := [(3, aB ((List.length a0 : Int) != (List.length v1 : Int)))]) (L' := [(1000, .cells [.dat (.slice (.slice .bool)) c0])]) (by kernel_rfl) (by kernel_rfl) ?_
  exact retQ_mk (by kernel_rfl) (by kernel_rfl) (by kernel_rfl)

def slices_IndexFunc_LLboolLbool_with_talk_wrong_1_b1 (c0 : (List (List Bool))) (i15 : Int) (v18 : (List Bool)) (x16 : Unit) : Option (Flow Unit (Esc Int Unit)) :=
(talk_wrong_1 v18 c0).bind fun r21 =>
bif r21 then
(some (.done (.ret i15)))
else
(some (.next ()))
@[reducible] def slices_IndexFunc_LLboolLbool_with_talk_wrong_1_s2 (a0 : (List (List Bool))) (c0 : (List (List Bool))) (v : Int × Unit) : Fr × LL := ([(0, aD (.slice (.slice .bool)) a0), (1, .one (.fn 56 [(1000, 0)])), (7, aI (List.length a0 : Int)), (8, aI v.1)], [(1000, .cells [.dat (.slice (.slice .bool)) c0])])
@[reducible] def slices_IndexFunc_LLboolLbool_with_talk_wrong_1_s3 (c0 : (List (List Bool))) (v : Int) : Fr × LL := ([(4, aI v)], [(1000, .cells [.dat (.slice (.slice .bool)) c0])])
@[reducible] def slices_IndexFunc_LLboolLbool_with_talk_wrong_1_s4 (c0 : (List (List Bool))) (v : Unit) : Fr × LL := ([], [(1000, .cells [.dat (.slice (.slice .bool)) c0])])
def slices_IndexFunc_LLboolLbool_with_talk_wrong_1 (a0 : (List (List Bool))) (c0 : (List (List Bool))) : Option Int :=
(forL (slices_IndexFunc_LLboolLbool_with_talk_wrong_1_b1 c0) (fun x16 => (.brk ())) a0 0 ()).bind fun v25 =>
match v25 with
| .ret v30 =>
(some v30)
| .brk v31 =>
(some (-1 : Int))
theorem slices_IndexFunc_LLboolLbool_with_talk_wrong_1_ok {a0 : (List (List Bool))} {c0 : (List (List Bool))} {r : Int} (h : slices_IndexFunc_LLboolLbool_with_talk_wrong_1 a0 c0 = some r) : FnC Try.prog 57 [aD (.slice (.slice .bool)) a0, .one (.fn 56 [(1000, 0)])] [(1000, .cells [.dat (.slice (.slice .bool)) c0])] (aI r) [(1000, .cells [.dat (.slice (.slice .bool)) c0])] := by
  refine fnC_of_W (B := bodyOf Try.f57) (n := 19) Try.func57 (by kernel_rfl) (by kernel_rfl) (by kernel_rfl) (by kernel_rfl) (by kernel_rfl) ?_
  intro K
  refine W_seq (by kernel_rfl) ?_
  refine W_run 1 [] [0, 1] [1000] (fr' := [(0, aD (.slice (.slice .bool)) a0), (1, .one (.fn 56 [(1000, 0)]))]) (L' := [(1000, .cells [.dat (.slice (.slice .bool)) c0])]) (obs := []) (by kernel_rfl) (by kernel_rfl) (by kernel_rfl) allP0 ?_
  refine seqQ_norm ?_
  refine W_seq (by kernel_rfl) ?_
  refine W_seq (by kernel_rfl) ?_
  refine W_run 3 [] [0, 1, 7, 8] [1000] (fr' := [(0, aD (.slice (.slice .bool)) a0), (1, .one (.fn 56 [(1000, 0)])), (7, aI (List.length a0 : Int)), (8, aI (0 : Int))]) (L' := [(1000, .cells [.dat (.slice (.slice .bool)) c0])]) (obs := []) (by kernel_rfl) (by kernel_rfl) (by kernel_rfl) allP0 ?_
  refine seqQ_norm ?_
  refine W_block (id := 0) (by kernel_rfl) ?_
  obtain ⟨v25, h26, h⟩ := bind_of h
  refine W_len (t := 0) (u := (.slice .bool)) (xs := a0) (by kernel_rfl) (fun h29 => ?_)
  obtain ⟨h27, h28⟩ := forL_iter h29 h26
  refine W_weaken [0, 1, 7, 8] [1000] (fr' := ((slices_IndexFunc_LLboolLbool_with_talk_wrong_1_s2 a0 c0) ((0 : Int), ())).1) (L' := ((slices_IndexFunc_LLboolLbool_with_talk_wrong_1_s2 a0 c0) ((0 : Int), ())).2) (by kernel_rfl) ?_
  refine W_cutK (W_loop (S := (slices_IndexFunc_LLboolLbool_with_talk_wrong_1_s2 a0 c0)) (J := (escQ (exQ .ret (slices_IndexFunc_LLboolLbool_with_talk_wrong_1_s3 c0)) (exQ (.exit 0) (slices_IndexFunc_LLboolLbool_with_talk_wrong_1_s4 c0)))) (by kernel_rfl) ?_ h27 _ v25 h28) ?_
  · rintro ⟨i15, x16⟩ s h
    refine W_seq (by kernel_rfl) ?_
    refine W_run 1 [] [0, 1, 7, 8, 9] [1000] (fr' := [(0, aD (.slice (.slice .bool)) a0), (1, .one (.fn 56 [(1000, 0)])), (7, aI (List.length a0 : Int)), (8, aI i15), (9, aB (decide (i15 < (List.length a0 : Int))))]) (L' := [(1000, .cells [.dat (.slice (.slice .bool)) c0])]) (obs := []) (by kernel_rfl) (by kernel_rfl) (by kernel_rfl) allP0 ?_
    refine seqQ_norm ?_
    refine W_seq (by kernel_rfl) ?_
    refine W_cond (o := .tmp 9) (b := decide (i15 < (List.length a0 : Int))) (by kernel_rfl) (by kernel_rfl) (fun h20 => ?_) (fun h20 => ?_)
    · replace h := stepL_true h20 h
      obtain ⟨v18, _, h19, h, rfl⟩ := h
      refine W_skip [0, 1, 7, 8] [1000] (fr' := [(0, aD (.slice (.slice .bool)) a0), (1, .one (.fn 56 [(1000, 0)])), (7, aI (List.length a0 : Int)), (8, aI i15)]) (L' := [(1000, .cells [.dat (.slice (.slice .bool)) c0])]) (by kernel_rfl) (by kernel_rfl) ?_
      refine seqQ_norm ?_
      refine W_seq (by kernel_rfl) ?_
      refine W_block (id := 1) (by kernel_rfl) ?_
      refine W_seq (by kernel_rfl) ?_
      refine W_run 2 [] [0, 1, 5, 7, 8] [1000] (fr' := [(0, aD (.slice (.slice .bool)) a0), (1, .one (.fn 56 [(1000, 0)])), (5, aI i15), (7, aI (List.length a0 : Int)), (8, aI i15)]) (L' := [(1000, .cells [.dat (.slice (.slice .bool)) c0])]) (obs := []) (by kernel_rfl) (by kernel_rfl) (by kernel_rfl) allP0 ?_
      refine seqQ_norm ?_
      refine W_seq (by kernel_rfl) ?_
      refine W_region (by kernel_rfl) ?_
      refine WO_run (j := 5) (k := 5) (orcs := [(7, .val (.dat (.slice .bool) v18))]) (kF := [0, 1, 5, 7, 8, 11, 15]) (kL := [1000]) (fr' := [(0, aD (.slice (.slice .bool)) a0), (1, .one (.fn 56 [(1000, 0)])), (5, aI i15), (7, aI (List.length a0 : Int)), (8, aI i15), (11, .one (.fn 56 [(1000, 0)])), (15, aD (.slice .bool) v18)]) (L' := [(1000, .cells [.dat (.slice (.slice .bool)) c0])]) (obs := [Idx a0 i15 v18]) rfl (by kernel_rfl) (allP1 (Idx.of h19)) ?_
      obtain ⟨r21, h22, h⟩ := bind_of h
      refine WO_lend [(1000, 1000)] (us := [none, none]) (d := 16) (p := True) (j := 6) rfl ⟨by kernel_rfl, by kernel_rfl, by kernel_rfl⟩ trivial (talk_wrong_1_ok h22) (by kernel_rfl) (by kernel_rfl) ?_
      refine WO_fin [0, 1, 5, 7, 8, 16] [1000] (fr' := [(0, aD (.slice (.slice .bool)) a0), (1, .one (.fn 56 [(1000, 0)])), (5, aI i15), (7, aI (List.length a0 : Int)), (8, aI i15), (16, aB r21)]) (L' := [(1000, .cells [.dat (.slice (.slice .bool)) c0])]) (by kernel_rfl) (by kernel_rfl) ?_
      refine seqQ_norm ?_
      refine W_cond (o := .tmp 16) (b := r21) (by kernel_rfl) (by kernel_rfl) (fun h23 => ?_) (fun h23 => ?_)
      · replace h := ofT h23 h
        refine W_seq (by kernel_rfl) ?_
        refine W_run 2 [] [4] [1000] (fr' := [(4, aI i15)]) (L' := [(1000, .cells [.dat (.slice (.slice .bool)) c0])]) (obs := []) (by kernel_rfl) (by kernel_rfl) (by kernel_rfl) allP0 ?_
        refine seqQ_norm ?_
        obtain rfl := Option.some.inj h
        refine W_ret [4] [1000] (fr' := [(4, aI i15)]) (L' := [(1000, .cells [.dat (.slice (.slice .bool)) c0])]) (by kernel_rfl) (by kernel_rfl) ?_
        refine blockQ_ret ?_
        refine seqQ_ret ?_
        refine round_ret ?_
        refine escQ_ret ?_
        exact exQ_mk (by kernel_rfl) (by kernel_rfl)
      · replace h := ofF h23 h
        refine W_skip [0, 1, 7, 8] [1000] (fr' := [(0, aD (.slice (.slice .bool)) a0), (1, .one (.fn 56 [(1000, 0)])), (7, aI (List.length a0 : Int)), (8, aI i15)]) (L' := [(1000, .cells [.dat (.slice (.slice .bool)) c0])]) (by kernel_rfl) (by kernel_rfl) ?_
        refine blockQ_norm ?_
        refine seqQ_norm ?_
        obtain rfl := Option.some.inj h
        refine W_run 2 [] [0, 1, 7, 8] [1000] (fr' := [(0, aD (.slice (.slice .bool)) a0), (1, .one (.fn 56 [(1000, 0)])), (7, aI (List.length a0 : Int)), (8, aI (w64 (i15 + (1 : Int))))]) (L' := [(1000, .cells [.dat (.slice (.slice .bool)) c0])]) (obs := []) (by kernel_rfl) (by kernel_rfl) (by kernel_rfl) allP0 ?_
        exact round_next' (by kernel_rfl) (by kernel_rfl)
    · obtain rfl := stepL_false h20 h
      refine W_exit (id := 0) [] [1000] (fr' := []) (L' := [(1000, .cells [.dat (.slice (.slice .bool)) c0])]) (by kernel_rfl) (by kernel_rfl) ?_
      refine seqQ_exit ?_
      refine round_exit ?_
      refine escQ_brk ?_
      exact exQ_mk (by kernel_rfl) (by kernel_rfl)
  · intro e fr L hJ
    rcases v25 with v30 | v31
    · obtain ⟨rfl, rfl, rfl⟩ := hJ
      obtain rfl := Option.some.inj h
      refine LT_keep [4] [1000] (fr' := [(4, aI v30)]) (L' := [(1000, .cells [.dat (.slice (.slice .bool)) c0])]) (by kernel_rfl) ?_
      refine blockQ_ret ?_
      refine seqQ_ret ?_
      exact retQ_mk (by kernel_rfl) (by kernel_rfl) (by kernel_rfl)
    · obtain ⟨rfl, rfl, rfl⟩ := hJ
      refine LT_keep [] [1000] (fr' := []) (L' := [(1000, .cells [.dat (.slice (.slice .bool)) c0])]) (by kernel_rfl) ?_
      refine blockQ_hit ?_
      refine seqQ_norm ?_
      refine W_seq (by kernel_rfl) ?_
      refine W_run 1 [] [4] [1000] (fr' := [(4, aI (-1 : Int))]) (L' := [(1000, .cells [.dat (.slice (.slice .bool)) c0])]) (obs := []) (by kernel_rfl) (by kernel_rfl) (by kernel_rfl) allP0 ?_
      refine seqQ_norm ?_
      obtain rfl := Option.some.inj h
      refine W_ret [4] [1000] (fr' := [(4, aI (-1 : Int))]) (L' := [(1000, .cells [.dat (.slice (.slice .bool)) c0])]) (by kernel_rfl) (by kernel_rfl) ?_
      exact retQ_mk (by kernel_rfl) (by kernel_rfl) (by kernel_rfl)

def slices_ContainsFunc_LLboolLbool_with_talk_wrong_1 (a0 : (List (List Bool))) (c0 : (List (List Bool))) : Option Bool :=
(slices_IndexFunc_LLboolLbool_with_talk_wrong_1 a0 c0).bind fun r1 =>
some (decide (r1 ≥ (0 : Int)))
theorem slices_ContainsFunc_LLboolLbool_with_talk_wrong_1_ok {a0 : (List (List Bool))} {c0 : (List (List Bool))} {r : Bool} (h : slices_ContainsFunc_LLboolLbool_with_talk_wrong_1 a0 c0 = some r) : FnC Try.prog 37 [aD (.slice (.slice .bool)) a0, .one (.fn 56 [(1000, 0)])] [(1000, .cells [.dat (.slice (.slice .bool)) c0])] (aB r) [(1000, .cells [.dat (.slice (.slice .bool)) c0])] := by
  refine fnC_of_W (B := bodyOf Try.f37) (n := 9) Try.func37 (by kernel_rfl) (by kernel_rfl) (by kernel_rfl) (by kernel_rfl) (by kernel_rfl) ?_
  intro K
  refine W_seq (by kernel_rfl) ?_
  refine W_run 1 [] [0, 1] [1000] (fr' := [(0, aD (.slice (.slice .bool)) a0), (1, .one (.fn 56 [(1000, 0)]))]) (L' := [(1000, .cells [.dat (.slice (.slice .bool)) c0])]) (obs := []) (by kernel_rfl) (by kernel_rfl) (by kernel_rfl) allP0 ?_
  refine seqQ_norm ?_
  refine W_seq (by kernel_rfl) ?_
  refine W_region (by kernel_rfl) ?_
  refine WO_run (j := 2) (k := 2) (orcs := []) (kF := [5, 6]) (kL := [1000]) (fr' := [(5, aD (.slice (.slice .bool)) a0), (6, .one (.fn 56 [(1000, 0)]))]) (L' := [(1000, .cells [.dat (.slice (.slice .bool)) c0])]) (obs := []) rfl (by kernel_rfl) allP0 ?_
  obtain ⟨r1, h2, h⟩ := bind_of h
  refine WO_lend [(1000, 1000)] (us := [none, none]) (d := 7) (p := True) (j := 3) rfl ⟨by kernel_rfl, by kernel_rfl, by kernel_rfl⟩ trivial (slices_IndexFunc_LLboolLbool_with_talk_wrong_1_ok h2) (by kernel_rfl) (by kernel_rfl) ?_
  refine WO_run (j := 5) (k := 2) (orcs := []) (kF := [4]) (kL := [1000]) (fr' := [(4, aB (decide (r1 ≥ (0 : Int))))]) (L' := [(1000, .cells [.dat (.slice (.slice .bool)) c0])]) (obs := []) rfl (by kernel_rfl) allP0 ?_
  refine WO_fin [4] [1000] (fr' := [(4, aB (decide (r1 ≥ (0 : Int))))]) (L' := [(1000, .cells [.dat (.slice (.slice .bool)) c0])]) (by kernel_rfl) (by kernel_rfl) ?_
  refine seqQ_norm ?_
  obtain rfl := Option.some.inj h
  refine W_ret [4] [1000] (fr' := [(4, aB (decide (r1 ≥ (0 : Int))))]) (L' := [(1000, .cells [.dat (.slice (.slice .bool)) c0])]) (by kernel_rfl) (by kernel_rfl) ?_
  exact retQ_mk (by kernel_rfl) (by kernel_rfl) (by kernel_rfl)

def talk_wrong_g1 (a0 : (List (List Bool))) : Option Bool :=
bif (decide ((List.length a0 : Int) < (1 : Int))) || (decide ((List.length a0 : Int) > (4 : Int))) then
(some true)
else
((idx a0 (0 : Int)).bind fun v10 =>
bif decide ((List.length v10 : Int) < (1 : Int)) then
(some true)
else
(some (decide ((List.length v10 : Int) > (4 : Int)))))
@[reducible] def talk_wrong_s2 (a0 : (List (List Bool))) (v : Bool) : Fr × LL := ([(1, .one (.ptr 1 0)), (24, aB v)], [(1, .cells [.dat (.slice (.slice .bool)) a0])])
def talk_wrong (a0 : (List (List Bool))) : Option Int :=
(talk_wrong_g1 a0).bind fun v13 =>
bif v13 then
(some (1 : Int))
else
((slices_ContainsFunc_LLboolLbool_with_talk_wrong_1 a0 a0).bind fun r16 =>
bif r16 then
(some (3 : Int))
else
(some (0 : Int)))
theorem talk_wrong_ok {a0 : (List (List Bool))} {r : Int} (h : talk_wrong a0 = some r) : FnC Try.prog 36 [aD (.slice (.slice .bool)) a0] [] (aI r) [] := by
  refine fnC_of_W (B := bodyOf Try.f36) (n := 28) Try.func36 (by kernel_rfl) (by kernel_rfl) (by kernel_rfl) (by kernel_rfl) (by kernel_rfl) ?_
  intro K
  refine W_seq (by kernel_rfl) ?_
  refine W_run 2 [] [1] [1] (fr' := [(1, .one (.ptr 1 0))]) (L' := [(1, .cells [.dat (.slice (.slice .bool)) a0])]) (obs := []) (by kernel_rfl) (by kernel_rfl) (by kernel_rfl) allP0 ?_
  refine seqQ_norm ?_
  refine W_seq (by kernel_rfl) ?_
  refine W_seq (by kernel_rfl) ?_
  obtain ⟨v13, h14, h⟩ := bind_of h
  refine W_cutK (Q' := (exQ .normal (talk_wrong_s2 a0)) v13) ?_ ?_
  · replace h := h14
    refine W_region (by kernel_rfl) ?_
    refine WO_run (j := 9) (k := 9) (orcs := []) (kF := [1, 11]) (kL := [1]) (fr' := [(1, .one (.ptr 1 0)), (11, aB ((decide ((List.length a0 : Int) < (1 : Int))) || (decide ((List.length a0 : Int) > (4 : Int)))))]) (L' := [(1, .cells [.dat (.slice (.slice .bool)) a0])]) (obs := []) rfl (by kernel_rfl) allP0 ?_
    rcases Bool.eq_false_or_eq_true ((decide ((List.length a0 : Int) < (1 : Int))) || (decide ((List.length a0 : Int) > (4 : Int)))) with h9 | h9
    · replace h := ofT h9 h
      refine WO_run (j := 22) (k := 13) (orcs := [(18, .known true), (20, .known true), (22, .known true), (24, .known true), (26, .known true), (29, .val (.dat .bool true)), (32, .known true), (34, .known true), (36, .known true), (38, .known true), (40, .known true), (43, .val (.dat .bool true))]) (kF := [1, 24]) (kL := [1]) (fr' := [(1, .one (.ptr 1 0)), (24, aB true)]) (L' := [(1, .cells [.dat (.slice (.slice .bool)) a0])]) (obs := [(((decide ((List.length a0 : Int) < (1 : Int))) || (decide ((List.length a0 : Int) > (4 : Int)))) = true), (((decide ((List.length a0 : Int) < (1 : Int))) || (decide ((List.length a0 : Int) > (4 : Int)))) = true), (((decide ((List.length a0 : Int) < (1 : Int))) || (decide ((List.length a0 : Int) > (4 : Int)))) = true), (((decide ((List.length a0 : Int) < (1 : Int))) || (decide ((List.length a0 : Int) > (4 : Int)))) = true), (((decide ((List.length a0 : Int) < (1 : Int))) || (decide ((List.length a0 : Int) > (4 : Int)))) = true), (((decide ((List.length a0 : Int) < (1 : Int))) || (decide ((List.length a0 : Int) > (4 : Int)))) = true), (true = true), (true = true), (true = true), (true = true), (true = true), (true = true)]) rfl (by kernel_rfl) (allP2 h9 (allP2 h9 (allP2 h9 (allP2 h9 (allP2 h9 (allP2 h9 (allP2 rfl (allP2 rfl (allP2 rfl (allP2 rfl (allP2 rfl (allP1 rfl)))))))))))) ?_
      obtain rfl := Option.some.inj h
      refine WO_fin [1, 24] [1] (fr' := [(1, .one (.ptr 1 0)), (24, aB true)]) (L' := [(1, .cells [.dat (.slice (.slice .bool)) a0])]) (by kernel_rfl) (by kernel_rfl) ?_
      exact exQ_mk (by kernel_rfl) (by kernel_rfl)
    · replace h := ofF h9 h
      obtain ⟨v10, h11, h⟩ := bind_of h
      refine WO_run (j := 16) (k := 7) (orcs := [(18, .known false), (20, .known false), (21, .val (.dat (.slice .bool) v10)), (22, .known false), (24, .known false), (26, .known false), (29, .val (.dat .bool false))]) (kF := [1, 18]) (kL := [1]) (fr' := [(1, .one (.ptr 1 0)), (18, aB (decide ((List.length v10 : Int) < (1 : Int))))]) (L' := [(1, .cells [.dat (.slice (.slice .bool)) a0])]) (obs := [(((decide ((List.length a0 : Int) < (1 : Int))) || (decide ((List.length a0 : Int) > (4 : Int)))) = false), (((decide ((List.length a0 : Int) < (1 : Int))) || (decide ((List.length a0 : Int) > (4 : Int)))) = false), Idx a0 (0 : Int) v10, (((decide ((List.length a0 : Int) < (1 : Int))) || (decide ((List.length a0 : Int) > (4 : Int)))) = false), (((decide ((List.length a0 : Int) < (1 : Int))) || (decide ((List.length a0 : Int) > (4 : Int)))) = false), (((decide ((List.length a0 : Int) < (1 : Int))) || (decide ((List.length a0 : Int) > (4 : Int)))) = false), (((decide ((List.length a0 : Int) < (1 : Int))) || (decide ((List.length a0 : Int) > (4 : Int)))) = false)]) rfl (by kernel_rfl) (allP2 h9 (allP2 h9 (allP2 (Idx.of h11) (allP2 h9 (allP2 h9 (allP2 h9 (allP1 h9))))))) ?_
      rcases Bool.eq_false_or_eq_true (decide ((List.length v10 : Int) < (1 : Int))) with h12 | h12
      · replace h := ofT h12 h
        refine WO_run (j := 22) (k := 6) (orcs := [(32, .known true), (34, .known true), (36, .known true), (38, .known true), (40, .known true), (43, .val (.dat .bool true))]) (kF := [1, 24]) (kL := [1]) (fr' := [(1, .one (.ptr 1 0)), (24, aB true)]) (L' := [(1, .cells [.dat (.slice (.slice .bool)) a0])]) (obs := [((decide ((List.length v10 : Int) < (1 : Int))) = true), ((decide ((List.length v10 : Int) < (1 : Int))) = true), ((decide ((List.length v10 : Int) < (1 : Int))) = true), ((decide ((List.length v10 : Int) < (1 : Int))) = true), ((decide ((List.length v10 : Int) < (1 : Int))) = true), ((decide ((List.length v10 : Int) < (1 : Int))) = true)]) rfl (by kernel_rfl) (allP2 h12 (allP2 h12 (allP2 h12 (allP2 h12 (allP2 h12 (allP1 h12)))))) ?_
        obtain rfl := Option.some.inj h
        refine WO_fin [1, 24] [1] (fr' := [(1, .one (.ptr 1 0)), (24, aB true)]) (L' := [(1, .cells [.dat (.slice (.slice .bool)) a0])]) (by kernel_rfl) (by kernel_rfl) ?_
        exact exQ_mk (by kernel_rfl) (by kernel_rfl)
      · replace h := ofF h12 h
        refine WO_run (j := 22) (k := 6) (orcs := [(32, .known false), (34, .known false), (35, .val (.dat (.slice .bool) v10)), (36, .known false), (38, .known false), (40, .known false), (43, .val (.dat .bool false))]) (kF := [1, 24]) (kL := [1]) (fr' := [(1, .one (.ptr 1 0)), (24, aB (decide ((List.length v10 : Int) > (4 : Int))))]) (L' := [(1, .cells [.dat (.slice (.slice .bool)) a0])]) (obs := [((decide ((List.length v10 : Int) < (1 : Int))) = false), ((decide ((List.length v10 : Int) < (1 : Int))) = false), Idx a0 (0 : Int) v10, ((decide ((List.length v10 : Int) < (1 : Int))) = false), ((decide ((List.length v10 : Int) < (1 : Int))) = false), ((decide ((List.length v10 : Int) < (1 : Int))) = false), ((decide ((List.length v10 : Int) < (1 : Int))) = false)]) rfl (by kernel_rfl) (allP2 h12 (allP2 h12 (allP2 (Idx.of h11) (allP2 h12 (allP2 h12 (allP2 h12 (allP1 h12))))))) ?_
        obtain rfl := Option.some.inj h
        refine WO_fin [1, 24] [1] (fr' := [(1, .one (.ptr 1 0)), (24, aB (decide ((List.length v10 : Int) > (4 : Int))))]) (L' := [(1, .cells [.dat (.slice (.slice .bool)) a0])]) (by kernel_rfl) (by kernel_rfl) ?_
        exact exQ_mk (by kernel_rfl) (by kernel_rfl)
  · intro e fr L hJ
    obtain ⟨rfl, rfl, rfl⟩ := hJ
    refine LT_keep [1, 24] [1] (fr' := [(1, .one (.ptr 1 0)), (24, aB v13)]) (L' := [(1, .cells [.dat (.slice (.slice .bool)) a0])]) (by kernel_rfl) ?_
    refine seqQ_norm ?_
    refine W_cond (o := .tmp 24) (b := v13) (by kernel_rfl) (by kernel_rfl) (fun h15 => ?_) (fun h15 => ?_)
    · replace h := ofT h15 h
      refine W_seq (by kernel_rfl) ?_
      refine W_run 1 [] [2] [] (fr' := [(2, aI (1 : Int))]) (L' := []) (obs := []) (by kernel_rfl) (by kernel_rfl) (by kernel_rfl) allP0 ?_
      refine seqQ_norm ?_
      obtain rfl := Option.some.inj h
      refine W_ret [2] [] (fr' := [(2, aI (1 : Int))]) (L' := []) (by kernel_rfl) (by kernel_rfl) ?_
      refine seqQ_ret ?_
      exact retQ_mk (by kernel_rfl) (by kernel_rfl) (by kernel_rfl)
    · replace h := ofF h15 h
      refine W_skip [1] [1] (fr' := [(1, .one (.ptr 1 0))]) (L' := [(1, .cells [.dat (.slice (.slice .bool)) a0])]) (by kernel_rfl) (by kernel_rfl) ?_
      refine seqQ_norm ?_
      refine W_seq (by kernel_rfl) ?_
      refine W_seq (by kernel_rfl) ?_
      refine W_region (by kernel_rfl) ?_
      refine WO_run (j := 2) (k := 2) (orcs := []) (kF := [25, 26]) (kL := [1]) (fr' := [(25, aD (.slice (.slice .bool)) a0), (26, .one (.fn 56 [(1, 0)]))]) (L' := [(1, .cells [.dat (.slice (.slice .bool)) a0])]) (obs := []) rfl (by kernel_rfl) allP0 ?_
      obtain ⟨r16, h17, h⟩ := bind_of h
      refine WO_lend [(1000, 1)] (us := [none, none]) (d := 27) (p := True) (j := 3) rfl ⟨by kernel_rfl, by kernel_rfl, by kernel_rfl⟩ trivial (slices_ContainsFunc_LLboolLbool_with_talk_wrong_1_ok h17) (by kernel_rfl) (by kernel_rfl) ?_
      refine WO_fin [27] [] (fr' := [(27, aB r16)]) (L' := []) (by kernel_rfl) (by kernel_rfl) ?_
      refine seqQ_norm ?_
      refine W_cond (o := .tmp 27) (b := r16) (by kernel_rfl) (by kernel_rfl) (fun h18 => ?_) (fun h18 => ?_)
      · replace h := ofT h18 h
        refine W_seq (by kernel_rfl) ?_
        refine W_run 1 [] [2] [] (fr' := [(2, aI (3 : Int))]) (L' := []) (obs := []) (by kernel_rfl) (by kernel_rfl) (by kernel_rfl) allP0 ?_
        refine seqQ_norm ?_
        obtain rfl := Option.some.inj h
        refine W_ret [2] [] (fr' := [(2, aI (3 : Int))]) (L' := []) (by kernel_rfl) (by kernel_rfl) ?_
        refine seqQ_ret ?_
        exact retQ_mk (by kernel_rfl) (by kernel_rfl) (by kernel_rfl)
      · replace h := ofF h18 h
        refine W_skip [] [] (fr' := []) (L' := []) (by kernel_rfl) (by kernel_rfl) ?_
        refine seqQ_norm ?_
        refine W_seq (by kernel_rfl) ?_
        refine W_run 1 [] [2] [] (fr' := [(2, aI (0 : Int))]) (L' := []) (obs := []) (by kernel_rfl) (by kernel_rfl) (by kernel_rfl) allP0 ?_
        refine seqQ_norm ?_
        obtain rfl := Option.some.inj h
        refine W_ret [2] [] (fr' := [(2, aI (0 : Int))]) (L' := []) (by kernel_rfl) (by kernel_rfl) ?_
        exact retQ_mk (by kernel_rfl) (by kernel_rfl) (by kernel_rfl)

def math_bits_OnesCount64 (a0 : Int) : Option Int :=
some (bAnd .i64 (w64 (IntKind.wrap .u64 ((IntKind.wrap .u64 ((IntKind.wrap .u64 ((bAnd .u64 (IntKind.wrap .u64 ((bShr .u64 (IntKind.wrap .u64 ((bAnd .u64 (bShr .u64 (IntKind.wrap .u64 ((bAnd .u64 (bShr .u64 a0 (1 : Int)) (6148914691236517205 : Int)) + (bAnd .u64 a0 (6148914691236517205 : Int)))) (2 : Int)) (3689348814741910323 : Int)) + (bAnd .u64 (IntKind.wrap .u64 ((bAnd .u64 (bShr .u64 a0 (1 : Int)) (6148914691236517205 : Int)) + (bAnd .u64 a0 (6148914691236517205 : Int)))) (3689348814741910323 : Int)))) (4 : Int)) + (IntKind.wrap .u64 ((bAnd .u64 (bShr .u64 (IntKind.wrap .u64 ((bAnd .u64 (bShr .u64 a0 (1 : Int)) (6148914691236517205 : Int)) + (bAnd .u64 a0 (6148914691236517205 : Int)))) (2 : Int)) (3689348814741910323 : Int)) + (bAnd .u64 (IntKind.wrap .u64 ((bAnd .u64 (bShr .u64 a0 (1 : Int)) (6148914691236517205 : Int)) + (bAnd .u64 a0 (6148914691236517205 : Int)))) (3689348814741910323 : Int)))))) (1085102592571150095 : Int)) + (bShr .u64 (bAnd .u64 (IntKind.wrap .u64 ((bShr .u64 (IntKind.wrap .u64 ((bAnd .u64 (bShr .u64 (IntKind.wrap .u64 ((bAnd .u64 (bShr .u64 a0 (1 : Int)) (6148914691236517205 : Int)) + (bAnd .u64 a0 (6148914691236517205 : Int)))) (2 : Int)) (3689348814741910323 : Int)) + (bAnd .u64 (IntKind.wrap .u64 ((bAnd .u64 (bShr .u64 a0 (1 : Int)) (6148914691236517205 : Int)) + (bAnd .u64 a0 (6148914691236517205 : Int)))) (3689348814741910323 : Int)))) (4 : Int)) + (IntKind.wrap .u64 ((bAnd .u64 (bShr .u64 (IntKind.wrap .u64 ((bAnd .u64 (bShr .u64 a0 (1 : Int)) (6148914691236517205 : Int)) + (bAnd .u64 a0 (6148914691236517205 : Int)))) (2 : Int)) (3689348814741910323 : Int)) + (bAnd .u64 (IntKind.wrap .u64 ((bAnd .u64 (bShr .u64 a0 (1 : Int)) (6148914691236517205 : Int)) + (bAnd .u64 a0 (6148914691236517205 : Int)))) (3689348814741910323 : Int)))))) (1085102592571150095 : Int)) (8 : Int)))) + (bShr .u64 (IntKind.wrap .u64 ((bAnd .u64 (IntKind.wrap .u64 ((bShr .u64 (IntKind.wrap .u64 ((bAnd .u64 (bShr .u64 (IntKind.wrap .u64 ((bAnd .u64 (bShr .u64 a0 (1 : Int)) (6148914691236517205 : Int)) + (bAnd .u64 a0 (6148914691236517205 : Int)))) (2 : Int)) (3689348814741910323 : Int)) + (bAnd .u64 (IntKind.wrap .u64 ((bAnd .u64 (bShr .u64 a0 (1 : Int)) (6148914691236517205 : Int)) + (bAnd .u64 a0 (6148914691236517205 : Int)))) (3689348814741910323 : Int)))) (4 : Int)) + (IntKind.wrap .u64 ((bAnd .u64 (bShr .u64 (IntKind.wrap .u64 ((bAnd .u64 (bShr .u64 a0 (1 : Int)) (6148914691236517205 : Int)) + (bAnd .u64 a0 (6148914691236517205 : Int)))) (2 : Int)) (3689348814741910323 : Int)) + (bAnd .u64 (IntKind.wrap .u64 ((bAnd .u64 (bShr .u64 a0 (1 : Int)) (6148914691236517205 : Int)) + (bAnd .u64 a0 (6148914691236517205 : Int)))) (3689348814741910323 : Int)))))) (1085102592571150095 : Int)) + (bShr .u64 (bAnd .u64 (IntKind.wrap .u64 ((bShr .u64 (IntKind.wrap .u64 ((bAnd .u64 (bShr .u64 (IntKind.wrap .u64 ((bAnd .u64 (bShr .u64 a0 (1 : Int)) (6148914691236517205 : Int)) + (bAnd .u64 a0 (6148914691236517205 : Int)))) (2 : Int)) (3689348814741910323 : Int)) + (bAnd .u64 (IntKind.wrap .u64 ((bAnd .u64 (bShr .u64 a0 (1 : Int)) (6148914691236517205 : Int)) + (bAnd .u64 a0 (6148914691236517205 : Int)))) (3689348814741910323 : Int)))) (4 : Int)) + (IntKind.wrap .u64 ((bAnd .u64 (bShr .u64 (IntKind.wrap .u64 ((bAnd .u64 (bShr .u64 a0 (1 : Int)) (6148914691236517205 : Int)) + (bAnd .u64 a0 (6148914691236517205 : Int)))) (2 : Int)) (3689348814741910323 : Int)) + (bAnd .u64 (IntKind.wrap .u64 ((bAnd .u64 (bShr .u64 a0 (1 : Int)) (6148914691236517205 : Int)) + (bAnd .u64 a0 (6148914691236517205 : Int)))) (3689348814741910323 : Int)))))) (1085102592571150095 : Int)) (8 : Int)))) (16 : Int)))) + (bShr .u64 (IntKind.wrap .u64 ((IntKind.wrap .u64 ((bAnd .u64 (IntKind.wrap .u64 ((bShr .u64 (IntKind.wrap .u64 ((bAnd .u64 (bShr .u64 (IntKind.wrap .u64 ((bAnd .u64 (bShr .u64 a0 (1 : Int)) (6148914691236517205 : Int)) + (bAnd .u64 a0 (6148914691236517205 : Int)))) (2 : Int)) (3689348814741910323 : Int)) + (bAnd .u64 (IntKind.wrap .u64 ((bAnd .u64 (bShr .u64 a0 (1 : Int)) (6148914691236517205 : Int)) + (bAnd .u64 a0 (6148914691236517205 : Int)))) (3689348814741910323 : Int)))) (4 : Int)) + (IntKind.wrap .u64 ((bAnd .u64 (bShr .u64 (IntKind.wrap .u64 ((bAnd .u64 (bShr .u64 a0 (1 : Int)) (6148914691236517205 : Int)) + (bAnd .u64 a0 (6148914691236517205 : Int)))) (2 : Int)) (3689348814741910323 : Int)) + (bAnd .u64 (IntKind.wrap .u64 ((bAnd .u64 (bShr .u64 a0 (1 : Int)) (6148914691236517205 : Int)) + (bAnd .u64 a0 (6148914691236517205 : Int)))) (3689348814741910323 : Int)))))) (1085102592571150095 : Int)) + (bShr .u64 (bAnd .u64 (IntKind.wrap .u64 ((bShr .u64 (IntKind.wrap .u64 ((bAnd .u64 (bShr .u64 (IntKind.wrap .u64 ((bAnd .u64 (bShr .u64 a0 (1 : Int)) (6148914691236517205 : Int)) + (bAnd .u64 a0 (6148914691236517205 : Int)))) (2 : Int)) (3689348814741910323 : Int)) + (bAnd .u64 (IntKind.wrap .u64 ((bAnd .u64 (bShr .u64 a0 (1 : Int)) (6148914691236517205 : Int)) + (bAnd .u64 a0 (6148914691236517205 : Int)))) (3689348814741910323 : Int)))) (4 : Int)) + (IntKind.wrap .u64 ((bAnd .u64 (bShr .u64 (IntKind.wrap .u64 ((bAnd .u64 (bShr .u64 a0 (1 : Int)) (6148914691236517205 : Int)) + (bAnd .u64 a0 (6148914691236517205 : Int)))) (2 : Int)) (3689348814741910323 : Int)) + (bAnd .u64 (IntKind.wrap .u64 ((bAnd .u64 (bShr .u64 a0 (1 : Int)) (6148914691236517205 : Int)) + (bAnd .u64 a0 (6148914691236517205 : Int)))) (3689348814741910323 : Int)))))) (1085102592571150095 : Int)) (8 : Int)))) + (bShr .u64 (IntKind.wrap .u64 ((bAnd .u64 (IntKind.wrap .u64 ((bShr .u64 (IntKind.wrap .u64 ((bAnd .u64 (bShr .u64 (IntKind.wrap .u64 ((bAnd .u64 (bShr .u64 a0 (1 : Int)) (6148914691236517205 : Int)) + (bAnd .u64 a0 (6148914691236517205 : Int)))) (2 : Int)) (3689348814741910323 : Int)) + (bAnd .u64 (IntKind.wrap .u64 ((bAnd .u64 (bShr .u64 a0 (1 : Int)) (6148914691236517205 : Int)) + (bAnd .u64 a0 (6148914691236517205 : Int)))) (3689348814741910323 : Int)))) (4 : Int)) + (IntKind.wrap .u64 ((bAnd .u64 (bShr .u64 (IntKind.wrap .u64 ((bAnd .u64 (bShr .u64 a0 (1 : Int)) (6148914691236517205 : Int)) + (bAnd .u64 a0 (6148914691236517205 : Int)))) (2 : Int)) (3689348814741910323 : Int)) + (bAnd .u64 (IntKind.wrap .u64 ((bAnd .u64 (bShr .u64 a0 (1 : Int)) (6148914691236517205 : Int)) + (bAnd .u64 a0 (6148914691236517205 : Int)))) (3689348814741910323 : Int)))))) (1085102592571150095 : Int)) + (bShr .u64 (bAnd .u64 (IntKind.wrap .u64 ((bShr .u64 (IntKind.wrap .u64 ((bAnd .u64 (bShr .u64 (IntKind.wrap .u64 ((bAnd .u64 (bShr .u64 a0 (1 : Int)) (6148914691236517205 : Int)) + (bAnd .u64 a0 (6148914691236517205 : Int)))) (2 : Int)) (3689348814741910323 : Int)) + (bAnd .u64 (IntKind.wrap .u64 ((bAnd .u64 (bShr .u64 a0 (1 : Int)) (6148914691236517205 : Int)) + (bAnd .u64 a0 (6148914691236517205 : Int)))) (3689348814741910323 : Int)))) (4 : Int)) + (IntKind.wrap .u64 ((bAnd .u64 (bShr .u64 (IntKind.wrap .u64 ((bAnd .u64 (bShr .u64 a0 (1 : Int)) (6148914691236517205 : Int)) + (bAnd .u64 a0 (6148914691236517205 : Int)))) (2 : Int)) (3689348814741910323 : Int)) + (bAnd .u64 (IntKind.wrap .u64 ((bAnd .u64 (bShr .u64 a0 (1 : Int)) (6148914691236517205 : Int)) + (bAnd .u64 a0 (6148914691236517205 : Int)))) (3689348814741910323 : Int)))))) (1085102592571150095 : Int)) (8 : Int)))) (16 : Int)))) (32 : Int))))) (127 : Int))
theorem math_bits_OnesCount64_ok {a0 : Int} {r : Int} (h : math_bits_OnesCount64 a0 = some r) : FnC Try.prog 61 [aD (.int .u64) a0] [] (aI r) [] := by
  refine fnC_of_W (B := bodyOf Try.f61) (n := 35) Try.func61 (by kernel_rfl) (by kernel_rfl) (by kernel_rfl) (by kernel_rfl) (by kernel_rfl) ?_
  intro K
  refine W_seq (by kernel_rfl) ?_
  refine W_run 1 [] [0] [] (fr' := [(0, aD (.int .u64) a0)]) (L' := []) (obs := []) (by kernel_rfl) (by kernel_rfl) (by kernel_rfl) allP0 ?_
  refine seqQ_norm ?_
  refine W_seq (by kernel_rfl) ?_
  refine W_run 7 [] [0] [] (fr' := [(0, aD (.int .u64) (IntKind.wrap .u64 ((bAnd .u64 (bShr .u64 a0 (1 : Int)) (6148914691236517205 : Int)) + (bAnd .u64 a0 (6148914691236517205 : Int)))))]) (L' := []) (obs := [(0 ≤ (1 : Int))]) (by kernel_rfl) (by kernel_rfl) (by kernel_rfl) (allP1 (by decide)) ?_
  refine seqQ_norm ?_
  refine W_seq (by kernel_rfl) ?_
  refine W_run 7 [] [0] [] (fr' := [(0, aD (.int .u64) (IntKind.wrap .u64 ((bAnd .u64 (bShr .u64 (IntKind.wrap .u64 ((bAnd .u64 (bShr .u64 a0 (1 : Int)) (6148914691236517205 : Int)) + (bAnd .u64 a0 (6148914691236517205 : Int)))) (2 : Int)) (3689348814741910323 : Int)) + (bAnd .u64 (IntKind.wrap .u64 ((bAnd .u64 (bShr .u64 a0 (1 : Int)) (6148914691236517205 : Int)) + (bAnd .u64 a0 (6148914691236517205 : Int)))) (3689348814741910323 : Int)))))]) (L' := []) (obs := [(0 ≤ (2 : Int))]) (by kernel_rfl) (by kernel_rfl) (by kernel_rfl) (allP1 (by decide)) ?_
  refine seqQ_norm ?_
  refine W_seq (by kernel_rfl) ?_
  refine W_run 6 [] [0] [] (fr' := [(0, aD (.int .u64) (bAnd .u64 (IntKind.wrap .u64 ((bShr .u64 (IntKind.wrap .u64 ((bAnd .u64 (bShr .u64 (IntKind.wrap .u64 ((bAnd .u64 (bShr .u64 a0 (1 : Int)) (6148914691236517205 : Int)) + (bAnd .u64 a0 (6148914691236517205 : Int)))) (2 : Int)) (3689348814741910323 : Int)) + (bAnd .u64 (IntKind.wrap .u64 ((bAnd .u64 (bShr .u64 a0 (1 : Int)) (6148914691236517205 : Int)) + (bAnd .u64 a0 (6148914691236517205 : Int)))) (3689348814741910323 : Int)))) (4 : Int)) + (IntKind.wrap .u64 ((bAnd .u64 (bShr .u64 (IntKind.wrap .u64 ((bAnd .u64 (bShr .u64 a0 (1 : Int)) (6148914691236517205 : Int)) + (bAnd .u64 a0 (6148914691236517205 : Int)))) (2 : Int)) (3689348814741910323 : Int)) + (bAnd .u64 (IntKind.wrap .u64 ((bAnd .u64 (bShr .u64 a0 (1 : Int)) (6148914691236517205 : Int)) + (bAnd .u64 a0 (6148914691236517205 : Int)))) (3689348814741910323 : Int)))))) (1085102592571150095 : Int)))]) (L' := []) (obs := [(0 ≤ (4 : Int))]) (by kernel_rfl) (by kernel_rfl) (by kernel_rfl) (allP1 (by decide)) ?_
  refine seqQ_norm ?_
  refine W_seq (by kernel_rfl) ?_
  refine W_run 5 [] [0] [] (fr' := [(0, aD (.int .u64) (IntKind.wrap .u64 ((bAnd .u64 (IntKind.wrap .u64 ((bShr .u64 (IntKind.wrap .u64 ((bAnd .u64 (bShr .u64 (IntKind.wrap .u64 ((bAnd .u64 (bShr .u64 a0 (1 : Int)) (6148914691236517205 : Int)) + (bAnd .u64 a0 (6148914691236517205 : Int)))) (2 : Int)) (3689348814741910323 : Int)) + (bAnd .u64 (IntKind.wrap .u64 ((bAnd .u64 (bShr .u64 a0 (1 : Int)) (6148914691236517205 : Int)) + (bAnd .u64 a0 (6148914691236517205 : Int)))) (3689348814741910323 : Int)))) (4 : Int)) + (IntKind.wrap .u64 ((bAnd .u64 (bShr .u64 (IntKind.wrap .u64 ((bAnd .u64 (bShr .u64 a0 (1 : Int)) (6148914691236517205 : Int)) + (bAnd .u64 a0 (6148914691236517205 : Int)))) (2 : Int)) (3689348814741910323 : Int)) + (bAnd .u64 (IntKind.wrap .u64 ((bAnd .u64 (bShr .u64 a0 (1 : Int)) (6148914691236517205 : Int)) + (bAnd .u64 a0 (6148914691236517205 : Int)))) (3689348814741910323 : Int)))))) (1085102592571150095 : Int)) + (bShr .u64 (bAnd .u64 (IntKind.wrap .u64 ((bShr .u64 (IntKind.wrap .u64 ((bAnd .u64 (bShr .u64 (IntKind.wrap .u64 ((bAnd .u64 (bShr .u64 a0 (1 : Int)) (6148914691236517205 : Int)) + (bAnd .u64 a0 (6148914691236517205 : Int)))) (2 : Int)) (3689348814741910323 : Int)) + (bAnd .u64 (IntKind.wrap .u64 ((bAnd .u64 (bShr .u64 a0 (1 : Int)) (6148914691236517205 : Int)) + (bAnd .u64 a0 (6148914691236517205 : Int)))) (3689348814741910323 : Int)))) (4 : Int)) + (IntKind.wrap .u64 ((bAnd .u64 (bShr .u64 (IntKind.wrap .u64 ((bAnd .u64 (bShr .u64 a0 (1 : Int)) (6148914691236517205 : Int)) + (bAnd .u64 a0 (6148914691236517205 : Int)))) (2 : Int)) (3689348814741910323 : Int)) + (bAnd .u64 (IntKind.wrap .u64 ((bAnd .u64 (bShr .u64 a0 (1 : Int)) (6148914691236517205 : Int)) + (bAnd .u64 a0 (6148914691236517205 : Int)))) (3689348814741910323 : Int)))))) (1085102592571150095 : Int)) (8 : Int)))))]) (L' := []) (obs := [(0 ≤ (8 : Int))]) (by kernel_rfl) (by kernel_rfl) (by kernel_rfl) (allP1 (by decide)) ?_
  refine seqQ_norm ?_
  refine W_seq (by kernel_rfl) ?_
  refine W_run 5 [] [0] [] (fr' := [(0, aD (.int .u64) (IntKind.wrap .u64 ((IntKind.wrap .u64 ((bAnd .u64 (IntKind.wrap .u64 ((bShr .u64 (IntKind.wrap .u64 ((bAnd .u64 (bShr .u64 (IntKind.wrap .u64 ((bAnd .u64 (bShr .u64 a0 (1 : Int)) (6148914691236517205 : Int)) + (bAnd .u64 a0 (6148914691236517205 : Int)))) (2 : Int)) (3689348814741910323 : Int)) + (bAnd .u64 (IntKind.wrap .u64 ((bAnd .u64 (bShr .u64 a0 (1 : Int)) (6148914691236517205 : Int)) + (bAnd .u64 a0 (6148914691236517205 : Int)))) (3689348814741910323 : Int)))) (4 : Int)) + (IntKind.wrap .u64 ((bAnd .u64 (bShr .u64 (IntKind.wrap .u64 ((bAnd .u64 (bShr .u64 a0 (1 : Int)) (6148914691236517205 : Int)) + (bAnd .u64 a0 (6148914691236517205 : Int)))) (2 : Int)) (3689348814741910323 : Int)) + (bAnd .u64 (IntKind.wrap .u64 ((bAnd .u64 (bShr .u64 a0 (1 : Int)) (6148914691236517205 : Int)) + (bAnd .u64 a0 (6148914691236517205 : Int)))) (3689348814741910323 : Int)))))) (1085102592571150095 : Int)) + (bShr .u64 (bAnd .u64 (IntKind.wrap .u64 ((bShr .u64 (IntKind.wrap .u64 ((bAnd .u64 (bShr .u64 (IntKind.wrap .u64 ((bAnd .u64 (bShr .u64 a0 (1 : Int)) (6148914691236517205 : Int)) + (bAnd .u64 a0 (6148914691236517205 : Int)))) (2 : Int)) (3689348814741910323 : Int)) + (bAnd .u64 (IntKind.wrap .u64 ((bAnd .u64 (bShr .u64 a0 (1 : Int)) (6148914691236517205 : Int)) + (bAnd .u64 a0 (6148914691236517205 : Int)))) (3689348814741910323 : Int)))) (4 : Int)) + (IntKind.wrap .u64 ((bAnd .u64 (bShr .u64 (IntKind.wrap .u64 ((bAnd .u64 (bShr .u64 a0 (1 : Int)) (6148914691236517205 : Int)) + (bAnd .u64 a0 (6148914691236517205 : Int)))) (2 : Int)) (3689348814741910323 : Int)) + (bAnd .u64 (IntKind.wrap .u64 ((bAnd .u64 (bShr .u64 a0 (1 : Int)) (6148914691236517205 : Int)) + (bAnd .u64 a0 (6148914691236517205 : Int)))) (3689348814741910323 : Int)))))) (1085102592571150095 : Int)) (8 : Int)))) + (bShr .u64 (IntKind.wrap .u64 ((bAnd .u64 (IntKind.wrap .u64 ((bShr .u64 (IntKind.wrap .u64 ((bAnd .u64 (bShr .u64 (IntKind.wrap .u64 ((bAnd .u64 (bShr .u64 a0 (1 : Int)) (6148914691236517205 : Int)) + (bAnd .u64 a0 (6148914691236517205 : Int)))) (2 : Int)) (3689348814741910323 : Int)) + (bAnd .u64 (IntKind.wrap .u64 ((bAnd .u64 (bShr .u64 a0 (1 : Int)) (6148914691236517205 : Int)) + (bAnd .u64 a0 (6148914691236517205 : Int)))) (3689348814741910323 : Int)))) (4 : Int)) + (IntKind.wrap .u64 ((bAnd .u64 (bShr .u64 (IntKind.wrap .u64 ((bAnd .u64 (bShr .u64 a0 (1 : Int)) (6148914691236517205 : Int)) + (bAnd .u64 a0 (6148914691236517205 : Int)))) (2 : Int)) (3689348814741910323 : Int)) + (bAnd .u64 (IntKind.wrap .u64 ((bAnd .u64 (bShr .u64 a0 (1 : Int)) (6148914691236517205 : Int)) + (bAnd .u64 a0 (6148914691236517205 : Int)))) (3689348814741910323 : Int)))))) (1085102592571150095 : Int)) + (bShr .u64 (bAnd .u64 (IntKind.wrap .u64 ((bShr .u64 (IntKind.wrap .u64 ((bAnd .u64 (bShr .u64 (IntKind.wrap .u64 ((bAnd .u64 (bShr .u64 a0 (1 : Int)) (6148914691236517205 : Int)) + (bAnd .u64 a0 (6148914691236517205 : Int)))) (2 : Int)) (3689348814741910323 : Int)) + (bAnd .u64 (IntKind.wrap .u64 ((bAnd .u64 (bShr .u64 a0 (1 : Int)) (6148914691236517205 : Int)) + (bAnd .u64 a0 (6148914691236517205 : Int)))) (3689348814741910323 : Int)))) (4 : Int)) + (IntKind.wrap .u64 ((bAnd .u64 (bShr .u64 (IntKind.wrap .u64 ((bAnd .u64 (bShr .u64 a0 (1 : Int)) (6148914691236517205 : Int)) + (bAnd .u64 a0 (6148914691236517205 : Int)))) (2 : Int)) (3689348814741910323 : Int)) + (bAnd .u64 (IntKind.wrap .u64 ((bAnd .u64 (bShr .u64 a0 (1 : Int)) (6148914691236517205 : Int)) + (bAnd .u64 a0 (6148914691236517205 : Int)))) (3689348814741910323 : Int)))))) (1085102592571150095 : Int)) (8 : Int)))) (16 : Int)))))]) (L' := []) (obs := [(0 ≤ (16 : Int))]) (by kernel_rfl) (by kernel_rfl) (by kernel_rfl) (allP1 (by decide)) ?_
  refine seqQ_norm ?_
  refine W_seq (by kernel_rfl) ?_
  refine W_run 5 [] [0] [] (fr' := [(0, aD (.int .u64) (IntKind.wrap .u64 ((IntKind.wrap .u64 ((IntKind.wrap .u64 ((bAnd .u64 (IntKind.wrap .u64 ((bShr .u64 (IntKind.wrap .u64 ((bAnd .u64 (bShr .u64 (IntKind.wrap .u64 ((bAnd .u64 (bShr .u64 a0 (1 : Int)) (6148914691236517205 : Int)) + (bAnd .u64 a0 (6148914691236517205 : Int)))) (2 : Int)) (3689348814741910323 : Int)) + (bAnd .u64 (IntKind.wrap .u64 ((bAnd .u64 (bShr .u64 a0 (1 : Int)) (6148914691236517205 : Int)) + (bAnd .u64 a0 (6148914691236517205 : Int)))) (3689348814741910323 : Int)))) (4 : Int)) + (IntKind.wrap .u64 ((bAnd .u64 (bShr .u64 (IntKind.wrap .u64 ((bAnd .u64 (bShr .u64 a0 (1 : Int)) (6148914691236517205 : Int)) + (bAnd .u64 a0 (6148914691236517205 : Int)))) (2 : Int)) (3689348814741910323 : Int)) + (bAnd .u64 (IntKind.wrap .u64 ((bAnd .u64 (bShr .u64 a0 (1 : Int)) (6148914691236517205 : Int)) + (bAnd .u64 a0 (6148914691236517205 : Int)))) (3689348814741910323 : Int)))))) (1085102592571150095 : Int)) + (bShr .u64 (bAnd .u64 (IntKind.wrap .u64 ((bShr .u64 (IntKind.wrap .u64 ((bAnd .u64 (bShr .u64 (IntKind.wrap .u64 ((bAnd .u64 (bShr .u64 a0 (1 : Int)) (6148914691236517205 : Int)) + (bAnd .u64 a0 (6148914691236517205 : Int)))) (2 : Int)) (3689348814741910323 : Int)) + (bAnd .u64 (IntKind.wrap .u64 ((bAnd .u64 (bShr .u64 a0 (1 : Int)) (6148914691236517205 : Int)) + (bAnd .u64 a0 (6148914691236517205 : Int)))) (3689348814741910323 : Int)))) (4 : Int)) + (IntKind.wrap .u64 ((bAnd .u64 (bShr .u64 (IntKind.wrap .u64 ((bAnd .u64 (bShr .u64 a0 (1 : Int)) (6148914691236517205 : Int)) + (bAnd .u64 a0 (6148914691236517205 : Int)))) (2 : Int)) (3689348814741910323 : Int)) + (bAnd .u64 (IntKind.wrap .u64 ((bAnd .u64 (bShr .u64 a0 (1 : Int)) (6148914691236517205 : Int)) + (bAnd .u64 a0 (6148914691236517205 : Int)))) (3689348814741910323 : Int)))))) (1085102592571150095 : Int)) (8 : Int)))) + (bShr .u64 (IntKind.wrap .u64 ((bAnd .u64 (IntKind.wrap .u64 ((bShr .u64 (IntKind.wrap .u64 ((bAnd .u64 (bShr .u64 (IntKind.wrap .u64 ((bAnd .u64 (bShr .u64 a0 (1 : Int)) (6148914691236517205 : Int)) + (bAnd .u64 a0 (6148914691236517205 : Int)))) (2 : Int)) (3689348814741910323 : Int)) + (bAnd .u64 (IntKind.wrap .u64 ((bAnd .u64 (bShr .u64 a0 (1 : Int)) (6148914691236517205 : Int)) + (bAnd .u64 a0 (6148914691236517205 : Int)))) (3689348814741910323 : Int)))) (4 : Int)) + (IntKind.wrap .u64 ((bAnd .u64 (bShr .u64 (IntKind.wrap .u64 ((bAnd .u64 (bShr .u64 a0 (1 : Int)) (6148914691236517205 : Int)) + (bAnd .u64 a0 (6148914691236517205 : Int)))) (2 : Int)) (3689348814741910323 : Int)) + (bAnd .u64 (IntKind.wrap .u64 ((bAnd .u64 (bShr .u64 a0 (1 : Int)) (6148914691236517205 : Int)) + (bAnd .u64 a0 (6148914691236517205 : Int)))) (3689348814741910323 : Int)))))) (1085102592571150095 : Int)) + (bShr .u64 (bAnd .u64 (IntKind.wrap .u64 ((bShr .u64 (IntKind.wrap .u64 ((bAnd .u64 (bShr .u64 (IntKind.wrap .u64 ((bAnd .u64 (bShr .u64 a0 (1 : Int)) (6148914691236517205 : Int)) + (bAnd .u64 a0 (6148914691236517205 : Int)))) (2 : Int)) (3689348814741910323 : Int)) + (bAnd .u64 (IntKind.wrap .u64 ((bAnd .u64 (bShr .u64 a0 (1 : Int)) (6148914691236517205 : Int)) + (bAnd .u64 a0 (6148914691236517205 : Int)))) (3689348814741910323 : Int)))) (4 : Int)) + (IntKind.wrap .u64 ((bAnd .u64 (bShr .u64 (IntKind.wrap .u64 ((bAnd .u64 (bShr .u64 a0 (1 : Int)) (6148914691236517205 : Int)) + (bAnd .u64 a0 (6148914691236517205 : Int)))) (2 : Int)) (3689348814741910323 : Int)) + (bAnd .u64 (IntKind.wrap .u64 ((bAnd .u64 (bShr .u64 a0 (1 : Int)) (6148914691236517205 : Int)) + (bAnd .u64 a0 (6148914691236517205 : Int)))) (3689348814741910323 : Int)))))) (1085102592571150095 : Int)) (8 : Int)))) (16 : Int)))) + (bShr .u64 (IntKind.wrap .u64 ((IntKind.wrap .u64 ((bAnd .u64 (IntKind.wrap .u64 ((bShr .u64 (IntKind.wrap .u64 ((bAnd .u64 (bShr .u64 (IntKind.wrap .u64 ((bAnd .u64 (bShr .u64 a0 (1 : Int)) (6148914691236517205 : Int)) + (bAnd .u64 a0 (6148914691236517205 : Int)))) (2 : Int)) (3689348814741910323 : Int)) + (bAnd .u64 (IntKind.wrap .u64 ((bAnd .u64 (bShr .u64 a0 (1 : Int)) (6148914691236517205 : Int)) + (bAnd .u64 a0 (6148914691236517205 : Int)))) (3689348814741910323 : Int)))) (4 : Int)) + (IntKind.wrap .u64 ((bAnd .u64 (bShr .u64 (IntKind.wrap .u64 ((bAnd .u64 (bShr .u64 a0 (1 : Int)) (6148914691236517205 : Int)) + (bAnd .u64 a0 (6148914691236517205 : Int)))) (2 : Int)) (3689348814741910323 : Int)) + (bAnd .u64 (IntKind.wrap .u64 ((bAnd .u64 (bShr .u64 a0 (1 : Int)) (6148914691236517205 : Int)) + (bAnd .u64 a0 (6148914691236517205 : Int)))) (3689348814741910323 : Int)))))) (1085102592571150095 : Int)) + (bShr .u64 (bAnd .u64 (IntKind.wrap .u64 ((bShr .u64 (IntKind.wrap .u64 ((bAnd .u64 (bShr .u64 (IntKind.wrap .u64 ((bAnd .u64 (bShr .u64 a0 (1 : Int)) (6148914691236517205 : Int)) + (bAnd .u64 a0 (6148914691236517205 : Int)))) (2 : Int)) (3689348814741910323 : Int)) + (bAnd .u64 (IntKind.wrap .u64 ((bAnd .u64 (bShr .u64 a0 (1 : Int)) (6148914691236517205 : Int)) + (bAnd .u64 a0 (6148914691236517205 : Int)))) (3689348814741910323 : Int)))) (4 : Int)) + (IntKind.wrap .u64 ((bAnd .u64 (bShr .u64 (IntKind.wrap .u64 ((bAnd .u64 (bShr .u64 a0 (1 : Int)) (6148914691236517205 : Int)) + (bAnd .u64 a0 (6148914691236517205 : Int)))) (2 : Int)) (3689348814741910323 : Int)) + (bAnd .u64 (IntKind.wrap .u64 ((bAnd .u64 (bShr .u64 a0 (1 : Int)) (6148914691236517205 : Int)) + (bAnd .u64 a0 (6148914691236517205 : Int)))) (3689348814741910323 : Int)))))) (1085102592571150095 : Int)) (8 : Int)))) + (bShr .u64 (IntKind.wrap .u64 ((bAnd .u64 (IntKind.wrap .u64 ((bShr .u64 (IntKind.wrap .u64 ((bAnd .u64 (bShr .u64 (IntKind.wrap .u64 ((bAnd .u64 (bShr .u64 a0 (1 : Int)) (6148914691236517205 : Int)) + (bAnd .u64 a0 (6148914691236517205 : Int)))) (2 : Int)) (3689348814741910323 : Int)) + (bAnd .u64 (IntKind.wrap .u64 ((bAnd .u64 (bShr .u64 a0 (1 : Int)) (6148914691236517205 : Int)) + (bAnd .u64 a0 (6148914691236517205 : Int)))) (3689348814741910323 : Int)))) (4 : Int)) + (IntKind.wrap .u64 ((bAnd .u64 (bShr .u64 (IntKind.wrap .u64 ((bAnd .u64 (bShr .u64 a0 (1 : Int)) (6148914691236517205 : Int)) + (bAnd .u64 a0 (6148914691236517205 : Int)))) (2 : Int)) (3689348814741910323 : Int)) + (bAnd .u64 (IntKind.wrap .u64 ((bAnd .u64 (bShr .u64 a0 (1 : Int)) (6148914691236517205 : Int)) + (bAnd .u64 a0 (6148914691236517205 : Int)))) (3689348814741910323 : Int)))))) (1085102592571150095 : Int)) + (bShr .u64 (bAnd .u64 (IntKind.wrap .u64 ((bShr .u64 (IntKind.wrap .u64 ((bAnd .u64 (bShr .u64 (IntKind.wrap .u64 ((bAnd .u64 (bShr .u64 a0 (1 : Int)) (6148914691236517205 : Int)) + (bAnd .u64 a0 (6148914691236517205 : Int)))) (2 : Int)) (3689348814741910323 : Int)) + (bAnd .u64 (IntKind.wrap .u64 ((bAnd .u64 (bShr .u64 a0 (1 : Int)) (6148914691236517205 : Int)) + (bAnd .u64 a0 (6148914691236517205 : Int)))) (3689348814741910323 : Int)))) (4 : Int)) + (IntKind.wrap .u64 ((bAnd .u64 (bShr .u64 (IntKind.wrap .u64 ((bAnd .u64 (bShr .u64 a0 (1 : Int)) (6148914691236517205 : Int)) + (bAnd .u64 a0 (6148914691236517205 : Int)))) (2 : Int)) (3689348814741910323 : Int)) + (bAnd .u64 (IntKind.wrap .u64 ((bAnd .u64 (bShr .u64 a0 (1 : Int)) (6148914691236517205 : Int)) + (bAnd .u64 a0 (6148914691236517205 : Int)))) (3689348814741910323 : Int)))))) (1085102592571150095 : Int)) (8 : Int)))) (16 : Int)))) (32 : Int)))))]) (L' := []) (obs := [(0 ≤ (32 : Int))]) (by kernel_rfl) (by kernel_rfl) (by kernel_rfl) (allP1 (by decide)) ?_
  refine seqQ_norm ?_
  refine W_seq (by kernel_rfl) ?_
  refine W_run 4 [] [2] [] (fr' := [(2, aI (bAnd .i64 (w64 (IntKind.wrap .u64 ((IntKind.wrap .u64 ((IntKind.wrap .u64 ((bAnd .u64 (IntKind.wrap .u64 ((bShr .u64 (IntKind.wrap .u64 ((bAnd .u64 (bShr .u64 (IntKind.wrap .u64 ((bAnd .u64 (bShr .u64 a0 (1 : Int)) (6148914691236517205 : Int)) + (bAnd .u64 a0 (6148914691236517205 : Int)))) (2 : Int)) (3689348814741910323 : Int)) + (bAnd .u64 (IntKind.wrap .u64 ((bAnd .u64 (bShr .u64 a0 (1 : Int)) (6148914691236517205 : Int)) + (bAnd .u64 a0 (6148914691236517205 : Int)))) (3689348814741910323 : Int)))) (4 : Int)) + (IntKind.wrap .u64 ((bAnd .u64 (bShr .u64 (IntKind.wrap .u64 ((bAnd .u64 (bShr .u64 a0 (1 : Int)) (6148914691236517205 : Int)) + (bAnd .u64 a0 (6148914691236517205 : Int)))) (2 : Int)) (3689348814741910323 : Int)) + (bAnd .u64 (IntKind.wrap .u64 ((bAnd .u64 (bShr .u64 a0 (1 : Int)) (6148914691236517205 : Int)) + (bAnd .u64 a0 (6148914691236517205 : Int)))) (3689348814741910323 : Int)))))) (1085102592571150095 : Int)) + (bShr .u64 (bAnd .u64 (IntKind.wrap .u64 ((bShr .u64 (IntKind.wrap .u64 ((bAnd .u64 (bShr .u64 (IntKind.wrap .u64 ((bAnd .u64 (bShr .u64 a0 (1 : Int)) (6148914691236517205 : Int)) + (bAnd .u64 a0 (6148914691236517205 : Int)))) (2 : Int)) (3689348814741910323 : Int)) + (bAnd .u64 (IntKind.wrap .u64 ((bAnd .u64 (bShr .u64 a0 (1 : Int)) (6148914691236517205 : Int)) + (bAnd .u64 a0 (6148914691236517205 : Int)))) (3689348814741910323 : Int)))) (4 : Int)) + (IntKind.wrap .u64 ((bAnd .u64 (bShr .u64 (IntKind.wrap .u64 ((bAnd .u64 (bShr .u64 a0 (1 : Int)) (6148914691236517205 : Int)) + (bAnd .u64 a0 (6148914691236517205 : Int)))) (2 : Int)) (3689348814741910323 : Int)) + (bAnd .u64 (IntKind.wrap .u64 ((bAnd .u64 (bShr .u64 a0 (1 : Int)) (6148914691236517205 : Int)) + (bAnd .u64 a0 (6148914691236517205 : Int)))) (3689348814741910323 : Int)))))) (1085102592571150095 : Int)) (8 : Int)))) + (bShr .u64 (IntKind.wrap .u64 ((bAnd .u64 (IntKind.wrap .u64 ((bShr .u64 (IntKind.wrap .u64 ((bAnd .u64 (bShr .u64 (IntKind.wrap .u64 ((bAnd .u64 (bShr .u64 a0 (1 : Int)) (6148914691236517205 : Int)) + (bAnd .u64 a0 (6148914691236517205 : Int)))) (2 : Int)) (3689348814741910323 : Int)) + (bAnd .u64 (IntKind.wrap .u64 ((bAnd .u64 (bShr .u64 a0 (1 : Int)) (6148914691236517205 : Int)) + (bAnd .u64 a0 (6148914691236517205 : Int)))) (3689348814741910323 : Int)))) (4 : Int)) + (IntKind.wrap .u64 ((bAnd .u64 (bShr .u64 (IntKind.wrap .u64 ((bAnd .u64 (bShr .u64 a0 (1 : Int)) (6148914691236517205 : Int)) + (bAnd .u64 a0 (6148914691236517205 : Int)))) (2 : Int)) (3689348814741910323 : Int)) + (bAnd .u64 (IntKind.wrap .u64 ((bAnd .u64 (bShr .u64 a0 (1 : Int)) (6148914691236517205 : Int)) + (bAnd .u64 a0 (6148914691236517205 : Int)))) (3689348814741910323 : Int)))))) (1085102592571150095 : Int)) + (bShr .u64 (bAnd .u64 (IntKind.wrap .u64 ((bShr .u64 (IntKind.wrap .u64 ((bAnd .u64 (bShr .u64 (IntKind.wrap .u64 ((bAnd .u64 (bShr .u64 a0 (1 : Int)) (6148914691236517205 : Int)) + (bAnd .u64 a0 (6148914691236517205 : Int)))) (2 : Int)) (3689348814741910323 : Int)) + (bAnd .u64 (IntKind.wrap .u64 ((bAnd .u64 (bShr .u64 a0 (1 : Int)) (6148914691236517205 : Int)) + (bAnd .u64 a0 (6148914691236517205 : Int)))) (3689348814741910323 : Int)))) (4 : Int)) + (IntKind.wrap .u64 ((bAnd .u64 (bShr .u64 (IntKind.wrap .u64 ((bAnd .u64 (bShr .u64 a0 (1 : Int)) (6148914691236517205 : Int)) + (bAnd .u64 a0 (6148914691236517205 : Int)))) (2 : Int)) (3689348814741910323 : Int)) + (bAnd .u64 (IntKind.wrap .u64 ((bAnd .u64 (bShr .u64 a0 (1 : Int)) (6148914691236517205 : Int)) + (bAnd .u64 a0 (6148914691236517205 : Int)))) (3689348814741910323 : Int)))))) (1085102592571150095 : Int)) (8 : Int)))) (16 : Int)))) + (bShr .u64 (IntKind.wrap .u64 ((IntKind.wrap .u64 ((bAnd .u64 (IntKind.wrap .u64 ((bShr .u64 (IntKind.wrap .u64 ((bAnd .u64 (bShr .u64 (IntKind.wrap .u64 ((bAnd .u64 (bShr .u64 a0 (1 : Int)) (6148914691236517205 : Int)) + (bAnd .u64 a0 (6148914691236517205 : Int)))) (2 : Int)) (3689348814741910323 : Int)) + (bAnd .u64 (IntKind.wrap .u64 ((bAnd .u64 (bShr .u64 a0 (1 : Int)) (6148914691236517205 : Int)) + (bAnd .u64 a0 (6148914691236517205 : Int)))) (3689348814741910323 : Int)))) (4 : Int)) + (IntKind.wrap .u64 ((bAnd .u64 (bShr .u64 (IntKind.wrap .u64 ((bAnd .u64 (bShr .u64 a0 (1 : Int)) (6148914691236517205 : Int)) + (bAnd .u64 a0 (6148914691236517205 : Int)))) (2 : Int)) (3689348814741910323 : Int)) + (bAnd .u64 (IntKind.wrap .u64 ((bAnd .u64 (bShr .u64 a0 (1 : Int)) (6148914691236517205 : Int)) + (bAnd .u64 a0 (6148914691236517205 : Int)))) (3689348814741910323 : Int)))))) (1085102592571150095 : Int)) + (bShr .u64 (bAnd .u64 (IntKind.wrap .u64 ((bShr .u64 (IntKind.wrap .u64 ((bAnd .u64 (bShr .u64 (IntKind.wrap .u64 ((bAnd .u64 (bShr .u64 a0 (1 : Int)) (6148914691236517205 : Int)) + (bAnd .u64 a0 (6148914691236517205 : Int)))) (2 : Int)) (3689348814741910323 : Int)) + (bAnd .u64 (IntKind.wrap .u64 ((bAnd .u64 (bShr .u64 a0 (1 : Int)) (6148914691236517205 : Int)) + (bAnd .u64 a0 (6148914691236517205 : Int)))) (3689348814741910323 : Int)))) (4 : Int)) + (IntKind.wrap .u64 ((bAnd .u64 (bShr .u64 (IntKind.wrap .u64 ((bAnd .u64 (bShr .u64 a0 (1 : Int)) (6148914691236517205 : Int)) + (bAnd .u64 a0 (6148914691236517205 : Int)))) (2 : Int)) (3689348814741910323 : Int)) + (bAnd .u64 (IntKind.wrap .u64 ((bAnd .u64 (bShr .u64 a0 (1 : Int)) (6148914691236517205 : Int)) + (bAnd .u64 a0 (6148914691236517205 : Int)))) (3689348814741910323 : Int)))))) (1085102592571150095 : Int)) (8 : Int)))) + (bShr .u64 (IntKind.wrap .u64 ((bAnd .u64 (IntKind.wrap .u64 ((bShr .u64 (IntKind.wrap .u64 ((bAnd .u64 (bShr .u64 (IntKind.wrap .u64 ((bAnd .u64 (bShr .u64 a0 (1 : Int)) (6148914691236517205 : Int)) + (bAnd .u64 a0 (6148914691236517205 : Int)))) (2 : Int)) (3689348814741910323 : Int)) + (bAnd .u64 (IntKind.wrap .u64 ((bAnd .u64 (bShr .u64 a0 (1 : Int)) (6148914691236517205 : Int)) + (bAnd .u64 a0 (6148914691236517205 : Int)))) (3689348814741910323 : Int)))) (4 : Int)) + (IntKind.wrap .u64 ((bAnd .u64 (bShr .u64 (IntKind.wrap .u64 ((bAnd .u64 (bShr .u64 a0 (1 : Int)) (6148914691236517205 : Int)) + (bAnd .u64 a0 (6148914691236517205 : Int)))) (2 : Int)) (3689348814741910323 : Int)) + (bAnd .u64 (IntKind.wrap .u64 ((bAnd .u64 (bShr .u64 a0 (1 : Int)) (6148914691236517205 : Int)) + (bAnd .u64 a0 (6148914691236517205 : Int)))) (3689348814741910323 : Int)))))) (1085102592571150095 : Int)) + (bShr .u64 (bAnd .u64 (IntKind.wrap .u64 ((bShr .u64 (IntKind.wrap .u64 ((bAnd .u64 (bShr .u64 (IntKind.wrap .u64 ((bAnd .u64 (bShr .u64 a0 (1 : Int)) (6148914691236517205 : Int)) + (bAnd .u64 a0 (6148914691236517205 : Int)))) (2 : Int)) (3689348814741910323 : Int)) + (bAnd .u64 (IntKind.wrap .u64 ((bAnd .u64 (bShr .u64 a0 (1 : Int)) (6148914691236517205 : Int)) + (bAnd .u64 a0 (6148914691236517205 : Int)))) (3689348814741910323 : Int)))) (4 : Int)) + (IntKind.wrap .u64 ((bAnd .u64 (bShr .u64 (IntKind.wrap .u64 ((bAnd .u64 (bShr .u64 a0 (1 : Int)) (6148914691236517205 : Int)) + (bAnd .u64 a0 (6148914691236517205 : Int)))) (2 : Int)) (3689348814741910323 : Int)) + (bAnd .u64 (IntKind.wrap .u64 ((bAnd .u64 (bShr .u64 a0 (1 : Int)) (6148914691236517205 : Int)) + (bAnd .u64 a0 (6148914691236517205 : Int)))) (3689348814741910323 : Int)))))) (1085102592571150095 : Int)) (8 : Int)))) (16 : Int)))) (32 : Int))))) (127 : Int)))]) (L' := []) (obs := []) (by kernel_rfl) (by kernel_rfl) (by kernel_rfl) allP0 ?_
  refine seqQ_norm ?_
  obtain rfl := Option.some.inj h
  refine W_ret [2] [] (fr' := [(2, aI (bAnd .i64 (w64 (IntKind.wrap .u64 ((IntKind.wrap .u64 ((IntKind.wrap .u64 ((bAnd .u64 (IntKind.wrap .u64 ((bShr .u64 (IntKind.wrap .u64 ((bAnd .u64 (bShr .u64 (IntKind.wrap .u64 ((bAnd .u64 (bShr .u64 a0 (1 : Int)) (6148914691236517205 : Int)) + (bAnd .u64 a0 (6148914691236517205 : Int)))) (2 : Int)) (3689348814741910323 : Int)) + (bAnd .u64 (IntKind.wrap .u64 ((bAnd .u64 (bShr .u64 a0 (1 : Int)) (6148914691236517205 : Int)) + (bAnd .u64 a0 (6148914691236517205 : Int)))) (3689348814741910323 : Int)))) (4 : Int)) + (IntKind.wrap .u64 ((bAnd .u64 (bShr .u64 (IntKind.wrap .u64 ((bAnd .u64 (bShr .u64 a0 (1 : Int)) (6148914691236517205 : Int)) + (bAnd .u64 a0 (6148914691236517205 : Int)))) (2 : Int)) (3689348814741910323 : Int)) + (bAnd .u64 (IntKind.wrap .u64 ((bAnd .u64 (bShr .u64 a0 (1 : Int)) (6148914691236517205 : Int)) + (bAnd .u64 a0 (6148914691236517205 : Int)))) (3689348814741910323 : Int)))))) (1085102592571150095 : Int)) + (bShr .u64 (bAnd .u64 (IntKind.wrap .u64 ((bShr .u64 (IntKind.wrap .u64 ((bAnd .u64 (bShr .u64 (IntKind.wrap .u64 ((bAnd .u64 (bShr .u64 a0 (1 : Int)) (6148914691236517205 : Int)) + (bAnd .u64 a0 (6148914691236517205 : Int)))) (2 : Int)) (3689348814741910323 : Int)) + (bAnd .u64 (IntKind.wrap .u64 ((bAnd .u64 (bShr .u64 a0 (1 : Int)) (6148914691236517205 : Int)) + (bAnd .u64 a0 (6148914691236517205 : Int)))) (3689348814741910323 : Int)))) (4 : Int)) + (IntKind.wrap .u64 ((bAnd .u64 (bShr .u64 (IntKind.wrap .u64 ((bAnd .u64 (bShr .u64 a0 (1 : Int)) (6148914691236517205 : Int)) + (bAnd .u64 a0 (6148914691236517205 : Int)))) (2 : Int)) (3689348814741910323 : Int)) + (bAnd .u64 (IntKind.wrap .u64 ((bAnd .u64 (bShr .u64 a0 (1 : Int)) (6148914691236517205 : Int)) + (bAnd .u64 a0 (6148914691236517205 : Int)))) (3689348814741910323 : Int)))))) (1085102592571150095 : Int)) (8 : Int)))) + (bShr .u64 (IntKind.wrap .u64 ((bAnd .u64 (IntKind.wrap .u64 ((bShr .u64 (IntKind.wrap .u64 ((bAnd .u64 (bShr .u64 (IntKind.wrap .u64 ((bAnd .u64 (bShr .u64 a0 (1 : Int)) (6148914691236517205 : Int)) + (bAnd .u64 a0 (6148914691236517205 : Int)))) (2 : Int)) (3689348814741910323 : Int)) + (bAnd .u64 (IntKind.wrap .u64 ((bAnd .u64 (bShr .u64 a0 (1 : Int)) (6148914691236517205 : Int)) + (bAnd .u64 a0 (6148914691236517205 : Int)))) (3689348814741910323 : Int)))) (4 : Int)) + (IntKind.wrap .u64 ((bAnd .u64 (bShr .u64 (IntKind.wrap .u64 ((bAnd .u64 (bShr .u64 a0 (1 : Int)) (6148914691236517205 : Int)) + (bAnd .u64 a0 (6148914691236517205 : Int)))) (2 : Int)) (3689348814741910323 : Int)) + (bAnd .u64 (IntKind.wrap .u64 ((bAnd .u64 (bShr .u64 a0 (1 : Int)) (6148914691236517205 : Int)) + (bAnd .u64 a0 (6148914691236517205 : Int)))) (3689348814741910323 : Int)))))) (1085102592571150095 : Int)) + (bShr .u64 (bAnd .u64 (IntKind.wrap .u64 ((bShr .u64 (IntKind.wrap .u64 ((bAnd .u64 (bShr .u64 (IntKind.wrap .u64 ((bAnd .u64 (bShr .u64 a0 (1 : Int)) (6148914691236517205 : Int)) + (bAnd .u64 a0 (6148914691236517205 : Int)))) (2 : Int)) (3689348814741910323 : Int)) + (bAnd .u64 (IntKind.wrap .u64 ((bAnd .u64 (bShr .u64 a0 (1 : Int)) (6148914691236517205 : Int)) + (bAnd .u64 a0 (6148914691236517205 : Int)))) (3689348814741910323 : Int)))) (4 : Int)) + (IntKind.wrap .u64 ((bAnd .u64 (bShr .u64 (IntKind.wrap .u64 ((bAnd .u64 (bShr .u64 a0 (1 : Int)) (6148914691236517205 : Int)) + (bAnd .u64 a0 (6148914691236517205 : Int)))) (2 : Int)) (3689348814741910323 : Int)) + (bAnd .u64 (IntKind.wrap .u64 ((bAnd .u64 (bShr .u64 a0 (1 : Int)) (6148914691236517205 : Int)) + (bAnd .u64 a0 (6148914691236517205 : Int)))) (3689348814741910323 : Int)))))) (1085102592571150095 : Int)) (8 : Int)))) (16 : Int)))) + (bShr .u64 (IntKind.wrap .u64 ((IntKind.wrap .u64 ((bAnd .u64 (IntKind.wrap .u64 ((bShr .u64 (IntKind.wrap .u64 ((bAnd .u64 (bShr .u64 (IntKind.wrap .u64 ((bAnd .u64 (bShr .u64 a0 (1 : Int)) (6148914691236517205 : Int)) + (bAnd .u64 a0 (6148914691236517205 : Int)))) (2 : Int)) (3689348814741910323 : Int)) + (bAnd .u64 (IntKind.wrap .u64 ((bAnd .u64 (bShr .u64 a0 (1 : Int)) (6148914691236517205 : Int)) + (bAnd .u64 a0 (6148914691236517205 : Int)))) (3689348814741910323 : Int)))) (4 : Int)) + (IntKind.wrap .u64 ((bAnd .u64 (bShr .u64 (IntKind.wrap .u64 ((bAnd .u64 (bShr .u64 a0 (1 : Int)) (6148914691236517205 : Int)) + (bAnd .u64 a0 (6148914691236517205 : Int)))) (2 : Int)) (3689348814741910323 : Int)) + (bAnd .u64 (IntKind.wrap .u64 ((bAnd .u64 (bShr .u64 a0 (1 : Int)) (6148914691236517205 : Int)) + (bAnd .u64 a0 (6148914691236517205 : Int)))) (3689348814741910323 : Int)))))) (1085102592571150095 : Int)) + (bShr .u64 (bAnd .u64 (IntKind.wrap .u64 ((bShr .u64 (IntKind.wrap .u64 ((bAnd .u64 (bShr .u64 (IntKind.wrap .u64 ((bAnd .u64 (bShr .u64 a0 (1 : Int)) (6148914691236517205 : Int)) + (bAnd .u64 a0 (6148914691236517205 : Int)))) (2 : Int)) (3689348814741910323 : Int)) + (bAnd .u64 (IntKind.wrap .u64 ((bAnd .u64 (bShr .u64 a0 (1 : Int)) (6148914691236517205 : Int)) + (bAnd .u64 a0 (6148914691236517205 : Int)))) (3689348814741910323 : Int)))) (4 : Int)) + (IntKind.wrap .u64 ((bAnd .u64 (bShr .u64 (IntKind.wrap .u64 ((bAnd .u64 (bShr .u64 a0 (1 : Int)) (6148914691236517205 : Int)) + (bAnd .u64 a0 (6148914691236517205 : Int)))) (2 : Int)) (3689348814741910323 : Int)) + (bAnd .u64 (IntKind.wrap .u64 ((bAnd .u64 (bShr .u64 a0 (1 : Int)) (6148914691236517205 : Int)) + (bAnd .u64 a0 (6148914691236517205 : Int)))) (3689348814741910323 : Int)))))) (1085102592571150095 : Int)) (8 : Int)))) + (bShr .u64 (IntKind.wrap .u64 ((bAnd .u64 (IntKind.wrap .u64 ((bShr .u64 (IntKind.wrap .u64 ((bAnd .u64 (bShr .u64 (IntKind.wrap .u64 ((bAnd .u64 (bShr .u64 a0 (1 : Int)) (6148914691236517205 : Int)) + (bAnd .u64 a0 (6148914691236517205 : Int)))) (2 : Int)) (3689348814741910323 : Int)) + (bAnd .u64 (IntKind.wrap .u64 ((bAnd .u64 (bShr .u64 a0 (1 : Int)) (6148914691236517205 : Int)) + (bAnd .u64 a0 (6148914691236517205 : Int)))) (3689348814741910323 : Int)))) (4 : Int)) + (IntKind.wrap .u64 ((bAnd .u64 (bShr .u64 (IntKind.wrap .u64 ((bAnd .u64 (bShr .u64 a0 (1 : Int)) (6148914691236517205 : Int)) + (bAnd .u64 a0 (6148914691236517205 : Int)))) (2 : Int)) (3689348814741910323 : Int)) + (bAnd .u64 (IntKind.wrap .u64 ((bAnd .u64 (bShr .u64 a0 (1 : Int)) (6148914691236517205 : Int)) + (bAnd .u64 a0 (6148914691236517205 : Int)))) (3689348814741910323 : Int)))))) (1085102592571150095 : Int)) + (bShr .u64 (bAnd .u64 (IntKind.wrap .u64 ((bShr .u64 (IntKind.wrap .u64 ((bAnd .u64 (bShr .u64 (IntKind.wrap .u64 ((bAnd .u64 (bShr .u64 a0 (1 : Int)) (6148914691236517205 : Int)) + (bAnd .u64 a0 (6148914691236517205 : Int)))) (2 : Int)) (3689348814741910323 : Int)) + (bAnd .u64 (IntKind.wrap .u64 ((bAnd .u64 (bShr .u64 a0 (1 : Int)) (6148914691236517205 : Int)) + (bAnd .u64 a0 (6148914691236517205 : Int)))) (3689348814741910323 : Int)))) (4 : Int)) + (IntKind.wrap .u64 ((bAnd .u64 (bShr .u64 (IntKind.wrap .u64 ((bAnd .u64 (bShr .u64 a0 (1 : Int)) (6148914691236517205 : Int)) + (bAnd .u64 a0 (6148914691236517205 : Int)))) (2 : Int)) (3689348814741910323 : Int)) + (bAnd .u64 (IntKind.wrap .u64 ((bAnd .u64 (bShr .u64 a0 (1 : Int)) (6148914691236517205 : Int)) + (bAnd .u64 a0 (6148914691236517205 : Int)))) (3689348814741910323 : Int)))))) (1085102592571150095 : Int)) (8 : Int)))) (16 : Int)))) (32 : Int))))) (127 : Int)))]) (L' := []) (by kernel_rfl) (by kernel_rfl) ?_
  exact retQ_mk (by kernel_rfl) (by kernel_rfl) (by kernel_rfl)

def math_bits_OnesCount (a0 : Int) : Option Int :=
(math_bits_OnesCount64 a0).bind fun r2 =>
some r2
theorem math_bits_OnesCount_ok {a0 : Int} {r : Int} (h : math_bits_OnesCount a0 = some r) : FnC Try.prog 50 [aD (.int .u64) a0] [] (aI r) [] := by
  refine fnC_of_W (B := bodyOf Try.f50) (n := 8) Try.func50 (by kernel_rfl) (by kernel_rfl) (by kernel_rfl) (by kernel_rfl) (by kernel_rfl) ?_
  intro K
  refine W_seq (by kernel_rfl) ?_
  refine W_run 1 [] [0] [] (fr' := [(0, aD (.int .u64) a0)]) (L' := []) (obs := []) (by kernel_rfl) (by kernel_rfl) (by kernel_rfl) allP0 ?_
  refine seqQ_norm ?_
  refine W_seq (by kernel_rfl) ?_
  refine W_cond (o := .const (.bool false)) (b := false) (by kernel_rfl) (by kernel_rfl) (fun h1 => by have := (rfl : false = false).symm.trans h1; cases this) (fun h1 => ?_)
  refine W_skip [0] [] (fr' := [(0, aD (.int .u64) a0)]) (L' := []) (by kernel_rfl) (by kernel_rfl) ?_
  refine seqQ_norm ?_
  refine W_seq (by kernel_rfl) ?_
  refine W_region (by kernel_rfl) ?_
  refine WO_run (j := 1) (k := 1) (orcs := []) (kF := [6]) (kL := []) (fr' := [(6, aD (.int .u64) a0)]) (L' := []) (obs := []) rfl (by kernel_rfl) allP0 ?_
  obtain ⟨r2, h3, h⟩ := bind_of h
  refine WO_call0 (us := [none]) (d := 7) (p := True) (j := 2) rfl ⟨by kernel_rfl, by kernel_rfl, by kernel_rfl⟩ trivial (math_bits_OnesCount64_ok h3) (by kernel_rfl) ?_
  refine WO_run (j := 3) (k := 1) (orcs := []) (kF := [2]) (kL := []) (fr' := [(2, aI r2)]) (L' := []) (obs := []) rfl (by kernel_rfl) allP0 ?_
  refine WO_fin [2] [] (fr' := [(2, aI r2)]) (L' := []) (by kernel_rfl) (by kernel_rfl) ?_
  refine seqQ_norm ?_
  obtain rfl := Option.some.inj h
  refine W_ret [2] [] (fr' := [(2, aI r2)]) (L' := []) (by kernel_rfl) (by kernel_rfl) ?_
  exact retQ_mk (by kernel_rfl) (by kernel_rfl) (by kernel_rfl)

def talk_Rects_g23 (a1 : Bool) (v4 : (List Bool)) (i116 : Int) (i154 : Int) (x155 : Int) (v157 : Bool) : Option Int :=
bif v157 == a1 then
((ck (0 ≤ w64 ((w64 ((List.length v4 : Int) * i116)) + i154))).bind fun _ =>
some (bOr .u64 x155 (bShl .u64 (1 : Int) (w64 ((w64 ((List.length v4 : Int) * i116)) + i154)))))
else
(some x155)
@[reducible] def talk_Rects_s24 (a0 : (List (List Bool))) (a1 : Bool) (v4 : (List Bool)) (i116 : Int) (v119 : (List Bool)) (i154 : Int) (v : Int) : Fr × LL := ([(0, aD (.slice (.slice .bool)) a0), (1, aB a1), (7, aI (List.length v4 : Int)), (8, aD (.int .u64) v), (9, aI i116), (33, aD (.slice (.slice .bool)) a0), (34, aI (List.length a0 : Int)), (35, aI i116), (40, aD (.slice .bool) v119), (41, aI (List.length v119 : Int)), (42, aI i154)], [])
def talk_Rects_b25 (a1 : Bool) (v4 : (List Bool)) (i116 : Int) (i154 : Int) (v157 : Bool) (x155 : Int) : Option (Flow Int Int) :=
(talk_Rects_g23 a1 v4 i116 i154 x155 v157).bind fun v166 =>
some (.next v166)
@[reducible] def talk_Rects_s26 (a0 : (List (List Bool))) (a1 : Bool) (v4 : (List Bool)) (i116 : Int) (v119 : (List Bool)) (v : Int × Int) : Fr × LL := ([(0, aD (.slice (.slice .bool)) a0), (1, aB a1), (7, aI (List.length v4 : Int)), (8, aD (.int .u64) v.2), (9, aI i116), (33, aD (.slice (.slice .bool)) a0), (34, aI (List.length a0 : Int)), (35, aI i116), (40, aD (.slice .bool) v119), (41, aI (List.length v119 : Int)), (42, aI v.1)], [])
@[reducible] def talk_Rects_s27 (a0 : (List (List Bool))) (a1 : Bool) (v4 : (List Bool)) (i116 : Int) (v : Int) : Fr × LL := ([(0, aD (.slice (.slice .bool)) a0), (1, aB a1), (7, aI (List.length v4 : Int)), (8, aD (.int .u64) v), (33, aD (.slice (.slice .bool)) a0), (34, aI (List.length a0 : Int)), (35, aI i116)], [])
def talk_Rects_b28 (a1 : Bool) (v4 : (List Bool)) (i116 : Int) (v119 : (List Bool)) (x117 : Int) : Option (Flow Int Int) :=
(forL (talk_Rects_b25 a1 v4 i116) (fun x155 => x155) v119 0 x117).bind fun v169 =>
some (.next v169)
@[reducible] def talk_Rects_s29 (a0 : (List (List Bool))) (a1 : Bool) (v4 : (List Bool)) (v : Int × Int) : Fr × LL := ([(0, aD (.slice (.slice .bool)) a0), (1, aB a1), (7, aI (List.length v4 : Int)), (8, aD (.int .u64) v.2), (33, aD (.slice (.slice .bool)) a0), (34, aI (List.length a0 : Int)), (35, aI v.1)], [])
@[reducible] def talk_Rects_s30 (a0 : (List (List Bool))) (v4 : (List Bool)) (v : Int) : Fr × LL := ([(0, aD (.slice (.slice .bool)) a0), (7, aI (List.length v4 : Int)), (8, aD (.int .u64) v)], [])
def talk_Rects_g183 (v4 : (List Bool)) (v175 : Int) (x467 : (Int × (List Int))) (i973 : Int) (x974 : Int) : Option Int :=
(ck (0 ≤ i973)).bind fun _ =>
bif (bAnd .u64 (bShr .u64 x467.1 i973) (1 : Int)) == (1 : Int) then
((ck (0 ≤ w64 ((List.length v4 : Int) * i973))).bind fun _ =>
some (bAnd .u64 x974 (bAnd .u64 (bShr .u64 v175 (w64 ((List.length v4 : Int) * i973))) (IntKind.wrap .u64 ((bShl .u64 (1 : Int) (List.length v4 : Int)) - (1 : Int))))))
else
(some x974)
@[reducible] def talk_Rects_s184 (a0 : (List (List Bool))) (v4 : (List Bool)) (v175 : Int) (x467 : (Int × (List Int))) (i973 : Int) (v : Int) : Fr × LL := ([(0, aD (.slice (.slice .bool)) a0), (7, aI (List.length v4 : Int)), (8, aD (.int .u64) v175), (13, .one (.slc 115)), (14, aD (.int .u64) x467.1), (15, aD (.int .u64) v), (71, aI (List.length a0 : Int)), (72, aI i973)], [(115, .seq (.int .u64) x467.2)])
def talk_Rects_b185 (v4 : (List Bool)) (v175 : Int) (x467 : (Int × (List Int))) (i973 : Int) (v976 : (List Bool)) (x974 : Int) : Option (Flow Int Int) :=
(talk_Rects_g183 v4 v175 x467 i973 x974).bind fun v988 =>
some (.next v988)
@[reducible] def talk_Rects_s186 (a0 : (List (List Bool))) (v4 : (List Bool)) (v175 : Int) (x467 : (Int × (List Int))) (v : Int × Int) : Fr × LL := ([(0, aD (.slice (.slice .bool)) a0), (7, aI (List.length v4 : Int)), (8, aD (.int .u64) v175), (13, .one (.slc 115)), (14, aD (.int .u64) x467.1), (15, aD (.int .u64) v.2), (71, aI (List.length a0 : Int)), (72, aI v.1)], [(115, .seq (.int .u64) x467.2)])
@[reducible] def talk_Rects_s187 (a0 : (List (List Bool))) (v4 : (List Bool)) (v175 : Int) (x467 : (Int × (List Int))) (v : Int) : Fr × LL := ([(0, aD (.slice (.slice .bool)) a0), (7, aI (List.length v4 : Int)), (8, aD (.int .u64) v175), (13, .one (.slc 115)), (14, aD (.int .u64) x467.1), (15, aD (.int .u64) v)], [(115, .seq (.int .u64) x467.2)])
def talk_Rects_g192 (v4 : (List Bool)) (x467 : (Int × (List Int))) (v991 : Int) (i1019 : Int) (x1020 : Int) : Option Int :=
(ck (0 ≤ i1019)).bind fun _ =>
bif (bAnd .u64 (bShr .u64 x467.1 i1019) (1 : Int)) == (1 : Int) then
((ck (0 ≤ w64 ((List.length v4 : Int) * i1019))).bind fun _ =>
some (bOr .u64 x1020 (bShl .u64 v991 (w64 ((List.length v4 : Int) * i1019)))))
else
(some x1020)
@[reducible] def talk_Rects_s193 (a0 : (List (List Bool))) (v4 : (List Bool)) (v175 : Int) (x467 : (Int × (List Int))) (v991 : Int) (i1019 : Int) (v : Int) : Fr × LL := ([(0, aD (.slice (.slice .bool)) a0), (7, aI (List.length v4 : Int)), (8, aD (.int .u64) v175), (13, .one (.slc 115)), (14, aD (.int .u64) x467.1), (15, aD (.int .u64) v991), (17, aD (.int .u64) v), (93, aI (List.length a0 : Int)), (94, aI i1019)], [(115, .seq (.int .u64) x467.2)])
def talk_Rects_b194 (v4 : (List Bool)) (x467 : (Int × (List Int))) (v991 : Int) (i1019 : Int) (v1022 : (List Bool)) (x1020 : Int) : Option (Flow Int Int) :=
(talk_Rects_g192 v4 x467 v991 i1019 x1020).bind fun v1034 =>
some (.next v1034)
@[reducible] def talk_Rects_s195 (a0 : (List (List Bool))) (v4 : (List Bool)) (v175 : Int) (x467 : (Int × (List Int))) (v991 : Int) (v : Int × Int) : Fr × LL := ([(0, aD (.slice (.slice .bool)) a0), (7, aI (List.length v4 : Int)), (8, aD (.int .u64) v175), (13, .one (.slc 115)), (14, aD (.int .u64) x467.1), (15, aD (.int .u64) v991), (17, aD (.int .u64) v.2), (93, aI (List.length a0 : Int)), (94, aI v.1)], [(115, .seq (.int .u64) x467.2)])
@[reducible] def talk_Rects_s196 (a0 : (List (List Bool))) (v4 : (List Bool)) (v175 : Int) (x467 : (Int × (List Int))) (v991 : Int) (v : Int) : Fr × LL := ([(0, aD (.slice (.slice .bool)) a0), (7, aI (List.length v4 : Int)), (8, aD (.int .u64) v175), (13, .one (.slc 115)), (14, aD (.int .u64) x467.1), (15, aD (.int .u64) v991), (17, aD (.int .u64) v)], [(115, .seq (.int .u64) x467.2)])
def talk_Rects_g197 (a0 : (List (List Bool))) (v4 : (List Bool)) (v175 : Int) (x467 : (Int × (List Int))) : Option (List Int) :=
(ck (0 ≤ (List.length v4 : Int))).bind fun _ =>
(forL (talk_Rects_b185 v4 v175 x467) (fun x974 => x974) a0 0 (IntKind.wrap .u64 ((bShl .u64 (1 : Int) (List.length v4 : Int)) - (1 : Int)))).bind fun v991 =>
(forL (talk_Rects_b194 v4 x467 v991) (fun x1020 => x1020) a0 0 (0 : Int)).bind fun v1037 =>
bif v991 != (0 : Int) then
((ck ((List.length x467.2 : Int) + 1 ≤ 4294967296)).bind fun _ =>
some (x467.2 ++ [v1037]))
else
(some x467.2)
@[reducible] def talk_Rects_s198 (a0 : (List (List Bool))) (v4 : (List Bool)) (v175 : Int) (x467 : (Int × (List Int))) (v : (List Int)) : Fr × LL := ([(0, aD (.slice (.slice .bool)) a0), (7, aI (List.length v4 : Int)), (8, aD (.int .u64) v175), (13, .one (.slc 115)), (14, aD (.int .u64) x467.1)], [(115, .seq (.int .u64) v)])
def talk_Rects_b199 (a0 : (List (List Bool))) (v4 : (List Bool)) (v175 : Int) (x467 : (Int × (List Int))) : Option (Flow (Int × (List Int)) (List Int)) :=
(ck (0 ≤ (List.length a0 : Int))).bind fun _ =>
bif decide (x467.1 < (bShl .u64 (1 : Int) (List.length a0 : Int))) then
((talk_Rects_g197 a0 v4 v175 x467).bind fun v1044 =>
some (.next (IntKind.wrap .u64 (x467.1 + (1 : Int)), v1044)))
else
(some (.done x467.2))
@[reducible] def talk_Rects_s200 (a0 : (List (List Bool))) (v4 : (List Bool)) (v175 : Int) (v : (Int × (List Int))) : Fr × LL := ([(0, aD (.slice (.slice .bool)) a0), (7, aI (List.length v4 : Int)), (8, aD (.int .u64) v175), (13, .one (.slc 115)), (14, aD (.int .u64) v.1)], [(115, .seq (.int .u64) v.2)])
@[reducible] def talk_Rects_s201 (v175 : Int) (v : (List Int)) : Fr × LL := ([(8, aD (.int .u64) v175), (13, .one (.slc 115))], [(115, .seq (.int .u64) v)])
@[reducible] def talk_Rects_s271 (v175 : Int) (v1046 : (List Int)) (x1213 : (Int × Int)) (i1507 : Int) (v : Int) : Fr × LL := ([(8, aD (.int .u64) v175), (13, .one (.slc 115)), (19, aI x1213.1), (20, aD (.int .u64) x1213.2), (21, aD (.int .u64) v), (120, aD (.int .u64) (bShl .u64 (1 : Int) (List.length v1046 : Int))), (121, aD (.int .u64) x1213.2), (124, .one (.slc 115)), (125, aI (List.length v1046 : Int)), (126, aI i1507)], [(115, .seq (.int .u64) v1046)])
def talk_Rects_b272 (x1213 : (Int × Int)) (i1507 : Int) (v1510 : Int) (x1508 : Int) : Option (Flow Int Int) :=
((ck (0 ≤ i1507)).bind fun _ =>
bif (bAnd .u64 (bShr .u64 x1213.2 i1507) (1 : Int)) == (1 : Int) then
(some (bOr .u64 x1508 v1510))
else
(some x1508)).bind fun v1519 =>
some (.next v1519)
@[reducible] def talk_Rects_s273 (v175 : Int) (v1046 : (List Int)) (x1213 : (Int × Int)) (v : Int × Int) : Fr × LL := ([(8, aD (.int .u64) v175), (13, .one (.slc 115)), (19, aI x1213.1), (20, aD (.int .u64) x1213.2), (21, aD (.int .u64) v.2), (120, aD (.int .u64) (bShl .u64 (1 : Int) (List.length v1046 : Int))), (121, aD (.int .u64) x1213.2), (124, .one (.slc 115)), (125, aI (List.length v1046 : Int)), (126, aI v.1)], [(115, .seq (.int .u64) v1046)])
@[reducible] def talk_Rects_s274 (v175 : Int) (v1046 : (List Int)) (x1213 : (Int × Int)) (v : Int) : Fr × LL := ([(8, aD (.int .u64) v175), (13, .one (.slc 115)), (19, aI x1213.1), (20, aD (.int .u64) x1213.2), (21, aD (.int .u64) v), (120, aD (.int .u64) (bShl .u64 (1 : Int) (List.length v1046 : Int))), (121, aD (.int .u64) x1213.2)], [(115, .seq (.int .u64) v1046)])
def talk_Rects_g275 (v175 : Int) (v1046 : (List Int)) (x1213 : (Int × Int)) : Option Int :=
(forL (talk_Rects_b272 x1213) (fun x1508 => x1508) v1046 0 (0 : Int)).bind fun v1522 =>
bif v1522 == v175 then
((math_bits_OnesCount x1213.2).bind fun r1528 =>
some (imin x1213.1 r1528))
else
(some x1213.1)
@[reducible] def talk_Rects_s276 (v175 : Int) (v1046 : (List Int)) (x1213 : (Int × Int)) (v : Int) : Fr × LL := ([(8, aD (.int .u64) v175), (13, .one (.slc 115)), (19, aI v), (120, aD (.int .u64) (bShl .u64 (1 : Int) (List.length v1046 : Int))), (121, aD (.int .u64) x1213.2)], [(115, .seq (.int .u64) v1046)])
def talk_Rects_b277 (v175 : Int) (v1046 : (List Int)) (x1213 : (Int × Int)) : Option (Flow (Int × Int) Int) :=
bif decide (x1213.2 < (bShl .u64 (1 : Int) (List.length v1046 : Int))) then
((talk_Rects_g275 v175 v1046 x1213).bind fun v1530 =>
some (.next (v1530, IntKind.wrap .u64 (x1213.2 + (1 : Int)))))
else
(some (.done x1213.1))
@[reducible] def talk_Rects_s278 (v175 : Int) (v1046 : (List Int)) (v : (Int × Int)) : Fr × LL := ([(8, aD (.int .u64) v175), (13, .one (.slc 115)), (19, aI v.1), (120, aD (.int .u64) (bShl .u64 (1 : Int) (List.length v1046 : Int))), (121, aD (.int .u64) v.2)], [(115, .seq (.int .u64) v1046)])
@[reducible] def talk_Rects_s279 (v : Int) : Fr × LL := ([(19, aI v)], [])
def talk_Rects (fuel : Nat) (a0 : (List (List Bool))) (a1 : Bool) : Option (Int × Int) :=
(talk_wrong a0).bind fun r1 =>
bif r1 != (0 : Int) then
(some ((0 : Int), r1))
else
((idx a0 (0 : Int)).bind fun v4 =>
(forL (talk_Rects_b28 a1 v4) (fun x117 => x117) a0 0 (0 : Int)).bind fun v175 =>
(iter (talk_Rects_b199 a0 v4 v175) fuel ((1 : Int), [])).bind fun v1046 =>
(math_bits_OnesCount v175).bind fun r1050 =>
(ck (0 ≤ (List.length v1046 : Int))).bind fun _ =>
(iter (talk_Rects_b277 v175 v1046) fuel (r1050, (0 : Int))).bind fun v1532 =>
some (v1532, (0 : Int)))
theorem talk_Rects_ok {fuel : Nat} {a0 : (List (List Bool))} {a1 : Bool} {r : (Int × Int)} (h : talk_Rects fuel a0 a1 = some r) : FnC Try.prog 25 [aD (.slice (.slice .bool)) a0, aB a1] [] (.tup [.dat tI r.1, .dat tI r.2]) [] := by
  refine fnC_of_W (B := bodyOf Try.f25) (n := 149) Try.func25 (by kernel_rfl) (by kernel_rfl) (by kernel_rfl) (by kernel_rfl) (by kernel_rfl) ?_
  intro K
  refine W_seq (by kernel_rfl) ?_
  refine W_run 2 [] [0, 1] [] (fr' := [(0, aD (.slice (.slice .bool)) a0), (1, aB a1)]) (L' := []) (obs := []) (by kernel_rfl) (by kernel_rfl) (by kernel_rfl) allP0 ?_
  refine seqQ_norm ?_
  refine W_seq (by kernel_rfl) ?_
  refine W_seq (by kernel_rfl) ?_
  refine W_region (by kernel_rfl) ?_
  refine WO_run (j := 1) (k := 1) (orcs := []) (kF := [0, 1, 24]) (kL := []) (fr' := [(0, aD (.slice (.slice .bool)) a0), (1, aB a1), (24, aD (.slice (.slice .bool)) a0)]) (L' := []) (obs := []) rfl (by kernel_rfl) allP0 ?_
  obtain ⟨r1, h2, h⟩ := bind_of h
  refine WO_call0 (us := [none]) (d := 25) (p := True) (j := 2) rfl ⟨by kernel_rfl, by kernel_rfl, by kernel_rfl⟩ trivial (talk_wrong_ok h2) (by kernel_rfl) ?_
  refine WO_run (j := 3) (k := 1) (orcs := []) (kF := [0, 1, 6]) (kL := []) (fr' := [(0, aD (.slice (.slice .bool)) a0), (1, aB a1), (6, aI r1)]) (L' := []) (obs := []) rfl (by kernel_rfl) allP0 ?_
  refine WO_fin [0, 1, 6] [] (fr' := [(0, aD (.slice (.slice .bool)) a0), (1, aB a1), (6, aI r1)]) (L' := []) (by kernel_rfl) (by kernel_rfl) ?_
  refine seqQ_norm ?_
  refine W_seq (by kernel_rfl) ?_
  refine W_run 2 [] [0, 1, 6, 27] [] (fr' := [(0, aD (.slice (.slice .bool)) a0), (1, aB a1), (6, aI r1), (27, aB (r1 != (0 : Int)))]) (L' := []) (obs := []) (by kernel_rfl) (by kernel_rfl) (by kernel_rfl) allP0 ?_
  refine seqQ_norm ?_
  refine W_cond (o := .tmp 27) (b := r1 != (0 : Int)) (by kernel_rfl) (by kernel_rfl) (fun h3 => ?_) (fun h3 => ?_)
  · replace h := ofT h3 h
    refine W_seq (by kernel_rfl) ?_
    refine W_run 3 [] [4, 5] [] (fr' := [(4, aI (0 : Int)), (5, aI r1)]) (L' := []) (obs := []) (by kernel_rfl) (by kernel_rfl) (by kernel_rfl) allP0 ?_
    refine seqQ_norm ?_
    obtain rfl := Option.some.inj h
    refine W_ret [4, 5] [] (fr' := [(4, aI (0 : Int)), (5, aI r1)]) (L' := []) (by kernel_rfl) (by kernel_rfl) ?_
    refine seqQ_ret ?_
    exact retQ_mk (by kernel_rfl) (by kernel_rfl) (by kernel_rfl)
  · replace h := ofF h3 h
    refine W_skip [0, 1] [] (fr' := [(0, aD (.slice (.slice .bool)) a0), (1, aB a1)]) (L' := []) (by kernel_rfl) (by kernel_rfl) ?_
    refine seqQ_norm ?_
    refine W_seq (by kernel_rfl) ?_
    obtain ⟨v4, h5, h⟩ := bind_of h
    refine W_run 5 [(3, .val (.dat (.slice .bool) v4))] [0, 1, 7] [] (fr' := [(0, aD (.slice (.slice .bool)) a0), (1, aB a1), (7, aI (List.length v4 : Int))]) (L' := []) (obs := [Idx a0 (0 : Int) v4]) (by kernel_rfl) (by kernel_rfl) (by kernel_rfl) (allP1 (Idx.of h5)) ?_
    refine seqQ_norm ?_
    refine W_seq (by kernel_rfl) ?_
    refine W_run 1 [] [0, 1, 7, 8] [] (fr' := [(0, aD (.slice (.slice .bool)) a0), (1, aB a1), (7, aI (List.length v4 : Int)), (8, aD (.int .u64) (0 : Int))]) (L' := []) (obs := []) (by kernel_rfl) (by kernel_rfl) (by kernel_rfl) allP0 ?_
    refine seqQ_norm ?_
    refine W_seq (by kernel_rfl) ?_
    refine W_seq (by kernel_rfl) ?_
    refine W_run 3 [] [0, 1, 7, 8, 33, 34, 35] [] (fr' := [(0, aD (.slice (.slice .bool)) a0), (1, aB a1), (7, aI (List.length v4 : Int)), (8, aD (.int .u64) (0 : Int)), (33, aD (.slice (.slice .bool)) a0), (34, aI (List.length a0 : Int)), (35, aI (0 : Int))]) (L' := []) (obs := []) (by kernel_rfl) (by kernel_rfl) (by kernel_rfl) allP0 ?_
    refine seqQ_norm ?_
    refine W_block (id := 0) (by kernel_rfl) ?_
    obtain ⟨v175, h176, h⟩ := bind_of h
    refine W_len (t := 33) (u := (.slice .bool)) (xs := a0) (by kernel_rfl) (fun h179 => ?_)
    obtain ⟨h177, h178⟩ := forL_iter h179 h176
    refine W_weaken [0, 1, 7, 8, 33, 34, 35] [] (fr' := ((talk_Rects_s29 a0 a1 v4) ((0 : Int), (0 : Int))).1) (L' := ((talk_Rects_s29 a0 a1 v4) ((0 : Int), (0 : Int))).2) (by kernel_rfl) ?_
    refine W_cutK (W_loop (S := (talk_Rects_s29 a0 a1 v4)) (J := (exQ (.exit 0) (talk_Rects_s30 a0 v4))) (by kernel_rfl) ?_ h177 _ v175 h178) ?_
    · rintro ⟨i116, x117⟩ s h
      refine W_seq (by kernel_rfl) ?_
      refine W_run 1 [] [0, 1, 7, 8, 33, 34, 35, 36] [] (fr' := [(0, aD (.slice (.slice .bool)) a0), (1, aB a1), (7, aI (List.length v4 : Int)), (8, aD (.int .u64) x117), (33, aD (.slice (.slice .bool)) a0), (34, aI (List.length a0 : Int)), (35, aI i116), (36, aB (decide (i116 < (List.length a0 : Int))))]) (L' := []) (obs := []) (by kernel_rfl) (by kernel_rfl) (by kernel_rfl) allP0 ?_
      refine seqQ_norm ?_
      refine W_seq (by kernel_rfl) ?_
      refine W_cond (o := .tmp 36) (b := decide (i116 < (List.length a0 : Int))) (by kernel_rfl) (by kernel_rfl) (fun h121 => ?_) (fun h121 => ?_)
      · replace h := stepL_true h121 h
        obtain ⟨v119, _, h120, h, rfl⟩ := h
        refine W_skip [0, 1, 7, 8, 33, 34, 35] [] (fr' := [(0, aD (.slice (.slice .bool)) a0), (1, aB a1), (7, aI (List.length v4 : Int)), (8, aD (.int .u64) x117), (33, aD (.slice (.slice .bool)) a0), (34, aI (List.length a0 : Int)), (35, aI i116)]) (L' := []) (by kernel_rfl) (by kernel_rfl) ?_
        refine seqQ_norm ?_
        refine W_seq (by kernel_rfl) ?_
        refine W_block (id := 1) (by kernel_rfl) ?_
        refine W_seq (by kernel_rfl) ?_
        refine W_run 5 [(3, .val (.dat (.slice .bool) v119))] [0, 1, 7, 8, 9, 10, 33, 34, 35] [] (fr' := [(0, aD (.slice (.slice .bool)) a0), (1, aB a1), (7, aI (List.length v4 : Int)), (8, aD (.int .u64) x117), (9, aI i116), (10, aD (.slice .bool) v119), (33, aD (.slice (.slice .bool)) a0), (34, aI (List.length a0 : Int)), (35, aI i116)]) (L' := []) (obs := [Idx a0 i116 v119]) (by kernel_rfl) (by kernel_rfl) (by kernel_rfl) (allP1 (Idx.of h120)) ?_
        refine seqQ_norm ?_
        refine W_seq (by kernel_rfl) ?_
        refine W_run 3 [] [0, 1, 7, 8, 9, 33, 34, 35, 40, 41, 42] [] (fr' := [(0, aD (.slice (.slice .bool)) a0), (1, aB a1), (7, aI (List.length v4 : Int)), (8, aD (.int .u64) x117), (9, aI i116), (33, aD (.slice (.slice .bool)) a0), (34, aI (List.length a0 : Int)), (35, aI i116), (40, aD (.slice .bool) v119), (41, aI (List.length v119 : Int)), (42, aI (0 : Int))]) (L' := []) (obs := []) (by kernel_rfl) (by kernel_rfl) (by kernel_rfl) allP0 ?_
        refine seqQ_norm ?_
        refine W_block (id := 2) (by kernel_rfl) ?_
        obtain ⟨v169, h170, h⟩ := bind_of h
        refine W_len (t := 40) (u := .bool) (xs := v119) (by kernel_rfl) (fun h173 => ?_)
        obtain ⟨h171, h172⟩ := forL_iter h173 h170
        refine W_weaken [0, 1, 7, 8, 9, 33, 34, 35, 40, 41, 42] [] (fr' := ((talk_Rects_s26 a0 a1 v4 i116 v119) ((0 : Int), x117)).1) (L' := ((talk_Rects_s26 a0 a1 v4 i116 v119) ((0 : Int), x117)).2) (by kernel_rfl) ?_
        refine W_cutK (W_loop (S := (talk_Rects_s26 a0 a1 v4 i116 v119)) (J := (exQ (.exit 2) (talk_Rects_s27 a0 a1 v4 i116))) (by kernel_rfl) ?_ h171 _ v169 h172) ?_
        · rintro ⟨i154, x155⟩ s h
          refine W_seq (by kernel_rfl) ?_
          refine W_run 1 [] [0, 1, 7, 8, 9, 33, 34, 35, 40, 41, 42, 43] [] (fr' := [(0, aD (.slice (.slice .bool)) a0), (1, aB a1), (7, aI (List.length v4 : Int)), (8, aD (.int .u64) x155), (9, aI i116), (33, aD (.slice (.slice .bool)) a0), (34, aI (List.length a0 : Int)), (35, aI i116), (40, aD (.slice .bool) v119), (41, aI (List.length v119 : Int)), (42, aI i154), (43, aB (decide (i154 < (List.length v119 : Int))))]) (L' := []) (obs := []) (by kernel_rfl) (by kernel_rfl) (by kernel_rfl) allP0 ?_
          refine seqQ_norm ?_
          refine W_seq (by kernel_rfl) ?_
          refine W_cond (o := .tmp 43) (b := decide (i154 < (List.length v119 : Int))) (by kernel_rfl) (by kernel_rfl) (fun h159 => ?_) (fun h159 => ?_)
          · replace h := stepL_true h159 h
            obtain ⟨v157, _, h158, h, rfl⟩ := h
            refine W_skip [0, 1, 7, 8, 9, 33, 34, 35, 40, 41, 42] [] (fr' := [(0, aD (.slice (.slice .bool)) a0), (1, aB a1), (7, aI (List.length v4 : Int)), (8, aD (.int .u64) x155), (9, aI i116), (33, aD (.slice (.slice .bool)) a0), (34, aI (List.length a0 : Int)), (35, aI i116), (40, aD (.slice .bool) v119), (41, aI (List.length v119 : Int)), (42, aI i154)]) (L' := []) (by kernel_rfl) (by kernel_rfl) ?_
            refine seqQ_norm ?_
            refine W_seq (by kernel_rfl) ?_
            obtain ⟨v166, h167, h⟩ := bind_of h
            refine W_cutK (Q' := (exQ .normal (talk_Rects_s24 a0 a1 v4 i116 v119 i154)) v166) ?_ ?_
            · replace h := h167
              refine W_block (id := 3) (by kernel_rfl) ?_
              refine W_seq (by kernel_rfl) ?_
              refine W_run 5 [(3, .val (.dat .bool v157))] [0, 1, 7, 8, 9, 11, 12, 33, 34, 35, 40, 41, 42] [] (fr' := [(0, aD (.slice (.slice .bool)) a0), (1, aB a1), (7, aI (List.length v4 : Int)), (8, aD (.int .u64) x155), (9, aI i116), (11, aI i154), (12, aB v157), (33, aD (.slice (.slice .bool)) a0), (34, aI (List.length a0 : Int)), (35, aI i116), (40, aD (.slice .bool) v119), (41, aI (List.length v119 : Int)), (42, aI i154)]) (L' := []) (obs := [Idx v119 i154 v157]) (by kernel_rfl) (by kernel_rfl) (by kernel_rfl) (allP1 (Idx.of h158)) ?_
              refine seqQ_norm ?_
              refine W_seq (by kernel_rfl) ?_
              refine W_run 3 [] [0, 1, 7, 8, 9, 11, 33, 34, 35, 40, 41, 42, 49] [] (fr' := [(0, aD (.slice (.slice .bool)) a0), (1, aB a1), (7, aI (List.length v4 : Int)), (8, aD (.int .u64) x155), (9, aI i116), (11, aI i154), (33, aD (.slice (.slice .bool)) a0), (34, aI (List.length a0 : Int)), (35, aI i116), (40, aD (.slice .bool) v119), (41, aI (List.length v119 : Int)), (42, aI i154), (49, aB (v157 == a1))]) (L' := []) (obs := []) (by kernel_rfl) (by kernel_rfl) (by kernel_rfl) allP0 ?_
              refine seqQ_norm ?_
              refine W_cond (o := .tmp 49) (b := v157 == a1) (by kernel_rfl) (by kernel_rfl) (fun h164 => ?_) (fun h164 => ?_)
              · replace h := ofT h164 h
                obtain ⟨_, h165, h⟩ := bind_of h
                replace h165 := ck_some h165
                obtain rfl := Option.some.inj h
                refine W_run 9 [] [0, 1, 7, 8, 9, 33, 34, 35, 40, 41, 42] [] (fr' := [(0, aD (.slice (.slice .bool)) a0), (1, aB a1), (7, aI (List.length v4 : Int)), (8, aD (.int .u64) (bOr .u64 x155 (bShl .u64 (1 : Int) (w64 ((w64 ((List.length v4 : Int) * i116)) + i154))))), (9, aI i116), (33, aD (.slice (.slice .bool)) a0), (34, aI (List.length a0 : Int)), (35, aI i116), (40, aD (.slice .bool) v119), (41, aI (List.length v119 : Int)), (42, aI i154)]) (L' := []) (obs := [(0 ≤ w64 ((w64 ((List.length v4 : Int) * i116)) + i154))]) (by kernel_rfl) (by kernel_rfl) (by kernel_rfl) (allP1 h165) ?_
                refine blockQ_norm ?_
                exact exQ_mk (by kernel_rfl) (by kernel_rfl)
              · replace h := ofF h164 h
                obtain rfl := Option.some.inj h
                refine W_skip [0, 1, 7, 8, 9, 33, 34, 35, 40, 41, 42] [] (fr' := [(0, aD (.slice (.slice .bool)) a0), (1, aB a1), (7, aI (List.length v4 : Int)), (8, aD (.int .u64) x155), (9, aI i116), (33, aD (.slice (.slice .bool)) a0), (34, aI (List.length a0 : Int)), (35, aI i116), (40, aD (.slice .bool) v119), (41, aI (List.length v119 : Int)), (42, aI i154)]) (L' := []) (by kernel_rfl) (by kernel_rfl) ?_
                refine blockQ_norm ?_
                exact exQ_mk (by kernel_rfl) (by kernel_rfl)
            · intro e fr L hJ
              obtain ⟨rfl, rfl, rfl⟩ := hJ
              refine LT_keep [0, 1, 7, 8, 9, 33, 34, 35, 40, 41, 42] [] (fr' := [(0, aD (.slice (.slice .bool)) a0), (1, aB a1), (7, aI (List.length v4 : Int)), (8, aD (.int .u64) v166), (9, aI i116), (33, aD (.slice (.slice .bool)) a0), (34, aI (List.length a0 : Int)), (35, aI i116), (40, aD (.slice .bool) v119), (41, aI (List.length v119 : Int)), (42, aI i154)]) (L' := []) (by kernel_rfl) ?_
              refine seqQ_norm ?_
              obtain rfl := Option.some.inj h
              refine W_run 2 [] [0, 1, 7, 8, 9, 33, 34, 35, 40, 41, 42] [] (fr' := [(0, aD (.slice (.slice .bool)) a0), (1, aB a1), (7, aI (List.length v4 : Int)), (8, aD (.int .u64) v166), (9, aI i116), (33, aD (.slice (.slice .bool)) a0), (34, aI (List.length a0 : Int)), (35, aI i116), (40, aD (.slice .bool) v119), (41, aI (List.length v119 : Int)), (42, aI (w64 (i154 + (1 : Int))))]) (L' := []) (obs := []) (by kernel_rfl) (by kernel_rfl) (by kernel_rfl) allP0 ?_
              exact round_next' (by kernel_rfl) (by kernel_rfl)
          · obtain rfl := stepL_false h159 h
            refine W_exit (id := 2) [0, 1, 7, 8, 33, 34, 35] [] (fr' := [(0, aD (.slice (.slice .bool)) a0), (1, aB a1), (7, aI (List.length v4 : Int)), (8, aD (.int .u64) x155), (33, aD (.slice (.slice .bool)) a0), (34, aI (List.length a0 : Int)), (35, aI i116)]) (L' := []) (by kernel_rfl) (by kernel_rfl) ?_
            refine seqQ_exit ?_
            refine round_exit ?_
            exact exQ_mk (by kernel_rfl) (by kernel_rfl)
        · intro e fr L hJ
          obtain ⟨rfl, rfl, rfl⟩ := hJ
          refine LT_keep [0, 1, 7, 8, 33, 34, 35] [] (fr' := [(0, aD (.slice (.slice .bool)) a0), (1, aB a1), (7, aI (List.length v4 : Int)), (8, aD (.int .u64) v169), (33, aD (.slice (.slice .bool)) a0), (34, aI (List.length a0 : Int)), (35, aI i116)]) (L' := []) (by kernel_rfl) ?_
          refine blockQ_hit ?_
          refine blockQ_norm ?_
          refine seqQ_norm ?_
          obtain rfl := Option.some.inj h
          refine W_run 2 [] [0, 1, 7, 8, 33, 34, 35] [] (fr' := [(0, aD (.slice (.slice .bool)) a0), (1, aB a1), (7, aI (List.length v4 : Int)), (8, aD (.int .u64) v169), (33, aD (.slice (.slice .bool)) a0), (34, aI (List.length a0 : Int)), (35, aI (w64 (i116 + (1 : Int))))]) (L' := []) (obs := []) (by kernel_rfl) (by kernel_rfl) (by kernel_rfl) allP0 ?_
          exact round_next' (by kernel_rfl) (by kernel_rfl)
      · obtain rfl := stepL_false h121 h
        refine W_exit (id := 0) [0, 7, 8] [] (fr' := [(0, aD (.slice (.slice .bool)) a0), (7, aI (List.length v4 : Int)), (8, aD (.int .u64) x117)]) (L' := []) (by kernel_rfl) (by kernel_rfl) ?_
        refine seqQ_exit ?_
        refine round_exit ?_
        exact exQ_mk (by kernel_rfl) (by kernel_rfl)
    · intro e fr L hJ
      obtain ⟨rfl, rfl, rfl⟩ := hJ
      refine LT_keep [0, 7, 8] [] (fr' := [(0, aD (.slice (.slice .bool)) a0), (7, aI (List.length v4 : Int)), (8, aD (.int .u64) v175)]) (L' := []) (by kernel_rfl) ?_
      refine blockQ_hit ?_
      refine seqQ_norm ?_
      refine W_seq (by kernel_rfl) ?_
      refine W_run 1 [] [0, 7, 8, 13] [] (fr' := [(0, aD (.slice (.slice .bool)) a0), (7, aI (List.length v4 : Int)), (8, aD (.int .u64) v175), (13, .one (.nilS))]) (L' := []) (obs := []) (by kernel_rfl) (by kernel_rfl) (by kernel_rfl) allP0 ?_
      refine seqQ_norm ?_
      refine W_seq (by kernel_rfl) ?_
      refine W_seq (by kernel_rfl) ?_
      refine W_run 1 [] [0, 7, 8, 13, 14] [] (fr' := [(0, aD (.slice (.slice .bool)) a0), (7, aI (List.length v4 : Int)), (8, aD (.int .u64) v175), (13, .one (.nilS)), (14, aD (.int .u64) (1 : Int))]) (L' := []) (obs := []) (by kernel_rfl) (by kernel_rfl) (by kernel_rfl) allP0 ?_
      refine seqQ_norm ?_
      refine W_block (id := 4) (by kernel_rfl) ?_
      obtain ⟨v1046, h1047, h⟩ := bind_of h
      refine W_mine 13 115 (.int .u64) (by kernel_rfl) ?_
      refine W_weaken [0, 7, 8, 13, 14] [115] (fr' := ((talk_Rects_s200 a0 v4 v175) ((1 : Int), [])).1) (L' := ((talk_Rects_s200 a0 v4 v175) ((1 : Int), [])).2) (by kernel_rfl) ?_
      refine W_cutK (W_loop (S := (talk_Rects_s200 a0 v4 v175)) (J := (exQ (.exit 4) (talk_Rects_s201 v175))) (by kernel_rfl) ?_ fuel _ v1046 h1047) ?_
      · rintro x467 s h
        refine W_seq (by kernel_rfl) ?_
        refine W_seq (by kernel_rfl) ?_
        obtain ⟨_, h757, h⟩ := bind_of h
        replace h757 := ck_some h757
        refine W_run 5 [] [0, 7, 8, 13, 14, 64] [115] (fr' := [(0, aD (.slice (.slice .bool)) a0), (7, aI (List.length v4 : Int)), (8, aD (.int .u64) v175), (13, .one (.slc 115)), (14, aD (.int .u64) x467.1), (64, aB (decide (x467.1 < (bShl .u64 (1 : Int) (List.length a0 : Int)))))]) (L' := [(115, .seq (.int .u64) x467.2)]) (obs := [(0 ≤ (List.length a0 : Int))]) (by kernel_rfl) (by kernel_rfl) (by kernel_rfl) (allP1 h757) ?_
        refine seqQ_norm ?_
        refine W_cond (o := .tmp 64) (b := decide (x467.1 < (bShl .u64 (1 : Int) (List.length a0 : Int)))) (by kernel_rfl) (by kernel_rfl) (fun h758 => ?_) (fun h758 => ?_)
        · replace h := ofT h758 h
          refine W_skip [0, 7, 8, 13, 14] [115] (fr' := [(0, aD (.slice (.slice .bool)) a0), (7, aI (List.length v4 : Int)), (8, aD (.int .u64) v175), (13, .one (.slc 115)), (14, aD (.int .u64) x467.1)]) (L' := [(115, .seq (.int .u64) x467.2)]) (by kernel_rfl) (by kernel_rfl) ?_
          refine seqQ_norm ?_
          refine W_seq (by kernel_rfl) ?_
          obtain ⟨v1044, h1045, h⟩ := bind_of h
          refine W_cutK (Q' := (exQ .normal (talk_Rects_s198 a0 v4 v175 x467)) v1044) ?_ ?_
          · replace h := h1045
            refine W_block (id := 5) (by kernel_rfl) ?_
            refine W_seq (by kernel_rfl) ?_
            obtain ⟨_, h949, h⟩ := bind_of h
            replace h949 := ck_some h949
            refine W_run 4 [] [0, 7, 8, 13, 14, 15] [115] (fr' := [(0, aD (.slice (.slice .bool)) a0), (7, aI (List.length v4 : Int)), (8, aD (.int .u64) v175), (13, .one (.slc 115)), (14, aD (.int .u64) x467.1), (15, aD (.int .u64) (IntKind.wrap .u64 ((bShl .u64 (1 : Int) (List.length v4 : Int)) - (1 : Int))))]) (L' := [(115, .seq (.int .u64) x467.2)]) (obs := [(0 ≤ (List.length v4 : Int))]) (by kernel_rfl) (by kernel_rfl) (by kernel_rfl) (allP1 h949) ?_
            refine seqQ_norm ?_
            refine W_seq (by kernel_rfl) ?_
            refine W_seq (by kernel_rfl) ?_
            refine W_run 3 [] [0, 7, 8, 13, 14, 15, 71, 72] [115] (fr' := [(0, aD (.slice (.slice .bool)) a0), (7, aI (List.length v4 : Int)), (8, aD (.int .u64) v175), (13, .one (.slc 115)), (14, aD (.int .u64) x467.1), (15, aD (.int .u64) (IntKind.wrap .u64 ((bShl .u64 (1 : Int) (List.length v4 : Int)) - (1 : Int)))), (71, aI (List.length a0 : Int)), (72, aI (0 : Int))]) (L' := [(115, .seq (.int .u64) x467.2)]) (obs := []) (by kernel_rfl) (by kernel_rfl) (by kernel_rfl) allP0 ?_
            refine seqQ_norm ?_
            refine W_block (id := 6) (by kernel_rfl) ?_
            obtain ⟨v991, h992, h⟩ := bind_of h
            refine W_len (t := 0) (u := (.slice .bool)) (xs := a0) (by kernel_rfl) (fun h995 => ?_)
            obtain ⟨h993, h994⟩ := forL_iter h995 h992
            refine W_weaken [0, 7, 8, 13, 14, 15, 71, 72] [115] (fr' := ((talk_Rects_s186 a0 v4 v175 x467) ((0 : Int), IntKind.wrap .u64 ((bShl .u64 (1 : Int) (List.length v4 : Int)) - (1 : Int)))).1) (L' := ((talk_Rects_s186 a0 v4 v175 x467) ((0 : Int), IntKind.wrap .u64 ((bShl .u64 (1 : Int) (List.length v4 : Int)) - (1 : Int)))).2) (by kernel_rfl) ?_
            refine W_cutK (W_loop (S := (talk_Rects_s186 a0 v4 v175 x467)) (J := (exQ (.exit 6) (talk_Rects_s187 a0 v4 v175 x467))) (by kernel_rfl) ?_ h993 _ v991 h994) ?_
            · rintro ⟨i973, x974⟩ s h
              refine W_seq (by kernel_rfl) ?_
              refine W_run 1 [] [0, 7, 8, 13, 14, 15, 71, 72, 73] [115] (fr' := [(0, aD (.slice (.slice .bool)) a0), (7, aI (List.length v4 : Int)), (8, aD (.int .u64) v175), (13, .one (.slc 115)), (14, aD (.int .u64) x467.1), (15, aD (.int .u64) x974), (71, aI (List.length a0 : Int)), (72, aI i973), (73, aB (decide (i973 < (List.length a0 : Int))))]) (L' := [(115, .seq (.int .u64) x467.2)]) (obs := []) (by kernel_rfl) (by kernel_rfl) (by kernel_rfl) allP0 ?_
              refine seqQ_norm ?_
              refine W_seq (by kernel_rfl) ?_
              refine W_cond (o := .tmp 73) (b := decide (i973 < (List.length a0 : Int))) (by kernel_rfl) (by kernel_rfl) (fun h978 => ?_) (fun h978 => ?_)
              · replace h := stepL_true h978 h
                obtain ⟨v976, _, h977, h, rfl⟩ := h
                refine W_skip [0, 7, 8, 13, 14, 15, 71, 72] [115] (fr' := [(0, aD (.slice (.slice .bool)) a0), (7, aI (List.length v4 : Int)), (8, aD (.int .u64) v175), (13, .one (.slc 115)), (14, aD (.int .u64) x467.1), (15, aD (.int .u64) x974), (71, aI (List.length a0 : Int)), (72, aI i973)]) (L' := [(115, .seq (.int .u64) x467.2)]) (by kernel_rfl) (by kernel_rfl) ?_
                refine seqQ_norm ?_
                refine W_seq (by kernel_rfl) ?_
                obtain ⟨v988, h989, h⟩ := bind_of h
                refine W_cutK (Q' := (exQ .normal (talk_Rects_s184 a0 v4 v175 x467 i973)) v988) ?_ ?_
                · replace h := h989
                  refine W_block (id := 7) (by kernel_rfl) ?_
                  refine W_seq (by kernel_rfl) ?_
                  refine W_run 2 [] [0, 7, 8, 13, 14, 15, 16, 71, 72] [115] (fr' := [(0, aD (.slice (.slice .bool)) a0), (7, aI (List.length v4 : Int)), (8, aD (.int .u64) v175), (13, .one (.slc 115)), (14, aD (.int .u64) x467.1), (15, aD (.int .u64) x974), (16, aI i973), (71, aI (List.length a0 : Int)), (72, aI i973)]) (L' := [(115, .seq (.int .u64) x467.2)]) (obs := []) (by kernel_rfl) (by kernel_rfl) (by kernel_rfl) allP0 ?_
                  refine seqQ_norm ?_
                  refine W_seq (by kernel_rfl) ?_
                  obtain ⟨_, h985, h⟩ := bind_of h
                  replace h985 := ck_some h985
                  refine W_run 5 [] [0, 7, 8, 13, 14, 15, 16, 71, 72, 79] [115] (fr' := [(0, aD (.slice (.slice .bool)) a0), (7, aI (List.length v4 : Int)), (8, aD (.int .u64) v175), (13, .one (.slc 115)), (14, aD (.int .u64) x467.1), (15, aD (.int .u64) x974), (16, aI i973), (71, aI (List.length a0 : Int)), (72, aI i973), (79, aB ((bAnd .u64 (bShr .u64 x467.1 i973) (1 : Int)) == (1 : Int)))]) (L' := [(115, .seq (.int .u64) x467.2)]) (obs := [(0 ≤ i973)]) (by kernel_rfl) (by kernel_rfl) (by kernel_rfl) (allP1 h985) ?_
                  refine seqQ_norm ?_
                  refine W_cond (o := .tmp 79) (b := (bAnd .u64 (bShr .u64 x467.1 i973) (1 : Int)) == (1 : Int)) (by kernel_rfl) (by kernel_rfl) (fun h986 => ?_) (fun h986 => ?_)
                  · replace h := ofT h986 h
                    obtain ⟨_, h987, h⟩ := bind_of h
                    replace h987 := ck_some h987
                    obtain rfl := Option.some.inj h
                    refine W_draw2 11 [] [] [0, 7, 8, 13, 14, 15, 71, 72] [115] (fr' := [(0, aD (.slice (.slice .bool)) a0), (7, aI (List.length v4 : Int)), (8, aD (.int .u64) v175), (13, .one (.slc 115)), (14, aD (.int .u64) x467.1), (15, aD (.int .u64) (bAnd .u64 x974 (bAnd .u64 (bShr .u64 v175 (w64 ((List.length v4 : Int) * i973))) (IntKind.wrap .u64 ((bShl .u64 (1 : Int) (List.length v4 : Int)) - (1 : Int)))))), (71, aI (List.length a0 : Int)), (72, aI i973)]) (L' := [(115, .seq (.int .u64) x467.2)]) (out := [(80, aD (.int .u64) x974), (81, aD (.int .u64) v175), (82, aI (List.length v4 : Int)), (83, aI i973), (84, aI (w64 ((List.length v4 : Int) * i973))), (85, aD (.int .u64) (bShr .u64 v175 (w64 ((List.length v4 : Int) * i973)))), (86, aI (List.length v4 : Int)), (87, aD (.int .u64) (bShl .u64 (1 : Int) (List.length v4 : Int))), (88, aD (.int .u64) (IntKind.wrap .u64 ((bShl .u64 (1 : Int) (List.length v4 : Int)) - (1 : Int)))), (89, aD (.int .u64) (bAnd .u64 (bShr .u64 v175 (w64 ((List.length v4 : Int) * i973))) (IntKind.wrap .u64 ((bShl .u64 (1 : Int) (List.length v4 : Int)) - (1 : Int))))), (90, aD (.int .u64) (bAnd .u64 x974 (bAnd .u64 (bShr .u64 v175 (w64 ((List.length v4 : Int) * i973))) (IntKind.wrap .u64 ((bShl .u64 (1 : Int) (List.length v4 : Int)) - (1 : Int))))))]) (obs := [(0 ≤ w64 ((List.length v4 : Int) * i973)), (0 ≤ (List.length v4 : Int))]) (obs2 := []) (calls := []) (by kernel_rfl) (by kernel_rfl) (by kernel_rfl) (by kernel_rfl) (allP2 h987 (allP1 h949)) allC0 (by kernel_rfl) allP0 ?_
                    refine blockQ_norm ?_
                    exact exQ_mk (by kernel_rfl) (by kernel_rfl)
                  · replace h := ofF h986 h
                    obtain rfl := Option.some.inj h
                    refine W_skip [0, 7, 8, 13, 14, 15, 71, 72] [115] (fr' := [(0, aD (.slice (.slice .bool)) a0), (7, aI (List.length v4 : Int)), (8, aD (.int .u64) v175), (13, .one (.slc 115)), (14, aD (.int .u64) x467.1), (15, aD (.int .u64) x974), (71, aI (List.length a0 : Int)), (72, aI i973)]) (L' := [(115, .seq (.int .u64) x467.2)]) (by kernel_rfl) (by kernel_rfl) ?_
                    refine blockQ_norm ?_
                    exact exQ_mk (by kernel_rfl) (by kernel_rfl)
                · intro e fr L hJ
                  obtain ⟨rfl, rfl, rfl⟩ := hJ
                  refine LT_keep [0, 7, 8, 13, 14, 15, 71, 72] [115] (fr' := [(0, aD (.slice (.slice .bool)) a0), (7, aI (List.length v4 : Int)), (8, aD (.int .u64) v175), (13, .one (.slc 115)), (14, aD (.int .u64) x467.1), (15, aD (.int .u64) v988), (71, aI (List.length a0 : Int)), (72, aI i973)]) (L' := [(115, .seq (.int .u64) x467.2)]) (by kernel_rfl) ?_
                  refine seqQ_norm ?_
                  obtain rfl := Option.some.inj h
                  refine W_run 2 [] [0, 7, 8, 13, 14, 15, 71, 72] [115] (fr' := [(0, aD (.slice (.slice .bool)) a0), (7, aI (List.length v4 : Int)), (8, aD (.int .u64) v175), (13, .one (.slc 115)), (14, aD (.int .u64) x467.1), (15, aD (.int .u64) v988), (71, aI (List.length a0 : Int)), (72, aI (w64 (i973 + (1 : Int))))]) (L' := [(115, .seq (.int .u64) x467.2)]) (obs := []) (by kernel_rfl) (by kernel_rfl) (by kernel_rfl) allP0 ?_
                  exact round_next' (by kernel_rfl) (by kernel_rfl)
              · obtain rfl := stepL_false h978 h
                refine W_exit (id := 6) [0, 7, 8, 13, 14, 15] [115] (fr' := [(0, aD (.slice (.slice .bool)) a0), (7, aI (List.length v4 : Int)), (8, aD (.int .u64) v175), (13, .one (.slc 115)), (14, aD (.int .u64) x467.1), (15, aD (.int .u64) x974)]) (L' := [(115, .seq (.int .u64) x467.2)]) (by kernel_rfl) (by kernel_rfl) ?_
                refine seqQ_exit ?_
                refine round_exit ?_
                exact exQ_mk (by kernel_rfl) (by kernel_rfl)
            · intro e fr L hJ
              obtain ⟨rfl, rfl, rfl⟩ := hJ
              refine LT_keep [0, 7, 8, 13, 14, 15] [115] (fr' := [(0, aD (.slice (.slice .bool)) a0), (7, aI (List.length v4 : Int)), (8, aD (.int .u64) v175), (13, .one (.slc 115)), (14, aD (.int .u64) x467.1), (15, aD (.int .u64) v991)]) (L' := [(115, .seq (.int .u64) x467.2)]) (by kernel_rfl) ?_
              refine blockQ_hit ?_
              refine seqQ_norm ?_
              refine W_seq (by kernel_rfl) ?_
              refine W_run 1 [] [0, 7, 8, 13, 14, 15, 17] [115] (fr' := [(0, aD (.slice (.slice .bool)) a0), (7, aI (List.length v4 : Int)), (8, aD (.int .u64) v175), (13, .one (.slc 115)), (14, aD (.int .u64) x467.1), (15, aD (.int .u64) v991), (17, aD (.int .u64) (0 : Int))]) (L' := [(115, .seq (.int .u64) x467.2)]) (obs := []) (by kernel_rfl) (by kernel_rfl) (by kernel_rfl) allP0 ?_
              refine seqQ_norm ?_
              refine W_seq (by kernel_rfl) ?_
              refine W_seq (by kernel_rfl) ?_
              refine W_run 3 [] [0, 7, 8, 13, 14, 15, 17, 93, 94] [115] (fr' := [(0, aD (.slice (.slice .bool)) a0), (7, aI (List.length v4 : Int)), (8, aD (.int .u64) v175), (13, .one (.slc 115)), (14, aD (.int .u64) x467.1), (15, aD (.int .u64) v991), (17, aD (.int .u64) (0 : Int)), (93, aI (List.length a0 : Int)), (94, aI (0 : Int))]) (L' := [(115, .seq (.int .u64) x467.2)]) (obs := []) (by kernel_rfl) (by kernel_rfl) (by kernel_rfl) allP0 ?_
              refine seqQ_norm ?_
              refine W_block (id := 8) (by kernel_rfl) ?_
              obtain ⟨v1037, h1038, h⟩ := bind_of h
              refine W_len (t := 0) (u := (.slice .bool)) (xs := a0) (by kernel_rfl) (fun h1041 => ?_)
              obtain ⟨h1039, h1040⟩ := forL_iter h1041 h1038
              refine W_weaken [0, 7, 8, 13, 14, 15, 17, 93, 94] [115] (fr' := ((talk_Rects_s195 a0 v4 v175 x467 v991) ((0 : Int), (0 : Int))).1) (L' := ((talk_Rects_s195 a0 v4 v175 x467 v991) ((0 : Int), (0 : Int))).2) (by kernel_rfl) ?_
              refine W_cutK (W_loop (S := (talk_Rects_s195 a0 v4 v175 x467 v991)) (J := (exQ (.exit 8) (talk_Rects_s196 a0 v4 v175 x467 v991))) (by kernel_rfl) ?_ h1039 _ v1037 h1040) ?_
              · rintro ⟨i1019, x1020⟩ s h
                refine W_seq (by kernel_rfl) ?_
                refine W_run 1 [] [0, 7, 8, 13, 14, 15, 17, 93, 94, 95] [115] (fr' := [(0, aD (.slice (.slice .bool)) a0), (7, aI (List.length v4 : Int)), (8, aD (.int .u64) v175), (13, .one (.slc 115)), (14, aD (.int .u64) x467.1), (15, aD (.int .u64) v991), (17, aD (.int .u64) x1020), (93, aI (List.length a0 : Int)), (94, aI i1019), (95, aB (decide (i1019 < (List.length a0 : Int))))]) (L' := [(115, .seq (.int .u64) x467.2)]) (obs := []) (by kernel_rfl) (by kernel_rfl) (by kernel_rfl) allP0 ?_
                refine seqQ_norm ?_
                refine W_seq (by kernel_rfl) ?_
                refine W_cond (o := .tmp 95) (b := decide (i1019 < (List.length a0 : Int))) (by kernel_rfl) (by kernel_rfl) (fun h1024 => ?_) (fun h1024 => ?_)
                · replace h := stepL_true h1024 h
                  obtain ⟨v1022, _, h1023, h, rfl⟩ := h
                  refine W_skip [0, 7, 8, 13, 14, 15, 17, 93, 94] [115] (fr' := [(0, aD (.slice (.slice .bool)) a0), (7, aI (List.length v4 : Int)), (8, aD (.int .u64) v175), (13, .one (.slc 115)), (14, aD (.int .u64) x467.1), (15, aD (.int .u64) v991), (17, aD (.int .u64) x1020), (93, aI (List.length a0 : Int)), (94, aI i1019)]) (L' := [(115, .seq (.int .u64) x467.2)]) (by kernel_rfl) (by kernel_rfl) ?_
                  refine seqQ_norm ?_
                  refine W_seq (by kernel_rfl) ?_
                  obtain ⟨v1034, h1035, h⟩ := bind_of h
                  refine W_cutK (Q' := (exQ .normal (talk_Rects_s193 a0 v4 v175 x467 v991 i1019)) v1034) ?_ ?_
                  · replace h := h1035
                    refine W_block (id := 9) (by kernel_rfl) ?_
                    refine W_seq (by kernel_rfl) ?_
                    refine W_run 2 [] [0, 7, 8, 13, 14, 15, 17, 18, 93, 94] [115] (fr' := [(0, aD (.slice (.slice .bool)) a0), (7, aI (List.length v4 : Int)), (8, aD (.int .u64) v175), (13, .one (.slc 115)), (14, aD (.int .u64) x467.1), (15, aD (.int .u64) v991), (17, aD (.int .u64) x1020), (18, aI i1019), (93, aI (List.length a0 : Int)), (94, aI i1019)]) (L' := [(115, .seq (.int .u64) x467.2)]) (obs := []) (by kernel_rfl) (by kernel_rfl) (by kernel_rfl) allP0 ?_
                    refine seqQ_norm ?_
                    refine W_seq (by kernel_rfl) ?_
                    obtain ⟨_, h1031, h⟩ := bind_of h
                    replace h1031 := ck_some h1031
                    refine W_run 5 [] [0, 7, 8, 13, 14, 15, 17, 18, 93, 94, 101] [115] (fr' := [(0, aD (.slice (.slice .bool)) a0), (7, aI (List.length v4 : Int)), (8, aD (.int .u64) v175), (13, .one (.slc 115)), (14, aD (.int .u64) x467.1), (15, aD (.int .u64) v991), (17, aD (.int .u64) x1020), (18, aI i1019), (93, aI (List.length a0 : Int)), (94, aI i1019), (101, aB ((bAnd .u64 (bShr .u64 x467.1 i1019) (1 : Int)) == (1 : Int)))]) (L' := [(115, .seq (.int .u64) x467.2)]) (obs := [(0 ≤ i1019)]) (by kernel_rfl) (by kernel_rfl) (by kernel_rfl) (allP1 h1031) ?_
                    refine seqQ_norm ?_
                    refine W_cond (o := .tmp 101) (b := (bAnd .u64 (bShr .u64 x467.1 i1019) (1 : Int)) == (1 : Int)) (by kernel_rfl) (by kernel_rfl) (fun h1032 => ?_) (fun h1032 => ?_)
                    · replace h := ofT h1032 h
                      obtain ⟨_, h1033, h⟩ := bind_of h
                      replace h1033 := ck_some h1033
                      obtain rfl := Option.some.inj h
                      refine W_run 8 [] [0, 7, 8, 13, 14, 15, 17, 93, 94] [115] (fr' := [(0, aD (.slice (.slice .bool)) a0), (7, aI (List.length v4 : Int)), (8, aD (.int .u64) v175), (13, .one (.slc 115)), (14, aD (.int .u64) x467.1), (15, aD (.int .u64) v991), (17, aD (.int .u64) (bOr .u64 x1020 (bShl .u64 v991 (w64 ((List.length v4 : Int) * i1019))))), (93, aI (List.length a0 : Int)), (94, aI i1019)]) (L' := [(115, .seq (.int .u64) x467.2)]) (obs := [(0 ≤ w64 ((List.length v4 : Int) * i1019))]) (by kernel_rfl) (by kernel_rfl) (by kernel_rfl) (allP1 h1033) ?_
                      refine blockQ_norm ?_
                      exact exQ_mk (by kernel_rfl) (by kernel_rfl)
                    · replace h := ofF h1032 h
                      obtain rfl := Option.some.inj h
                      refine W_skip [0, 7, 8, 13, 14, 15, 17, 93, 94] [115] (fr' := [(0, aD (.slice (.slice .bool)) a0), (7, aI (List.length v4 : Int)), (8, aD (.int .u64) v175), (13, .one (.slc 115)), (14, aD (.int .u64) x467.1), (15, aD (.int .u64) v991), (17, aD (.int .u64) x1020), (93, aI (List.length a0 : Int)), (94, aI i1019)]) (L' := [(115, .seq (.int .u64) x467.2)]) (by kernel_rfl) (by kernel_rfl) ?_
                      refine blockQ_norm ?_
                      exact exQ_mk (by kernel_rfl) (by kernel_rfl)
                  · intro e fr L hJ
                    obtain ⟨rfl, rfl, rfl⟩ := hJ
                    refine LT_keep [0, 7, 8, 13, 14, 15, 17, 93, 94] [115] (fr' := [(0, aD (.slice (.slice .bool)) a0), (7, aI (List.length v4 : Int)), (8, aD (.int .u64) v175), (13, .one (.slc 115)), (14, aD (.int .u64) x467.1), (15, aD (.int .u64) v991), (17, aD (.int .u64) v1034), (93, aI (List.length a0 : Int)), (94, aI i1019)]) (L' := [(115, .seq (.int .u64) x467.2)]) (by kernel_rfl) ?_
                    refine seqQ_norm ?_
                    obtain rfl := Option.some.inj h
                    refine W_run 2 [] [0, 7, 8, 13, 14, 15, 17, 93, 94] [115] (fr' := [(0, aD (.slice (.slice .bool)) a0), (7, aI (List.length v4 : Int)), (8, aD (.int .u64) v175), (13, .one (.slc 115)), (14, aD (.int .u64) x467.1), (15, aD (.int .u64) v991), (17, aD (.int .u64) v1034), (93, aI (List.length a0 : Int)), (94, aI (w64 (i1019 + (1 : Int))))]) (L' := [(115, .seq (.int .u64) x467.2)]) (obs := []) (by kernel_rfl) (by kernel_rfl) (by kernel_rfl) allP0 ?_
                    exact round_next' (by kernel_rfl) (by kernel_rfl)
                · obtain rfl := stepL_false h1024 h
                  refine W_exit (id := 8) [0, 7, 8, 13, 14, 15, 17] [115] (fr' := [(0, aD (.slice (.slice .bool)) a0), (7, aI (List.length v4 : Int)), (8, aD (.int .u64) v175), (13, .one (.slc 115)), (14, aD (.int .u64) x467.1), (15, aD (.int .u64) v991), (17, aD (.int .u64) x1020)]) (L' := [(115, .seq (.int .u64) x467.2)]) (by kernel_rfl) (by kernel_rfl) ?_
                  refine seqQ_exit ?_
                  refine round_exit ?_
                  exact exQ_mk (by kernel_rfl) (by kernel_rfl)
              · intro e fr L hJ
                obtain ⟨rfl, rfl, rfl⟩ := hJ
                refine LT_keep [0, 7, 8, 13, 14, 15, 17] [115] (fr' := [(0, aD (.slice (.slice .bool)) a0), (7, aI (List.length v4 : Int)), (8, aD (.int .u64) v175), (13, .one (.slc 115)), (14, aD (.int .u64) x467.1), (15, aD (.int .u64) v991), (17, aD (.int .u64) v1037)]) (L' := [(115, .seq (.int .u64) x467.2)]) (by kernel_rfl) ?_
                refine blockQ_hit ?_
                refine seqQ_norm ?_
                refine W_seq (by kernel_rfl) ?_
                refine W_run 2 [] [0, 7, 8, 13, 14, 17, 111] [115] (fr' := [(0, aD (.slice (.slice .bool)) a0), (7, aI (List.length v4 : Int)), (8, aD (.int .u64) v175), (13, .one (.slc 115)), (14, aD (.int .u64) x467.1), (17, aD (.int .u64) v1037), (111, aB (v991 != (0 : Int)))]) (L' := [(115, .seq (.int .u64) x467.2)]) (obs := []) (by kernel_rfl) (by kernel_rfl) (by kernel_rfl) allP0 ?_
                refine seqQ_norm ?_
                refine W_cond (o := .tmp 111) (b := v991 != (0 : Int)) (by kernel_rfl) (by kernel_rfl) (fun h1042 => ?_) (fun h1042 => ?_)
                · replace h := ofT h1042 h
                  obtain ⟨_, h1043, h⟩ := bind_of h
                  replace h1043 := ck_some h1043
                  obtain rfl := Option.some.inj h
                  refine W_run 5 [] [0, 7, 8, 13, 14] [115] (fr' := [(0, aD (.slice (.slice .bool)) a0), (7, aI (List.length v4 : Int)), (8, aD (.int .u64) v175), (13, .one (.slc 115)), (14, aD (.int .u64) x467.1)]) (L' := [(115, .seq (.int .u64) (x467.2 ++ [v1037]))]) (obs := [SmallLen (List.length x467.2 + List.length [v1037])]) (by kernel_rfl) (by kernel_rfl) (by kernel_rfl) (allP1 h1043) ?_
                  refine blockQ_norm ?_
                  exact exQ_mk (by kernel_rfl) (by kernel_rfl)
                · replace h := ofF h1042 h
                  obtain rfl := Option.some.inj h
                  refine W_skip [0, 7, 8, 13, 14] [115] (fr' := [(0, aD (.slice (.slice .bool)) a0), (7, aI (List.length v4 : Int)), (8, aD (.int .u64) v175), (13, .one (.slc 115)), (14, aD (.int .u64) x467.1)]) (L' := [(115, .seq (.int .u64) x467.2)]) (by kernel_rfl) (by kernel_rfl) ?_
                  refine blockQ_norm ?_
                  exact exQ_mk (by kernel_rfl) (by kernel_rfl)
          · intro e fr L hJ
            obtain ⟨rfl, rfl, rfl⟩ := hJ
            refine LT_keep [0, 7, 8, 13, 14] [115] (fr' := [(0, aD (.slice (.slice .bool)) a0), (7, aI (List.length v4 : Int)), (8, aD (.int .u64) v175), (13, .one (.slc 115)), (14, aD (.int .u64) x467.1)]) (L' := [(115, .seq (.int .u64) v1044)]) (by kernel_rfl) ?_
            refine seqQ_norm ?_
            obtain rfl := Option.some.inj h
            refine W_run 3 [] [0, 7, 8, 13, 14] [115] (fr' := [(0, aD (.slice (.slice .bool)) a0), (7, aI (List.length v4 : Int)), (8, aD (.int .u64) v175), (13, .one (.slc 115)), (14, aD (.int .u64) (IntKind.wrap .u64 (x467.1 + (1 : Int))))]) (L' := [(115, .seq (.int .u64) v1044)]) (obs := []) (by kernel_rfl) (by kernel_rfl) (by kernel_rfl) allP0 ?_
            exact round_next' (by kernel_rfl) (by kernel_rfl)
        · replace h := ofF h758 h
          obtain rfl := Option.some.inj h
          refine W_exit (id := 4) [8, 13] [115] (fr' := [(8, aD (.int .u64) v175), (13, .one (.slc 115))]) (L' := [(115, .seq (.int .u64) x467.2)]) (by kernel_rfl) (by kernel_rfl) ?_
          refine seqQ_exit ?_
          refine round_exit ?_
          exact exQ_mk (by kernel_rfl) (by kernel_rfl)
      · intro e fr L hJ
        obtain ⟨rfl, rfl, rfl⟩ := hJ
        refine LT_keep [8, 13] [115] (fr' := [(8, aD (.int .u64) v175), (13, .one (.slc 115))]) (L' := [(115, .seq (.int .u64) v1046)]) (by kernel_rfl) ?_
        refine blockQ_hit ?_
        refine seqQ_norm ?_
        refine W_seq (by kernel_rfl) ?_
        refine W_region (by kernel_rfl) ?_
        refine WO_run (j := 1) (k := 1) (orcs := []) (kF := [8, 13, 116]) (kL := [115]) (fr' := [(8, aD (.int .u64) v175), (13, .one (.slc 115)), (116, aD (.int .u64) v175)]) (L' := [(115, .seq (.int .u64) v1046)]) (obs := []) rfl (by kernel_rfl) allP0 ?_
        obtain ⟨r1050, h1051, h⟩ := bind_of h
        refine WO_call0 (us := [none]) (d := 117) (p := True) (j := 2) rfl ⟨by kernel_rfl, by kernel_rfl, by kernel_rfl⟩ trivial (math_bits_OnesCount_ok h1051) (by kernel_rfl) ?_
        refine WO_run (j := 3) (k := 1) (orcs := []) (kF := [8, 13, 19]) (kL := [115]) (fr' := [(8, aD (.int .u64) v175), (13, .one (.slc 115)), (19, aI r1050)]) (L' := [(115, .seq (.int .u64) v1046)]) (obs := []) rfl (by kernel_rfl) allP0 ?_
        refine WO_fin [8, 13, 19] [115] (fr' := [(8, aD (.int .u64) v175), (13, .one (.slc 115)), (19, aI r1050)]) (L' := [(115, .seq (.int .u64) v1046)]) (by kernel_rfl) (by kernel_rfl) ?_
        refine seqQ_norm ?_
        refine W_seq (by kernel_rfl) ?_
        refine W_seq (by kernel_rfl) ?_
        obtain ⟨_, h1052, h⟩ := bind_of h
        replace h1052 := ck_some h1052
        refine W_run 4 [] [8, 13, 19, 120, 121] [115] (fr' := [(8, aD (.int .u64) v175), (13, .one (.slc 115)), (19, aI r1050), (120, aD (.int .u64) (bShl .u64 (1 : Int) (List.length v1046 : Int))), (121, aD (.int .u64) (0 : Int))]) (L' := [(115, .seq (.int .u64) v1046)]) (obs := [(0 ≤ (List.length v1046 : Int))]) (by kernel_rfl) (by kernel_rfl) (by kernel_rfl) (allP1 h1052) ?_
        refine seqQ_norm ?_
        refine W_block (id := 10) (by kernel_rfl) ?_
        obtain ⟨v1532, h1533, h⟩ := bind_of h
        refine W_weaken [8, 13, 19, 120, 121] [115] (fr' := ((talk_Rects_s278 v175 v1046) (r1050, (0 : Int))).1) (L' := ((talk_Rects_s278 v175 v1046) (r1050, (0 : Int))).2) (by kernel_rfl) ?_
        refine W_cutK (W_loop (S := (talk_Rects_s278 v175 v1046)) (J := (exQ (.exit 10) talk_Rects_s279)) (by kernel_rfl) ?_ fuel _ v1532 h1533) ?_
        · rintro x1213 s h
          refine W_seq (by kernel_rfl) ?_
          refine W_run 1 [] [8, 13, 19, 120, 121, 122] [115] (fr' := [(8, aD (.int .u64) v175), (13, .one (.slc 115)), (19, aI x1213.1), (120, aD (.int .u64) (bShl .u64 (1 : Int) (List.length v1046 : Int))), (121, aD (.int .u64) x1213.2), (122, aB (decide (x1213.2 < (bShl .u64 (1 : Int) (List.length v1046 : Int)))))]) (L' := [(115, .seq (.int .u64) v1046)]) (obs := []) (by kernel_rfl) (by kernel_rfl) (by kernel_rfl) allP0 ?_
          refine seqQ_norm ?_
          refine W_seq (by kernel_rfl) ?_
          refine W_cond (o := .tmp 122) (b := decide (x1213.2 < (bShl .u64 (1 : Int) (List.length v1046 : Int)))) (by kernel_rfl) (by kernel_rfl) (fun h1373 => ?_) (fun h1373 => ?_)
          · replace h := ofT h1373 h
            refine W_skip [8, 13, 19, 120, 121] [115] (fr' := [(8, aD (.int .u64) v175), (13, .one (.slc 115)), (19, aI x1213.1), (120, aD (.int .u64) (bShl .u64 (1 : Int) (List.length v1046 : Int))), (121, aD (.int .u64) x1213.2)]) (L' := [(115, .seq (.int .u64) v1046)]) (by kernel_rfl) (by kernel_rfl) ?_
            refine seqQ_norm ?_
            refine W_seq (by kernel_rfl) ?_
            obtain ⟨v1530, h1531, h⟩ := bind_of h
            refine W_cutK (Q' := (exQ .normal (talk_Rects_s276 v175 v1046 x1213)) v1530) ?_ ?_
            · replace h := h1531
              refine W_block (id := 11) (by kernel_rfl) ?_
              refine W_seq (by kernel_rfl) ?_
              refine W_run 2 [] [8, 13, 19, 20, 120, 121] [115] (fr' := [(8, aD (.int .u64) v175), (13, .one (.slc 115)), (19, aI x1213.1), (20, aD (.int .u64) x1213.2), (120, aD (.int .u64) (bShl .u64 (1 : Int) (List.length v1046 : Int))), (121, aD (.int .u64) x1213.2)]) (L' := [(115, .seq (.int .u64) v1046)]) (obs := []) (by kernel_rfl) (by kernel_rfl) (by kernel_rfl) allP0 ?_
              refine seqQ_norm ?_
              refine W_seq (by kernel_rfl) ?_
              refine W_run 1 [] [8, 13, 19, 20, 21, 120, 121] [115] (fr' := [(8, aD (.int .u64) v175), (13, .one (.slc 115)), (19, aI x1213.1), (20, aD (.int .u64) x1213.2), (21, aD (.int .u64) (0 : Int)), (120, aD (.int .u64) (bShl .u64 (1 : Int) (List.length v1046 : Int))), (121, aD (.int .u64) x1213.2)]) (L' := [(115, .seq (.int .u64) v1046)]) (obs := []) (by kernel_rfl) (by kernel_rfl) (by kernel_rfl) allP0 ?_
              refine seqQ_norm ?_
              refine W_seq (by kernel_rfl) ?_
              refine W_seq (by kernel_rfl) ?_
              refine W_run 3 [] [8, 13, 19, 20, 21, 120, 121, 124, 125, 126] [115] (fr' := [(8, aD (.int .u64) v175), (13, .one (.slc 115)), (19, aI x1213.1), (20, aD (.int .u64) x1213.2), (21, aD (.int .u64) (0 : Int)), (120, aD (.int .u64) (bShl .u64 (1 : Int) (List.length v1046 : Int))), (121, aD (.int .u64) x1213.2), (124, .one (.slc 115)), (125, aI (List.length v1046 : Int)), (126, aI (0 : Int))]) (L' := [(115, .seq (.int .u64) v1046)]) (obs := []) (by kernel_rfl) (by kernel_rfl) (by kernel_rfl) allP0 ?_
              refine seqQ_norm ?_
              refine W_block (id := 12) (by kernel_rfl) ?_
              obtain ⟨v1522, h1523, h⟩ := bind_of h
              refine W_lenS (s := 115) (u := (.int .u64)) (xs := v1046) (by kernel_rfl) (fun h1526 => ?_)
              obtain ⟨h1524, h1525⟩ := forL_iter h1526 h1523
              refine W_weaken [8, 13, 19, 20, 21, 120, 121, 124, 125, 126] [115] (fr' := ((talk_Rects_s273 v175 v1046 x1213) ((0 : Int), (0 : Int))).1) (L' := ((talk_Rects_s273 v175 v1046 x1213) ((0 : Int), (0 : Int))).2) (by kernel_rfl) ?_
              refine W_cutK (W_loop (S := (talk_Rects_s273 v175 v1046 x1213)) (J := (exQ (.exit 12) (talk_Rects_s274 v175 v1046 x1213))) (by kernel_rfl) ?_ h1524 _ v1522 h1525) ?_
              · rintro ⟨i1507, x1508⟩ s h
                refine W_seq (by kernel_rfl) ?_
                refine W_run 1 [] [8, 13, 19, 20, 21, 120, 121, 124, 125, 126, 127] [115] (fr' := [(8, aD (.int .u64) v175), (13, .one (.slc 115)), (19, aI x1213.1), (20, aD (.int .u64) x1213.2), (21, aD (.int .u64) x1508), (120, aD (.int .u64) (bShl .u64 (1 : Int) (List.length v1046 : Int))), (121, aD (.int .u64) x1213.2), (124, .one (.slc 115)), (125, aI (List.length v1046 : Int)), (126, aI i1507), (127, aB (decide (i1507 < (List.length v1046 : Int))))]) (L' := [(115, .seq (.int .u64) v1046)]) (obs := []) (by kernel_rfl) (by kernel_rfl) (by kernel_rfl) allP0 ?_
                refine seqQ_norm ?_
                refine W_seq (by kernel_rfl) ?_
                refine W_cond (o := .tmp 127) (b := decide (i1507 < (List.length v1046 : Int))) (by kernel_rfl) (by kernel_rfl) (fun h1512 => ?_) (fun h1512 => ?_)
                · replace h := stepL_true h1512 h
                  obtain ⟨v1510, _, h1511, h, rfl⟩ := h
                  refine W_skip [8, 13, 19, 20, 21, 120, 121, 124, 125, 126] [115] (fr' := [(8, aD (.int .u64) v175), (13, .one (.slc 115)), (19, aI x1213.1), (20, aD (.int .u64) x1213.2), (21, aD (.int .u64) x1508), (120, aD (.int .u64) (bShl .u64 (1 : Int) (List.length v1046 : Int))), (121, aD (.int .u64) x1213.2), (124, .one (.slc 115)), (125, aI (List.length v1046 : Int)), (126, aI i1507)]) (L' := [(115, .seq (.int .u64) v1046)]) (by kernel_rfl) (by kernel_rfl) ?_
                  refine seqQ_norm ?_
                  refine W_seq (by kernel_rfl) ?_
                  obtain ⟨v1519, h1520, h⟩ := bind_of h
                  refine W_cutK (Q' := (exQ .normal (talk_Rects_s271 v175 v1046 x1213 i1507)) v1519) ?_ ?_
                  · replace h := h1520
                    refine W_block (id := 13) (by kernel_rfl) ?_
                    refine W_seq (by kernel_rfl) ?_
                    refine W_run 5 [(5, .val (.dat (.int .u64) v1510))] [8, 13, 19, 20, 21, 22, 23, 120, 121, 124, 125, 126] [115] (fr' := [(8, aD (.int .u64) v175), (13, .one (.slc 115)), (19, aI x1213.1), (20, aD (.int .u64) x1213.2), (21, aD (.int .u64) x1508), (22, aI i1507), (23, aD (.int .u64) v1510), (120, aD (.int .u64) (bShl .u64 (1 : Int) (List.length v1046 : Int))), (121, aD (.int .u64) x1213.2), (124, .one (.slc 115)), (125, aI (List.length v1046 : Int)), (126, aI i1507)]) (L' := [(115, .seq (.int .u64) v1046)]) (obs := [InR i1507 (List.length v1046), Idx v1046 i1507 v1510]) (by kernel_rfl) (by kernel_rfl) (by kernel_rfl) (allP2 (InR.of h1511) (allP1 (Idx.of h1511))) ?_
                    refine seqQ_norm ?_
                    refine W_seq (by kernel_rfl) ?_
                    obtain ⟨_, h1517, h⟩ := bind_of h
                    replace h1517 := ck_some h1517
                    refine W_run 5 [] [8, 13, 19, 20, 21, 23, 120, 121, 124, 125, 126, 135] [115] (fr' := [(8, aD (.int .u64) v175), (13, .one (.slc 115)), (19, aI x1213.1), (20, aD (.int .u64) x1213.2), (21, aD (.int .u64) x1508), (23, aD (.int .u64) v1510), (120, aD (.int .u64) (bShl .u64 (1 : Int) (List.length v1046 : Int))), (121, aD (.int .u64) x1213.2), (124, .one (.slc 115)), (125, aI (List.length v1046 : Int)), (126, aI i1507), (135, aB ((bAnd .u64 (bShr .u64 x1213.2 i1507) (1 : Int)) == (1 : Int)))]) (L' := [(115, .seq (.int .u64) v1046)]) (obs := [(0 ≤ i1507)]) (by kernel_rfl) (by kernel_rfl) (by kernel_rfl) (allP1 h1517) ?_
                    refine seqQ_norm ?_
                    refine W_cond (o := .tmp 135) (b := (bAnd .u64 (bShr .u64 x1213.2 i1507) (1 : Int)) == (1 : Int)) (by kernel_rfl) (by kernel_rfl) (fun h1518 => ?_) (fun h1518 => ?_)
                    · replace h := ofT h1518 h
                      obtain rfl := Option.some.inj h
                      refine W_run 4 [] [8, 13, 19, 20, 21, 120, 121, 124, 125, 126] [115] (fr' := [(8, aD (.int .u64) v175), (13, .one (.slc 115)), (19, aI x1213.1), (20, aD (.int .u64) x1213.2), (21, aD (.int .u64) (bOr .u64 x1508 v1510)), (120, aD (.int .u64) (bShl .u64 (1 : Int) (List.length v1046 : Int))), (121, aD (.int .u64) x1213.2), (124, .one (.slc 115)), (125, aI (List.length v1046 : Int)), (126, aI i1507)]) (L' := [(115, .seq (.int .u64) v1046)]) (obs := []) (by kernel_rfl) (by kernel_rfl) (by kernel_rfl) allP0 ?_
                      refine blockQ_norm ?_
                      exact exQ_mk (by kernel_rfl) (by kernel_rfl)
                    · replace h := ofF h1518 h
                      obtain rfl := Option.some.inj h
                      refine W_skip [8, 13, 19, 20, 21, 120, 121, 124, 125, 126] [115] (fr' := [(8, aD (.int .u64) v175), (13, .one (.slc 115)), (19, aI x1213.1), (20, aD (.int .u64) x1213.2), (21, aD (.int .u64) x1508), (120, aD (.int .u64) (bShl .u64 (1 : Int) (List.length v1046 : Int))), (121, aD (.int .u64) x1213.2), (124, .one (.slc 115)), (125, aI (List.length v1046 : Int)), (126, aI i1507)]) (L' := [(115, .seq (.int .u64) v1046)]) (by kernel_rfl) (by kernel_rfl) ?_
                      refine blockQ_norm ?_
                      exact exQ_mk (by kernel_rfl) (by kernel_rfl)
                  · intro e fr L hJ
                    obtain ⟨rfl, rfl, rfl⟩ := hJ
                    refine LT_keep [8, 13, 19, 20, 21, 120, 121, 124, 125, 126] [115] (fr' := [(8, aD (.int .u64) v175), (13, .one (.slc 115)), (19, aI x1213.1), (20, aD (.int .u64) x1213.2), (21, aD (.int .u64) v1519), (120, aD (.int .u64) (bShl .u64 (1 : Int) (List.length v1046 : Int))), (121, aD (.int .u64) x1213.2), (124, .one (.slc 115)), (125, aI (List.length v1046 : Int)), (126, aI i1507)]) (L' := [(115, .seq (.int .u64) v1046)]) (by kernel_rfl) ?_
                    refine seqQ_norm ?_
                    obtain rfl := Option.some.inj h
                    refine W_run 2 [] [8, 13, 19, 20, 21, 120, 121, 124, 125, 126] [115] (fr' := [(8, aD (.int .u64) v175), (13, .one (.slc 115)), (19, aI x1213.1), (20, aD (.int .u64) x1213.2), (21, aD (.int .u64) v1519), (120, aD (.int .u64) (bShl .u64 (1 : Int) (List.length v1046 : Int))), (121, aD (.int .u64) x1213.2), (124, .one (.slc 115)), (125, aI (List.length v1046 : Int)), (126, aI (w64 (i1507 + (1 : Int))))]) (L' := [(115, .seq (.int .u64) v1046)]) (obs := []) (by kernel_rfl) (by kernel_rfl) (by kernel_rfl) allP0 ?_
                    exact round_next' (by kernel_rfl) (by kernel_rfl)
                · obtain rfl := stepL_false h1512 h
                  refine W_exit (id := 12) [8, 13, 19, 20, 21, 120, 121] [115] (fr' := [(8, aD (.int .u64) v175), (13, .one (.slc 115)), (19, aI x1213.1), (20, aD (.int .u64) x1213.2), (21, aD (.int .u64) x1508), (120, aD (.int .u64) (bShl .u64 (1 : Int) (List.length v1046 : Int))), (121, aD (.int .u64) x1213.2)]) (L' := [(115, .seq (.int .u64) v1046)]) (by kernel_rfl) (by kernel_rfl) ?_
                  refine seqQ_exit ?_
                  refine round_exit ?_
                  exact exQ_mk (by kernel_rfl) (by kernel_rfl)
              · intro e fr L hJ
                obtain ⟨rfl, rfl, rfl⟩ := hJ
                refine LT_keep [8, 13, 19, 20, 21, 120, 121] [115] (fr' := [(8, aD (.int .u64) v175), (13, .one (.slc 115)), (19, aI x1213.1), (20, aD (.int .u64) x1213.2), (21, aD (.int .u64) v1522), (120, aD (.int .u64) (bShl .u64 (1 : Int) (List.length v1046 : Int))), (121, aD (.int .u64) x1213.2)]) (L' := [(115, .seq (.int .u64) v1046)]) (by kernel_rfl) ?_
                refine blockQ_hit ?_
                refine seqQ_norm ?_
                refine W_seq (by kernel_rfl) ?_
                refine W_run 3 [] [8, 13, 19, 20, 120, 121, 142] [115] (fr' := [(8, aD (.int .u64) v175), (13, .one (.slc 115)), (19, aI x1213.1), (20, aD (.int .u64) x1213.2), (120, aD (.int .u64) (bShl .u64 (1 : Int) (List.length v1046 : Int))), (121, aD (.int .u64) x1213.2), (142, aB (v1522 == v175))]) (L' := [(115, .seq (.int .u64) v1046)]) (obs := []) (by kernel_rfl) (by kernel_rfl) (by kernel_rfl) allP0 ?_
                refine seqQ_norm ?_
                refine W_cond (o := .tmp 142) (b := v1522 == v175) (by kernel_rfl) (by kernel_rfl) (fun h1527 => ?_) (fun h1527 => ?_)
                · replace h := ofT h1527 h
                  refine W_region (by kernel_rfl) ?_
                  refine WO_run (j := 2) (k := 2) (orcs := []) (kF := [8, 13, 19, 120, 121, 143, 144]) (kL := [115]) (fr' := [(8, aD (.int .u64) v175), (13, .one (.slc 115)), (19, aI x1213.1), (120, aD (.int .u64) (bShl .u64 (1 : Int) (List.length v1046 : Int))), (121, aD (.int .u64) x1213.2), (143, aI x1213.1), (144, aD (.int .u64) x1213.2)]) (L' := [(115, .seq (.int .u64) v1046)]) (obs := []) rfl (by kernel_rfl) allP0 ?_
                  obtain ⟨r1528, h1529, h⟩ := bind_of h
                  refine WO_call0 (us := [none]) (d := 145) (p := True) (j := 3) rfl ⟨by kernel_rfl, by kernel_rfl, by kernel_rfl⟩ trivial (math_bits_OnesCount_ok h1529) (by kernel_rfl) ?_
                  refine WO_run (j := 5) (k := 2) (orcs := []) (kF := [8, 13, 19, 120, 121]) (kL := [115]) (fr' := [(8, aD (.int .u64) v175), (13, .one (.slc 115)), (19, aI (imin x1213.1 r1528)), (120, aD (.int .u64) (bShl .u64 (1 : Int) (List.length v1046 : Int))), (121, aD (.int .u64) x1213.2)]) (L' := [(115, .seq (.int .u64) v1046)]) (obs := []) rfl (by kernel_rfl) allP0 ?_
                  obtain rfl := Option.some.inj h
                  refine WO_fin [8, 13, 19, 120, 121] [115] (fr' := [(8, aD (.int .u64) v175), (13, .one (.slc 115)), (19, aI (imin x1213.1 r1528)), (120, aD (.int .u64) (bShl .u64 (1 : Int) (List.length v1046 : Int))), (121, aD (.int .u64) x1213.2)]) (L' := [(115, .seq (.int .u64) v1046)]) (by kernel_rfl) (by kernel_rfl) ?_
                  refine blockQ_norm ?_
                  exact exQ_mk (by kernel_rfl) (by kernel_rfl)
                · replace h := ofF h1527 h
                  obtain rfl := Option.some.inj h
                  refine W_skip [8, 13, 19, 120, 121] [115] (fr' := [(8, aD (.int .u64) v175), (13, .one (.slc 115)), (19, aI x1213.1), (120, aD (.int .u64) (bShl .u64 (1 : Int) (List.length v1046 : Int))), (121, aD (.int .u64) x1213.2)]) (L' := [(115, .seq (.int .u64) v1046)]) (by kernel_rfl) (by kernel_rfl) ?_
                  refine blockQ_norm ?_
                  exact exQ_mk (by kernel_rfl) (by kernel_rfl)
            · intro e fr L hJ
              obtain ⟨rfl, rfl, rfl⟩ := hJ
              refine LT_keep [8, 13, 19, 120, 121] [115] (fr' := [(8, aD (.int .u64) v175), (13, .one (.slc 115)), (19, aI v1530), (120, aD (.int .u64) (bShl .u64 (1 : Int) (List.length v1046 : Int))), (121, aD (.int .u64) x1213.2)]) (L' := [(115, .seq (.int .u64) v1046)]) (by kernel_rfl) ?_
              refine seqQ_norm ?_
              obtain rfl := Option.some.inj h
              refine W_run 2 [] [8, 13, 19, 120, 121] [115] (fr' := [(8, aD (.int .u64) v175), (13, .one (.slc 115)), (19, aI v1530), (120, aD (.int .u64) (bShl .u64 (1 : Int) (List.length v1046 : Int))), (121, aD (.int .u64) (IntKind.wrap .u64 (x1213.2 + (1 : Int))))]) (L' := [(115, .seq (.int .u64) v1046)]) (obs := []) (by kernel_rfl) (by kernel_rfl) (by kernel_rfl) allP0 ?_
              exact round_next' (by kernel_rfl) (by kernel_rfl)
          · replace h := ofF h1373 h
            obtain rfl := Option.some.inj h
            refine W_exit (id := 10) [19] [] (fr' := [(19, aI x1213.1)]) (L' := []) (by kernel_rfl) (by kernel_rfl) ?_
            refine seqQ_exit ?_
            refine round_exit ?_
            exact exQ_mk (by kernel_rfl) (by kernel_rfl)
        · intro e fr L hJ
          obtain ⟨rfl, rfl, rfl⟩ := hJ
          refine LT_keep [19] [] (fr' := [(19, aI v1532)]) (L' := []) (by kernel_rfl) ?_
          refine blockQ_hit ?_
          refine seqQ_norm ?_
          refine W_seq (by kernel_rfl) ?_
          refine W_run 3 [] [4, 5] [] (fr' := [(4, aI v1532), (5, aI (0 : Int))]) (L' := []) (obs := []) (by kernel_rfl) (by kernel_rfl) (by kernel_rfl) allP0 ?_
          refine seqQ_norm ?_
          obtain rfl := Option.some.inj h
          refine W_ret [4, 5] [] (fr' := [(4, aI v1532), (5, aI (0 : Int))]) (L' := []) (by kernel_rfl) (by kernel_rfl) ?_
          exact retQ_mk (by kernel_rfl) (by kernel_rfl) (by kernel_rfl)

def ref_Within (a0 : Int) (a1 : Int) (a2 : Int) : Option Bool :=
some ((decide (a0 ≤ a1)) && (decide (a1 ≤ a2)))
theorem ref_Within_ok {a0 : Int} {a1 : Int} {a2 : Int} {r : Bool} (h : ref_Within a0 a1 a2 = some r) : FnC Try.prog 40 [aI a0, aI a1, aI a2] [] (aB r) [] := by
  refine fnC_of_W (B := bodyOf Try.f40) (n := 15) Try.func40 (by kernel_rfl) (by kernel_rfl) (by kernel_rfl) (by kernel_rfl) (by kernel_rfl) ?_
  intro K
  refine W_seq (by kernel_rfl) ?_
  refine W_run 1 [] [0, 1, 2] [] (fr' := [(0, aI a0), (1, aI a1), (2, aI a2)]) (L' := []) (obs := []) (by kernel_rfl) (by kernel_rfl) (by kernel_rfl) allP0 ?_
  refine seqQ_norm ?_
  refine W_seq (by kernel_rfl) ?_
  refine W_run 9 [] [6] [] (fr' := [(6, aB ((decide (a0 ≤ a1)) && (decide (a1 ≤ a2))))]) (L' := []) (obs := []) (by kernel_rfl) (by kernel_rfl) (by kernel_rfl) allP0 ?_
  refine seqQ_norm ?_
  obtain rfl := Option.some.inj h
  refine W_ret [6] [] (fr' := [(6, aB ((decide (a0 ≤ a1)) && (decide (a1 ≤ a2))))]) (L' := []) (by kernel_rfl) (by kernel_rfl) ?_
  exact retQ_mk (by kernel_rfl) (by kernel_rfl) (by kernel_rfl)

def ref_TalkCheck_g1 (a0 : (List (List Bool))) : Option Bool :=
(ref_Within (1 : Int) (List.length a0 : Int) (4 : Int)).bind fun r15 =>
bif !r15 then
(some true)
else
((idx a0 (0 : Int)).bind fun v18 =>
(ref_Within (1 : Int) (List.length v18 : Int) (4 : Int)).bind fun r20 =>
some (!r20))
def ref_TalkCheck_b2 (a0 : (List (List Bool))) (i37 : Int) (v40 : (List Bool)) (x38 : Unit) : Option (Flow Unit (Esc Int Unit)) :=
(idx a0 (0 : Int)).bind fun v43 =>
bif (List.length v40 : Int) != (List.length v43 : Int) then
(some (.done (.ret (3 : Int))))
else
(some (.next ()))
@[reducible] def ref_TalkCheck_s3 (a0 : (List (List Bool))) (v : Int × Unit) : Fr × LL := ([(0, aD (.slice (.slice .bool)) a0), (17, aD (.slice (.slice .bool)) a0), (18, aI (List.length a0 : Int)), (19, aI v.1)], [])
@[reducible] def ref_TalkCheck_s4 (v : Int) : Fr × LL := ([(2, aI v)], [])
@[reducible] def ref_TalkCheck_s5 (v : Unit) : Fr × LL := ([], [])
@[reducible] def ref_TalkCheck_s6 (a0 : (List (List Bool))) (v : Bool) : Fr × LL := ([(0, aD (.slice (.slice .bool)) a0), (16, aB v)], [])
def ref_TalkCheck (a0 : (List (List Bool))) : Option Int :=
(ref_TalkCheck_g1 a0).bind fun v22 =>
bif v22 then
(some (1 : Int))
else
((forL (ref_TalkCheck_b2 a0) (fun x38 => (.brk ())) a0 0 ()).bind fun v47 =>
match v47 with
| .ret v52 =>
(some v52)
| .brk v53 =>
(some (0 : Int)))
theorem ref_TalkCheck_ok {a0 : (List (List Bool))} {r : Int} (h : ref_TalkCheck a0 = some r) : FnC Try.prog 13 [aD (.slice (.slice .bool)) a0] [] (aI r) [] := by
  refine fnC_of_W (B := bodyOf Try.f13) (n := 31) Try.func13 (by kernel_rfl) (by kernel_rfl) (by kernel_rfl) (by kernel_rfl) (by kernel_rfl) ?_
  intro K
  refine W_seq (by kernel_rfl) ?_
  refine W_run 1 [] [0] [] (fr' := [(0, aD (.slice (.slice .bool)) a0)]) (L' := []) (obs := []) (by kernel_rfl) (by kernel_rfl) (by kernel_rfl) allP0 ?_
  refine seqQ_norm ?_
  refine W_seq (by kernel_rfl) ?_
  refine W_seq (by kernel_rfl) ?_
  obtain ⟨v22, h23, h⟩ := bind_of h
  refine W_cutK (Q' := (exQ .normal (ref_TalkCheck_s6 a0)) v22) ?_ ?_
  · replace h := h23
    refine W_region (by kernel_rfl) ?_
    refine WO_run (j := 2) (k := 2) (orcs := []) (kF := [0, 6]) (kL := []) (fr' := [(0, aD (.slice (.slice .bool)) a0), (6, aI (List.length a0 : Int))]) (L' := []) (obs := []) rfl (by kernel_rfl) allP0 ?_
    obtain ⟨r15, h16, h⟩ := bind_of h
    refine WO_call0 (us := [none, none, none]) (d := 7) (p := True) (j := 3) rfl ⟨by kernel_rfl, by kernel_rfl, by kernel_rfl⟩ trivial (ref_Within_ok h16) (by kernel_rfl) ?_
    refine WO_run (j := 5) (k := 2) (orcs := []) (kF := [0, 9]) (kL := []) (fr' := [(0, aD (.slice (.slice .bool)) a0), (9, aB (!r15))]) (L' := []) (obs := []) rfl (by kernel_rfl) allP0 ?_
    rcases Bool.eq_false_or_eq_true (!r15) with h17 | h17
    · replace h := ofT h17 h
      refine WO_run (j := 12) (k := 7) (orcs := [(10, .known true), (12, .known true), (14, .known true), (16, .known true), (18, .known true), (20, .known true), (23, .val (.dat .bool true))]) (kF := [0, 16]) (kL := []) (fr' := [(0, aD (.slice (.slice .bool)) a0), (16, aB true)]) (L' := []) (obs := [((!r15) = true), ((!r15) = true), ((!r15) = true), ((!r15) = true), ((!r15) = true), ((!r15) = true), ((!r15) = true)]) rfl (by kernel_rfl) (allP2 h17 (allP2 h17 (allP2 h17 (allP2 h17 (allP2 h17 (allP2 h17 (allP1 h17))))))) ?_
      obtain rfl := Option.some.inj h
      refine WO_fin [0, 16] [] (fr' := [(0, aD (.slice (.slice .bool)) a0), (16, aB true)]) (L' := []) (by kernel_rfl) (by kernel_rfl) ?_
      exact exQ_mk (by kernel_rfl) (by kernel_rfl)
    · replace h := ofF h17 h
      obtain ⟨v18, h19, h⟩ := bind_of h
      refine WO_run (j := 9) (k := 4) (orcs := [(10, .known false), (12, .known false), (13, .val (.dat (.slice .bool) v18)), (14, .known false), (16, .known false)]) (kF := [0, 9, 13]) (kL := []) (fr' := [(0, aD (.slice (.slice .bool)) a0), (9, aB (!r15)), (13, aI (List.length v18 : Int))]) (L' := []) (obs := [((!r15) = false), ((!r15) = false), Idx a0 (0 : Int) v18, ((!r15) = false), ((!r15) = false)]) rfl (by kernel_rfl) (allP2 h17 (allP2 h17 (allP2 (Idx.of h19) (allP2 h17 (allP1 h17))))) ?_
      obtain ⟨r20, h21, h⟩ := bind_of h
      refine WO_call0 (us := [none, none, none]) (d := 14) (p := ((!r15) = false)) (j := 10) rfl ⟨by kernel_rfl, by kernel_rfl, by kernel_rfl⟩ h17 (ref_Within_ok h21) (by kernel_rfl) ?_
      refine WO_run (j := 12) (k := 2) (orcs := [(20, .known false), (23, .val (.dat .bool false))]) (kF := [0, 16]) (kL := []) (fr' := [(0, aD (.slice (.slice .bool)) a0), (16, aB (!r20))]) (L' := []) (obs := [((!r15) = false), ((!r15) = false)]) rfl (by kernel_rfl) (allP2 h17 (allP1 h17)) ?_
      obtain rfl := Option.some.inj h
      refine WO_fin [0, 16] [] (fr' := [(0, aD (.slice (.slice .bool)) a0), (16, aB (!r20))]) (L' := []) (by kernel_rfl) (by kernel_rfl) ?_
      exact exQ_mk (by kernel_rfl) (by kernel_rfl)
  · intro e fr L hJ
    obtain ⟨rfl, rfl, rfl⟩ := hJ
    refine LT_keep [0, 16] [] (fr' := [(0, aD (.slice (.slice .bool)) a0), (16, aB v22)]) (L' := []) (by kernel_rfl) ?_
    refine seqQ_norm ?_
    refine W_cond (o := .tmp 16) (b := v22) (by kernel_rfl) (by kernel_rfl) (fun h24 => ?_) (fun h24 => ?_)
    · replace h := ofT h24 h
      refine W_seq (by kernel_rfl) ?_
      refine W_run 1 [] [2] [] (fr' := [(2, aI (1 : Int))]) (L' := []) (obs := []) (by kernel_rfl) (by kernel_rfl) (by kernel_rfl) allP0 ?_
      refine seqQ_norm ?_
      obtain rfl := Option.some.inj h
      refine W_ret [2] [] (fr' := [(2, aI (1 : Int))]) (L' := []) (by kernel_rfl) (by kernel_rfl) ?_
      refine seqQ_ret ?_
      exact retQ_mk (by kernel_rfl) (by kernel_rfl) (by kernel_rfl)
    · replace h := ofF h24 h
      refine W_skip [0] [] (fr' := [(0, aD (.slice (.slice .bool)) a0)]) (L' := []) (by kernel_rfl) (by kernel_rfl) ?_
      refine seqQ_norm ?_
      refine W_seq (by kernel_rfl) ?_
      refine W_seq (by kernel_rfl) ?_
      refine W_run 3 [] [0, 17, 18, 19] [] (fr' := [(0, aD (.slice (.slice .bool)) a0), (17, aD (.slice (.slice .bool)) a0), (18, aI (List.length a0 : Int)), (19, aI (0 : Int))]) (L' := []) (obs := []) (by kernel_rfl) (by kernel_rfl) (by kernel_rfl) allP0 ?_
      refine seqQ_norm ?_
      refine W_block (id := 0) (by kernel_rfl) ?_
      obtain ⟨v47, h48, h⟩ := bind_of h
      refine W_len (t := 17) (u := (.slice .bool)) (xs := a0) (by kernel_rfl) (fun h51 => ?_)
      obtain ⟨h49, h50⟩ := forL_iter h51 h48
      refine W_weaken [0, 17, 18, 19] [] (fr' := ((ref_TalkCheck_s3 a0) ((0 : Int), ())).1) (L' := ((ref_TalkCheck_s3 a0) ((0 : Int), ())).2) (by kernel_rfl) ?_
      refine W_cutK (W_loop (S := (ref_TalkCheck_s3 a0)) (J := (escQ (exQ .ret ref_TalkCheck_s4) (exQ (.exit 0) ref_TalkCheck_s5))) (by kernel_rfl) ?_ h49 _ v47 h50) ?_
      · rintro ⟨i37, x38⟩ s h
        refine W_seq (by kernel_rfl) ?_
        refine W_run 1 [] [0, 17, 18, 19, 20] [] (fr' := [(0, aD (.slice (.slice .bool)) a0), (17, aD (.slice (.slice .bool)) a0), (18, aI (List.length a0 : Int)), (19, aI i37), (20, aB (decide (i37 < (List.length a0 : Int))))]) (L' := []) (obs := []) (by kernel_rfl) (by kernel_rfl) (by kernel_rfl) allP0 ?_
        refine seqQ_norm ?_
        refine W_seq (by kernel_rfl) ?_
        refine W_cond (o := .tmp 20) (b := decide (i37 < (List.length a0 : Int))) (by kernel_rfl) (by kernel_rfl) (fun h42 => ?_) (fun h42 => ?_)
        · replace h := stepL_true h42 h
          obtain ⟨v40, _, h41, h, rfl⟩ := h
          refine W_skip [0, 17, 18, 19] [] (fr' := [(0, aD (.slice (.slice .bool)) a0), (17, aD (.slice (.slice .bool)) a0), (18, aI (List.length a0 : Int)), (19, aI i37)]) (L' := []) (by kernel_rfl) (by kernel_rfl) ?_
          refine seqQ_norm ?_
          refine W_seq (by kernel_rfl) ?_
          refine W_block (id := 1) (by kernel_rfl) ?_
          refine W_seq (by kernel_rfl) ?_
          refine W_run 3 [(1, .val (.dat (.slice .bool) v40))] [0, 4, 17, 18, 19] [] (fr' := [(0, aD (.slice (.slice .bool)) a0), (4, aD (.slice .bool) v40), (17, aD (.slice (.slice .bool)) a0), (18, aI (List.length a0 : Int)), (19, aI i37)]) (L' := []) (obs := [Idx a0 i37 v40]) (by kernel_rfl) (by kernel_rfl) (by kernel_rfl) (allP1 (Idx.of h41)) ?_
          refine seqQ_norm ?_
          refine W_seq (by kernel_rfl) ?_
          obtain ⟨v43, h44, h⟩ := bind_of h
          refine W_run 7 [(7, .val (.dat (.slice .bool) v43))] [0, 17, 18, 19, 29] [] (fr' := [(0, aD (.slice (.slice .bool)) a0), (17, aD (.slice (.slice .bool)) a0), (18, aI (List.length a0 : Int)), (19, aI i37), (29, aB ((List.length v40 : Int) != (List.length v43 : Int)))]) (L' := []) (obs := [Idx a0 (0 : Int) v43]) (by kernel_rfl) (by kernel_rfl) (by kernel_rfl) (allP1 (Idx.of h44)) ?_
          refine seqQ_norm ?_
          refine W_cond (o := .tmp 29) (b := (List.length v40 : Int) != (List.length v43 : Int)) (by kernel_rfl) (by kernel_rfl) (fun h45 => ?_) (fun h45 => ?_)
          · replace h := ofT h45 h
            refine W_seq (by kernel_rfl) ?_
            refine W_run 1 [] [2] [] (fr' := [(2, aI (3 : Int))]) (L' := []) (obs := []) (by kernel_rfl) (by kernel_rfl) (by kernel_rfl) allP0 ?_
            refine seqQ_norm ?_
            obtain rfl := Option.some.inj h
            refine W_ret [2] [] (fr' := [(2, aI (3 : Int))]) (L' := []) (by kernel_rfl) (by kernel_rfl) ?_
            refine blockQ_ret ?_
            refine seqQ_ret ?_
            refine round_ret ?_
            refine escQ_ret ?_
            exact exQ_mk (by kernel_rfl) (by kernel_rfl)
          · replace h := ofF h45 h
            refine W_skip [0, 17, 18, 19] [] (fr' := [(0, aD (.slice (.slice .bool)) a0), (17, aD (.slice (.slice .bool)) a0), (18, aI (List.length a0 : Int)), (19, aI i37)]) (L' := []) (by kernel_rfl) (by kernel_rfl) ?_
            refine blockQ_norm ?_
            refine seqQ_norm ?_
            obtain rfl := Option.some.inj h
            refine W_run 2 [] [0, 17, 18, 19] [] (fr' := [(0, aD (.slice (.slice .bool)) a0), (17, aD (.slice (.slice .bool)) a0), (18, aI (List.length a0 : Int)), (19, aI (w64 (i37 + (1 : Int))))]) (L' := []) (obs := []) (by kernel_rfl) (by kernel_rfl) (by kernel_rfl) allP0 ?_
            exact round_next' (by kernel_rfl) (by kernel_rfl)
        · obtain rfl := stepL_false h42 h
          refine W_exit (id := 0) [] [] (fr' := []) (L' := []) (by kernel_rfl) (by kernel_rfl) ?_
          refine seqQ_exit ?_
          refine round_exit ?_
          refine escQ_brk ?_
          exact exQ_mk (by kernel_rfl) (by kernel_rfl)
      · intro e fr L hJ
        rcases v47 with v52 | v53
        · obtain ⟨rfl, rfl, rfl⟩ := hJ
          obtain rfl := Option.some.inj h
          refine LT_keep [2] [] (fr' := [(2, aI v52)]) (L' := []) (by kernel_rfl) ?_
          refine blockQ_ret ?_
          refine seqQ_ret ?_
          exact retQ_mk (by kernel_rfl) (by kernel_rfl) (by kernel_rfl)
        · obtain ⟨rfl, rfl, rfl⟩ := hJ
          refine LT_keep [] [] (fr' := []) (L' := []) (by kernel_rfl) ?_
          refine blockQ_hit ?_
          refine seqQ_norm ?_
          refine W_seq (by kernel_rfl) ?_
          refine W_run 1 [] [2] [] (fr' := [(2, aI (0 : Int))]) (L' := []) (obs := []) (by kernel_rfl) (by kernel_rfl) (by kernel_rfl) allP0 ?_
          refine seqQ_norm ?_
          obtain rfl := Option.some.inj h
          refine W_ret [2] [] (fr' := [(2, aI (0 : Int))]) (L' := []) (by kernel_rfl) (by kernel_rfl) ?_
          exact retQ_mk (by kernel_rfl) (by kernel_rfl) (by kernel_rfl)

def ref_Bit (a0 : Int) (a1 : Int) : Option Bool :=
bif (decide (a1 ≥ (0 : Int))) && (decide (a1 < (63 : Int))) then
((ck (0 ≤ IntKind.wrap .u64 (a1))).bind fun _ =>
some ((bAnd .i64 a0 (bShl .i64 (1 : Int) (IntKind.wrap .u64 (a1)))) != (0 : Int)))
else
(some false)
theorem ref_Bit_ok {a0 : Int} {a1 : Int} {r : Bool} (h : ref_Bit a0 a1 = some r) : FnC Try.prog 45 [aI a0, aI a1] [] (aB r) [] := by
  refine fnC_of_W (B := bodyOf Try.f45) (n := 19) Try.func45 (by kernel_rfl) (by kernel_rfl) (by kernel_rfl) (by kernel_rfl) (by kernel_rfl) ?_
  intro K
  refine W_seq (by kernel_rfl) ?_
  refine W_run 1 [] [0, 1] [] (fr' := [(0, aI a0), (1, aI a1)]) (L' := []) (obs := []) (by kernel_rfl) (by kernel_rfl) (by kernel_rfl) allP0 ?_
  refine seqQ_norm ?_
  refine W_seq (by kernel_rfl) ?_
  refine W_region (by kernel_rfl) ?_
  refine WO_run (j := 7) (k := 7) (orcs := []) (kF := [0, 1, 11]) (kL := []) (fr' := [(0, aI a0), (1, aI a1), (11, aB ((decide (a1 ≥ (0 : Int))) && (decide (a1 < (63 : Int)))))]) (L' := []) (obs := []) rfl (by kernel_rfl) allP0 ?_
  rcases Bool.eq_false_or_eq_true ((decide (a1 ≥ (0 : Int))) && (decide (a1 < (63 : Int)))) with h1 | h1
  · replace h := ofT h1 h
    obtain ⟨_, h2, h⟩ := bind_of h
    replace h2 := ck_some h2
    refine WO_run (j := 15) (k := 8) (orcs := [(14, .known true), (16, .known true), (18, .known true), (20, .known true), (22, .known true), (24, .known true), (27, .val (.dat .bool true))]) (kF := [4]) (kL := []) (fr' := [(4, aB ((bAnd .i64 a0 (bShl .i64 (1 : Int) (IntKind.wrap .u64 (a1)))) != (0 : Int)))]) (L' := []) (obs := [(((decide (a1 ≥ (0 : Int))) && (decide (a1 < (63 : Int)))) = true), (((decide (a1 ≥ (0 : Int))) && (decide (a1 < (63 : Int)))) = true), (((decide (a1 ≥ (0 : Int))) && (decide (a1 < (63 : Int)))) = true), (((decide (a1 ≥ (0 : Int))) && (decide (a1 < (63 : Int)))) = true), (0 ≤ IntKind.wrap .u64 (a1)), (((decide (a1 ≥ (0 : Int))) && (decide (a1 < (63 : Int)))) = true), (((decide (a1 ≥ (0 : Int))) && (decide (a1 < (63 : Int)))) = true), (((decide (a1 ≥ (0 : Int))) && (decide (a1 < (63 : Int)))) = true)]) rfl (by kernel_rfl) (allP2 h1 (allP2 h1 (allP2 h1 (allP2 h1 (allP2 h2 (allP2 h1 (allP2 h1 (allP1 h1)))))))) ?_
    refine WO_fin [4] [] (fr' := [(4, aB ((bAnd .i64 a0 (bShl .i64 (1 : Int) (IntKind.wrap .u64 (a1)))) != (0 : Int)))]) (L' := []) (by kernel_rfl) (by kernel_rfl) ?_
    refine seqQ_norm ?_
    obtain rfl := Option.some.inj h
    refine W_ret [4] [] (fr' := [(4, aB ((bAnd .i64 a0 (bShl .i64 (1 : Int) (IntKind.wrap .u64 (a1)))) != (0 : Int)))]) (L' := []) (by kernel_rfl) (by kernel_rfl) ?_
    exact retQ_mk (by kernel_rfl) (by kernel_rfl) (by kernel_rfl)
  · replace h := ofF h1 h
    refine WO_run (j := 15) (k := 8) (orcs := [(14, .known false), (16, .known false), (18, .known false), (20, .known false), (22, .known false), (24, .known false), (27, .val (.dat .bool false))]) (kF := [4]) (kL := []) (fr' := [(4, aB false)]) (L' := []) (obs := [(((decide (a1 ≥ (0 : Int))) && (decide (a1 < (63 : Int)))) = false), (((decide (a1 ≥ (0 : Int))) && (decide (a1 < (63 : Int)))) = false), (((decide (a1 ≥ (0 : Int))) && (decide (a1 < (63 : Int)))) = false), (((decide (a1 ≥ (0 : Int))) && (decide (a1 < (63 : Int)))) = false), (((decide (a1 ≥ (0 : Int))) && (decide (a1 < (63 : Int)))) = false), (((decide (a1 ≥ (0 : Int))) && (decide (a1 < (63 : Int)))) = false), (((decide (a1 ≥ (0 : Int))) && (decide (a1 < (63 : Int)))) = false)]) rfl (by kernel_rfl) (allP2 h1 (allP2 h1 (allP2 h1 (allP2 h1 (allP2 h1 (allP2 h1 (allP1 h1))))))) ?_
    refine WO_fin [4] [] (fr' := [(4, aB false)]) (L' := []) (by kernel_rfl) (by kernel_rfl) ?_
    refine seqQ_norm ?_
    obtain rfl := Option.some.inj h
    refine W_ret [4] [] (fr' := [(4, aB false)]) (L' := []) (by kernel_rfl) (by kernel_rfl) ?_
    exact retQ_mk (by kernel_rfl) (by kernel_rfl) (by kernel_rfl)

@[reducible] def ref_ListOf_s3 (a0 : Int) (i30 : Int) (v : (List Int)) : Fr × LL := ([(0, aI a0), (3, .one (.slc 15)), (4, aI i30)], [(15, .seq tI v)])
def ref_ListOf_b4 (a0 : Int) (i30 : Int) (x31 : (List Int)) : Option (Flow (List Int) (List Int)) :=
((ref_Bit a0 i30).bind fun r42 =>
bif r42 then
((ck ((List.length x31 : Int) + 1 ≤ 4294967296)).bind fun _ =>
some (x31 ++ [i30]))
else
(some x31)).bind fun v46 =>
some (.next v46)
@[reducible] def ref_ListOf_s5 (a0 : Int) (v : Int × (List Int)) : Fr × LL := ([(0, aI a0), (3, .one (.slc 15)), (4, aI v.1)], [(15, .seq tI v.2)])
@[reducible] def ref_ListOf_s6 (v : (List Int)) : Fr × LL := ([(3, .one (.slc 15))], [(15, .seq tI v)])
def ref_ListOf (a0 : Int) : Option (List Int) :=
(forI (0 : Int) (63 : Int) (ref_ListOf_b4 a0) (fun x31 => x31) []).bind fun v49 =>
some v49
theorem ref_ListOf_ok {a0 : Int} {r : (List Int)} (h : ref_ListOf a0 = some r) : FnC Try.prog 22 [aI a0] [] (aD (.slice tI) r) [] := by
  refine fnC_of_W (B := bodyOf Try.f22) (n := 17) Try.func22 (by kernel_rfl) (by kernel_rfl) (by kernel_rfl) (by kernel_rfl) (by kernel_rfl) ?_
  intro K
  refine W_seq (by kernel_rfl) ?_
  refine W_run 1 [] [0] [] (fr' := [(0, aI a0)]) (L' := []) (obs := []) (by kernel_rfl) (by kernel_rfl) (by kernel_rfl) allP0 ?_
  refine seqQ_norm ?_
  refine W_seq (by kernel_rfl) ?_
  refine W_run 1 [] [0, 3] [] (fr' := [(0, aI a0), (3, .one (.nilS))]) (L' := []) (obs := []) (by kernel_rfl) (by kernel_rfl) (by kernel_rfl) allP0 ?_
  refine seqQ_norm ?_
  refine W_seq (by kernel_rfl) ?_
  refine W_seq (by kernel_rfl) ?_
  refine W_run 1 [] [0, 3, 4] [] (fr' := [(0, aI a0), (3, .one (.nilS)), (4, aI (0 : Int))]) (L' := []) (obs := []) (by kernel_rfl) (by kernel_rfl) (by kernel_rfl) allP0 ?_
  refine seqQ_norm ?_
  refine W_block (id := 0) (by kernel_rfl) ?_
  obtain ⟨v49, h50, h⟩ := bind_of h
  obtain ⟨h51, h52⟩ := forI_iter h50
  refine W_mine 3 15 tI (by kernel_rfl) ?_
  refine W_weaken [0, 3, 4] [15] (fr' := ((ref_ListOf_s5 a0) ((0 : Int), [])).1) (L' := ((ref_ListOf_s5 a0) ((0 : Int), [])).2) (by kernel_rfl) ?_
  refine W_cutK (W_loop (S := (ref_ListOf_s5 a0)) (J := (exQ (.exit 0) ref_ListOf_s6)) (by kernel_rfl) ?_ h51 _ v49 h52) ?_
  · rintro ⟨i30, x31⟩ s h
    refine W_seq (by kernel_rfl) ?_
    refine W_seq (by kernel_rfl) ?_
    refine W_run 2 [] [0, 3, 4, 6] [15] (fr' := [(0, aI a0), (3, .one (.slc 15)), (4, aI i30), (6, aB (decide (i30 < (63 : Int))))]) (L' := [(15, .seq tI x31)]) (obs := []) (by kernel_rfl) (by kernel_rfl) (by kernel_rfl) allP0 ?_
    refine seqQ_norm ?_
    refine W_cond (o := .tmp 6) (b := decide (i30 < (63 : Int))) (by kernel_rfl) (by kernel_rfl) (fun h33 => ?_) (fun h33 => ?_)
    · replace h := stepI_true h33 h
      obtain ⟨_, h, rfl⟩ := h
      refine W_skip [0, 3, 4] [15] (fr' := [(0, aI a0), (3, .one (.slc 15)), (4, aI i30)]) (L' := [(15, .seq tI x31)]) (by kernel_rfl) (by kernel_rfl) ?_
      refine seqQ_norm ?_
      refine W_seq (by kernel_rfl) ?_
      obtain ⟨v46, h47, h⟩ := bind_of h
      refine W_cutK (Q' := (exQ .normal (ref_ListOf_s3 a0 i30)) v46) ?_ ?_
      · replace h := h47
        refine W_block (id := 1) (by kernel_rfl) ?_
        refine W_seq (by kernel_rfl) ?_
        refine W_region (by kernel_rfl) ?_
        refine WO_run (j := 2) (k := 2) (orcs := []) (kF := [0, 3, 4, 9, 10]) (kL := [15]) (fr' := [(0, aI a0), (3, .one (.slc 15)), (4, aI i30), (9, aI a0), (10, aI i30)]) (L' := [(15, .seq tI x31)]) (obs := []) rfl (by kernel_rfl) allP0 ?_
        obtain ⟨r42, h43, h⟩ := bind_of h
        refine WO_call0 (us := [none, none]) (d := 11) (p := True) (j := 3) rfl ⟨by kernel_rfl, by kernel_rfl, by kernel_rfl⟩ trivial (ref_Bit_ok h43) (by kernel_rfl) ?_
        refine WO_fin [0, 3, 4, 11] [15] (fr' := [(0, aI a0), (3, .one (.slc 15)), (4, aI i30), (11, aB r42)]) (L' := [(15, .seq tI x31)]) (by kernel_rfl) (by kernel_rfl) ?_
        refine seqQ_norm ?_
        refine W_cond (o := .tmp 11) (b := r42) (by kernel_rfl) (by kernel_rfl) (fun h44 => ?_) (fun h44 => ?_)
        · replace h := ofT h44 h
          obtain ⟨_, h45, h⟩ := bind_of h
          replace h45 := ck_some h45
          obtain rfl := Option.some.inj h
          refine W_run 5 [] [0, 3, 4] [15] (fr' := [(0, aI a0), (3, .one (.slc 15)), (4, aI i30)]) (L' := [(15, .seq tI (x31 ++ [i30]))]) (obs := [SmallLen (List.length x31 + List.length [i30])]) (by kernel_rfl) (by kernel_rfl) (by kernel_rfl) (allP1 h45) ?_
          refine blockQ_norm ?_
          exact exQ_mk (by kernel_rfl) (by kernel_rfl)
        · replace h := ofF h44 h
          obtain rfl := Option.some.inj h
          refine W_skip [0, 3, 4] [15] (fr' := [(0, aI a0), (3, .one (.slc 15)), (4, aI i30)]) (L' := [(15, .seq tI x31)]) (by kernel_rfl) (by kernel_rfl) ?_
          refine blockQ_norm ?_
          exact exQ_mk (by kernel_rfl) (by kernel_rfl)
      · intro e fr L hJ
        obtain ⟨rfl, rfl, rfl⟩ := hJ
        refine LT_keep [0, 3, 4] [15] (fr' := [(0, aI a0), (3, .one (.slc 15)), (4, aI i30)]) (L' := [(15, .seq tI v46)]) (by kernel_rfl) ?_
        refine seqQ_norm ?_
        obtain rfl := Option.some.inj h
        refine W_run 3 [] [0, 3, 4] [15] (fr' := [(0, aI a0), (3, .one (.slc 15)), (4, aI (w64 (i30 + (1 : Int))))]) (L' := [(15, .seq tI v46)]) (obs := []) (by kernel_rfl) (by kernel_rfl) (by kernel_rfl) allP0 ?_
        exact round_next' (by kernel_rfl) (by kernel_rfl)
    · obtain rfl := stepI_false h33 h
      refine W_exit (id := 0) [3] [15] (fr' := [(3, .one (.slc 15))]) (L' := [(15, .seq tI x31)]) (by kernel_rfl) (by kernel_rfl) ?_
      refine seqQ_exit ?_
      refine round_exit ?_
      exact exQ_mk (by kernel_rfl) (by kernel_rfl)
  · intro e fr L hJ
    obtain ⟨rfl, rfl, rfl⟩ := hJ
    refine LT_keep [3] [15] (fr' := [(3, .one (.slc 15))]) (L' := [(15, .seq tI v49)]) (by kernel_rfl) ?_
    refine blockQ_hit ?_
    refine seqQ_norm ?_
    refine W_seq (by kernel_rfl) ?_
    refine W_run 2 [] [2] [15] (fr' := [(2, .one (.slc 15))]) (L' := [(15, .seq tI v49)]) (obs := []) (by kernel_rfl) (by kernel_rfl) (by kernel_rfl) allP0 ?_
    refine seqQ_norm ?_
    obtain rfl := Option.some.inj h
    refine W_frz 15 (by kernel_rfl) ?_
    refine W_ret [2] [] (fr' := [(2, aD (.slice tI) v49)]) (L' := []) (by kernel_rfl) (by kernel_rfl) ?_
    exact retQ_mk (by kernel_rfl) (by kernel_rfl) (by kernel_rfl)

@[reducible] def ref_Size_s3 (a0 : Int) (i27 : Int) (v : Int) : Fr × LL := ([(0, aI a0), (3, aI v), (4, aI i27)], [])
def ref_Size_b4 (a0 : Int) (i27 : Int) (x28 : Int) : Option (Flow Int Int) :=
((ref_Bit a0 i27).bind fun r37 =>
bif r37 then
(some (w64 (x28 + (1 : Int))))
else
(some x28)).bind fun v40 =>
some (.next v40)
@[reducible] def ref_Size_s5 (a0 : Int) (v : Int × Int) : Fr × LL := ([(0, aI a0), (3, aI v.2), (4, aI v.1)], [])
@[reducible] def ref_Size_s6 (v : Int) : Fr × LL := ([(3, aI v)], [])
def ref_Size (a0 : Int) : Option Int :=
(forI (0 : Int) (63 : Int) (ref_Size_b4 a0) (fun x28 => x28) (0 : Int)).bind fun v43 =>
some v43
theorem ref_Size_ok {a0 : Int} {r : Int} (h : ref_Size a0 = some r) : FnC Try.prog 20 [aI a0] [] (aI r) [] := by
  refine fnC_of_W (B := bodyOf Try.f20) (n := 15) Try.func20 (by kernel_rfl) (by kernel_rfl) (by kernel_rfl) (by kernel_rfl) (by kernel_rfl) ?_
  intro K
  refine W_seq (by kernel_rfl) ?_
  refine W_run 1 [] [0] [] (fr' := [(0, aI a0)]) (L' := []) (obs := []) (by kernel_rfl) (by kernel_rfl) (by kernel_rfl) allP0 ?_
  refine seqQ_norm ?_
  refine W_seq (by kernel_rfl) ?_
  refine W_run 1 [] [0, 3] [] (fr' := [(0, aI a0), (3, aI (0 : Int))]) (L' := []) (obs := []) (by kernel_rfl) (by kernel_rfl) (by kernel_rfl) allP0 ?_
  refine seqQ_norm ?_
  refine W_seq (by kernel_rfl) ?_
  refine W_seq (by kernel_rfl) ?_
  refine W_run 1 [] [0, 3, 4] [] (fr' := [(0, aI a0), (3, aI (0 : Int)), (4, aI (0 : Int))]) (L' := []) (obs := []) (by kernel_rfl) (by kernel_rfl) (by kernel_rfl) allP0 ?_
  refine seqQ_norm ?_
  refine W_block (id := 0) (by kernel_rfl) ?_
  obtain ⟨v43, h44, h⟩ := bind_of h
  obtain ⟨h45, h46⟩ := forI_iter h44
  refine W_weaken [0, 3, 4] [] (fr' := ((ref_Size_s5 a0) ((0 : Int), (0 : Int))).1) (L' := ((ref_Size_s5 a0) ((0 : Int), (0 : Int))).2) (by kernel_rfl) ?_
  refine W_cutK (W_loop (S := (ref_Size_s5 a0)) (J := (exQ (.exit 0) ref_Size_s6)) (by kernel_rfl) ?_ h45 _ v43 h46) ?_
  · rintro ⟨i27, x28⟩ s h
    refine W_seq (by kernel_rfl) ?_
    refine W_seq (by kernel_rfl) ?_
    refine W_run 2 [] [0, 3, 4, 6] [] (fr' := [(0, aI a0), (3, aI x28), (4, aI i27), (6, aB (decide (i27 < (63 : Int))))]) (L' := []) (obs := []) (by kernel_rfl) (by kernel_rfl) (by kernel_rfl) allP0 ?_
    refine seqQ_norm ?_
    refine W_cond (o := .tmp 6) (b := decide (i27 < (63 : Int))) (by kernel_rfl) (by kernel_rfl) (fun h30 => ?_) (fun h30 => ?_)
    · replace h := stepI_true h30 h
      obtain ⟨_, h, rfl⟩ := h
      refine W_skip [0, 3, 4] [] (fr' := [(0, aI a0), (3, aI x28), (4, aI i27)]) (L' := []) (by kernel_rfl) (by kernel_rfl) ?_
      refine seqQ_norm ?_
      refine W_seq (by kernel_rfl) ?_
      obtain ⟨v40, h41, h⟩ := bind_of h
      refine W_cutK (Q' := (exQ .normal (ref_Size_s3 a0 i27)) v40) ?_ ?_
      · replace h := h41
        refine W_block (id := 1) (by kernel_rfl) ?_
        refine W_seq (by kernel_rfl) ?_
        refine W_region (by kernel_rfl) ?_
        refine WO_run (j := 2) (k := 2) (orcs := []) (kF := [0, 3, 4, 9, 10]) (kL := []) (fr' := [(0, aI a0), (3, aI x28), (4, aI i27), (9, aI a0), (10, aI i27)]) (L' := []) (obs := []) rfl (by kernel_rfl) allP0 ?_
        obtain ⟨r37, h38, h⟩ := bind_of h
        refine WO_call0 (us := [none, none]) (d := 11) (p := True) (j := 3) rfl ⟨by kernel_rfl, by kernel_rfl, by kernel_rfl⟩ trivial (ref_Bit_ok h38) (by kernel_rfl) ?_
        refine WO_fin [0, 3, 4, 11] [] (fr' := [(0, aI a0), (3, aI x28), (4, aI i27), (11, aB r37)]) (L' := []) (by kernel_rfl) (by kernel_rfl) ?_
        refine seqQ_norm ?_
        refine W_cond (o := .tmp 11) (b := r37) (by kernel_rfl) (by kernel_rfl) (fun h39 => ?_) (fun h39 => ?_)
        · replace h := ofT h39 h
          obtain rfl := Option.some.inj h
          refine W_run 3 [] [0, 3, 4] [] (fr' := [(0, aI a0), (3, aI (w64 (x28 + (1 : Int)))), (4, aI i27)]) (L' := []) (obs := []) (by kernel_rfl) (by kernel_rfl) (by kernel_rfl) allP0 ?_
          refine blockQ_norm ?_
          exact exQ_mk (by kernel_rfl) (by kernel_rfl)
        · replace h := ofF h39 h
          obtain rfl := Option.some.inj h
          refine W_skip [0, 3, 4] [] (fr' := [(0, aI a0), (3, aI x28), (4, aI i27)]) (L' := []) (by kernel_rfl) (by kernel_rfl) ?_
          refine blockQ_norm ?_
          exact exQ_mk (by kernel_rfl) (by kernel_rfl)
      · intro e fr L hJ
        obtain ⟨rfl, rfl, rfl⟩ := hJ
        refine LT_keep [0, 3, 4] [] (fr' := [(0, aI a0), (3, aI v40), (4, aI i27)]) (L' := []) (by kernel_rfl) ?_
        refine seqQ_norm ?_
        obtain rfl := Option.some.inj h
        refine W_run 3 [] [0, 3, 4] [] (fr' := [(0, aI a0), (3, aI v40), (4, aI (w64 (i27 + (1 : Int))))]) (L' := []) (obs := []) (by kernel_rfl) (by kernel_rfl) (by kernel_rfl) allP0 ?_
        exact round_next' (by kernel_rfl) (by kernel_rfl)
    · obtain rfl := stepI_false h30 h
      refine W_exit (id := 0) [3] [] (fr' := [(3, aI x28)]) (L' := []) (by kernel_rfl) (by kernel_rfl) ?_
      refine seqQ_exit ?_
      refine round_exit ?_
      exact exQ_mk (by kernel_rfl) (by kernel_rfl)
  · intro e fr L hJ
    obtain ⟨rfl, rfl, rfl⟩ := hJ
    refine LT_keep [3] [] (fr' := [(3, aI v43)]) (L' := []) (by kernel_rfl) ?_
    refine blockQ_hit ?_
    refine seqQ_norm ?_
    refine W_seq (by kernel_rfl) ?_
    refine W_run 2 [] [2] [] (fr' := [(2, aI v43)]) (L' := []) (obs := []) (by kernel_rfl) (by kernel_rfl) (by kernel_rfl) allP0 ?_
    refine seqQ_norm ?_
    obtain rfl := Option.some.inj h
    refine W_ret [2] [] (fr' := [(2, aI v43)]) (L' := []) (by kernel_rfl) (by kernel_rfl) ?_
    exact retQ_mk (by kernel_rfl) (by kernel_rfl) (by kernel_rfl)

def ref_whole_b7 (a1 : Bool) (v88 : (List Bool)) (i109 : Int) (v112 : Int) (x110 : Bool) : Option (Flow Bool Bool) :=
bif x110 then
((idx v88 v112).bind fun v116 =>
some (.next (v116 == a1)))
else
(some (.next false))
@[reducible] def ref_whole_s8 (a0 : (List (List Bool))) (a1 : Bool) (a2 : Int) (a3 : Int) (i85 : Int) (r93 : (List Int)) (v : Int × Bool) : Fr × LL := ([(0, aD (.slice (.slice .bool)) a0), (1, aB a1), (2, aI a2), (3, aI a3), (9, aI i85), (10, aB v.2), (28, aD (.slice tI) r93), (29, aI (List.length r93 : Int)), (30, aI v.1)], [])
@[reducible] def ref_whole_s9 (a0 : (List (List Bool))) (a1 : Bool) (a2 : Int) (a3 : Int) (i85 : Int) (v : Bool) : Fr × LL := ([(0, aD (.slice (.slice .bool)) a0), (1, aB a1), (2, aI a2), (3, aI a3), (9, aI i85), (10, aB v)], [])
def ref_whole_b10 (a1 : Bool) (a2 : Int) (a3 : Int) (i85 : Int) (v88 : (List Bool)) (x86 : Unit) : Option (Flow Unit (Esc Bool Unit)) :=
(ref_Bit a2 i85).bind fun r91 =>
(ref_ListOf a3).bind fun r93 =>
(forL (ref_whole_b7 a1 v88) (fun x110 => x110) r93 0 (!r91)).bind fun v119 =>
bif v119 then
(some (.done (.ret false)))
else
(some (.next ()))
@[reducible] def ref_whole_s11 (a0 : (List (List Bool))) (a1 : Bool) (a2 : Int) (a3 : Int) (v : Int × Unit) : Fr × LL := ([(0, aD (.slice (.slice .bool)) a0), (1, aB a1), (2, aI a2), (3, aI a3), (9, aI v.1)], [])
@[reducible] def ref_whole_s12 (v : Bool) : Fr × LL := ([(8, aB v)], [])
@[reducible] def ref_whole_s13 (a0 : (List (List Bool))) (a1 : Bool) (a2 : Int) (a3 : Int) (v : Unit) : Fr × LL := ([(0, aD (.slice (.slice .bool)) a0), (1, aB a1), (2, aI a2), (3, aI a3)], [])
def ref_whole_b20 (a0 : (List (List Bool))) (a1 : Bool) (x177 : Int) (i246 : Int) (v249 : Int) (x247 : Bool) : Option (Flow Bool Bool) :=
bif x247 then
((idx a0 v249).bind fun v253 =>
(idx v253 x177).bind fun v255 =>
some (.next (v255 == a1)))
else
(some (.next false))
@[reducible] def ref_whole_s21 (a0 : (List (List Bool))) (a1 : Bool) (a2 : Int) (a3 : Int) (x177 : Int) (r226 : (List Int)) (v : Int × Bool) : Fr × LL := ([(0, aD (.slice (.slice .bool)) a0), (1, aB a1), (2, aI a2), (3, aI a3), (13, aI x177), (14, aB v.2), (61, aD (.slice tI) r226), (62, aI (List.length r226 : Int)), (63, aI v.1)], [])
@[reducible] def ref_whole_s22 (a0 : (List (List Bool))) (a1 : Bool) (a2 : Int) (a3 : Int) (x177 : Int) (v : Bool) : Fr × LL := ([(0, aD (.slice (.slice .bool)) a0), (1, aB a1), (2, aI a2), (3, aI a3), (13, aI x177), (14, aB v)], [])
def ref_whole_b23 (a0 : (List (List Bool))) (a1 : Bool) (a2 : Int) (a3 : Int) (x177 : Int) : Option (Flow Int (Esc Bool Unit)) :=
(idx a0 (0 : Int)).bind fun v221 =>
bif decide (x177 < (List.length v221 : Int)) then
((ref_Bit a3 x177).bind fun r224 =>
(ref_ListOf a2).bind fun r226 =>
(forL (ref_whole_b20 a0 a1 x177) (fun x247 => x247) r226 0 (!r224)).bind fun v258 =>
bif v258 then
(some (.done (.ret false)))
else
(some (.next (w64 (x177 + (1 : Int))))))
else
(some (.done (.brk ())))
@[reducible] def ref_whole_s24 (a0 : (List (List Bool))) (a1 : Bool) (a2 : Int) (a3 : Int) (v : Int) : Fr × LL := ([(0, aD (.slice (.slice .bool)) a0), (1, aB a1), (2, aI a2), (3, aI a3), (13, aI v)], [])
@[reducible] def ref_whole_s25 (v : Bool) : Fr × LL := ([(8, aB v)], [])
@[reducible] def ref_whole_s26 (v : Unit) : Fr × LL := ([], [])
def ref_whole (fuel : Nat) (a0 : (List (List Bool))) (a1 : Bool) (a2 : Int) (a3 : Int) : Option Bool :=
(forL (ref_whole_b10 a1 a2 a3) (fun x86 => (.brk ())) a0 0 ()).bind fun v126 =>
match v126 with
| .ret v131 =>
(some v131)
| .brk v132 =>
((iter (ref_whole_b23 a0 a1 a2 a3) fuel (0 : Int)).bind fun v264 =>
match v264 with
| .ret v268 =>
(some v268)
| .brk v269 =>
(some true))
theorem ref_whole_ok {fuel : Nat} {a0 : (List (List Bool))} {a1 : Bool} {a2 : Int} {a3 : Int} {r : Bool} (h : ref_whole fuel a0 a1 a2 a3 = some r) : FnC Try.prog 51 [aD (.slice (.slice .bool)) a0, aB a1, aI a2, aI a3] [] (aB r) [] := by
  refine fnC_of_W (B := bodyOf Try.f51) (n := 81) Try.func51 (by kernel_rfl) (by kernel_rfl) (by kernel_rfl) (by kernel_rfl) (by kernel_rfl) ?_
  intro K
  refine W_seq (by kernel_rfl) ?_
  refine W_run 1 [] [0, 1, 2, 3] [] (fr' := [(0, aD (.slice (.slice .bool)) a0), (1, aB a1), (2, aI a2), (3, aI a3)]) (L' := []) (obs := []) (by kernel_rfl) (by kernel_rfl) (by kernel_rfl) allP0 ?_
  refine seqQ_norm ?_
  refine W_seq (by kernel_rfl) ?_
  refine W_seq (by kernel_rfl) ?_
  refine W_run 1 [] [0, 1, 2, 3, 9] [] (fr' := [(0, aD (.slice (.slice .bool)) a0), (1, aB a1), (2, aI a2), (3, aI a3), (9, aI (0 : Int))]) (L' := []) (obs := []) (by kernel_rfl) (by kernel_rfl) (by kernel_rfl) allP0 ?_
  refine seqQ_norm ?_
  refine W_block (id := 0) (by kernel_rfl) ?_
  obtain ⟨v126, h127, h⟩ := bind_of h
  refine W_len (t := 0) (u := (.slice .bool)) (xs := a0) (by kernel_rfl) (fun h130 => ?_)
  obtain ⟨h128, h129⟩ := forL_iter h130 h127
  refine W_weaken [0, 1, 2, 3, 9] [] (fr' := ((ref_whole_s11 a0 a1 a2 a3) ((0 : Int), ())).1) (L' := ((ref_whole_s11 a0 a1 a2 a3) ((0 : Int), ())).2) (by kernel_rfl) ?_
  refine W_cutK (W_loop (S := (ref_whole_s11 a0 a1 a2 a3)) (J := (escQ (exQ .ret ref_whole_s12) (exQ (.exit 0) (ref_whole_s13 a0 a1 a2 a3)))) (by kernel_rfl) ?_ h128 _ v126 h129) ?_
  · rintro ⟨i85, x86⟩ s h
    refine W_seq (by kernel_rfl) ?_
    refine W_seq (by kernel_rfl) ?_
    refine W_run 4 [] [0, 1, 2, 3, 9, 20] [] (fr' := [(0, aD (.slice (.slice .bool)) a0), (1, aB a1), (2, aI a2), (3, aI a3), (9, aI i85), (20, aB (decide (i85 < (List.length a0 : Int))))]) (L' := []) (obs := []) (by kernel_rfl) (by kernel_rfl) (by kernel_rfl) allP0 ?_
    refine seqQ_norm ?_
    refine W_cond (o := .tmp 20) (b := decide (i85 < (List.length a0 : Int))) (by kernel_rfl) (by kernel_rfl) (fun h90 => ?_) (fun h90 => ?_)
    · replace h := stepL_true h90 h
      obtain ⟨v88, _, h89, h, rfl⟩ := h
      refine W_skip [0, 1, 2, 3, 9] [] (fr' := [(0, aD (.slice (.slice .bool)) a0), (1, aB a1), (2, aI a2), (3, aI a3), (9, aI i85)]) (L' := []) (by kernel_rfl) (by kernel_rfl) ?_
      refine seqQ_norm ?_
      refine W_seq (by kernel_rfl) ?_
      refine W_block (id := 1) (by kernel_rfl) ?_
      refine W_seq (by kernel_rfl) ?_
      refine W_region (by kernel_rfl) ?_
      refine WO_run (j := 2) (k := 2) (orcs := []) (kF := [0, 1, 2, 3, 9, 23, 24]) (kL := []) (fr' := [(0, aD (.slice (.slice .bool)) a0), (1, aB a1), (2, aI a2), (3, aI a3), (9, aI i85), (23, aI a2), (24, aI i85)]) (L' := []) (obs := []) rfl (by kernel_rfl) allP0 ?_
      obtain ⟨r91, h92, h⟩ := bind_of h
      refine WO_call0 (us := [none, none]) (d := 25) (p := True) (j := 3) rfl ⟨by kernel_rfl, by kernel_rfl, by kernel_rfl⟩ trivial (ref_Bit_ok h92) (by kernel_rfl) ?_
      refine WO_run (j := 5) (k := 2) (orcs := []) (kF := [0, 1, 2, 3, 9, 10]) (kL := []) (fr' := [(0, aD (.slice (.slice .bool)) a0), (1, aB a1), (2, aI a2), (3, aI a3), (9, aI i85), (10, aB (!r91))]) (L' := []) (obs := []) rfl (by kernel_rfl) allP0 ?_
      refine WO_fin [0, 1, 2, 3, 9, 10] [] (fr' := [(0, aD (.slice (.slice .bool)) a0), (1, aB a1), (2, aI a2), (3, aI a3), (9, aI i85), (10, aB (!r91))]) (L' := []) (by kernel_rfl) (by kernel_rfl) ?_
      refine seqQ_norm ?_
      refine W_seq (by kernel_rfl) ?_
      refine W_seq (by kernel_rfl) ?_
      refine W_region (by kernel_rfl) ?_
      refine WO_run (j := 1) (k := 1) (orcs := []) (kF := [0, 1, 2, 3, 9, 10, 27]) (kL := []) (fr' := [(0, aD (.slice (.slice .bool)) a0), (1, aB a1), (2, aI a2), (3, aI a3), (9, aI i85), (10, aB (!r91)), (27, aI a3)]) (L' := []) (obs := []) rfl (by kernel_rfl) allP0 ?_
      obtain ⟨r93, h94, h⟩ := bind_of h
      refine WO_call0 (us := [none]) (d := 28) (p := True) (j := 2) rfl ⟨by kernel_rfl, by kernel_rfl, by kernel_rfl⟩ trivial (ref_ListOf_ok h94) (by kernel_rfl) ?_
      refine WO_run (j := 4) (k := 2) (orcs := []) (kF := [0, 1, 2, 3, 9, 10, 28, 29, 30]) (kL := []) (fr' := [(0, aD (.slice (.slice .bool)) a0), (1, aB a1), (2, aI a2), (3, aI a3), (9, aI i85), (10, aB (!r91)), (28, aD (.slice tI) r93), (29, aI (List.length r93 : Int)), (30, aI (0 : Int))]) (L' := []) (obs := []) rfl (by kernel_rfl) allP0 ?_
      refine WO_fin [0, 1, 2, 3, 9, 10, 28, 29, 30] [] (fr' := [(0, aD (.slice (.slice .bool)) a0), (1, aB a1), (2, aI a2), (3, aI a3), (9, aI i85), (10, aB (!r91)), (28, aD (.slice tI) r93), (29, aI (List.length r93 : Int)), (30, aI (0 : Int))]) (L' := []) (by kernel_rfl) (by kernel_rfl) ?_
      refine seqQ_norm ?_
      refine W_block (id := 2) (by kernel_rfl) ?_
      obtain ⟨v119, h120, h⟩ := bind_of h
      refine W_len (t := 28) (u := tI) (xs := r93) (by kernel_rfl) (fun h123 => ?_)
      obtain ⟨h121, h122⟩ := forL_iter h123 h120
      refine W_weaken [0, 1, 2, 3, 9, 10, 28, 29, 30] [] (fr' := ((ref_whole_s8 a0 a1 a2 a3 i85 r93) ((0 : Int), !r91)).1) (L' := ((ref_whole_s8 a0 a1 a2 a3 i85 r93) ((0 : Int), !r91)).2) (by kernel_rfl) ?_
      refine W_cutK (W_loop (S := (ref_whole_s8 a0 a1 a2 a3 i85 r93)) (J := (exQ (.exit 2) (ref_whole_s9 a0 a1 a2 a3 i85))) (by kernel_rfl) ?_ h121 _ v119 h122) ?_
      · rintro ⟨i109, x110⟩ s h
        refine W_seq (by kernel_rfl) ?_
        refine W_run 1 [] [0, 1, 2, 3, 9, 10, 28, 29, 30, 31] [] (fr' := [(0, aD (.slice (.slice .bool)) a0), (1, aB a1), (2, aI a2), (3, aI a3), (9, aI i85), (10, aB x110), (28, aD (.slice tI) r93), (29, aI (List.length r93 : Int)), (30, aI i109), (31, aB (decide (i109 < (List.length r93 : Int))))]) (L' := []) (obs := []) (by kernel_rfl) (by kernel_rfl) (by kernel_rfl) allP0 ?_
        refine seqQ_norm ?_
        refine W_seq (by kernel_rfl) ?_
        refine W_cond (o := .tmp 31) (b := decide (i109 < (List.length r93 : Int))) (by kernel_rfl) (by kernel_rfl) (fun h114 => ?_) (fun h114 => ?_)
        · replace h := stepL_true h114 h
          obtain ⟨v112, _, h113, h, rfl⟩ := h
          refine W_skip [0, 1, 2, 3, 9, 10, 28, 29, 30] [] (fr' := [(0, aD (.slice (.slice .bool)) a0), (1, aB a1), (2, aI a2), (3, aI a3), (9, aI i85), (10, aB x110), (28, aD (.slice tI) r93), (29, aI (List.length r93 : Int)), (30, aI i109)]) (L' := []) (by kernel_rfl) (by kernel_rfl) ?_
          refine seqQ_norm ?_
          refine W_seq (by kernel_rfl) ?_
          refine W_block (id := 3) (by kernel_rfl) ?_
          refine W_seq (by kernel_rfl) ?_
          refine W_run 3 [(1, .val (.dat tI v112))] [0, 1, 2, 3, 9, 10, 12, 28, 29, 30] [] (fr' := [(0, aD (.slice (.slice .bool)) a0), (1, aB a1), (2, aI a2), (3, aI a3), (9, aI i85), (10, aB x110), (12, aI v112), (28, aD (.slice tI) r93), (29, aI (List.length r93 : Int)), (30, aI i109)]) (L' := []) (obs := [Idx r93 i109 v112]) (by kernel_rfl) (by kernel_rfl) (by kernel_rfl) (allP1 (Idx.of h113)) ?_
          refine seqQ_norm ?_
          refine W_region (by kernel_rfl) ?_
          refine WO_run (j := 2) (k := 2) (orcs := []) (kF := [0, 1, 2, 3, 9, 10, 12, 28, 29, 30, 35]) (kL := []) (fr' := [(0, aD (.slice (.slice .bool)) a0), (1, aB a1), (2, aI a2), (3, aI a3), (9, aI i85), (10, aB x110), (12, aI v112), (28, aD (.slice tI) r93), (29, aI (List.length r93 : Int)), (30, aI i109), (35, aB x110)]) (L' := []) (obs := []) rfl (by kernel_rfl) allP0 ?_
          rcases Bool.eq_false_or_eq_true (x110) with h115 | h115
          · replace h := ofT h115 h
            obtain ⟨v116, h117, h⟩ := bind_of h
            refine WO_run (j := 13) (k := 11) (orcs := [(4, .known true), (6, .known true), (8, .known true), (9, .val (.dat (.slice .bool) v88)), (10, .known true), (12, .known true), (14, .known true), (15, .val (.dat .bool v116)), (16, .known true), (18, .known true), (20, .known true), (23, .val (.dat .bool true))]) (kF := [0, 1, 2, 3, 9, 10, 28, 29, 30]) (kL := []) (fr' := [(0, aD (.slice (.slice .bool)) a0), (1, aB a1), (2, aI a2), (3, aI a3), (9, aI i85), (10, aB (v116 == a1)), (28, aD (.slice tI) r93), (29, aI (List.length r93 : Int)), (30, aI i109)]) (L' := []) (obs := [(x110 = true), (x110 = true), (x110 = true), Idx a0 i85 v88, (x110 = true), (x110 = true), (x110 = true), Idx v88 v112 v116, (x110 = true), (x110 = true), (x110 = true), (x110 = true)]) rfl (by kernel_rfl) (allP2 h115 (allP2 h115 (allP2 h115 (allP2 (Idx.of h89) (allP2 h115 (allP2 h115 (allP2 h115 (allP2 (Idx.of h117) (allP2 h115 (allP2 h115 (allP2 h115 (allP1 h115)))))))))))) ?_
            refine WO_fin [0, 1, 2, 3, 9, 10, 28, 29, 30] [] (fr' := [(0, aD (.slice (.slice .bool)) a0), (1, aB a1), (2, aI a2), (3, aI a3), (9, aI i85), (10, aB (v116 == a1)), (28, aD (.slice tI) r93), (29, aI (List.length r93 : Int)), (30, aI i109)]) (L' := []) (by kernel_rfl) (by kernel_rfl) ?_
            refine blockQ_norm ?_
            refine seqQ_norm ?_
            obtain rfl := Option.some.inj h
            refine W_run 2 [] [0, 1, 2, 3, 9, 10, 28, 29, 30] [] (fr' := [(0, aD (.slice (.slice .bool)) a0), (1, aB a1), (2, aI a2), (3, aI a3), (9, aI i85), (10, aB (v116 == a1)), (28, aD (.slice tI) r93), (29, aI (List.length r93 : Int)), (30, aI (w64 (i109 + (1 : Int))))]) (L' := []) (obs := []) (by kernel_rfl) (by kernel_rfl) (by kernel_rfl) allP0 ?_
            exact round_next' (by kernel_rfl) (by kernel_rfl)
          · replace h := ofF h115 h
            refine WO_run (j := 13) (k := 11) (orcs := [(4, .known false), (6, .known false), (8, .known false), (10, .known false), (12, .known false), (14, .known false), (16, .known false), (18, .known false), (20, .known false), (23, .val (.dat .bool false))]) (kF := [0, 1, 2, 3, 9, 10, 28, 29, 30]) (kL := []) (fr' := [(0, aD (.slice (.slice .bool)) a0), (1, aB a1), (2, aI a2), (3, aI a3), (9, aI i85), (10, aB false), (28, aD (.slice tI) r93), (29, aI (List.length r93 : Int)), (30, aI i109)]) (L' := []) (obs := [(x110 = false), (x110 = false), (x110 = false), (x110 = false), (x110 = false), (x110 = false), (x110 = false), (x110 = false), (x110 = false), (x110 = false)]) rfl (by kernel_rfl) (allP2 h115 (allP2 h115 (allP2 h115 (allP2 h115 (allP2 h115 (allP2 h115 (allP2 h115 (allP2 h115 (allP2 h115 (allP1 h115)))))))))) ?_
            refine WO_fin [0, 1, 2, 3, 9, 10, 28, 29, 30] [] (fr' := [(0, aD (.slice (.slice .bool)) a0), (1, aB a1), (2, aI a2), (3, aI a3), (9, aI i85), (10, aB false), (28, aD (.slice tI) r93), (29, aI (List.length r93 : Int)), (30, aI i109)]) (L' := []) (by kernel_rfl) (by kernel_rfl) ?_
            refine blockQ_norm ?_
            refine seqQ_norm ?_
            obtain rfl := Option.some.inj h
            refine W_run 2 [] [0, 1, 2, 3, 9, 10, 28, 29, 30] [] (fr' := [(0, aD (.slice (.slice .bool)) a0), (1, aB a1), (2, aI a2), (3, aI a3), (9, aI i85), (10, aB false), (28, aD (.slice tI) r93), (29, aI (List.length r93 : Int)), (30, aI (w64 (i109 + (1 : Int))))]) (L' := []) (obs := []) (by kernel_rfl) (by kernel_rfl) (by kernel_rfl) allP0 ?_
            exact round_next' (by kernel_rfl) (by kernel_rfl)
        · obtain rfl := stepL_false h114 h
          refine W_exit (id := 2) [0, 1, 2, 3, 9, 10] [] (fr' := [(0, aD (.slice (.slice .bool)) a0), (1, aB a1), (2, aI a2), (3, aI a3), (9, aI i85), (10, aB x110)]) (L' := []) (by kernel_rfl) (by kernel_rfl) ?_
          refine seqQ_exit ?_
          refine round_exit ?_
          exact exQ_mk (by kernel_rfl) (by kernel_rfl)
      · intro e fr L hJ
        obtain ⟨rfl, rfl, rfl⟩ := hJ
        refine LT_keep [0, 1, 2, 3, 9, 10] [] (fr' := [(0, aD (.slice (.slice .bool)) a0), (1, aB a1), (2, aI a2), (3, aI a3), (9, aI i85), (10, aB v119)]) (L' := []) (by kernel_rfl) ?_
        refine blockQ_hit ?_
        refine seqQ_norm ?_
        refine W_seq (by kernel_rfl) ?_
        refine W_run 1 [] [0, 1, 2, 3, 9, 47] [] (fr' := [(0, aD (.slice (.slice .bool)) a0), (1, aB a1), (2, aI a2), (3, aI a3), (9, aI i85), (47, aB v119)]) (L' := []) (obs := []) (by kernel_rfl) (by kernel_rfl) (by kernel_rfl) allP0 ?_
        refine seqQ_norm ?_
        refine W_cond (o := .tmp 47) (b := v119) (by kernel_rfl) (by kernel_rfl) (fun h124 => ?_) (fun h124 => ?_)
        · replace h := ofT h124 h
          refine W_seq (by kernel_rfl) ?_
          refine W_run 1 [] [8] [] (fr' := [(8, aB false)]) (L' := []) (obs := []) (by kernel_rfl) (by kernel_rfl) (by kernel_rfl) allP0 ?_
          refine seqQ_norm ?_
          obtain rfl := Option.some.inj h
          refine W_ret [8] [] (fr' := [(8, aB false)]) (L' := []) (by kernel_rfl) (by kernel_rfl) ?_
          refine blockQ_ret ?_
          refine seqQ_ret ?_
          refine round_ret ?_
          refine escQ_ret ?_
          exact exQ_mk (by kernel_rfl) (by kernel_rfl)
        · replace h := ofF h124 h
          refine W_skip [0, 1, 2, 3, 9] [] (fr' := [(0, aD (.slice (.slice .bool)) a0), (1, aB a1), (2, aI a2), (3, aI a3), (9, aI i85)]) (L' := []) (by kernel_rfl) (by kernel_rfl) ?_
          refine blockQ_norm ?_
          refine seqQ_norm ?_
          obtain rfl := Option.some.inj h
          refine W_run 3 [] [0, 1, 2, 3, 9] [] (fr' := [(0, aD (.slice (.slice .bool)) a0), (1, aB a1), (2, aI a2), (3, aI a3), (9, aI (w64 (i85 + (1 : Int))))]) (L' := []) (obs := []) (by kernel_rfl) (by kernel_rfl) (by kernel_rfl) allP0 ?_
          exact round_next' (by kernel_rfl) (by kernel_rfl)
    · obtain rfl := stepL_false h90 h
      refine W_exit (id := 0) [0, 1, 2, 3] [] (fr' := [(0, aD (.slice (.slice .bool)) a0), (1, aB a1), (2, aI a2), (3, aI a3)]) (L' := []) (by kernel_rfl) (by kernel_rfl) ?_
      refine seqQ_exit ?_
      refine round_exit ?_
      refine escQ_brk ?_
      exact exQ_mk (by kernel_rfl) (by kernel_rfl)
  · intro e fr L hJ
    rcases v126 with v131 | v132
    · obtain ⟨rfl, rfl, rfl⟩ := hJ
      obtain rfl := Option.some.inj h
      refine LT_keep [8] [] (fr' := [(8, aB v131)]) (L' := []) (by kernel_rfl) ?_
      refine blockQ_ret ?_
      refine seqQ_ret ?_
      exact retQ_mk (by kernel_rfl) (by kernel_rfl) (by kernel_rfl)
    · obtain ⟨rfl, rfl, rfl⟩ := hJ
      refine LT_keep [0, 1, 2, 3] [] (fr' := [(0, aD (.slice (.slice .bool)) a0), (1, aB a1), (2, aI a2), (3, aI a3)]) (L' := []) (by kernel_rfl) ?_
      refine blockQ_hit ?_
      refine seqQ_norm ?_
      refine W_seq (by kernel_rfl) ?_
      refine W_seq (by kernel_rfl) ?_
      refine W_run 1 [] [0, 1, 2, 3, 13] [] (fr' := [(0, aD (.slice (.slice .bool)) a0), (1, aB a1), (2, aI a2), (3, aI a3), (13, aI (0 : Int))]) (L' := []) (obs := []) (by kernel_rfl) (by kernel_rfl) (by kernel_rfl) allP0 ?_
      refine seqQ_norm ?_
      refine W_block (id := 4) (by kernel_rfl) ?_
      obtain ⟨v264, h265, h⟩ := bind_of h
      refine W_weaken [0, 1, 2, 3, 13] [] (fr' := ((ref_whole_s24 a0 a1 a2 a3) (0 : Int)).1) (L' := ((ref_whole_s24 a0 a1 a2 a3) (0 : Int)).2) (by kernel_rfl) ?_
      refine W_cutK (W_loop (S := (ref_whole_s24 a0 a1 a2 a3)) (J := (escQ (exQ .ret ref_whole_s25) (exQ (.exit 4) ref_whole_s26))) (by kernel_rfl) ?_ fuel _ v264 h265) ?_
      · rintro x177 s h
        refine W_seq (by kernel_rfl) ?_
        refine W_seq (by kernel_rfl) ?_
        obtain ⟨v221, h222, h⟩ := bind_of h
        refine W_run 6 [(5, .val (.dat (.slice .bool) v221))] [0, 1, 2, 3, 13, 53] [] (fr' := [(0, aD (.slice (.slice .bool)) a0), (1, aB a1), (2, aI a2), (3, aI a3), (13, aI x177), (53, aB (decide (x177 < (List.length v221 : Int))))]) (L' := []) (obs := [Idx a0 (0 : Int) v221]) (by kernel_rfl) (by kernel_rfl) (by kernel_rfl) (allP1 (Idx.of h222)) ?_
        refine seqQ_norm ?_
        refine W_cond (o := .tmp 53) (b := decide (x177 < (List.length v221 : Int))) (by kernel_rfl) (by kernel_rfl) (fun h223 => ?_) (fun h223 => ?_)
        · replace h := ofT h223 h
          refine W_skip [0, 1, 2, 3, 13] [] (fr' := [(0, aD (.slice (.slice .bool)) a0), (1, aB a1), (2, aI a2), (3, aI a3), (13, aI x177)]) (L' := []) (by kernel_rfl) (by kernel_rfl) ?_
          refine seqQ_norm ?_
          refine W_seq (by kernel_rfl) ?_
          refine W_block (id := 5) (by kernel_rfl) ?_
          refine W_seq (by kernel_rfl) ?_
          refine W_region (by kernel_rfl) ?_
          refine WO_run (j := 2) (k := 2) (orcs := []) (kF := [0, 1, 2, 3, 13, 56, 57]) (kL := []) (fr' := [(0, aD (.slice (.slice .bool)) a0), (1, aB a1), (2, aI a2), (3, aI a3), (13, aI x177), (56, aI a3), (57, aI x177)]) (L' := []) (obs := []) rfl (by kernel_rfl) allP0 ?_
          obtain ⟨r224, h225, h⟩ := bind_of h
          refine WO_call0 (us := [none, none]) (d := 58) (p := True) (j := 3) rfl ⟨by kernel_rfl, by kernel_rfl, by kernel_rfl⟩ trivial (ref_Bit_ok h225) (by kernel_rfl) ?_
          refine WO_run (j := 5) (k := 2) (orcs := []) (kF := [0, 1, 2, 3, 13, 14]) (kL := []) (fr' := [(0, aD (.slice (.slice .bool)) a0), (1, aB a1), (2, aI a2), (3, aI a3), (13, aI x177), (14, aB (!r224))]) (L' := []) (obs := []) rfl (by kernel_rfl) allP0 ?_
          refine WO_fin [0, 1, 2, 3, 13, 14] [] (fr' := [(0, aD (.slice (.slice .bool)) a0), (1, aB a1), (2, aI a2), (3, aI a3), (13, aI x177), (14, aB (!r224))]) (L' := []) (by kernel_rfl) (by kernel_rfl) ?_
          refine seqQ_norm ?_
          refine W_seq (by kernel_rfl) ?_
          refine W_seq (by kernel_rfl) ?_
          refine W_region (by kernel_rfl) ?_
          refine WO_run (j := 1) (k := 1) (orcs := []) (kF := [0, 1, 2, 3, 13, 14, 60]) (kL := []) (fr' := [(0, aD (.slice (.slice .bool)) a0), (1, aB a1), (2, aI a2), (3, aI a3), (13, aI x177), (14, aB (!r224)), (60, aI a2)]) (L' := []) (obs := []) rfl (by kernel_rfl) allP0 ?_
          obtain ⟨r226, h227, h⟩ := bind_of h
          refine WO_call0 (us := [none]) (d := 61) (p := True) (j := 2) rfl ⟨by kernel_rfl, by kernel_rfl, by kernel_rfl⟩ trivial (ref_ListOf_ok h227) (by kernel_rfl) ?_
          refine WO_run (j := 4) (k := 2) (orcs := []) (kF := [0, 1, 2, 3, 13, 14, 61, 62, 63]) (kL := []) (fr' := [(0, aD (.slice (.slice .bool)) a0), (1, aB a1), (2, aI a2), (3, aI a3), (13, aI x177), (14, aB (!r224)), (61, aD (.slice tI) r226), (62, aI (List.length r226 : Int)), (63, aI (0 : Int))]) (L' := []) (obs := []) rfl (by kernel_rfl) allP0 ?_
          refine WO_fin [0, 1, 2, 3, 13, 14, 61, 62, 63] [] (fr' := [(0, aD (.slice (.slice .bool)) a0), (1, aB a1), (2, aI a2), (3, aI a3), (13, aI x177), (14, aB (!r224)), (61, aD (.slice tI) r226), (62, aI (List.length r226 : Int)), (63, aI (0 : Int))]) (L' := []) (by kernel_rfl) (by kernel_rfl) ?_
          refine seqQ_norm ?_
          refine W_block (id := 6) (by kernel_rfl) ?_
          obtain ⟨v258, h259, h⟩ := bind_of h
          refine W_len (t := 61) (u := tI) (xs := r226) (by kernel_rfl) (fun h262 => ?_)
          obtain ⟨h260, h261⟩ := forL_iter h262 h259
          refine W_weaken [0, 1, 2, 3, 13, 14, 61, 62, 63] [] (fr' := ((ref_whole_s21 a0 a1 a2 a3 x177 r226) ((0 : Int), !r224)).1) (L' := ((ref_whole_s21 a0 a1 a2 a3 x177 r226) ((0 : Int), !r224)).2) (by kernel_rfl) ?_
          refine W_cutK (W_loop (S := (ref_whole_s21 a0 a1 a2 a3 x177 r226)) (J := (exQ (.exit 6) (ref_whole_s22 a0 a1 a2 a3 x177))) (by kernel_rfl) ?_ h260 _ v258 h261) ?_
          · rintro ⟨i246, x247⟩ s h
            refine W_seq (by kernel_rfl) ?_
            refine W_run 1 [] [0, 1, 2, 3, 13, 14, 61, 62, 63, 64] [] (fr' := [(0, aD (.slice (.slice .bool)) a0), (1, aB a1), (2, aI a2), (3, aI a3), (13, aI x177), (14, aB x247), (61, aD (.slice tI) r226), (62, aI (List.length r226 : Int)), (63, aI i246), (64, aB (decide (i246 < (List.length r226 : Int))))]) (L' := []) (obs := []) (by kernel_rfl) (by kernel_rfl) (by kernel_rfl) allP0 ?_
            refine seqQ_norm ?_
            refine W_seq (by kernel_rfl) ?_
            refine W_cond (o := .tmp 64) (b := decide (i246 < (List.length r226 : Int))) (by kernel_rfl) (by kernel_rfl) (fun h251 => ?_) (fun h251 => ?_)
            · replace h := stepL_true h251 h
              obtain ⟨v249, _, h250, h, rfl⟩ := h
              refine W_skip [0, 1, 2, 3, 13, 14, 61, 62, 63] [] (fr' := [(0, aD (.slice (.slice .bool)) a0), (1, aB a1), (2, aI a2), (3, aI a3), (13, aI x177), (14, aB x247), (61, aD (.slice tI) r226), (62, aI (List.length r226 : Int)), (63, aI i246)]) (L' := []) (by kernel_rfl) (by kernel_rfl) ?_
              refine seqQ_norm ?_
              refine W_seq (by kernel_rfl) ?_
              refine W_block (id := 7) (by kernel_rfl) ?_
              refine W_seq (by kernel_rfl) ?_
              refine W_run 3 [(1, .val (.dat tI v249))] [0, 1, 2, 3, 13, 14, 16, 61, 62, 63] [] (fr' := [(0, aD (.slice (.slice .bool)) a0), (1, aB a1), (2, aI a2), (3, aI a3), (13, aI x177), (14, aB x247), (16, aI v249), (61, aD (.slice tI) r226), (62, aI (List.length r226 : Int)), (63, aI i246)]) (L' := []) (obs := [Idx r226 i246 v249]) (by kernel_rfl) (by kernel_rfl) (by kernel_rfl) (allP1 (Idx.of h250)) ?_
              refine seqQ_norm ?_
              refine W_region (by kernel_rfl) ?_
              refine WO_run (j := 2) (k := 2) (orcs := []) (kF := [0, 1, 2, 3, 13, 14, 16, 61, 62, 63, 68]) (kL := []) (fr' := [(0, aD (.slice (.slice .bool)) a0), (1, aB a1), (2, aI a2), (3, aI a3), (13, aI x177), (14, aB x247), (16, aI v249), (61, aD (.slice tI) r226), (62, aI (List.length r226 : Int)), (63, aI i246), (68, aB x247)]) (L' := []) (obs := []) rfl (by kernel_rfl) allP0 ?_
              rcases Bool.eq_false_or_eq_true (x247) with h252 | h252
              · replace h := ofT h252 h
                obtain ⟨v253, h254, h⟩ := bind_of h
                obtain ⟨v255, h256, h⟩ := bind_of h
                refine WO_run (j := 13) (k := 11) (orcs := [(4, .known true), (6, .known true), (8, .known true), (9, .val (.dat (.slice .bool) v253)), (10, .known true), (12, .known true), (14, .known true), (15, .val (.dat .bool v255)), (16, .known true), (18, .known true), (20, .known true), (23, .val (.dat .bool true))]) (kF := [0, 1, 2, 3, 13, 14, 61, 62, 63]) (kL := []) (fr' := [(0, aD (.slice (.slice .bool)) a0), (1, aB a1), (2, aI a2), (3, aI a3), (13, aI x177), (14, aB (v255 == a1)), (61, aD (.slice tI) r226), (62, aI (List.length r226 : Int)), (63, aI i246)]) (L' := []) (obs := [(x247 = true), (x247 = true), (x247 = true), Idx a0 v249 v253, (x247 = true), (x247 = true), (x247 = true), Idx v253 x177 v255, (x247 = true), (x247 = true), (x247 = true), (x247 = true)]) rfl (by kernel_rfl) (allP2 h252 (allP2 h252 (allP2 h252 (allP2 (Idx.of h254) (allP2 h252 (allP2 h252 (allP2 h252 (allP2 (Idx.of h256) (allP2 h252 (allP2 h252 (allP2 h252 (allP1 h252)))))))))))) ?_
                refine WO_fin [0, 1, 2, 3, 13, 14, 61, 62, 63] [] (fr' := [(0, aD (.slice (.slice .bool)) a0), (1, aB a1), (2, aI a2), (3, aI a3), (13, aI x177), (14, aB (v255 == a1)), (61, aD (.slice tI) r226), (62, aI (List.length r226 : Int)), (63, aI i246)]) (L' := []) (by kernel_rfl) (by kernel_rfl) ?_
                refine blockQ_norm ?_
                refine seqQ_norm ?_
                obtain rfl := Option.some.inj h
                refine W_run 2 [] [0, 1, 2, 3, 13, 14, 61, 62, 63] [] (fr' := [(0, aD (.slice (.slice .bool)) a0), (1, aB a1), (2, aI a2), (3, aI a3), (13, aI x177), (14, aB (v255 == a1)), (61, aD (.slice tI) r226), (62, aI (List.length r226 : Int)), (63, aI (w64 (i246 + (1 : Int))))]) (L' := []) (obs := []) (by kernel_rfl) (by kernel_rfl) (by kernel_rfl) allP0 ?_
                exact round_next' (by kernel_rfl) (by kernel_rfl)
              · replace h := ofF h252 h
                refine WO_run (j := 13) (k := 11) (orcs := [(4, .known false), (6, .known false), (8, .known false), (10, .known false), (12, .known false), (14, .known false), (16, .known false), (18, .known false), (20, .known false), (23, .val (.dat .bool false))]) (kF := [0, 1, 2, 3, 13, 14, 61, 62, 63]) (kL := []) (fr' := [(0, aD (.slice (.slice .bool)) a0), (1, aB a1), (2, aI a2), (3, aI a3), (13, aI x177), (14, aB false), (61, aD (.slice tI) r226), (62, aI (List.length r226 : Int)), (63, aI i246)]) (L' := []) (obs := [(x247 = false), (x247 = false), (x247 = false), (x247 = false), (x247 = false), (x247 = false), (x247 = false), (x247 = false), (x247 = false), (x247 = false)]) rfl (by kernel_rfl) (allP2 h252 (allP2 h252 (allP2 h252 (allP2 h252 (allP2 h252 (allP2 h252 (allP2 h252 (allP2 h252 (allP2 h252 (allP1 h252)))))))))) ?_
                refine WO_fin [0, 1, 2, 3, 13, 14, 61, 62, 63] [] (fr' := [(0, aD (.slice (.slice .bool)) a0), (1, aB a1), (2, aI a2), (3, aI a3), (13, aI x177), (14, aB false), (61, aD (.slice tI) r226), (62, aI (List.length r226 : Int)), (63, aI i246)]) (L' := []) (by kernel_rfl) (by kernel_rfl) ?_
                refine blockQ_norm ?_
                refine seqQ_norm ?_
                obtain rfl := Option.some.inj h
                refine W_run 2 [] [0, 1, 2, 3, 13, 14, 61, 62, 63] [] (fr' := [(0, aD (.slice (.slice .bool)) a0), (1, aB a1), (2, aI a2), (3, aI a3), (13, aI x177), (14, aB false), (61, aD (.slice tI) r226), (62, aI (List.length r226 : Int)), (63, aI (w64 (i246 + (1 : Int))))]) (L' := []) (obs := []) (by kernel_rfl) (by kernel_rfl) (by kernel_rfl) allP0 ?_
                exact round_next' (by kernel_rfl) (by kernel_rfl)
            · obtain rfl := stepL_false h251 h
              refine W_exit (id := 6) [0, 1, 2, 3, 13, 14] [] (fr' := [(0, aD (.slice (.slice .bool)) a0), (1, aB a1), (2, aI a2), (3, aI a3), (13, aI x177), (14, aB x247)]) (L' := []) (by kernel_rfl) (by kernel_rfl) ?_
              refine seqQ_exit ?_
              refine round_exit ?_
              exact exQ_mk (by kernel_rfl) (by kernel_rfl)
          · intro e fr L hJ
            obtain ⟨rfl, rfl, rfl⟩ := hJ
            refine LT_keep [0, 1, 2, 3, 13, 14] [] (fr' := [(0, aD (.slice (.slice .bool)) a0), (1, aB a1), (2, aI a2), (3, aI a3), (13, aI x177), (14, aB v258)]) (L' := []) (by kernel_rfl) ?_
            refine blockQ_hit ?_
            refine seqQ_norm ?_
            refine W_seq (by kernel_rfl) ?_
            refine W_run 1 [] [0, 1, 2, 3, 13, 80] [] (fr' := [(0, aD (.slice (.slice .bool)) a0), (1, aB a1), (2, aI a2), (3, aI a3), (13, aI x177), (80, aB v258)]) (L' := []) (obs := []) (by kernel_rfl) (by kernel_rfl) (by kernel_rfl) allP0 ?_
            refine seqQ_norm ?_
            refine W_cond (o := .tmp 80) (b := v258) (by kernel_rfl) (by kernel_rfl) (fun h263 => ?_) (fun h263 => ?_)
            · replace h := ofT h263 h
              refine W_seq (by kernel_rfl) ?_
              refine W_run 1 [] [8] [] (fr' := [(8, aB false)]) (L' := []) (obs := []) (by kernel_rfl) (by kernel_rfl) (by kernel_rfl) allP0 ?_
              refine seqQ_norm ?_
              obtain rfl := Option.some.inj h
              refine W_ret [8] [] (fr' := [(8, aB false)]) (L' := []) (by kernel_rfl) (by kernel_rfl) ?_
              refine blockQ_ret ?_
              refine seqQ_ret ?_
              refine round_ret ?_
              refine escQ_ret ?_
              exact exQ_mk (by kernel_rfl) (by kernel_rfl)
            · replace h := ofF h263 h
              refine W_skip [0, 1, 2, 3, 13] [] (fr' := [(0, aD (.slice (.slice .bool)) a0), (1, aB a1), (2, aI a2), (3, aI a3), (13, aI x177)]) (L' := []) (by kernel_rfl) (by kernel_rfl) ?_
              refine blockQ_norm ?_
              refine seqQ_norm ?_
              obtain rfl := Option.some.inj h
              refine W_run 3 [] [0, 1, 2, 3, 13] [] (fr' := [(0, aD (.slice (.slice .bool)) a0), (1, aB a1), (2, aI a2), (3, aI a3), (13, aI (w64 (x177 + (1 : Int))))]) (L' := []) (obs := []) (by kernel_rfl) (by kernel_rfl) (by kernel_rfl) allP0 ?_
              exact round_next' (by kernel_rfl) (by kernel_rfl)
        · replace h := ofF h223 h
          obtain rfl := Option.some.inj h
          refine W_exit (id := 4) [] [] (fr' := []) (L' := []) (by kernel_rfl) (by kernel_rfl) ?_
          refine seqQ_exit ?_
          refine round_exit ?_
          refine escQ_brk ?_
          exact exQ_mk (by kernel_rfl) (by kernel_rfl)
      · intro e fr L hJ
        rcases v264 with v268 | v269
        · obtain ⟨rfl, rfl, rfl⟩ := hJ
          obtain rfl := Option.some.inj h
          refine LT_keep [8] [] (fr' := [(8, aB v268)]) (L' := []) (by kernel_rfl) ?_
          refine blockQ_ret ?_
          refine seqQ_ret ?_
          exact retQ_mk (by kernel_rfl) (by kernel_rfl) (by kernel_rfl)
        · obtain ⟨rfl, rfl, rfl⟩ := hJ
          refine LT_keep [] [] (fr' := []) (L' := []) (by kernel_rfl) ?_
          refine blockQ_hit ?_
          refine seqQ_norm ?_
          refine W_seq (by kernel_rfl) ?_
          refine W_run 1 [] [8] [] (fr' := [(8, aB true)]) (L' := []) (obs := []) (by kernel_rfl) (by kernel_rfl) (by kernel_rfl) allP0 ?_
          refine seqQ_norm ?_
          obtain rfl := Option.some.inj h
          refine W_ret [8] [] (fr' := [(8, aB true)]) (L' := []) (by kernel_rfl) (by kernel_rfl) ?_
          exact retQ_mk (by kernel_rfl) (by kernel_rfl) (by kernel_rfl)

@[reducible] def ref_Rects_s1774 (a0 : (List (List Bool))) (a1 : Bool) (a2 : Int) (v1 : (List Bool)) (v6 : Int) (x7074 : (Int × Int)) (x19632 : (Int × Int)) (r20937 : (List Int)) (i21090 : Int) (v21093 : Int) (r21096 : (List Int)) (i21142 : Int) (x21143 : (Bool × Int)) (v21145 : Int) (v : Bool) : Fr × LL := ([(0, aD (.slice (.slice .bool)) a0), (1, aB a1), (2, aI a2), (7, aI (List.length v1 : Int)), (8, aI v6), (9, aI x19632.1), (10, aI x7074.2), (11, aI x19632.2), (12, aB v), (13, aI x21143.2), (15, aI v21093), (17, aI v21145), (60, aD (.slice tI) r20937), (61, aI (List.length r20937 : Int)), (62, aI i21090), (67, aD (.slice tI) r21096), (68, aI (List.length r21096 : Int)), (69, aI i21142)], [])
def ref_Rects_b1775 (a0 : (List (List Bool))) (a1 : Bool) (v1 : (List Bool)) (v21093 : Int) (i21142 : Int) (v21145 : Int) (x21143 : (Bool × Int)) : Option (Flow (Bool × Int) (Bool × Int)) :=
(bif x21143.1 then
((idx a0 v21093).bind fun v21159 =>
(idx v21159 v21145).bind fun v21161 =>
some (v21161 == a1))
else
(some false)).bind fun v21163 =>
(ck (0 ≤ IntKind.wrap .u64 (w64 ((w64 ((List.length v1 : Int) * v21093)) + v21145)))).bind fun _ =>
some (.next (v21163, bClr .i64 x21143.2 (bShl .i64 (1 : Int) (IntKind.wrap .u64 (w64 ((w64 ((List.length v1 : Int) * v21093)) + v21145))))))
@[reducible] def ref_Rects_s1776 (a0 : (List (List Bool))) (a1 : Bool) (a2 : Int) (v1 : (List Bool)) (v6 : Int) (x7074 : (Int × Int)) (x19632 : (Int × Int)) (r20937 : (List Int)) (i21090 : Int) (v21093 : Int) (r21096 : (List Int)) (v : Int × (Bool × Int)) : Fr × LL := ([(0, aD (.slice (.slice .bool)) a0), (1, aB a1), (2, aI a2), (7, aI (List.length v1 : Int)), (8, aI v6), (9, aI x19632.1), (10, aI x7074.2), (11, aI x19632.2), (12, aB v.2.1), (13, aI v.2.2), (15, aI v21093), (60, aD (.slice tI) r20937), (61, aI (List.length r20937 : Int)), (62, aI i21090), (67, aD (.slice tI) r21096), (68, aI (List.length r21096 : Int)), (69, aI v.1)], [])
@[reducible] def ref_Rects_s1777 (a0 : (List (List Bool))) (a1 : Bool) (a2 : Int) (v1 : (List Bool)) (v6 : Int) (x7074 : (Int × Int)) (x19632 : (Int × Int)) (r20937 : (List Int)) (i21090 : Int) (v : (Bool × Int)) : Fr × LL := ([(0, aD (.slice (.slice .bool)) a0), (1, aB a1), (2, aI a2), (7, aI (List.length v1 : Int)), (8, aI v6), (9, aI x19632.1), (10, aI x7074.2), (11, aI x19632.2), (12, aB v.1), (13, aI v.2), (60, aD (.slice tI) r20937), (61, aI (List.length r20937 : Int)), (62, aI i21090)], [])
def ref_Rects_b1778 (a0 : (List (List Bool))) (a1 : Bool) (v1 : (List Bool)) (x19632 : (Int × Int)) (i21090 : Int) (v21093 : Int) (x21091 : (Bool × Int)) : Option (Flow (Bool × Int) (Bool × Int)) :=
(ref_ListOf x19632.2).bind fun r21096 =>
(forL (ref_Rects_b1775 a0 a1 v1 v21093) (fun x21143 => (x21143.1, x21143.2)) r21096 0 (x21091.1, x21091.2)).bind fun v21167 =>
some (.next (v21167.1, v21167.2))
@[reducible] def ref_Rects_s1779 (a0 : (List (List Bool))) (a1 : Bool) (a2 : Int) (v1 : (List Bool)) (v6 : Int) (x7074 : (Int × Int)) (x19632 : (Int × Int)) (r20937 : (List Int)) (v : Int × (Bool × Int)) : Fr × LL := ([(0, aD (.slice (.slice .bool)) a0), (1, aB a1), (2, aI a2), (7, aI (List.length v1 : Int)), (8, aI v6), (9, aI x19632.1), (10, aI x7074.2), (11, aI x19632.2), (12, aB v.2.1), (13, aI v.2.2), (60, aD (.slice tI) r20937), (61, aI (List.length r20937 : Int)), (62, aI v.1)], [])
@[reducible] def ref_Rects_s1780 (a0 : (List (List Bool))) (a1 : Bool) (a2 : Int) (v1 : (List Bool)) (v6 : Int) (x7074 : (Int × Int)) (x19632 : (Int × Int)) (v : (Bool × Int)) : Fr × LL := ([(0, aD (.slice (.slice .bool)) a0), (1, aB a1), (2, aI a2), (7, aI (List.length v1 : Int)), (8, aI v6), (9, aI x19632.1), (10, aI x7074.2), (11, aI x19632.2), (12, aB v.1), (13, aI v.2)], [])
@[reducible] def ref_Rects_s1781 (a0 : (List (List Bool))) (a1 : Bool) (a2 : Int) (v1 : (List Bool)) (v6 : Int) (x7074 : (Int × Int)) (x19632 : (Int × Int)) (v21173 : (Bool × Int)) (v : Bool) : Fr × LL := ([(0, aD (.slice (.slice .bool)) a0), (1, aB a1), (2, aI a2), (7, aI (List.length v1 : Int)), (8, aI v6), (9, aI x19632.1), (10, aI x7074.2), (11, aI x19632.2), (13, aI v21173.2), (103, aB v)], [])
def ref_Rects_g1782 (a0 : (List (List Bool))) (a1 : Bool) (a2 : Int) (v1 : (List Bool)) (v6 : Int) (fuel : Nat) (rf_ref_Rects : (List (List Bool)) → Bool → Int → Option Int) (x7074 : (Int × Int)) (x19632 : (Int × Int)) : Option Int :=
(ref_Bit x19632.2 (Int.tmod v6 (List.length v1 : Int))).bind fun r20934 =>
bif !r20934 then
(some x19632.1)
else
((ref_ListOf x7074.2).bind fun r20937 =>
(forL (ref_Rects_b1778 a0 a1 v1 x19632) (fun x21091 => (x21091.1, x21091.2)) r20937 0 (true, a2)).bind fun v21173 =>
(bif v21173.1 then
((ref_whole fuel a0 a1 x7074.2 x19632.2).bind fun r21185 =>
some r21185)
else
(some false)).bind fun v21187 =>
bif v21187 then
((rf_ref_Rects a0 a1 v21173.2).bind fun r21190 =>
bif decide ((w64 ((1 : Int) + r21190)) < x19632.1) then
(some (w64 ((1 : Int) + r21190)))
else
(some x19632.1))
else
(some x19632.1))
@[reducible] def ref_Rects_s1783 (a0 : (List (List Bool))) (a1 : Bool) (a2 : Int) (v1 : (List Bool)) (v6 : Int) (x7074 : (Int × Int)) (x19632 : (Int × Int)) (v : Int) : Fr × LL := ([(0, aD (.slice (.slice .bool)) a0), (1, aB a1), (2, aI a2), (7, aI (List.length v1 : Int)), (8, aI v6), (9, aI v), (10, aI x7074.2), (11, aI x19632.2)], [])
def ref_Rects_b1784 (a0 : (List (List Bool))) (a1 : Bool) (a2 : Int) (v1 : (List Bool)) (v6 : Int) (fuel : Nat) (rf_ref_Rects : (List (List Bool)) → Bool → Int → Option Int) (x7074 : (Int × Int)) (x19632 : (Int × Int)) : Option (Flow (Int × Int) Int) :=
(ck (0 ≤ IntKind.wrap .u64 ((List.length v1 : Int)))).bind fun _ =>
bif decide (x19632.2 < (bShl .i64 (1 : Int) (IntKind.wrap .u64 ((List.length v1 : Int))))) then
((ref_Rects_g1782 a0 a1 a2 v1 v6 fuel rf_ref_Rects x7074 x19632).bind fun v21193 =>
some (.next (v21193, w64 (x19632.2 + (1 : Int)))))
else
(some (.done x19632.1))
@[reducible] def ref_Rects_s1785 (a0 : (List (List Bool))) (a1 : Bool) (a2 : Int) (v1 : (List Bool)) (v6 : Int) (x7074 : (Int × Int)) (v : (Int × Int)) : Fr × LL := ([(0, aD (.slice (.slice .bool)) a0), (1, aB a1), (2, aI a2), (7, aI (List.length v1 : Int)), (8, aI v6), (9, aI v.1), (10, aI x7074.2), (11, aI v.2)], [])
@[reducible] def ref_Rects_s1786 (a0 : (List (List Bool))) (a1 : Bool) (a2 : Int) (v1 : (List Bool)) (v6 : Int) (x7074 : (Int × Int)) (v : Int) : Fr × LL := ([(0, aD (.slice (.slice .bool)) a0), (1, aB a1), (2, aI a2), (7, aI (List.length v1 : Int)), (8, aI v6), (9, aI v), (10, aI x7074.2)], [])
def ref_Rects_g1787 (a0 : (List (List Bool))) (a1 : Bool) (a2 : Int) (v1 : (List Bool)) (v6 : Int) (fuel : Nat) (rf_ref_Rects : (List (List Bool)) → Bool → Int → Option Int) (x7074 : (Int × Int)) : Option Int :=
(ck ((List.length v1 : Int) ≠ 0)).bind fun _ =>
(ref_Bit x7074.2 (w64 (Int.tdiv v6 (List.length v1 : Int)))).bind fun r18847 =>
bif !r18847 then
(some x7074.1)
else
((iter (ref_Rects_b1784 a0 a1 a2 v1 v6 fuel rf_ref_Rects x7074) fuel (x7074.1, (1 : Int))).bind fun v21195 =>
some v21195)
@[reducible] def ref_Rects_s1788 (a0 : (List (List Bool))) (a1 : Bool) (a2 : Int) (v1 : (List Bool)) (v6 : Int) (x7074 : (Int × Int)) (v : Int) : Fr × LL := ([(0, aD (.slice (.slice .bool)) a0), (1, aB a1), (2, aI a2), (7, aI (List.length v1 : Int)), (8, aI v6), (9, aI v), (10, aI x7074.2)], [])
def ref_Rects_b1789 (a0 : (List (List Bool))) (a1 : Bool) (a2 : Int) (v1 : (List Bool)) (v6 : Int) (fuel : Nat) (rf_ref_Rects : (List (List Bool)) → Bool → Int → Option Int) (x7074 : (Int × Int)) : Option (Flow (Int × Int) Int) :=
(ck (0 ≤ IntKind.wrap .u64 ((List.length a0 : Int)))).bind fun _ =>
bif decide (x7074.2 < (bShl .i64 (1 : Int) (IntKind.wrap .u64 ((List.length a0 : Int))))) then
((ref_Rects_g1787 a0 a1 a2 v1 v6 fuel rf_ref_Rects x7074).bind fun v21199 =>
some (.next (v21199, w64 (x7074.2 + (1 : Int)))))
else
(some (.done x7074.1))
@[reducible] def ref_Rects_s1790 (a0 : (List (List Bool))) (a1 : Bool) (a2 : Int) (v1 : (List Bool)) (v6 : Int) (v : (Int × Int)) : Fr × LL := ([(0, aD (.slice (.slice .bool)) a0), (1, aB a1), (2, aI a2), (7, aI (List.length v1 : Int)), (8, aI v6), (9, aI v.1), (10, aI v.2)], [])
@[reducible] def ref_Rects_s1791 (v : Int) : Fr × LL := ([(9, aI v)], [])
def ref_Rects_step (rf_ref_Rects : (List (List Bool)) → Bool → Int → Option Int) (fuel : Nat) (a0 : (List (List Bool))) (a1 : Bool) (a2 : Int) : Option Int :=
(idx a0 (0 : Int)).bind fun v1 =>
bif a2 == (0 : Int) then
(some (0 : Int))
else
((ref_ListOf a2).bind fun r4 =>
(idx r4 (0 : Int)).bind fun v6 =>
(ref_Size a2).bind fun r8 =>
(iter (ref_Rects_b1789 a0 a1 a2 v1 v6 fuel rf_ref_Rects) fuel (r8, (1 : Int))).bind fun v21201 =>
some v21201)
def ref_Rects : Nat → (List (List Bool)) → Bool → Int → Option Int
  | 0 => fun _ _ _ => none
  | fuel + 1 => fun a0 a1 a2 => ref_Rects_step (ref_Rects fuel) fuel a0 a1 a2
theorem ref_Rects_step_ok {rf_ref_Rects : (List (List Bool)) → Bool → Int → Option Int} (ih_ref_Rects : ∀ {a0 : (List (List Bool))} {a1 : Bool} {a2 : Int} {r : Int}, rf_ref_Rects a0 a1 a2 = some r → FnC Try.prog 26 [aD (.slice (.slice .bool)) a0, aB a1, aI a2] [] (aI r) []) {fuel : Nat} {a0 : (List (List Bool))} {a1 : Bool} {a2 : Int} {r : Int} (h : ref_Rects_step rf_ref_Rects fuel a0 a1 a2 = some r) : FnC Try.prog 26 [aD (.slice (.slice .bool)) a0, aB a1, aI a2] [] (aI r) [] := by
  refine fnC_of_W (B := bodyOf Try.f26) (n := 114) Try.func26 (by kernel_rfl) (by kernel_rfl) (by kernel_rfl) (by kernel_rfl) (by kernel_rfl) ?_
  intro K
  refine W_seq (by kernel_rfl) ?_
  refine W_run 1 [] [0, 1, 2] [] (fr' := [(0, aD (.slice (.slice .bool)) a0), (1, aB a1), (2, aI a2)]) (L' := []) (obs := []) (by kernel_rfl) (by kernel_rfl) (by kernel_rfl) allP0 ?_
  refine seqQ_norm ?_
  refine W_seq (by kernel_rfl) ?_
  obtain ⟨v1, h2, h⟩ := bind_of h
  refine W_run 5 [(3, .val (.dat (.slice .bool) v1))] [0, 1, 2, 7] [] (fr' := [(0, aD (.slice (.slice .bool)) a0), (1, aB a1), (2, aI a2), (7, aI (List.length v1 : Int))]) (L' := []) (obs := [Idx a0 (0 : Int) v1]) (by kernel_rfl) (by kernel_rfl) (by kernel_rfl) (allP1 (Idx.of h2)) ?_
  refine seqQ_norm ?_
  refine W_seq (by kernel_rfl) ?_
  refine W_seq (by kernel_rfl) ?_
  refine W_run 2 [] [0, 1, 2, 7, 24] [] (fr' := [(0, aD (.slice (.slice .bool)) a0), (1, aB a1), (2, aI a2), (7, aI (List.length v1 : Int)), (24, aB (a2 == (0 : Int)))]) (L' := []) (obs := []) (by kernel_rfl) (by kernel_rfl) (by kernel_rfl) allP0 ?_
  refine seqQ_norm ?_
  refine W_cond (o := .tmp 24) (b := a2 == (0 : Int)) (by kernel_rfl) (by kernel_rfl) (fun h3 => ?_) (fun h3 => ?_)
  · replace h := ofT h3 h
    refine W_seq (by kernel_rfl) ?_
    refine W_run 1 [] [6] [] (fr' := [(6, aI (0 : Int))]) (L' := []) (obs := []) (by kernel_rfl) (by kernel_rfl) (by kernel_rfl) allP0 ?_
    refine seqQ_norm ?_
    obtain rfl := Option.some.inj h
    refine W_ret [6] [] (fr' := [(6, aI (0 : Int))]) (L' := []) (by kernel_rfl) (by kernel_rfl) ?_
    refine seqQ_ret ?_
    exact retQ_mk (by kernel_rfl) (by kernel_rfl) (by kernel_rfl)
  · replace h := ofF h3 h
    refine W_skip [0, 1, 2, 7] [] (fr' := [(0, aD (.slice (.slice .bool)) a0), (1, aB a1), (2, aI a2), (7, aI (List.length v1 : Int))]) (L' := []) (by kernel_rfl) (by kernel_rfl) ?_
    refine seqQ_norm ?_
    refine W_seq (by kernel_rfl) ?_
    refine W_region (by kernel_rfl) ?_
    refine WO_run (j := 1) (k := 1) (orcs := []) (kF := [0, 1, 2, 7, 25]) (kL := []) (fr' := [(0, aD (.slice (.slice .bool)) a0), (1, aB a1), (2, aI a2), (7, aI (List.length v1 : Int)), (25, aI a2)]) (L' := []) (obs := []) rfl (by kernel_rfl) allP0 ?_
    obtain ⟨r4, h5, h⟩ := bind_of h
    refine WO_call0 (us := [none]) (d := 26) (p := True) (j := 2) rfl ⟨by kernel_rfl, by kernel_rfl, by kernel_rfl⟩ trivial (ref_ListOf_ok h5) (by kernel_rfl) ?_
    obtain ⟨v6, h7, h⟩ := bind_of h
    refine WO_run (j := 5) (k := 3) (orcs := [(5, .val (.dat tI v6))]) (kF := [0, 1, 2, 7, 8]) (kL := []) (fr' := [(0, aD (.slice (.slice .bool)) a0), (1, aB a1), (2, aI a2), (7, aI (List.length v1 : Int)), (8, aI v6)]) (L' := []) (obs := [Idx r4 (0 : Int) v6]) rfl (by kernel_rfl) (allP1 (Idx.of h7)) ?_
    refine WO_fin [0, 1, 2, 7, 8] [] (fr' := [(0, aD (.slice (.slice .bool)) a0), (1, aB a1), (2, aI a2), (7, aI (List.length v1 : Int)), (8, aI v6)]) (L' := []) (by kernel_rfl) (by kernel_rfl) ?_
    refine seqQ_norm ?_
    refine W_seq (by kernel_rfl) ?_
    refine W_region (by kernel_rfl) ?_
    refine WO_run (j := 1) (k := 1) (orcs := []) (kF := [0, 1, 2, 7, 8, 29]) (kL := []) (fr' := [(0, aD (.slice (.slice .bool)) a0), (1, aB a1), (2, aI a2), (7, aI (List.length v1 : Int)), (8, aI v6), (29, aI a2)]) (L' := []) (obs := []) rfl (by kernel_rfl) allP0 ?_
    obtain ⟨r8, h9, h⟩ := bind_of h
    refine WO_call0 (us := [none]) (d := 30) (p := True) (j := 2) rfl ⟨by kernel_rfl, by kernel_rfl, by kernel_rfl⟩ trivial (ref_Size_ok h9) (by kernel_rfl) ?_
    refine WO_run (j := 3) (k := 1) (orcs := []) (kF := [0, 1, 2, 7, 8, 9]) (kL := []) (fr' := [(0, aD (.slice (.slice .bool)) a0), (1, aB a1), (2, aI a2), (7, aI (List.length v1 : Int)), (8, aI v6), (9, aI r8)]) (L' := []) (obs := []) rfl (by kernel_rfl) allP0 ?_
    refine WO_fin [0, 1, 2, 7, 8, 9] [] (fr' := [(0, aD (.slice (.slice .bool)) a0), (1, aB a1), (2, aI a2), (7, aI (List.length v1 : Int)), (8, aI v6), (9, aI r8)]) (L' := []) (by kernel_rfl) (by kernel_rfl) ?_
    refine seqQ_norm ?_
    refine W_seq (by kernel_rfl) ?_
    refine W_seq (by kernel_rfl) ?_
    refine W_run 1 [] [0, 1, 2, 7, 8, 9, 10] [] (fr' := [(0, aD (.slice (.slice .bool)) a0), (1, aB a1), (2, aI a2), (7, aI (List.length v1 : Int)), (8, aI v6), (9, aI r8), (10, aI (1 : Int))]) (L' := []) (obs := []) (by kernel_rfl) (by kernel_rfl) (by kernel_rfl) allP0 ?_
    refine seqQ_norm ?_
    refine W_block (id := 0) (by kernel_rfl) ?_
    obtain ⟨v21201, h21202, h⟩ := bind_of h
    refine W_weaken [0, 1, 2, 7, 8, 9, 10] [] (fr' := ((ref_Rects_s1790 a0 a1 a2 v1 v6) (r8, (1 : Int))).1) (L' := ((ref_Rects_s1790 a0 a1 a2 v1 v6) (r8, (1 : Int))).2) (by kernel_rfl) ?_
    refine W_cutK (W_loop (S := (ref_Rects_s1790 a0 a1 a2 v1 v6)) (J := (exQ (.exit 0) ref_Rects_s1791)) (by kernel_rfl) ?_ fuel _ v21201 h21202) ?_
    · rintro x7074 s h
      refine W_seq (by kernel_rfl) ?_
      refine W_seq (by kernel_rfl) ?_
      obtain ⟨_, h14138, h⟩ := bind_of h
      replace h14138 := ck_some h14138
      refine W_run 6 [] [0, 1, 2, 7, 8, 9, 10, 36] [] (fr' := [(0, aD (.slice (.slice .bool)) a0), (1, aB a1), (2, aI a2), (7, aI (List.length v1 : Int)), (8, aI v6), (9, aI x7074.1), (10, aI x7074.2), (36, aB (decide (x7074.2 < (bShl .i64 (1 : Int) (IntKind.wrap .u64 ((List.length a0 : Int)))))))]) (L' := []) (obs := [(0 ≤ IntKind.wrap .u64 ((List.length a0 : Int)))]) (by kernel_rfl) (by kernel_rfl) (by kernel_rfl) (allP1 h14138) ?_
      refine seqQ_norm ?_
      refine W_cond (o := .tmp 36) (b := decide (x7074.2 < (bShl .i64 (1 : Int) (IntKind.wrap .u64 ((List.length a0 : Int)))))) (by kernel_rfl) (by kernel_rfl) (fun h14139 => ?_) (fun h14139 => ?_)
      · replace h := ofT h14139 h
        refine W_skip [0, 1, 2, 7, 8, 9, 10] [] (fr' := [(0, aD (.slice (.slice .bool)) a0), (1, aB a1), (2, aI a2), (7, aI (List.length v1 : Int)), (8, aI v6), (9, aI x7074.1), (10, aI x7074.2)]) (L' := []) (by kernel_rfl) (by kernel_rfl) ?_
        refine seqQ_norm ?_
        refine W_seq (by kernel_rfl) ?_
        obtain ⟨v21199, h21200, h⟩ := bind_of h
        refine W_cutK (Q' := (exQ .normal (ref_Rects_s1788 a0 a1 a2 v1 v6 x7074)) v21199) ?_ ?_
        · replace h := h21200
          refine W_block (id := 1) (by kernel_rfl) ?_
          refine W_seq (by kernel_rfl) ?_
          refine W_seq (by kernel_rfl) ?_
          obtain ⟨_, h18846, h⟩ := bind_of h
          replace h18846 := ck_some h18846
          refine W_region (by kernel_rfl) ?_
          refine WO_run (j := 4) (k := 4) (orcs := []) (kF := [0, 1, 2, 7, 8, 9, 10, 39, 42]) (kL := []) (fr' := [(0, aD (.slice (.slice .bool)) a0), (1, aB a1), (2, aI a2), (7, aI (List.length v1 : Int)), (8, aI v6), (9, aI x7074.1), (10, aI x7074.2), (39, aI x7074.2), (42, aI (w64 (Int.tdiv v6 (List.length v1 : Int))))]) (L' := []) (obs := [((List.length v1 : Int) ≠ 0)]) rfl (by kernel_rfl) (allP1 h18846) ?_
          obtain ⟨r18847, h18848, h⟩ := bind_of h
          refine WO_call0 (us := [none, none]) (d := 43) (p := True) (j := 5) rfl ⟨by kernel_rfl, by kernel_rfl, by kernel_rfl⟩ trivial (ref_Bit_ok h18848) (by kernel_rfl) ?_
          refine WO_run (j := 6) (k := 1) (orcs := []) (kF := [0, 1, 2, 7, 8, 9, 10, 44]) (kL := []) (fr' := [(0, aD (.slice (.slice .bool)) a0), (1, aB a1), (2, aI a2), (7, aI (List.length v1 : Int)), (8, aI v6), (9, aI x7074.1), (10, aI x7074.2), (44, aB (!r18847))]) (L' := []) (obs := []) rfl (by kernel_rfl) allP0 ?_
          refine WO_fin [0, 1, 2, 7, 8, 9, 10, 44] [] (fr' := [(0, aD (.slice (.slice .bool)) a0), (1, aB a1), (2, aI a2), (7, aI (List.length v1 : Int)), (8, aI v6), (9, aI x7074.1), (10, aI x7074.2), (44, aB (!r18847))]) (L' := []) (by kernel_rfl) (by kernel_rfl) ?_
          refine seqQ_norm ?_
          refine W_cond (o := .tmp 44) (b := !r18847) (by kernel_rfl) (by kernel_rfl) (fun h18849 => ?_) (fun h18849 => ?_)
          · replace h := ofT h18849 h
            obtain rfl := Option.some.inj h
            refine W_exit (id := 1) [0, 1, 2, 7, 8, 9, 10] [] (fr' := [(0, aD (.slice (.slice .bool)) a0), (1, aB a1), (2, aI a2), (7, aI (List.length v1 : Int)), (8, aI v6), (9, aI x7074.1), (10, aI x7074.2)]) (L' := []) (by kernel_rfl) (by kernel_rfl) ?_
            refine seqQ_exit ?_
            refine blockQ_hit ?_
            exact exQ_mk (by kernel_rfl) (by kernel_rfl)
          · replace h := ofF h18849 h
            refine W_skip [0, 1, 2, 7, 8, 9, 10] [] (fr' := [(0, aD (.slice (.slice .bool)) a0), (1, aB a1), (2, aI a2), (7, aI (List.length v1 : Int)), (8, aI v6), (9, aI x7074.1), (10, aI x7074.2)]) (L' := []) (by kernel_rfl) (by kernel_rfl) ?_
            refine seqQ_norm ?_
            refine W_seq (by kernel_rfl) ?_
            refine W_run 1 [] [0, 1, 2, 7, 8, 9, 10, 11] [] (fr' := [(0, aD (.slice (.slice .bool)) a0), (1, aB a1), (2, aI a2), (7, aI (List.length v1 : Int)), (8, aI v6), (9, aI x7074.1), (10, aI x7074.2), (11, aI (1 : Int))]) (L' := []) (obs := []) (by kernel_rfl) (by kernel_rfl) (by kernel_rfl) allP0 ?_
            refine seqQ_norm ?_
            refine W_block (id := 2) (by kernel_rfl) ?_
            obtain ⟨v21195, h21196, h⟩ := bind_of h
            refine W_weaken [0, 1, 2, 7, 8, 9, 10, 11] [] (fr' := ((ref_Rects_s1785 a0 a1 a2 v1 v6 x7074) (x7074.1, (1 : Int))).1) (L' := ((ref_Rects_s1785 a0 a1 a2 v1 v6 x7074) (x7074.1, (1 : Int))).2) (by kernel_rfl) ?_
            refine W_cutK (W_loop (S := (ref_Rects_s1785 a0 a1 a2 v1 v6 x7074)) (J := (exQ (.exit 2) (ref_Rects_s1786 a0 a1 a2 v1 v6 x7074))) (by kernel_rfl) ?_ fuel _ v21195 h21196) ?_
            · rintro x19632 s h
              refine W_seq (by kernel_rfl) ?_
              refine W_seq (by kernel_rfl) ?_
              obtain ⟨_, h20414, h⟩ := bind_of h
              replace h20414 := ck_some h20414
              refine W_run 5 [] [0, 1, 2, 7, 8, 9, 10, 11, 49] [] (fr' := [(0, aD (.slice (.slice .bool)) a0), (1, aB a1), (2, aI a2), (7, aI (List.length v1 : Int)), (8, aI v6), (9, aI x19632.1), (10, aI x7074.2), (11, aI x19632.2), (49, aB (decide (x19632.2 < (bShl .i64 (1 : Int) (IntKind.wrap .u64 ((List.length v1 : Int)))))))]) (L' := []) (obs := [(0 ≤ IntKind.wrap .u64 ((List.length v1 : Int)))]) (by kernel_rfl) (by kernel_rfl) (by kernel_rfl) (allP1 h20414) ?_
              refine seqQ_norm ?_
              refine W_cond (o := .tmp 49) (b := decide (x19632.2 < (bShl .i64 (1 : Int) (IntKind.wrap .u64 ((List.length v1 : Int)))))) (by kernel_rfl) (by kernel_rfl) (fun h20415 => ?_) (fun h20415 => ?_)
              · replace h := ofT h20415 h
                refine W_skip [0, 1, 2, 7, 8, 9, 10, 11] [] (fr' := [(0, aD (.slice (.slice .bool)) a0), (1, aB a1), (2, aI a2), (7, aI (List.length v1 : Int)), (8, aI v6), (9, aI x19632.1), (10, aI x7074.2), (11, aI x19632.2)]) (L' := []) (by kernel_rfl) (by kernel_rfl) ?_
                refine seqQ_norm ?_
                refine W_seq (by kernel_rfl) ?_
                obtain ⟨v21193, h21194, h⟩ := bind_of h
                refine W_cutK (Q' := (exQ .normal (ref_Rects_s1783 a0 a1 a2 v1 v6 x7074 x19632)) v21193) ?_ ?_
                · replace h := h21194
                  refine W_block (id := 3) (by kernel_rfl) ?_
                  refine W_seq (by kernel_rfl) ?_
                  refine W_seq (by kernel_rfl) ?_
                  refine W_region (by kernel_rfl) ?_
                  refine WO_run (j := 4) (k := 4) (orcs := []) (kF := [0, 1, 2, 7, 8, 9, 10, 11, 52, 55]) (kL := []) (fr' := [(0, aD (.slice (.slice .bool)) a0), (1, aB a1), (2, aI a2), (7, aI (List.length v1 : Int)), (8, aI v6), (9, aI x19632.1), (10, aI x7074.2), (11, aI x19632.2), (52, aI x19632.2), (55, aI (Int.tmod v6 (List.length v1 : Int)))]) (L' := []) (obs := [((List.length v1 : Int) ≠ 0)]) rfl (by kernel_rfl) (allP1 h18846) ?_
                  obtain ⟨r20934, h20935, h⟩ := bind_of h
                  refine WO_call0 (us := [none, none]) (d := 56) (p := True) (j := 5) rfl ⟨by kernel_rfl, by kernel_rfl, by kernel_rfl⟩ trivial (ref_Bit_ok h20935) (by kernel_rfl) ?_
                  refine WO_run (j := 6) (k := 1) (orcs := []) (kF := [0, 1, 2, 7, 8, 9, 10, 11, 57]) (kL := []) (fr' := [(0, aD (.slice (.slice .bool)) a0), (1, aB a1), (2, aI a2), (7, aI (List.length v1 : Int)), (8, aI v6), (9, aI x19632.1), (10, aI x7074.2), (11, aI x19632.2), (57, aB (!r20934))]) (L' := []) (obs := []) rfl (by kernel_rfl) allP0 ?_
                  refine WO_fin [0, 1, 2, 7, 8, 9, 10, 11, 57] [] (fr' := [(0, aD (.slice (.slice .bool)) a0), (1, aB a1), (2, aI a2), (7, aI (List.length v1 : Int)), (8, aI v6), (9, aI x19632.1), (10, aI x7074.2), (11, aI x19632.2), (57, aB (!r20934))]) (L' := []) (by kernel_rfl) (by kernel_rfl) ?_
                  refine seqQ_norm ?_
                  refine W_cond (o := .tmp 57) (b := !r20934) (by kernel_rfl) (by kernel_rfl) (fun h20936 => ?_) (fun h20936 => ?_)
                  · replace h := ofT h20936 h
                    obtain rfl := Option.some.inj h
                    refine W_exit (id := 3) [0, 1, 2, 7, 8, 9, 10, 11] [] (fr' := [(0, aD (.slice (.slice .bool)) a0), (1, aB a1), (2, aI a2), (7, aI (List.length v1 : Int)), (8, aI v6), (9, aI x19632.1), (10, aI x7074.2), (11, aI x19632.2)]) (L' := []) (by kernel_rfl) (by kernel_rfl) ?_
                    refine seqQ_exit ?_
                    refine blockQ_hit ?_
                    exact exQ_mk (by kernel_rfl) (by kernel_rfl)
                  · replace h := ofF h20936 h
                    refine W_skip [0, 1, 2, 7, 8, 9, 10, 11] [] (fr' := [(0, aD (.slice (.slice .bool)) a0), (1, aB a1), (2, aI a2), (7, aI (List.length v1 : Int)), (8, aI v6), (9, aI x19632.1), (10, aI x7074.2), (11, aI x19632.2)]) (L' := []) (by kernel_rfl) (by kernel_rfl) ?_
                    refine seqQ_norm ?_
                    refine W_seq (by kernel_rfl) ?_
                    refine W_run 1 [] [0, 1, 2, 7, 8, 9, 10, 11, 12] [] (fr' := [(0, aD (.slice (.slice .bool)) a0), (1, aB a1), (2, aI a2), (7, aI (List.length v1 : Int)), (8, aI v6), (9, aI x19632.1), (10, aI x7074.2), (11, aI x19632.2), (12, aB true)]) (L' := []) (obs := []) (by kernel_rfl) (by kernel_rfl) (by kernel_rfl) allP0 ?_
                    refine seqQ_norm ?_
                    refine W_seq (by kernel_rfl) ?_
                    refine W_run 2 [] [0, 1, 2, 7, 8, 9, 10, 11, 12, 13] [] (fr' := [(0, aD (.slice (.slice .bool)) a0), (1, aB a1), (2, aI a2), (7, aI (List.length v1 : Int)), (8, aI v6), (9, aI x19632.1), (10, aI x7074.2), (11, aI x19632.2), (12, aB true), (13, aI a2)]) (L' := []) (obs := []) (by kernel_rfl) (by kernel_rfl) (by kernel_rfl) allP0 ?_
                    refine seqQ_norm ?_
                    refine W_seq (by kernel_rfl) ?_
                    refine W_seq (by kernel_rfl) ?_
                    refine W_region (by kernel_rfl) ?_
                    refine WO_run (j := 1) (k := 1) (orcs := []) (kF := [0, 1, 2, 7, 8, 9, 10, 11, 12, 13, 59]) (kL := []) (fr' := [(0, aD (.slice (.slice .bool)) a0), (1, aB a1), (2, aI a2), (7, aI (List.length v1 : Int)), (8, aI v6), (9, aI x19632.1), (10, aI x7074.2), (11, aI x19632.2), (12, aB true), (13, aI a2), (59, aI x7074.2)]) (L' := []) (obs := []) rfl (by kernel_rfl) allP0 ?_
                    obtain ⟨r20937, h20938, h⟩ := bind_of h
                    refine WO_call0 (us := [none]) (d := 60) (p := True) (j := 2) rfl ⟨by kernel_rfl, by kernel_rfl, by kernel_rfl⟩ trivial (ref_ListOf_ok h20938) (by kernel_rfl) ?_
                    refine WO_run (j := 4) (k := 2) (orcs := []) (kF := [0, 1, 2, 7, 8, 9, 10, 11, 12, 13, 60, 61, 62]) (kL := []) (fr' := [(0, aD (.slice (.slice .bool)) a0), (1, aB a1), (2, aI a2), (7, aI (List.length v1 : Int)), (8, aI v6), (9, aI x19632.1), (10, aI x7074.2), (11, aI x19632.2), (12, aB true), (13, aI a2), (60, aD (.slice tI) r20937), (61, aI (List.length r20937 : Int)), (62, aI (0 : Int))]) (L' := []) (obs := []) rfl (by kernel_rfl) allP0 ?_
                    refine WO_fin [0, 1, 2, 7, 8, 9, 10, 11, 12, 13, 60, 61, 62] [] (fr' := [(0, aD (.slice (.slice .bool)) a0), (1, aB a1), (2, aI a2), (7, aI (List.length v1 : Int)), (8, aI v6), (9, aI x19632.1), (10, aI x7074.2), (11, aI x19632.2), (12, aB true), (13, aI a2), (60, aD (.slice tI) r20937), (61, aI (List.length r20937 : Int)), (62, aI (0 : Int))]) (L' := []) (by kernel_rfl) (by kernel_rfl) ?_
                    refine seqQ_norm ?_
                    refine W_block (id := 4) (by kernel_rfl) ?_
                    obtain ⟨v21173, h21174, h⟩ := bind_of h
                    refine W_len (t := 60) (u := tI) (xs := r20937) (by kernel_rfl) (fun h21177 => ?_)
                    obtain ⟨h21175, h21176⟩ := forL_iter h21177 h21174
                    refine W_weaken [0, 1, 2, 7, 8, 9, 10, 11, 12, 13, 60, 61, 62] [] (fr' := ((ref_Rects_s1779 a0 a1 a2 v1 v6 x7074 x19632 r20937) ((0 : Int), (true, a2))).1) (L' := ((ref_Rects_s1779 a0 a1 a2 v1 v6 x7074 x19632 r20937) ((0 : Int), (true, a2))).2) (by kernel_rfl) ?_
                    refine W_cutK (W_loop (S := (ref_Rects_s1779 a0 a1 a2 v1 v6 x7074 x19632 r20937)) (J := (exQ (.exit 4) (ref_Rects_s1780 a0 a1 a2 v1 v6 x7074 x19632))) (by kernel_rfl) ?_ h21175 _ v21173 h21176) ?_
                    · rintro ⟨i21090, x21091⟩ s h
                      refine W_seq (by kernel_rfl) ?_
                      refine W_run 1 [] [0, 1, 2, 7, 8, 9, 10, 11, 12, 13, 60, 61, 62, 63] [] (fr' := [(0, aD (.slice (.slice .bool)) a0), (1, aB a1), (2, aI a2), (7, aI (List.length v1 : Int)), (8, aI v6), (9, aI x19632.1), (10, aI x7074.2), (11, aI x19632.2), (12, aB x21091.1), (13, aI x21091.2), (60, aD (.slice tI) r20937), (61, aI (List.length r20937 : Int)), (62, aI i21090), (63, aB (decide (i21090 < (List.length r20937 : Int))))]) (L' := []) (obs := []) (by kernel_rfl) (by kernel_rfl) (by kernel_rfl) allP0 ?_
                      refine seqQ_norm ?_
                      refine W_seq (by kernel_rfl) ?_
                      refine W_cond (o := .tmp 63) (b := decide (i21090 < (List.length r20937 : Int))) (by kernel_rfl) (by kernel_rfl) (fun h21095 => ?_) (fun h21095 => ?_)
                      · replace h := stepL_true h21095 h
                        obtain ⟨v21093, _, h21094, h, rfl⟩ := h
                        refine W_skip [0, 1, 2, 7, 8, 9, 10, 11, 12, 13, 60, 61, 62] [] (fr' := [(0, aD (.slice (.slice .bool)) a0), (1, aB a1), (2, aI a2), (7, aI (List.length v1 : Int)), (8, aI v6), (9, aI x19632.1), (10, aI x7074.2), (11, aI x19632.2), (12, aB x21091.1), (13, aI x21091.2), (60, aD (.slice tI) r20937), (61, aI (List.length r20937 : Int)), (62, aI i21090)]) (L' := []) (by kernel_rfl) (by kernel_rfl) ?_
                        refine seqQ_norm ?_
                        refine W_seq (by kernel_rfl) ?_
                        refine W_block (id := 5) (by kernel_rfl) ?_
                        refine W_seq (by kernel_rfl) ?_
                        refine W_run 3 [(1, .val (.dat tI v21093))] [0, 1, 2, 7, 8, 9, 10, 11, 12, 13, 15, 60, 61, 62] [] (fr' := [(0, aD (.slice (.slice .bool)) a0), (1, aB a1), (2, aI a2), (7, aI (List.length v1 : Int)), (8, aI v6), (9, aI x19632.1), (10, aI x7074.2), (11, aI x19632.2), (12, aB x21091.1), (13, aI x21091.2), (15, aI v21093), (60, aD (.slice tI) r20937), (61, aI (List.length r20937 : Int)), (62, aI i21090)]) (L' := []) (obs := [Idx r20937 i21090 v21093]) (by kernel_rfl) (by kernel_rfl) (by kernel_rfl) (allP1 (Idx.of h21094)) ?_
                        refine seqQ_norm ?_
                        refine W_seq (by kernel_rfl) ?_
                        refine W_region (by kernel_rfl) ?_
                        refine WO_run (j := 1) (k := 1) (orcs := []) (kF := [0, 1, 2, 7, 8, 9, 10, 11, 12, 13, 15, 60, 61, 62, 66]) (kL := []) (fr' := [(0, aD (.slice (.slice .bool)) a0), (1, aB a1), (2, aI a2), (7, aI (List.length v1 : Int)), (8, aI v6), (9, aI x19632.1), (10, aI x7074.2), (11, aI x19632.2), (12, aB x21091.1), (13, aI x21091.2), (15, aI v21093), (60, aD (.slice tI) r20937), (61, aI (List.length r20937 : Int)), (62, aI i21090), (66, aI x19632.2)]) (L' := []) (obs := []) rfl (by kernel_rfl) allP0 ?_
                        obtain ⟨r21096, h21097, h⟩ := bind_of h
                        refine WO_call0 (us := [none]) (d := 67) (p := True) (j := 2) rfl ⟨by kernel_rfl, by kernel_rfl, by kernel_rfl⟩ trivial (ref_ListOf_ok h21097) (by kernel_rfl) ?_
                        refine WO_run (j := 4) (k := 2) (orcs := []) (kF := [0, 1, 2, 7, 8, 9, 10, 11, 12, 13, 15, 60, 61, 62, 67, 68, 69]) (kL := []) (fr' := [(0, aD (.slice (.slice .bool)) a0), (1, aB a1), (2, aI a2), (7, aI (List.length v1 : Int)), (8, aI v6), (9, aI x19632.1), (10, aI x7074.2), (11, aI x19632.2), (12, aB x21091.1), (13, aI x21091.2), (15, aI v21093), (60, aD (.slice tI) r20937), (61, aI (List.length r20937 : Int)), (62, aI i21090), (67, aD (.slice tI) r21096), (68, aI (List.length r21096 : Int)), (69, aI (0 : Int))]) (L' := []) (obs := []) rfl (by kernel_rfl) allP0 ?_
                        refine WO_fin [0, 1, 2, 7, 8, 9, 10, 11, 12, 13, 15, 60, 61, 62, 67, 68, 69] [] (fr' := [(0, aD (.slice (.slice .bool)) a0), (1, aB a1), (2, aI a2), (7, aI (List.length v1 : Int)), (8, aI v6), (9, aI x19632.1), (10, aI x7074.2), (11, aI x19632.2), (12, aB x21091.1), (13, aI x21091.2), (15, aI v21093), (60, aD (.slice tI) r20937), (61, aI (List.length r20937 : Int)), (62, aI i21090), (67, aD (.slice tI) r21096), (68, aI (List.length r21096 : Int)), (69, aI (0 : Int))]) (L' := []) (by kernel_rfl) (by kernel_rfl) ?_
                        refine seqQ_norm ?_
                        refine W_block (id := 6) (by kernel_rfl) ?_
                        obtain ⟨v21167, h21168, h⟩ := bind_of h
                        refine W_len (t := 67) (u := tI) (xs := r21096) (by kernel_rfl) (fun h21171 => ?_)
                        obtain ⟨h21169, h21170⟩ := forL_iter h21171 h21168
                        refine W_weaken [0, 1, 2, 7, 8, 9, 10, 11, 12, 13, 15, 60, 61, 62, 67, 68, 69] [] (fr' := ((ref_Rects_s1776 a0 a1 a2 v1 v6 x7074 x19632 r20937 i21090 v21093 r21096) ((0 : Int), (x21091.1, x21091.2))).1) (L' := ((ref_Rects_s1776 a0 a1 a2 v1 v6 x7074 x19632 r20937 i21090 v21093 r21096) ((0 : Int), (x21091.1, x21091.2))).2) (by kernel_rfl) ?_
                        refine W_cutK (W_loop (S := (ref_Rects_s1776 a0 a1 a2 v1 v6 x7074 x19632 r20937 i21090 v21093 r21096)) (J := (exQ (.exit 6) (ref_Rects_s1777 a0 a1 a2 v1 v6 x7074 x19632 r20937 i21090))) (by kernel_rfl) ?_ h21169 _ v21167 h21170) ?_
                        · rintro ⟨i21142, x21143⟩ s h
                          refine W_seq (by kernel_rfl) ?_
                          refine W_run 1 [] [0, 1, 2, 7, 8, 9, 10, 11, 12, 13, 15, 60, 61, 62, 67, 68, 69, 70] [] (fr' := [(0, aD (.slice (.slice .bool)) a0), (1, aB a1), (2, aI a2), (7, aI (List.length v1 : Int)), (8, aI v6), (9, aI x19632.1), (10, aI x7074.2), (11, aI x19632.2), (12, aB x21143.1), (13, aI x21143.2), (15, aI v21093), (60, aD (.slice tI) r20937), (61, aI (List.length r20937 : Int)), (62, aI i21090), (67, aD (.slice tI) r21096), (68, aI (List.length r21096 : Int)), (69, aI i21142), (70, aB (decide (i21142 < (List.length r21096 : Int))))]) (L' := []) (obs := []) (by kernel_rfl) (by kernel_rfl) (by kernel_rfl) allP0 ?_
                          refine seqQ_norm ?_
                          refine W_seq (by kernel_rfl) ?_
                          refine W_cond (o := .tmp 70) (b := decide (i21142 < (List.length r21096 : Int))) (by kernel_rfl) (by kernel_rfl) (fun h21147 => ?_) (fun h21147 => ?_)
                          · replace h := stepL_true h21147 h
                            obtain ⟨v21145, _, h21146, h, rfl⟩ := h
                            refine W_skip [0, 1, 2, 7, 8, 9, 10, 11, 12, 13, 15, 60, 61, 62, 67, 68, 69] [] (fr' := [(0, aD (.slice (.slice .bool)) a0), (1, aB a1), (2, aI a2), (7, aI (List.length v1 : Int)), (8, aI v6), (9, aI x19632.1), (10, aI x7074.2), (11, aI x19632.2), (12, aB x21143.1), (13, aI x21143.2), (15, aI v21093), (60, aD (.slice tI) r20937), (61, aI (List.length r20937 : Int)), (62, aI i21090), (67, aD (.slice tI) r21096), (68, aI (List.length r21096 : Int)), (69, aI i21142)]) (L' := []) (by kernel_rfl) (by kernel_rfl) ?_
                            refine seqQ_norm ?_
                            refine W_seq (by kernel_rfl) ?_
                            refine W_block (id := 7) (by kernel_rfl) ?_
                            refine W_seq (by kernel_rfl) ?_
                            refine W_run 3 [(1, .val (.dat tI v21145))] [0, 1, 2, 7, 8, 9, 10, 11, 12, 13, 15, 17, 60, 61, 62, 67, 68, 69] [] (fr' := [(0, aD (.slice (.slice .bool)) a0), (1, aB a1), (2, aI a2), (7, aI (List.length v1 : Int)), (8, aI v6), (9, aI x19632.1), (10, aI x7074.2), (11, aI x19632.2), (12, aB x21143.1), (13, aI x21143.2), (15, aI v21093), (17, aI v21145), (60, aD (.slice tI) r20937), (61, aI (List.length r20937 : Int)), (62, aI i21090), (67, aD (.slice tI) r21096), (68, aI (List.length r21096 : Int)), (69, aI i21142)]) (L' := []) (obs := [Idx r21096 i21142 v21145]) (by kernel_rfl) (by kernel_rfl) (by kernel_rfl) (allP1 (Idx.of h21146)) ?_
                            refine seqQ_norm ?_
                            refine W_seq (by kernel_rfl) ?_
                            obtain ⟨v21163, h21164, h⟩ := bind_of h
                            refine W_cutK (Q' := (exQ .normal (ref_Rects_s1774 a0 a1 a2 v1 v6 x7074 x19632 r20937 i21090 v21093 r21096 i21142 x21143 v21145)) v21163) ?_ ?_
                            · replace h := h21164
                              refine W_region (by kernel_rfl) ?_
                              refine WO_run (j := 2) (k := 2) (orcs := []) (kF := [0, 1, 2, 7, 8, 9, 10, 11, 12, 13, 15, 17, 60, 61, 62, 67, 68, 69, 74]) (kL := []) (fr' := [(0, aD (.slice (.slice .bool)) a0), (1, aB a1), (2, aI a2), (7, aI (List.length v1 : Int)), (8, aI v6), (9, aI x19632.1), (10, aI x7074.2), (11, aI x19632.2), (12, aB x21143.1), (13, aI x21143.2), (15, aI v21093), (17, aI v21145), (60, aD (.slice tI) r20937), (61, aI (List.length r20937 : Int)), (62, aI i21090), (67, aD (.slice tI) r21096), (68, aI (List.length r21096 : Int)), (69, aI i21142), (74, aB x21143.1)]) (L' := []) (obs := []) rfl (by kernel_rfl) allP0 ?_
                              rcases Bool.eq_false_or_eq_true (x21143.1) with h21158 | h21158
                              · replace h := ofT h21158 h
                                obtain ⟨v21159, h21160, h⟩ := bind_of h
                                obtain ⟨v21161, h21162, h⟩ := bind_of h
                                refine WO_run (j := 13) (k := 11) (orcs := [(4, .known true), (6, .known true), (8, .known true), (9, .val (.dat (.slice .bool) v21159)), (10, .known true), (12, .known true), (14, .known true), (15, .val (.dat .bool v21161)), (16, .known true), (18, .known true), (20, .known true), (23, .val (.dat .bool true))]) (kF := [0, 1, 2, 7, 8, 9, 10, 11, 12, 13, 15, 17, 60, 61, 62, 67, 68, 69]) (kL := []) (fr' := [(0, aD (.slice (.slice .bool)) a0), (1, aB a1), (2, aI a2), (7, aI (List.length v1 : Int)), (8, aI v6), (9, aI x19632.1), (10, aI x7074.2), (11, aI x19632.2), (12, aB (v21161 == a1)), (13, aI x21143.2), (15, aI v21093), (17, aI v21145), (60, aD (.slice tI) r20937), (61, aI (List.length r20937 : Int)), (62, aI i21090), (67, aD (.slice tI) r21096), (68, aI (List.length r21096 : Int)), (69, aI i21142)]) (L' := []) (obs := [(x21143.1 = true), (x21143.1 = true), (x21143.1 = true), Idx a0 v21093 v21159, (x21143.1 = true), (x21143.1 = true), (x21143.1 = true), Idx v21159 v21145 v21161, (x21143.1 = true), (x21143.1 = true), (x21143.1 = true), (x21143.1 = true)]) rfl (by kernel_rfl) (allP2 h21158 (allP2 h21158 (allP2 h21158 (allP2 (Idx.of h21160) (allP2 h21158 (allP2 h21158 (allP2 h21158 (allP2 (Idx.of h21162) (allP2 h21158 (allP2 h21158 (allP2 h21158 (allP1 h21158)))))))))))) ?_
                                obtain rfl := Option.some.inj h
                                refine WO_fin [0, 1, 2, 7, 8, 9, 10, 11, 12, 13, 15, 17, 60, 61, 62, 67, 68, 69] [] (fr' := [(0, aD (.slice (.slice .bool)) a0), (1, aB a1), (2, aI a2), (7, aI (List.length v1 : Int)), (8, aI v6), (9, aI x19632.1), (10, aI x7074.2), (11, aI x19632.2), (12, aB (v21161 == a1)), (13, aI x21143.2), (15, aI v21093), (17, aI v21145), (60, aD (.slice tI) r20937), (61, aI (List.length r20937 : Int)), (62, aI i21090), (67, aD (.slice tI) r21096), (68, aI (List.length r21096 : Int)), (69, aI i21142)]) (L' := []) (by kernel_rfl) (by kernel_rfl) ?_
                                exact exQ_mk (by kernel_rfl) (by kernel_rfl)
                              · replace h := ofF h21158 h
                                refine WO_run (j := 13) (k := 11) (orcs := [(4, .known false), (6, .known false), (8, .known false), (10, .known false), (12, .known false), (14, .known false), (16, .known false), (18, .known false), (20, .known false), (23, .val (.dat .bool false))]) (kF := [0, 1, 2, 7, 8, 9, 10, 11, 12, 13, 15, 17, 60, 61, 62, 67, 68, 69]) (kL := []) (fr' := [(0, aD (.slice (.slice .bool)) a0), (1, aB a1), (2, aI a2), (7, aI (List.length v1 : Int)), (8, aI v6), (9, aI x19632.1), (10, aI x7074.2), (11, aI x19632.2), (12, aB false), (13, aI x21143.2), (15, aI v21093), (17, aI v21145), (60, aD (.slice tI) r20937), (61, aI (List.length r20937 : Int)), (62, aI i21090), (67, aD (.slice tI) r21096), (68, aI (List.length r21096 : Int)), (69, aI i21142)]) (L' := []) (obs := [(x21143.1 = false), (x21143.1 = false), (x21143.1 = false), (x21143.1 = false), (x21143.1 = false), (x21143.1 = false), (x21143.1 = false), (x21143.1 = false), (x21143.1 = false), (x21143.1 = false)]) rfl (by kernel_rfl) (allP2 h21158 (allP2 h21158 (allP2 h21158 (allP2 h21158 (allP2 h21158 (allP2 h21158 (allP2 h21158 (allP2 h21158 (allP2 h21158 (allP1 h21158)))))))))) ?_
                                obtain rfl := Option.some.inj h
                                refine WO_fin [0, 1, 2, 7, 8, 9, 10, 11, 12, 13, 15, 17, 60, 61, 62, 67, 68, 69] [] (fr' := [(0, aD (.slice (.slice .bool)) a0), (1, aB a1), (2, aI a2), (7, aI (List.length v1 : Int)), (8, aI v6), (9, aI x19632.1), (10, aI x7074.2), (11, aI x19632.2), (12, aB false), (13, aI x21143.2), (15, aI v21093), (17, aI v21145), (60, aD (.slice tI) r20937), (61, aI (List.length r20937 : Int)), (62, aI i21090), (67, aD (.slice tI) r21096), (68, aI (List.length r21096 : Int)), (69, aI i21142)]) (L' := []) (by kernel_rfl) (by kernel_rfl) ?_
                                exact exQ_mk (by kernel_rfl) (by kernel_rfl)
                            · intro e fr L hJ
                              obtain ⟨rfl, rfl, rfl⟩ := hJ
                              refine LT_keep [0, 1, 2, 7, 8, 9, 10, 11, 12, 13, 15, 17, 60, 61, 62, 67, 68, 69] [] (fr' := [(0, aD (.slice (.slice .bool)) a0), (1, aB a1), (2, aI a2), (7, aI (List.length v1 : Int)), (8, aI v6), (9, aI x19632.1), (10, aI x7074.2), (11, aI x19632.2), (12, aB v21163), (13, aI x21143.2), (15, aI v21093), (17, aI v21145), (60, aD (.slice tI) r20937), (61, aI (List.length r20937 : Int)), (62, aI i21090), (67, aD (.slice tI) r21096), (68, aI (List.length r21096 : Int)), (69, aI i21142)]) (L' := []) (by kernel_rfl) ?_
                              refine seqQ_norm ?_
                              obtain ⟨_, h21165, h⟩ := bind_of h
                              replace h21165 := ck_some h21165
                              refine W_run 10 [] [0, 1, 2, 7, 8, 9, 10, 11, 12, 13, 15, 60, 61, 62, 67, 68, 69] [] (fr' := [(0, aD (.slice (.slice .bool)) a0), (1, aB a1), (2, aI a2), (7, aI (List.length v1 : Int)), (8, aI v6), (9, aI x19632.1), (10, aI x7074.2), (11, aI x19632.2), (12, aB v21163), (13, aI (bClr .i64 x21143.2 (bShl .i64 (1 : Int) (IntKind.wrap .u64 (w64 ((w64 ((List.length v1 : Int) * v21093)) + v21145)))))), (15, aI v21093), (60, aD (.slice tI) r20937), (61, aI (List.length r20937 : Int)), (62, aI i21090), (67, aD (.slice tI) r21096), (68, aI (List.length r21096 : Int)), (69, aI i21142)]) (L' := []) (obs := [(0 ≤ IntKind.wrap .u64 (w64 ((w64 ((List.length v1 : Int) * v21093)) + v21145)))]) (by kernel_rfl) (by kernel_rfl) (by kernel_rfl) (allP1 h21165) ?_
                              refine blockQ_norm ?_
                              refine seqQ_norm ?_
                              obtain rfl := Option.some.inj h
                              refine W_run 2 [] [0, 1, 2, 7, 8, 9, 10, 11, 12, 13, 15, 60, 61, 62, 67, 68, 69] [] (fr' := [(0, aD (.slice (.slice .bool)) a0), (1, aB a1), (2, aI a2), (7, aI (List.length v1 : Int)), (8, aI v6), (9, aI x19632.1), (10, aI x7074.2), (11, aI x19632.2), (12, aB v21163), (13, aI (bClr .i64 x21143.2 (bShl .i64 (1 : Int) (IntKind.wrap .u64 (w64 ((w64 ((List.length v1 : Int) * v21093)) + v21145)))))), (15, aI v21093), (60, aD (.slice tI) r20937), (61, aI (List.length r20937 : Int)), (62, aI i21090), (67, aD (.slice tI) r21096), (68, aI (List.length r21096 : Int)), (69, aI (w64 (i21142 + (1 : Int))))]) (L' := []) (obs := []) (by kernel_rfl) (by kernel_rfl) (by kernel_rfl) allP0 ?_
                              exact round_next' (by kernel_rfl) (by kernel_rfl)
                          · obtain rfl := stepL_false h21147 h
                            refine W_exit (id := 6) [0, 1, 2, 7, 8, 9, 10, 11, 12, 13, 60, 61, 62] [] (fr' := [(0, aD (.slice (.slice .bool)) a0), (1, aB a1), (2, aI a2), (7, aI (List.length v1 : Int)), (8, aI v6), (9, aI x19632.1), (10, aI x7074.2), (11, aI x19632.2), (12, aB x21143.1), (13, aI x21143.2), (60, aD (.slice tI) r20937), (61, aI (List.length r20937 : Int)), (62, aI i21090)]) (L' := []) (by kernel_rfl) (by kernel_rfl) ?_
                            refine seqQ_exit ?_
                            refine round_exit ?_
                            exact exQ_mk (by kernel_rfl) (by kernel_rfl)
                        · intro e fr L hJ
                          obtain ⟨rfl, rfl, rfl⟩ := hJ
                          refine LT_keep [0, 1, 2, 7, 8, 9, 10, 11, 12, 13, 60, 61, 62] [] (fr' := [(0, aD (.slice (.slice .bool)) a0), (1, aB a1), (2, aI a2), (7, aI (List.length v1 : Int)), (8, aI v6), (9, aI x19632.1), (10, aI x7074.2), (11, aI x19632.2), (12, aB v21167.1), (13, aI v21167.2), (60, aD (.slice tI) r20937), (61, aI (List.length r20937 : Int)), (62, aI i21090)]) (L' := []) (by kernel_rfl) ?_
                          refine blockQ_hit ?_
                          refine blockQ_norm ?_
                          refine seqQ_norm ?_
                          obtain rfl := Option.some.inj h
                          refine W_run 2 [] [0, 1, 2, 7, 8, 9, 10, 11, 12, 13, 60, 61, 62] [] (fr' := [(0, aD (.slice (.slice .bool)) a0), (1, aB a1), (2, aI a2), (7, aI (List.length v1 : Int)), (8, aI v6), (9, aI x19632.1), (10, aI x7074.2), (11, aI x19632.2), (12, aB v21167.1), (13, aI v21167.2), (60, aD (.slice tI) r20937), (61, aI (List.length r20937 : Int)), (62, aI (w64 (i21090 + (1 : Int))))]) (L' := []) (obs := []) (by kernel_rfl) (by kernel_rfl) (by kernel_rfl) allP0 ?_
                          exact round_next' (by kernel_rfl) (by kernel_rfl)
                      · obtain rfl := stepL_false h21095 h
                        refine W_exit (id := 4) [0, 1, 2, 7, 8, 9, 10, 11, 12, 13] [] (fr' := [(0, aD (.slice (.slice .bool)) a0), (1, aB a1), (2, aI a2), (7, aI (List.length v1 : Int)), (8, aI v6), (9, aI x19632.1), (10, aI x7074.2), (11, aI x19632.2), (12, aB x21091.1), (13, aI x21091.2)]) (L' := []) (by kernel_rfl) (by kernel_rfl) ?_
                        refine seqQ_exit ?_
                        refine round_exit ?_
                        exact exQ_mk (by kernel_rfl) (by kernel_rfl)
                    · intro e fr L hJ
                      obtain ⟨rfl, rfl, rfl⟩ := hJ
                      refine LT_keep [0, 1, 2, 7, 8, 9, 10, 11, 12, 13] [] (fr' := [(0, aD (.slice (.slice .bool)) a0), (1, aB a1), (2, aI a2), (7, aI (List.length v1 : Int)), (8, aI v6), (9, aI x19632.1), (10, aI x7074.2), (11, aI x19632.2), (12, aB v21173.1), (13, aI v21173.2)]) (L' := []) (by kernel_rfl) ?_
                      refine blockQ_hit ?_
                      refine seqQ_norm ?_
                      refine W_seq (by kernel_rfl) ?_
                      obtain ⟨v21187, h21188, h⟩ := bind_of h
                      refine W_cutK (Q' := (exQ .normal (ref_Rects_s1781 a0 a1 a2 v1 v6 x7074 x19632 v21173)) v21187) ?_ ?_
                      · replace h := h21188
                        refine W_region (by kernel_rfl) ?_
                        refine WO_run (j := 2) (k := 2) (orcs := []) (kF := [0, 1, 2, 7, 8, 9, 10, 11, 13, 97]) (kL := []) (fr' := [(0, aD (.slice (.slice .bool)) a0), (1, aB a1), (2, aI a2), (7, aI (List.length v1 : Int)), (8, aI v6), (9, aI x19632.1), (10, aI x7074.2), (11, aI x19632.2), (13, aI v21173.2), (97, aB v21173.1)]) (L' := []) (obs := []) rfl (by kernel_rfl) allP0 ?_
                        rcases Bool.eq_false_or_eq_true (v21173.1) with h21184 | h21184
                        · replace h := ofT h21184 h
                          refine WO_run (j := 6) (k := 4) (orcs := [(4, .known true), (6, .known true), (8, .known true), (10, .known true)]) (kF := [0, 1, 2, 7, 8, 9, 10, 11, 13, 97, 98, 99, 100, 101]) (kL := []) (fr' := [(0, aD (.slice (.slice .bool)) a0), (1, aB a1), (2, aI a2), (7, aI (List.length v1 : Int)), (8, aI v6), (9, aI x19632.1), (10, aI x7074.2), (11, aI x19632.2), (13, aI v21173.2), (97, aB v21173.1), (98, aD (.slice (.slice .bool)) a0), (99, aB a1), (100, aI x7074.2), (101, aI x19632.2)]) (L' := []) (obs := [(v21173.1 = true), (v21173.1 = true), (v21173.1 = true), (v21173.1 = true)]) rfl (by kernel_rfl) (allP2 h21184 (allP2 h21184 (allP2 h21184 (allP1 h21184)))) ?_
                          obtain ⟨r21185, h21186, h⟩ := bind_of h
                          refine WO_call0 (us := [none, none, none, none]) (d := 102) (p := (v21173.1 = true)) (j := 7) rfl ⟨by kernel_rfl, by kernel_rfl, by kernel_rfl⟩ h21184 (ref_whole_ok h21186) (by kernel_rfl) ?_
                          refine WO_run (j := 8) (k := 1) (orcs := [(15, .val (.dat .bool true))]) (kF := [0, 1, 2, 7, 8, 9, 10, 11, 13, 103]) (kL := []) (fr' := [(0, aD (.slice (.slice .bool)) a0), (1, aB a1), (2, aI a2), (7, aI (List.length v1 : Int)), (8, aI v6), (9, aI x19632.1), (10, aI x7074.2), (11, aI x19632.2), (13, aI v21173.2), (103, aB r21185)]) (L' := []) (obs := [(v21173.1 = true)]) rfl (by kernel_rfl) (allP1 h21184) ?_
                          obtain rfl := Option.some.inj h
                          refine WO_fin [0, 1, 2, 7, 8, 9, 10, 11, 13, 103] [] (fr' := [(0, aD (.slice (.slice .bool)) a0), (1, aB a1), (2, aI a2), (7, aI (List.length v1 : Int)), (8, aI v6), (9, aI x19632.1), (10, aI x7074.2), (11, aI x19632.2), (13, aI v21173.2), (103, aB r21185)]) (L' := []) (by kernel_rfl) (by kernel_rfl) ?_
                          exact exQ_mk (by kernel_rfl) (by kernel_rfl)
                        · replace h := ofF h21184 h
                          refine WO_run (j := 8) (k := 6) (orcs := [(4, .known false), (6, .known false), (8, .known false), (10, .known false), (12, .known false), (15, .val (.dat .bool false))]) (kF := [0, 1, 2, 7, 8, 9, 10, 11, 13, 103]) (kL := []) (fr' := [(0, aD (.slice (.slice .bool)) a0), (1, aB a1), (2, aI a2), (7, aI (List.length v1 : Int)), (8, aI v6), (9, aI x19632.1), (10, aI x7074.2), (11, aI x19632.2), (13, aI v21173.2), (103, aB false)]) (L' := []) (obs := [(v21173.1 = false), (v21173.1 = false), (v21173.1 = false), (v21173.1 = false), (v21173.1 = false), (v21173.1 = false)]) rfl (by kernel_rfl) (allP2 h21184 (allP2 h21184 (allP2 h21184 (allP2 h21184 (allP2 h21184 (allP1 h21184)))))) ?_
                          obtain rfl := Option.some.inj h
                          refine WO_fin [0, 1, 2, 7, 8, 9, 10, 11, 13, 103] [] (fr' := [(0, aD (.slice (.slice .bool)) a0), (1, aB a1), (2, aI a2), (7, aI (List.length v1 : Int)), (8, aI v6), (9, aI x19632.1), (10, aI x7074.2), (11, aI x19632.2), (13, aI v21173.2), (103, aB false)]) (L' := []) (by kernel_rfl) (by kernel_rfl) ?_
                          exact exQ_mk (by kernel_rfl) (by kernel_rfl)
                      · intro e fr L hJ
                        obtain ⟨rfl, rfl, rfl⟩ := hJ
                        refine LT_keep [0, 1, 2, 7, 8, 9, 10, 11, 13, 103] [] (fr' := [(0, aD (.slice (.slice .bool)) a0), (1, aB a1), (2, aI a2), (7, aI (List.length v1 : Int)), (8, aI v6), (9, aI x19632.1), (10, aI x7074.2), (11, aI x19632.2), (13, aI v21173.2), (103, aB v21187)]) (L' := []) (by kernel_rfl) ?_
                        refine seqQ_norm ?_
                        refine W_cond (o := .tmp 103) (b := v21187) (by kernel_rfl) (by kernel_rfl) (fun h21189 => ?_) (fun h21189 => ?_)
                        · replace h := ofT h21189 h
                          refine W_seq (by kernel_rfl) ?_
                          refine W_region (by kernel_rfl) ?_
                          refine WO_run (j := 3) (k := 3) (orcs := []) (kF := [0, 1, 2, 7, 8, 9, 10, 11, 104, 105, 106]) (kL := []) (fr' := [(0, aD (.slice (.slice .bool)) a0), (1, aB a1), (2, aI a2), (7, aI (List.length v1 : Int)), (8, aI v6), (9, aI x19632.1), (10, aI x7074.2), (11, aI x19632.2), (104, aD (.slice (.slice .bool)) a0), (105, aB a1), (106, aI v21173.2)]) (L' := []) (obs := []) rfl (by kernel_rfl) allP0 ?_
                          obtain ⟨r21190, h21191, h⟩ := bind_of h
                          refine WO_call0 (us := [none, none, none]) (d := 107) (p := True) (j := 4) rfl ⟨by kernel_rfl, by kernel_rfl, by kernel_rfl⟩ trivial (ih_ref_Rects h21191) (by kernel_rfl) ?_
                          refine WO_run (j := 6) (k := 2) (orcs := []) (kF := [0, 1, 2, 7, 8, 9, 10, 11, 18]) (kL := []) (fr' := [(0, aD (.slice (.slice .bool)) a0), (1, aB a1), (2, aI a2), (7, aI (List.length v1 : Int)), (8, aI v6), (9, aI x19632.1), (10, aI x7074.2), (11, aI x19632.2), (18, aI (w64 ((1 : Int) + r21190)))]) (L' := []) (obs := []) rfl (by kernel_rfl) allP0 ?_
                          refine WO_fin [0, 1, 2, 7, 8, 9, 10, 11, 18] [] (fr' := [(0, aD (.slice (.slice .bool)) a0), (1, aB a1), (2, aI a2), (7, aI (List.length v1 : Int)), (8, aI v6), (9, aI x19632.1), (10, aI x7074.2), (11, aI x19632.2), (18, aI (w64 ((1 : Int) + r21190)))]) (L' := []) (by kernel_rfl) (by kernel_rfl) ?_
                          refine seqQ_norm ?_
                          refine W_seq (by kernel_rfl) ?_
                          refine W_run 3 [] [0, 1, 2, 7, 8, 9, 10, 11, 18, 111] [] (fr' := [(0, aD (.slice (.slice .bool)) a0), (1, aB a1), (2, aI a2), (7, aI (List.length v1 : Int)), (8, aI v6), (9, aI x19632.1), (10, aI x7074.2), (11, aI x19632.2), (18, aI (w64 ((1 : Int) + r21190))), (111, aB (decide ((w64 ((1 : Int) + r21190)) < x19632.1)))]) (L' := []) (obs := []) (by kernel_rfl) (by kernel_rfl) (by kernel_rfl) allP0 ?_
                          refine seqQ_norm ?_
                          refine W_cond (o := .tmp 111) (b := decide ((w64 ((1 : Int) + r21190)) < x19632.1)) (by kernel_rfl) (by kernel_rfl) (fun h21192 => ?_) (fun h21192 => ?_)
                          · replace h := ofT h21192 h
                            obtain rfl := Option.some.inj h
                            refine W_run 2 [] [0, 1, 2, 7, 8, 9, 10, 11] [] (fr' := [(0, aD (.slice (.slice .bool)) a0), (1, aB a1), (2, aI a2), (7, aI (List.length v1 : Int)), (8, aI v6), (9, aI (w64 ((1 : Int) + r21190))), (10, aI x7074.2), (11, aI x19632.2)]) (L' := []) (obs := []) (by kernel_rfl) (by kernel_rfl) (by kernel_rfl) allP0 ?_
                            refine blockQ_norm ?_
                            exact exQ_mk (by kernel_rfl) (by kernel_rfl)
                          · replace h := ofF h21192 h
                            obtain rfl := Option.some.inj h
                            refine W_skip [0, 1, 2, 7, 8, 9, 10, 11] [] (fr' := [(0, aD (.slice (.slice .bool)) a0), (1, aB a1), (2, aI a2), (7, aI (List.length v1 : Int)), (8, aI v6), (9, aI x19632.1), (10, aI x7074.2), (11, aI x19632.2)]) (L' := []) (by kernel_rfl) (by kernel_rfl) ?_
                            refine blockQ_norm ?_
                            exact exQ_mk (by kernel_rfl) (by kernel_rfl)
                        · replace h := ofF h21189 h
                          obtain rfl := Option.some.inj h
                          refine W_skip [0, 1, 2, 7, 8, 9, 10, 11] [] (fr' := [(0, aD (.slice (.slice .bool)) a0), (1, aB a1), (2, aI a2), (7, aI (List.length v1 : Int)), (8, aI v6), (9, aI x19632.1), (10, aI x7074.2), (11, aI x19632.2)]) (L' := []) (by kernel_rfl) (by kernel_rfl) ?_
                          refine blockQ_norm ?_
                          exact exQ_mk (by kernel_rfl) (by kernel_rfl)
                · intro e fr L hJ
                  obtain ⟨rfl, rfl, rfl⟩ := hJ
                  refine LT_keep [0, 1, 2, 7, 8, 9, 10, 11] [] (fr' := [(0, aD (.slice (.slice .bool)) a0), (1, aB a1), (2, aI a2), (7, aI (List.length v1 : Int)), (8, aI v6), (9, aI v21193), (10, aI x7074.2), (11, aI x19632.2)]) (L' := []) (by kernel_rfl) ?_
                  refine seqQ_norm ?_
                  obtain rfl := Option.some.inj h
                  refine W_run 3 [] [0, 1, 2, 7, 8, 9, 10, 11] [] (fr' := [(0, aD (.slice (.slice .bool)) a0), (1, aB a1), (2, aI a2), (7, aI (List.length v1 : Int)), (8, aI v6), (9, aI v21193), (10, aI x7074.2), (11, aI (w64 (x19632.2 + (1 : Int))))]) (L' := []) (obs := []) (by kernel_rfl) (by kernel_rfl) (by kernel_rfl) allP0 ?_
                  exact round_next' (by kernel_rfl) (by kernel_rfl)
              · replace h := ofF h20415 h
                obtain rfl := Option.some.inj h
                refine W_exit (id := 2) [0, 1, 2, 7, 8, 9, 10] [] (fr' := [(0, aD (.slice (.slice .bool)) a0), (1, aB a1), (2, aI a2), (7, aI (List.length v1 : Int)), (8, aI v6), (9, aI x19632.1), (10, aI x7074.2)]) (L' := []) (by kernel_rfl) (by kernel_rfl) ?_
                refine seqQ_exit ?_
                refine round_exit ?_
                exact exQ_mk (by kernel_rfl) (by kernel_rfl)
            · intro e fr L hJ
              obtain ⟨rfl, rfl, rfl⟩ := hJ
              obtain rfl := Option.some.inj h
              refine LT_keep [0, 1, 2, 7, 8, 9, 10] [] (fr' := [(0, aD (.slice (.slice .bool)) a0), (1, aB a1), (2, aI a2), (7, aI (List.length v1 : Int)), (8, aI v6), (9, aI v21195), (10, aI x7074.2)]) (L' := []) (by kernel_rfl) ?_
              refine blockQ_hit ?_
              refine blockQ_norm ?_
              exact exQ_mk (by kernel_rfl) (by kernel_rfl)
        · intro e fr L hJ
          obtain ⟨rfl, rfl, rfl⟩ := hJ
          refine LT_keep [0, 1, 2, 7, 8, 9, 10] [] (fr' := [(0, aD (.slice (.slice .bool)) a0), (1, aB a1), (2, aI a2), (7, aI (List.length v1 : Int)), (8, aI v6), (9, aI v21199), (10, aI x7074.2)]) (L' := []) (by kernel_rfl) ?_
          refine seqQ_norm ?_
          obtain rfl := Option.some.inj h
          refine W_run 3 [] [0, 1, 2, 7, 8, 9, 10] [] (fr' := [(0, aD (.slice (.slice .bool)) a0), (1, aB a1), (2, aI a2), (7, aI (List.length v1 : Int)), (8, aI v6), (9, aI v21199), (10, aI (w64 (x7074.2 + (1 : Int))))]) (L' := []) (obs := []) (by kernel_rfl) (by kernel_rfl) (by kernel_rfl) allP0 ?_
          exact round_next' (by kernel_rfl) (by kernel_rfl)
      · replace h := ofF h14139 h
        obtain rfl := Option.some.inj h
        refine W_exit (id := 0) [9] [] (fr' := [(9, aI x7074.1)]) (L' := []) (by kernel_rfl) (by kernel_rfl) ?_
        refine seqQ_exit ?_
        refine round_exit ?_
        exact exQ_mk (by kernel_rfl) (by kernel_rfl)
    · intro e fr L hJ
      obtain ⟨rfl, rfl, rfl⟩ := hJ
      refine LT_keep [9] [] (fr' := [(9, aI v21201)]) (L' := []) (by kernel_rfl) ?_
      refine blockQ_hit ?_
      refine seqQ_norm ?_
      refine W_seq (by kernel_rfl) ?_
      refine W_run 2 [] [6] [] (fr' := [(6, aI v21201)]) (L' := []) (obs := []) (by kernel_rfl) (by kernel_rfl) (by kernel_rfl) allP0 ?_
      refine seqQ_norm ?_
      obtain rfl := Option.some.inj h
      refine W_ret [6] [] (fr' := [(6, aI v21201)]) (L' := []) (by kernel_rfl) (by kernel_rfl) ?_
      exact retQ_mk (by kernel_rfl) (by kernel_rfl) (by kernel_rfl)
theorem ref_Rects_ok : ∀ {fuel : Nat} {a0 : (List (List Bool))} {a1 : Bool} {a2 : Int} {r : Int}, ref_Rects fuel a0 a1 a2 = some r → FnC Try.prog 26 [aD (.slice (.slice .bool)) a0, aB a1, aI a2] [] (aI r) [] := by
  intro fuel
  induction fuel with
  | zero => intros a0 a1 a2 r h; cases h
  | succ fuel ih => intros a0 a1 a2 r h; exact ref_Rects_step_ok (fun h => ih h) (show ref_Rects_step (ref_Rects fuel) fuel a0 a1 a2 = some r from h)
end Go.Proofs.Ytjghcbdfpcpahaa.talkRects
