/- What the functions that TalkLeasts calls compute, as models, and that they compute it: written by a program of mine. -/
import Derived.Test.YtjghcbdfpcpahaaProg
import Derived.Test.YtjghcbdfpcpahaaSl5
set_option linter.all false
set_option maxRecDepth 100000
namespace Go.Proofs.Ytjghcbdfpcpahaa.talkLeasts
open Go Go.Sl
def talk_wrong_1 (a0 : (List Bool)) (c0 : (List (List Bool))) : Option Bool :=
(idx c0 (0 : Int)).bind fun v1 =>
some ((List.length a0 : Int) != (List.length v1 : Int))
theorem talk_wrong_1_ok {a0 : (List Bool)} {c0 : (List (List Bool))} {r : Bool} (h : talk_wrong_1 a0 c0 = some r) : FnC Try.prog 56 [aD (.slice .bool) a0, .one (.ptr 1000 0)] [(1000, .cells [.dat (.slice (.slice .bool)) c0])] (aB r) [(1000, .cells [.dat (.slice (.slice .bool)) c0])] := by
  refine fnC_of_W (B := bodyOf Try.f56) (n := 11) Try.func56 (by kernel_rfl) (by kernel_rfl) (by kernel_rfl) (by kernel_rfl) (by kernel_rfl) ?_
  intro K
  refine W_seq (by kernel_rfl) ?_
  refine W_run 1 [] [0, 1] [1000] (fr' := [(0, aD (.slice .bool) a0), (1, .one (.ptr 1000 0))]) (L' := [(1000, .cells [.dat (.slice (.slice .bool)) c0])]) (obs := []) (by kernel_rfl) (by kernel_rfl) (by kernel_rfl) allP0 ?_
  refine seqQ_norm ?_
  refine W_seq (by kernel_rfl) ?_
  obtain ⟨v1, h2, h⟩ := bind_of h
  refine W_run 8 [(7, .val (.dat (.slice .bool) v1))] [3] [1000] (fr' := [(3, aB ((List.length a0 : Int) != (List.length v1 : Int)))]) (L' := [(1000, .cells [.dat (.slice (.slice .bool)) c0])]) (obs := [Idx c0 (0 : Int) v1]) (by kernel_rfl) (by kernel_rfl) (by kernel_rfl) (allP1 (Idx.of h2)) ?_
  refine seqQ_norm ?_
  obtain rfl := Option.some.inj h
  refine W_ret [3] [1000] (fr' := [(3, aB ((List.length a0 : Int) != (List.length v1 : Int)))]) (L' := [(1000, .cells [.dat (.slice (.slice .bool)) c0])]) (by kernel_rfl) (by kernel_rfl) ?_
  exact retQ_mk (by kernel_rfl) (by kernel_rfl) (by kernel_rfl)

def slices_IndexFunc_LLboolLbool_with_talk_wrong_1_b1 (c0 : (List (List Bool))) (i15 : Int) (v18 : (List Bool)) (x16 : Unit) : Option (Flow Unit (Esc Int Unit)) :=
(talk_wrong_1 v18 c0).bind fun r21 =>
bif r21 then
(some (.done (.ret i15)))
else
(some (.next ()))
@[reducible] def slices_IndexFunc_LLboolLbool_with_talk_wrong_1_s2 (a0 : (List (List Bool))) (c0 : (List (List Bool))) (v : Int × Unit) : Fr × LL := ([(0, aD (.slice (.slice .bool)) a0), (1, .one (.fn 56 [(1000, 0)])), (7, aI (List.length a0 : Int)), (8, aI v.1)], [(1000, .cells [.dat (.slice (.slice .bool)) c0])])
@[reducible] def slices_IndexFunc_LLboolLbool_with_talk_wrong_1_s3 (c0 : (List (List Bool))) (v : Int) : Fr × LL := ([(4, aI v)], [(1000, .cells [.dat (.slice (.slice .bool)) c0])])
@[reducible] def slices_IndexFunc_LLboolLbool_with_talk_wrong_1_s4 (c0 : (List (List Bool))) (v : Unit) : Fr × LL := ([], [(1000, .cells [.dat (.slice (.slice .bool)) c0])])
def slices_IndexFunc_LLboolLbool_with_talk_wrong_1 (a0 : (List (List Bool))) (c0 : (List (List Bool))) : Option Int :=
(forL (slices_IndexFunc_LLboolLbool_with_talk_wrong_1_b1 c0) (fun x16 => (.brk ())) a0 0 ()).bind fun v25 =>
match v25 with
| .ret v30 =>
(some v30)
| .brk v31 =>
(some (-1 : Int))
theorem slices_IndexFunc_LLboolLbool_with_talk_wrong_1_ok {a0 : (List (List Bool))} {c0 : (List (List Bool))} {r : Int} (h : slices_IndexFunc_LLboolLbool_with_talk_wrong_1 a0 c0 = some r) : FnC Try.prog 57 [aD (.slice (.slice .bool)) a0, .one (.fn 56 [(1000, 0)])] [(1000, .cells [.dat (.slice (.slice .bool)) c0])] (aI r) [(1000, .cells [.dat (.slice (.slice .bool)) c0])] := by
  refine fnC_of_W (B := bodyOf Try.f57) (n := 19) Try.func57 (by kernel_rfl) (by kernel_rfl) (by kernel_rfl) (by kernel_rfl) (by kernel_rfl) ?_
  intro K
  refine W_seq (by kernel_rfl) ?_
  refine W_run 1 [] [0, 1] [1000] (fr' := [(0, aD (.slice (.slice .bool)) a0), (1, .one (.fn 56 [(1000, 0)]))]) (L' := [(1000, .cells [.dat (.slice (.slice .bool)) c0])]) (obs := []) (by kernel_rfl) (by kernel_rfl) (by kernel_rfl) allP0 ?_
  refine seqQ_norm ?_
  refine W_seq (by kernel_rfl) ?_
  refine W_seq (by kernel_rfl) ?_
  refine W_run 3 [] [0, 1, 7, 8] [1000] (fr' := [(0, aD (.slice (.slice .bool)) a0), (1, .one (.fn 56 [(1000, 0)])), (7, aI (List.length a0 : Int)), (8, aI (0 : Int))]) (L' := [(1000, .cells [.dat (.slice (.slice .bool)) c0])]) (obs := []) (by kernel_rfl) (by kernel_rfl) (by kernel_rfl) allP0 ?_
  refine seqQ_norm ?_
  refine W_block (id := 0) (by kernel_rfl) ?_
  obtain ⟨v25, h26, h⟩ := bind_of h
  refine W_len (t := 0) (u := (.slice .bool)) (xs := a0) (by kernel_rfl) (fun h29 => ?_)
  obtain ⟨h27, h28⟩ := forL_iter h29 h26
  refine W_weaken [0, 1, 7, 8] [1000] (fr' := ((slices_IndexFunc_LLboolLbool_with_talk_wrong_1_s2 a0 c0) ((0 : Int), ())).1) (L' := ((slices_IndexFunc_LLboolLbool_with_talk_wrong_1_s2 a0 c0) ((0 : Int), ())).2) (by kernel_rfl) ?_
  refine W_cutK (W_loop (S := (slices_IndexFunc_LLboolLbool_with_talk_wrong_1_s2 a0 c0)) (J := (escQ (exQ .ret (slices_IndexFunc_LLboolLbool_with_talk_wrong_1_s3 c0)) (exQ (.exit 0) (slices_IndexFunc_LLboolLbool_with_talk_wrong_1_s4 c0)))) (by kernel_rfl) ?_ h27 _ v25 h28) ?_
  · rintro ⟨i15, x16⟩ s h
    refine W_seq (by kernel_rfl) ?_
    refine W_run 1 [] [0, 1, 7, 8, 9] [1000] (fr' := [(0, aD (.slice (.slice .bool)) a0), (1, .one (.fn 56 [(1000, 0)])), (7, aI (List.length a0 : Int)), (8, aI i15), (9, aB (decide (i15 < (List.length a0 : Int))))]) (L' := [(1000, .cells [.dat (.slice (.slice .bool)) c0])]) (obs := []) (by kernel_rfl) (by kernel_rfl) (by kernel_rfl) allP0 ?_
    refine seqQ_norm ?_
    refine W_seq (by kernel_rfl) ?_
    refine W_cond (o := .tmp 9) (b := decide (i15 < (List.length a0 : Int))) (by kernel_rfl) (by kernel_rfl) (fun h20 => ?_) (fun h20 => ?_)
    · replace h := stepL_true h20 h
      obtain ⟨v18, _, h19, h, rfl⟩ := h
      refine W_skip [0, 1, 7, 8] [1000] (fr' := [(0, aD (.slice (.slice .bool)) a0), (1, .one (.fn 56 [(1000, 0)])), (7, aI (List.length a0 : Int)), (8, aI i15)]) (L' := [(1000, .cells [.dat (.slice (.slice .bool)) c0])]) (by kernel_rfl) (by kernel_rfl) ?_
      refine seqQ_norm ?_
      refine W_seq (by kernel_rfl) ?_
      refine W_block (id := 1) (by kernel_rfl) ?_
      refine W_seq (by kernel_rfl) ?_
      refine W_run 2 [] [0, 1, 5, 7, 8] [1000] (fr' := [(0, aD (.slice (.slice .bool)) a0), (1, .one (.fn 56 [(1000, 0)])), (5, aI i15), (7, aI (List.length a0 : Int)), (8, aI i15)]) (L' := [(1000, .cells [.dat (.slice (.slice .bool)) c0])]) (obs := []) (by kernel_rfl) (by kernel_rfl) (by kernel_rfl) allP0 ?_
      refine seqQ_norm ?_
      refine W_seq (by kernel_rfl) ?_
      refine W_region (by kernel_rfl) ?_
      refine WO_run (j := 5) (k := 5) (orcs := [(7, .val (.dat (.slice .bool) v18))]) (kF := [0, 1, 5, 7, 8, 11, 15]) (kL := [1000]) (fr' := [(0, aD (.slice (.slice .bool)) a0), (1, .one (.fn 56 [(1000, 0)])), (5, aI i15), (7, aI (List.length a0 : Int)), (8, aI i15), (11, .one (.fn 56 [(1000, 0)])), (15, aD (.slice .bool) v18)]) (L' := [(1000, .cells [.dat (.slice (.slice .bool)) c0])]) (obs := [Idx a0 i15 v18]) rfl (by kernel_rfl) (allP1 (Idx.of h19)) ?_
      obtain ⟨r21, h22, h⟩ := bind_of h
      refine WO_lend [(1000, 1000)] (us := [none, none]) (d := 16) (p := True) (j := 6) rfl ⟨by kernel_rfl, by kernel_rfl, by kernel_rfl⟩ trivial (talk_wrong_1_ok h22) (by kernel_rfl) (by kernel_rfl) ?_
      refine WO_fin [0, 1, 5, 7, 8, 16] [1000] (fr' := [(0, aD (.slice (.slice .bool)) a0), (1, .one (.fn 56 [(1000, 0)])), (5, aI i15), (7, aI (List.length a0 : Int)), (8, aI i15), (16, aB r21)]) (L' := [(1000, .cells [.dat (.slice (.slice .bool)) c0])]) (by kernel_rfl) (by kernel_rfl) ?_
      refine seqQ_norm ?_
      refine W_cond (o := .tmp 16) (b := r21) (by kernel_rfl) (by kernel_rfl) (fun h23 => ?_) (fun h23 => ?_)
      · replace h := ofT h23 h
        refine W_seq (by kernel_rfl) ?_
        refine W_run 2 [] [4] [1000] (fr' := [(4, aI i15)]) (L' := [(1000, .cells [.dat (.slice (.slice .bool)) c0])]) (obs := []) (by kernel_rfl) (by kernel_rfl) (by kernel_rfl) allP0 ?_
        refine seqQ_norm ?_
        obtain rfl := Option.some.inj h
        refine W_ret [4] [1000] (fr' := [(4, aI i15)]) (L' := [(1000, .cells [.dat (.slice (.slice .bool)) c0])]) (by kernel_rfl) (by kernel_rfl) ?_
        refine blockQ_ret ?_
        refine seqQ_ret ?_
        refine round_ret ?_
        refine escQ_ret ?_
        exact exQ_mk (by kernel_rfl) (by kernel_rfl)
      · replace h := ofF h23 h
        refine W_skip [0, 1, 7, 8] [1000] (fr' := [(0, aD (.slice (.slice .bool)) a0), (1, .one (.fn 56 [(1000, 0)])), (7, aI (List.length a0 : Int)), (8, aI i15)]) (L' := [(1000, .cells [.dat (.slice (.slice .bool)) c0])]) (by kernel_rfl) (by kernel_rfl) ?_
        refine blockQ_norm ?_
        refine seqQ_norm ?_
        obtain rfl := Option.some.inj h
        refine W_run 2 [] [0, 1, 7, 8] [1000] (fr' := [(0, aD (.slice (.slice .bool)) a0), (1, .one (.fn 56 [(1000, 0)])), (7, aI (List.length a0 : Int)), (8, aI (w64 (i15 + (1 : Int))))]) (L' := [(1000, .cells [.dat (.slice (.slice .bool)) c0])]) (obs := []) (by kernel_rfl) (by kernel_rfl) (by kernel_rfl) allP0 ?_
        exact round_next' (by kernel_rfl) (by kernel_rfl)
    · obtain rfl := stepL_false h20 h
      refine W_exit (id := 0) [] [1000] (fr' := []) (L' := [(1000, .cells [.dat (.slice (.slice .bool)) c0])]) (by kernel_rfl) (by kernel_rfl) ?_
      refine seqQ_exit ?_
      refine round_exit ?_
      refine escQ_brk ?_
      exact exQ_mk (by kernel_rfl) (by kernel_rfl)
  · intro e fr L hJ
    rcases v25 with v30 | v31
    · obtain ⟨rfl, rfl, rfl⟩ := hJ
      obtain rfl := Option.some.inj h
      refine LT_keep [4] [1000] (fr' := [(4, aI v30)]) (L' := [(1000, .cells [.dat (.slice (.slice .bool)) c0])]) (by kernel_rfl) ?_
      refine blockQ_ret ?_
      refine seqQ_ret ?_
      exact retQ_mk (by kernel_rfl) (by kernel_rfl) (by kernel_rfl)
    · obtain ⟨rfl, rfl, rfl⟩ := hJ
      refine LT_keep [] [1000] (fr' := []) (L' := [(1000, .cells [.dat (.slice (.slice .bool)) c0])]) (by kernel_rfl) ?_
      refine blockQ_hit ?_
      refine seqQ_norm ?_
      refine W_seq (by kernel_rfl) ?_
      refine W_run 1 [] [4] [1000] (fr' := [(4, aI (-1 : Int))]) (L' := [(1000, .cells [.dat (.slice (.slice .bool)) c0])]) (obs := []) (by kernel_rfl) (by kernel_rfl) (by kernel_rfl) allP0 ?_
      refine seqQ_norm ?_
      obtain rfl := Option.some.inj h
      refine W_ret [4] [1000] (fr' := [(4, aI (-1 : Int))]) (L' := [(1000, .cells [.dat (.slice (.slice .bool)) c0])]) (by kernel_rfl) (by kernel_rfl) ?_
      exact retQ_mk (by kernel_rfl) (by kernel_rfl) (by kernel_rfl)

def slices_ContainsFunc_LLboolLbool_with_talk_wrong_1 (a0 : (List (List Bool))) (c0 : (List (List Bool))) : Option Bool :=
(slices_IndexFunc_LLboolLbool_with_talk_wrong_1 a0 c0).bind fun r1 =>
some (decide (r1 ≥ (0 : Int)))
theorem slices_ContainsFunc_LLboolLbool_with_talk_wrong_1_ok {a0 : (List (List Bool))} {c0 : (List (List Bool))} {r : Bool} (h : slices_ContainsFunc_LLboolLbool_with_talk_wrong_1 a0 c0 = some r) : FnC Try.prog 37 [aD (.slice (.slice .bool)) a0, .one (.fn 56 [(1000, 0)])] [(1000, .cells [.dat (.slice (.slice .bool)) c0])] (aB r) [(1000, .cells [.dat (.slice (.slice .bool)) c0])] := by
  refine fnC_of_W (B := bodyOf Try.f37) (n := 9) Try.func37 (by kernel_rfl) (by kernel_rfl) (by kernel_rfl) (by kernel_rfl) (by kernel_rfl) ?_
  intro K
  refine W_seq (by kernel_rfl) ?_
  refine W_run 1 [] [0, 1] [1000] (fr' := [(0, aD (.slice (.slice .bool)) a0), (1, .one (.fn 56 [(1000, 0)]))]) (L' := [(1000, .cells [.dat (.slice (.slice .bool)) c0])]) (obs := []) (by kernel_rfl) (by kernel_rfl) (by kernel_rfl) allP0 ?_
  refine seqQ_norm ?_
  refine W_seq (by kernel_rfl) ?_
  refine W_region (by kernel_rfl) ?_
  refine WO_run (j := 2) (k := 2) (orcs := []) (kF := [5, 6]) (kL := [1000]) (fr' := [(5, aD (.slice (.slice .bool)) a0), (6, .one (.fn 56 [(1000, 0)]))]) (L' := [(1000, .cells [.dat (.slice (.slice .bool)) c0])]) (obs := []) rfl (by kernel_rfl) allP0 ?_
  obtain ⟨r1, h2, h⟩ := bind_of h
  refine WO_lend [(1000, 1000)] (us := [none, none]) (d := 7) (p := True) (j := 3) rfl ⟨by kernel_rfl, by kernel_rfl, by kernel_rfl⟩ trivial (slices_IndexFunc_LLboolLbool_with_talk_wrong_1_ok h2) (by kernel_rfl) (by kernel_rfl) ?_
  refine WO_run (j := 5) (k := 2) (orcs := []) (kF := [4]) (kL := [1000]) (fr' := [(4, aB (decide (r1 ≥ (0 : Int))))]) (L' := [(1000, .cells [.dat (.slice (.slice .bool)) c0])]) (obs := []) rfl (by kernel_rfl) allP0 ?_
  refine WO_fin [4] [1000] (fr' := [(4, aB (decide (r1 ≥ (0 : Int))))]) (L' := [(1000, .cells [.dat (.slice (.slice .bool)) c0])]) (by kernel_rfl) (by kernel_rfl) ?_
  refine seqQ_norm ?_
  obtain rfl := Option.some.inj h
  refine W_ret [4] [1000] (fr' := [(4, aB (decide (r1 ≥ (0 : Int))))]) (L' := [(1000, .cells [.dat (.slice (.slice .bool)) c0])]) (by kernel_rfl) (by kernel_rfl) ?_
  exact retQ_mk (by kernel_rfl) (by kernel_rfl) (by kernel_rfl)

def talk_wrong_g1 (a0 : (List (List Bool))) : Option Bool :=
bif (decide ((List.length a0 : Int) < (1 : Int))) || (decide ((List.length a0 : Int) > (4 : Int))) then
(some true)
else
((idx a0 (0 : Int)).bind fun v10 =>
bif decide ((List.length v10 : Int) < (1 : Int)) then
(some true)
else
(some (decide ((List.length v10 : Int) > (4 : Int)))))
@[reducible] def talk_wrong_s2 (a0 : (List (List Bool))) (v : Bool) : Fr × LL := ([(1, .one (.ptr 1 0)), (24, aB v)], [(1, .cells [.dat (.slice (.slice .bool)) a0])])
def talk_wrong (a0 : (List (List Bool))) : Option Int :=
(talk_wrong_g1 a0).bind fun v13 =>
bif v13 then
(some (1 : Int))
else
((slices_ContainsFunc_LLboolLbool_with_talk_wrong_1 a0 a0).bind fun r16 =>
bif r16 then
(some (3 : Int))
else
(some (0 : Int)))
theorem talk_wrong_ok {a0 : (List (List Bool))} {r : Int} (h : talk_wrong a0 = some r) : FnC Try.prog 36 [aD (.slice (.slice .bool)) a0] [] (aI r) [] := by
  refine fnC_of_W (B := bodyOf Try.f36) (n := 28) Try.func36 (by kernel_rfl) (by kernel_rfl) (by kernel_rfl) (by kernel_rfl) (by kernel_rfl) ?_
  intro K
  refine W_seq (by kernel_rfl) ?_
  refine W_run 2 [] [1] [1] (fr' := [(1, .one (.ptr 1 0))]) (L' := [(1, .cells [.dat (.slice (.slice .bool)) a0])]) (obs := []) (by kernel_rfl) (by kernel_rfl) (by kernel_rfl) allP0 ?_
  refine seqQ_norm ?_
  refine W_seq (by kernel_rfl) ?_
  refine W_seq (by kernel_rfl) ?_
  obtain ⟨v13, h14, h⟩ := bind_of h
  refine W_cutK (Q' := (exQ .normal (talk_wrong_s2 a0)) v13) ?_ ?_
  · replace h := h14
    refine W_region (by kernel_rfl) ?_
    refine WO_run (j := 9) (k := 9) (orcs := []) (kF := [1, 11]) (kL := [1]) (fr' := [(1, .one (.ptr 1 0)), (11, aB ((decide ((List.length a0 : Int) < (1 : Int))) || (decide ((List.length a0 : Int) > (4 : Int)))))]) (L' := [(1, .cells [.dat (.slice (.slice .bool)) a0])]) (obs := []) rfl (by kernel_rfl) allP0 ?_
    rcases Bool.eq_false_or_eq_true ((decide ((List.length a0 : Int) < (1 : Int))) || (decide ((List.length a0 : Int) > (4 : Int)))) with h9 | h9
    · replace h := ofT h9 h
      refine WO_run (j := 22) (k := 13) (orcs := [(18, .known true), (20, .known true), (22, .known true), (24, .known true), (26, .known true), (29, .val (.dat .bool true)), (32, .known true), (34, .known true), (36, .known true), (38, .known true), (40, .known true), (43, .val (.dat .bool true))]) (kF := [1, 24]) (kL := [1]) (fr' := [(1, .one (.ptr 1 0)), (24, aB true)]) (L' := [(1, .cells [.dat (.slice (.slice .bool)) a0])]) (obs := [(((decide ((List.length a0 : Int) < (1 : Int))) || (decide ((List.length a0 : Int) > (4 : Int)))) = true), (((decide ((List.length a0 : Int) < (1 : Int))) || (decide ((List.length a0 : Int) > (4 : Int)))) = true), (((decide ((List.length a0 : Int) < (1 : Int))) || (decide ((List.length a0 : Int) > (4 : Int)))) = true), (((decide ((List.length a0 : Int) < (1 : Int))) || (decide ((List.length a0 : Int) > (4 : Int)))) = true), (((decide ((List.length a0 : Int) < (1 : Int))) || (decide ((List.length a0 : Int) > (4 : Int)))) = true), (((decide ((List.length a0 : Int) < (1 : Int))) || (decide ((List.length a0 : Int) > (4 : Int)))) = true), (true = true), (true = true), (true = true), (true = true), (true = true), (true = true)]) rfl (by kernel_rfl) (allP2 h9 (allP2 h9 (allP2 h9 (allP2 h9 (allP2 h9 (allP2 h9 (allP2 rfl (allP2 rfl (allP2 rfl (allP2 rfl (allP2 rfl (allP1 rfl)))))))))))) ?_
      obtain rfl := Option.some.inj h
      refine WO_fin [1, 24] [1] (fr' := [(1, .one (.ptr 1 0)), (24, aB true)]) (L' := [(1, .cells [.dat (.slice (.slice .bool)) a0])]) (by kernel_rfl) (by kernel_rfl) ?_
      exact exQ_mk (by kernel_rfl) (by kernel_rfl)
    · replace h := ofF h9 h
      obtain ⟨v10, h11, h⟩ := bind_of h
      refine WO_run (j := 16) (k := 7) (orcs := [(18, .known false), (20, .known false), (21, .val (.dat (.slice .bool) v10)), (22, .known false), (24, .known false), (26, .known false), (29, .val (.dat .bool false))]) (kF := [1, 18]) (kL := [1]) (fr' := [(1, .one (.ptr 1 0)), (18, aB (decide ((List.length v10 : Int) < (1 : Int))))]) (L' := [(1, .cells [.dat (.slice (.slice .bool)) a0])]) (obs := [(((decide ((List.length a0 : Int) < (1 : Int))) || (decide ((List.length a0 : Int) > (4 : Int)))) = false), (((decide ((List.length a0 : Int) < (1 : Int))) || (decide ((List.length a0 : Int) > (4 : Int)))) = false), Idx a0 (0 : Int) v10, (((decide ((List.length a0 : Int) < (1 : Int))) || (decide ((List.length a0 : Int) > (4 : Int)))) = false), (((decide ((List.length a0 : Int) < (1 : Int))) || (decide ((List.length a0 : Int) > (4 : Int)))) = false), (((decide ((List.length a0 : Int) < (1 : Int))) || (decide ((List.length a0 : Int) > (4 : Int)))) = false), (((decide ((List.length a0 : Int) < (1 : Int))) || (decide ((List.length a0 : Int) > (4 : Int)))) = false)]) rfl (by kernel_rfl) (allP2 h9 (allP2 h9 (allP2 (Idx.of h11) (allP2 h9 (allP2 h9 (allP2 h9 (allP1 h9))))))) ?_
      rcases Bool.eq_false_or_eq_true (decide ((List.length v10 : Int) < (1 : Int))) with h12 | h12
      · replace h := ofT h12 h
        refine WO_run (j := 22) (k := 6) (orcs := [(32, .known true), (34, .known true), (36, .known true), (38, .known true), (40, .known true), (43, .val (.dat .bool true))]) (kF := [1, 24]) (kL := [1]) (fr' := [(1, .one (.ptr 1 0)), (24, aB true)]) (L' := [(1, .cells [.dat (.slice (.slice .bool)) a0])]) (obs := [((decide ((List.length v10 : Int) < (1 : Int))) = true), ((decide ((List.length v10 : Int) < (1 : Int))) = true), ((decide ((List.length v10 : Int) < (1 : Int))) = true), ((decide ((List.length v10 : Int) < (1 : Int))) = true), ((decide ((List.length v10 : Int) < (1 : Int))) = true), ((decide ((List.length v10 : Int) < (1 : Int))) = true)]) rfl (by kernel_rfl) (allP2 h12 (allP2 h12 (allP2 h12 (allP2 h12 (allP2 h12 (allP1 h12)))))) ?_
        obtain rfl := Option.some.inj h
        refine WO_fin [1, 24] [1] (fr' := [(1, .one (.ptr 1 0)), (24, aB true)]) (L' := [(1, .cells [.dat (.slice (.slice .bool)) a0])]) (by kernel_rfl) (by kernel_rfl) ?_
        exact exQ_mk (by kernel_rfl) (by kernel_rfl)
      · replace h := ofF h12 h
        refine WO_run (j := 22) (k := 6) (orcs := [(32, .known false), (34, .known false), (35, .val (.dat (.slice .bool) v10)), (36, .known false), (38, .known false), (40, .known false), (43, .val (.dat .bool false))]) (kF := [1, 24]) (kL := [1]) (fr' := [(1, .one (.ptr 1 0)), (24, aB (decide ((List.length v10 : Int) > (4 : Int))))]) (L' := [(1, .cells [.dat (.slice (.slice .bool)) a0])]) (obs := [((decide ((List.length v10 : Int) < (1 : Int))) = false), ((decide ((List.length v10 : Int) < (1 : Int))) = false), Idx a0 (0 : Int) v10, ((decide ((List.length v10 : Int) < (1 : Int))) = false), ((decide ((List.length v10 : Int) < (1 : Int))) = false), ((decide ((List.length v10 : Int) < (1 : Int))) = false), ((decide ((List.length v10 : Int) < (1 : Int))) = false)]) rfl (by kernel_rfl) (allP2 h12 (allP2 h12 (allP2 (Idx.of h11) (allP2 h12 (allP2 h12 (allP2 h12 (allP1 h12))))))) ?_
        obtain rfl := Option.some.inj h
        refine WO_fin [1, 24] [1] (fr' := [(1, .one (.ptr 1 0)), (24, aB (decide ((List.length v10 : Int) > (4 : Int))))]) (L' := [(1, .cells [.dat (.slice (.slice .bool)) a0])]) (by kernel_rfl) (by kernel_rfl) ?_
        exact exQ_mk (by kernel_rfl) (by kernel_rfl)
  · intro e fr L hJ
    obtain ⟨rfl, rfl, rfl⟩ := hJ
    refine LT_keep [1, 24] [1] (fr' := [(1, .one (.ptr 1 0)), (24, aB v13)]) (L' := [(1, .cells [.dat (.slice (.slice .bool)) a0])]) (by kernel_rfl) ?_
    refine seqQ_norm ?_
    refine W_cond (o := .tmp 24) (b := v13) (by kernel_rfl) (by kernel_rfl) (fun h15 => ?_) (fun h15 => ?_)
    · replace h := ofT h15 h
      refine W_seq (by kernel_rfl) ?_
      refine W_run 1 [] [2] [] (fr' := [(2, aI (1 : Int))]) (L' := []) (obs := []) (by kernel_rfl) (by kernel_rfl) (by kernel_rfl) allP0 ?_
      refine seqQ_norm ?_
      obtain rfl := Option.some.inj h
      refine W_ret [2] [] (fr' := [(2, aI (1 : Int))]) (L' := []) (by kernel_rfl) (by kernel_rfl) ?_
      refine seqQ_ret ?_
      exact retQ_mk (by kernel_rfl) (by kernel_rfl) (by kernel_rfl)
    · replace h := ofF h15 h
      refine W_skip [1] [1] (fr' := [(1, .one (.ptr 1 0))]) (L' := [(1, .cells [.dat (.slice (.slice .bool)) a0])]) (by kernel_rfl) (by kernel_rfl) ?_
      refine seqQ_norm ?_
      refine W_seq (by kernel_rfl) ?_
      refine W_seq (by kernel_rfl) ?_
      refine W_region (by kernel_rfl) ?_
      refine WO_run (j := 2) (k := 2) (orcs := []) (kF := [25, 26]) (kL := [1]) (fr' := [(25, aD (.slice (.slice .bool)) a0), (26, .one (.fn 56 [(1, 0)]))]) (L' := [(1, .cells [.dat (.slice (.slice .bool)) a0])]) (obs := []) rfl (by kernel_rfl) allP0 ?_
      obtain ⟨r16, h17, h⟩ := bind_of h
      refine WO_lend [(1000, 1)] (us := [none, none]) (d := 27) (p := True) (j := 3) rfl ⟨by kernel_rfl, by kernel_rfl, by kernel_rfl⟩ trivial (slices_ContainsFunc_LLboolLbool_with_talk_wrong_1_ok h17) (by kernel_rfl) (by kernel_rfl) ?_
      refine WO_fin [27] [] (fr' := [(27, aB r16)]) (L' := []) (by kernel_rfl) (by kernel_rfl) ?_
      refine seqQ_norm ?_
      refine W_cond (o := .tmp 27) (b := r16) (by kernel_rfl) (by kernel_rfl) (fun h18 => ?_) (fun h18 => ?_)
      · replace h := ofT h18 h
        refine W_seq (by kernel_rfl) ?_
        refine W_run 1 [] [2] [] (fr' := [(2, aI (3 : Int))]) (L' := []) (obs := []) (by kernel_rfl) (by kernel_rfl) (by kernel_rfl) allP0 ?_
        refine seqQ_norm ?_
        obtain rfl := Option.some.inj h
        refine W_ret [2] [] (fr' := [(2, aI (3 : Int))]) (L' := []) (by kernel_rfl) (by kernel_rfl) ?_
        refine seqQ_ret ?_
        exact retQ_mk (by kernel_rfl) (by kernel_rfl) (by kernel_rfl)
      · replace h := ofF h18 h
        refine W_skip [] [] (fr' := []) (L' := []) (by kernel_rfl) (by kernel_rfl) ?_
        refine seqQ_norm ?_
        refine W_seq (by kernel_rfl) ?_
        refine W_run 1 [] [2] [] (fr' := [(2, aI (0 : Int))]) (L' := []) (obs := []) (by kernel_rfl) (by kernel_rfl) (by kernel_rfl) allP0 ?_
        refine seqQ_norm ?_
        obtain rfl := Option.some.inj h
        refine W_ret [2] [] (fr' := [(2, aI (0 : Int))]) (L' := []) (by kernel_rfl) (by kernel_rfl) ?_
        exact retQ_mk (by kernel_rfl) (by kernel_rfl) (by kernel_rfl)

def talk_whole (a0 : (List (List Bool))) : Option (Int × Int) :=
(ck (0 ≤ (List.length a0 : Int))).bind fun _ =>
(idx a0 (0 : Int)).bind fun v2 =>
(ck (0 ≤ (List.length v2 : Int))).bind fun _ =>
some (IntKind.wrap .u64 ((bShl .u64 (1 : Int) (List.length a0 : Int)) - (1 : Int)), IntKind.wrap .u64 ((bShl .u64 (1 : Int) (List.length v2 : Int)) - (1 : Int)))
theorem talk_whole_ok {a0 : (List (List Bool))} {r : (Int × Int)} (h : talk_whole a0 = some r) : FnC Try.prog 44 [aD (.slice (.slice .bool)) a0] [] (aD (.pair (.int .u64) (.int .u64)) r) [] := by
  refine fnC_of_W (B := bodyOf Try.f44) (n := 14) Try.func44 (by kernel_rfl) (by kernel_rfl) (by kernel_rfl) (by kernel_rfl) (by kernel_rfl) ?_
  intro K
  refine W_seq (by kernel_rfl) ?_
  refine W_run 1 [(1, .typed)] [0, 2] [2] (fr' := [(0, aD (.slice (.slice .bool)) a0), (2, .one (.ptr 2 0))]) (L' := [(2, .one (.pair (.int .u64) (.int .u64)) ((0 : Int), (0 : Int)))]) (obs := []) (by kernel_rfl) (by kernel_rfl) (by kernel_rfl) allP0 ?_
  refine seqQ_norm ?_
  refine W_seq (by kernel_rfl) ?_
  obtain ⟨_, h1, h⟩ := bind_of h
  replace h1 := ck_some h1
  obtain ⟨v2, h3, h⟩ := bind_of h
  obtain ⟨_, h4, h⟩ := bind_of h
  replace h4 := ck_some h4
  refine W_draw2 11 [(11, .val (.dat (.slice .bool) v2))] [] [2] [2] (fr' := [(2, .one (.ptr 2 0))]) (L' := [(2, .one (.pair (.int .u64) (.int .u64)) (IntKind.wrap .u64 ((bShl .u64 (1 : Int) (List.length a0 : Int)) - (1 : Int)), IntKind.wrap .u64 ((bShl .u64 (1 : Int) (List.length v2 : Int)) - (1 : Int))))]) (out := [(3, aD (.slice (.slice .bool)) a0), (4, aI (List.length a0 : Int)), (5, aD (.int .u64) (bShl .u64 (1 : Int) (List.length a0 : Int))), (6, aD (.int .u64) (IntKind.wrap .u64 ((bShl .u64 (1 : Int) (List.length a0 : Int)) - (1 : Int)))), (7, aD (.slice (.slice .bool)) a0), (8, .one (.dptr (.slice .bool) v2)), (9, aD (.slice .bool) v2), (10, aI (List.length v2 : Int)), (11, aD (.int .u64) (bShl .u64 (1 : Int) (List.length v2 : Int))), (12, aD (.int .u64) (IntKind.wrap .u64 ((bShl .u64 (1 : Int) (List.length v2 : Int)) - (1 : Int)))), (13, aD (.pair (.int .u64) (.int .u64)) (IntKind.wrap .u64 ((bShl .u64 (1 : Int) (List.length a0 : Int)) - (1 : Int)), IntKind.wrap .u64 ((bShl .u64 (1 : Int) (List.length v2 : Int)) - (1 : Int))))]) (obs := [(0 ≤ (List.length a0 : Int)), Idx a0 (0 : Int) v2, (0 ≤ (List.length v2 : Int))]) (obs2 := [True]) (calls := []) (by kernel_rfl) (by kernel_rfl) (by kernel_rfl) (by kernel_rfl) (allP2 h1 (allP2 (Idx.of h3) (allP1 h4))) allC0 (by kernel_rfl) (allP1 trivial) ?_
  refine seqQ_norm ?_
  obtain rfl := Option.some.inj h
  refine W_ret [2] [2] (fr' := [(2, .one (.ptr 2 0))]) (L' := [(2, .one (.pair (.int .u64) (.int .u64)) (IntKind.wrap .u64 ((bShl .u64 (1 : Int) (List.length a0 : Int)) - (1 : Int)), IntKind.wrap .u64 ((bShl .u64 (1 : Int) (List.length v2 : Int)) - (1 : Int))))]) (by kernel_rfl) (by kernel_rfl) ?_
  exact retQ_mk (by kernel_rfl) (by kernel_rfl) (by kernel_rfl)

def talk_all_g69 (a1 : (Int × Int)) (i248 : Int) (i337 : Int) : Option Bool :=
(ck (0 ≤ i248)).bind fun _ =>
bif (bAnd .u64 (bShr .u64 a1.1 i248) (1 : Int)) == (1 : Int) then
((ck (0 ≤ i337)).bind fun _ =>
some ((bAnd .u64 (bShr .u64 a1.2 i337) (1 : Int)) == (1 : Int)))
else
(some false)
@[reducible] def talk_all_s70 (a0 : (List (List Bool))) (a1 : (Int × Int)) (i248 : Int) (v251 : (List Bool)) (i337 : Int) (x338 : (Bool × Bool)) (v340 : Bool) (v : Bool) : Fr × LL := ([(3, .one (.ptr 3 0)), (5, aB x338.1), (6, aB x338.2), (7, aI i248), (10, aB v340), (11, aD (.slice (.slice .bool)) a0), (12, aI (List.length a0 : Int)), (13, aI i248), (18, aD (.slice .bool) v251), (19, aI (List.length v251 : Int)), (20, aI i337), (38, aB v)], [(3, .one (.pair (.int .u64) (.int .u64)) a1)])
@[reducible] def talk_all_s71 (a0 : (List (List Bool))) (a1 : (Int × Int)) (i248 : Int) (v251 : (List Bool)) (i337 : Int) (v : (Bool × Bool)) : Fr × LL := ([(3, .one (.ptr 3 0)), (5, aB v.1), (6, aB v.2), (7, aI i248), (11, aD (.slice (.slice .bool)) a0), (12, aI (List.length a0 : Int)), (13, aI i248), (18, aD (.slice .bool) v251), (19, aI (List.length v251 : Int)), (20, aI i337)], [(3, .one (.pair (.int .u64) (.int .u64)) a1)])
def talk_all_b72 (a1 : (Int × Int)) (i248 : Int) (i337 : Int) (v340 : Bool) (x338 : (Bool × Bool)) : Option (Flow (Bool × Bool) (Bool × Bool)) :=
((talk_all_g69 a1 i248 i337).bind fun v376 =>
bif v376 then
(some (x338.1 || (!v340), x338.2 || v340))
else
(some (x338.1, x338.2))).bind fun v379 =>
some (.next (v379.1, v379.2))
@[reducible] def talk_all_s73 (a0 : (List (List Bool))) (a1 : (Int × Int)) (i248 : Int) (v251 : (List Bool)) (v : Int × (Bool × Bool)) : Fr × LL := ([(3, .one (.ptr 3 0)), (5, aB v.2.1), (6, aB v.2.2), (7, aI i248), (11, aD (.slice (.slice .bool)) a0), (12, aI (List.length a0 : Int)), (13, aI i248), (18, aD (.slice .bool) v251), (19, aI (List.length v251 : Int)), (20, aI v.1)], [(3, .one (.pair (.int .u64) (.int .u64)) a1)])
@[reducible] def talk_all_s74 (a0 : (List (List Bool))) (a1 : (Int × Int)) (i248 : Int) (v : (Bool × Bool)) : Fr × LL := ([(3, .one (.ptr 3 0)), (5, aB v.1), (6, aB v.2), (11, aD (.slice (.slice .bool)) a0), (12, aI (List.length a0 : Int)), (13, aI i248)], [(3, .one (.pair (.int .u64) (.int .u64)) a1)])
def talk_all_b75 (a1 : (Int × Int)) (i248 : Int) (v251 : (List Bool)) (x249 : (Bool × Bool)) : Option (Flow (Bool × Bool) (Bool × Bool)) :=
(forL (talk_all_b72 a1 i248) (fun x338 => (x338.1, x338.2)) v251 0 (x249.1, x249.2)).bind fun v382 =>
some (.next (v382.1, v382.2))
@[reducible] def talk_all_s76 (a0 : (List (List Bool))) (a1 : (Int × Int)) (v : Int × (Bool × Bool)) : Fr × LL := ([(3, .one (.ptr 3 0)), (5, aB v.2.1), (6, aB v.2.2), (11, aD (.slice (.slice .bool)) a0), (12, aI (List.length a0 : Int)), (13, aI v.1)], [(3, .one (.pair (.int .u64) (.int .u64)) a1)])
@[reducible] def talk_all_s77 (v : (Bool × Bool)) : Fr × LL := ([(5, aB v.1), (6, aB v.2)], [])
def talk_all (a0 : (List (List Bool))) (a1 : (Int × Int)) : Option Bool :=
(forL (talk_all_b75 a1) (fun x249 => (x249.1, x249.2)) a0 0 (false, false)).bind fun v388 =>
some ((!v388.1) || (!v388.2))
theorem talk_all_ok {a0 : (List (List Bool))} {a1 : (Int × Int)} {r : Bool} (h : talk_all a0 a1 = some r) : FnC Try.prog 58 [aD (.slice (.slice .bool)) a0, aD (.pair (.int .u64) (.int .u64)) a1] [] (aB r) [] := by
  refine fnC_of_W (B := bodyOf Try.f58) (n := 56) Try.func58 (by kernel_rfl) (by kernel_rfl) (by kernel_rfl) (by kernel_rfl) (by kernel_rfl) ?_
  intro K
  refine W_seq (by kernel_rfl) ?_
  refine W_run 2 [] [0, 3] [3] (fr' := [(0, aD (.slice (.slice .bool)) a0), (3, .one (.ptr 3 0))]) (L' := [(3, .one (.pair (.int .u64) (.int .u64)) a1)]) (obs := []) (by kernel_rfl) (by kernel_rfl) (by kernel_rfl) allP0 ?_
  refine seqQ_norm ?_
  refine W_seq (by kernel_rfl) ?_
  refine W_run 2 [] [0, 3, 5, 6] [3] (fr' := [(0, aD (.slice (.slice .bool)) a0), (3, .one (.ptr 3 0)), (5, aB false), (6, aB false)]) (L' := [(3, .one (.pair (.int .u64) (.int .u64)) a1)]) (obs := []) (by kernel_rfl) (by kernel_rfl) (by kernel_rfl) allP0 ?_
  refine seqQ_norm ?_
  refine W_seq (by kernel_rfl) ?_
  refine W_seq (by kernel_rfl) ?_
  refine W_run 3 [] [3, 5, 6, 11, 12, 13] [3] (fr' := [(3, .one (.ptr 3 0)), (5, aB false), (6, aB false), (11, aD (.slice (.slice .bool)) a0), (12, aI (List.length a0 : Int)), (13, aI (0 : Int))]) (L' := [(3, .one (.pair (.int .u64) (.int .u64)) a1)]) (obs := []) (by kernel_rfl) (by kernel_rfl) (by kernel_rfl) allP0 ?_
  refine seqQ_norm ?_
  refine W_block (id := 0) (by kernel_rfl) ?_
  obtain ⟨v388, h389, h⟩ := bind_of h
  refine W_len (t := 11) (u := (.slice .bool)) (xs := a0) (by kernel_rfl) (fun h392 => ?_)
  obtain ⟨h390, h391⟩ := forL_iter h392 h389
  refine W_weaken [3, 5, 6, 11, 12, 13] [3] (fr' := ((talk_all_s76 a0 a1) ((0 : Int), (false, false))).1) (L' := ((talk_all_s76 a0 a1) ((0 : Int), (false, false))).2) (by kernel_rfl) ?_
  refine W_cutK (W_loop (S := (talk_all_s76 a0 a1)) (J := (exQ (.exit 0) talk_all_s77)) (by kernel_rfl) ?_ h390 _ v388 h391) ?_
  · rintro ⟨i248, x249⟩ s h
    refine W_seq (by kernel_rfl) ?_
    refine W_run 1 [] [3, 5, 6, 11, 12, 13, 14] [3] (fr' := [(3, .one (.ptr 3 0)), (5, aB x249.1), (6, aB x249.2), (11, aD (.slice (.slice .bool)) a0), (12, aI (List.length a0 : Int)), (13, aI i248), (14, aB (decide (i248 < (List.length a0 : Int))))]) (L' := [(3, .one (.pair (.int .u64) (.int .u64)) a1)]) (obs := []) (by kernel_rfl) (by kernel_rfl) (by kernel_rfl) allP0 ?_
    refine seqQ_norm ?_
    refine W_seq (by kernel_rfl) ?_
    refine W_cond (o := .tmp 14) (b := decide (i248 < (List.length a0 : Int))) (by kernel_rfl) (by kernel_rfl) (fun h253 => ?_) (fun h253 => ?_)
    · replace h := stepL_true h253 h
      obtain ⟨v251, _, h252, h, rfl⟩ := h
      refine W_skip [3, 5, 6, 11, 12, 13] [3] (fr' := [(3, .one (.ptr 3 0)), (5, aB x249.1), (6, aB x249.2), (11, aD (.slice (.slice .bool)) a0), (12, aI (List.length a0 : Int)), (13, aI i248)]) (L' := [(3, .one (.pair (.int .u64) (.int .u64)) a1)]) (by kernel_rfl) (by kernel_rfl) ?_
      refine seqQ_norm ?_
      refine W_seq (by kernel_rfl) ?_
      refine W_block (id := 1) (by kernel_rfl) ?_
      refine W_seq (by kernel_rfl) ?_
      refine W_run 5 [(3, .val (.dat (.slice .bool) v251))] [3, 5, 6, 7, 8, 11, 12, 13] [3] (fr' := [(3, .one (.ptr 3 0)), (5, aB x249.1), (6, aB x249.2), (7, aI i248), (8, aD (.slice .bool) v251), (11, aD (.slice (.slice .bool)) a0), (12, aI (List.length a0 : Int)), (13, aI i248)]) (L' := [(3, .one (.pair (.int .u64) (.int .u64)) a1)]) (obs := [Idx a0 i248 v251]) (by kernel_rfl) (by kernel_rfl) (by kernel_rfl) (allP1 (Idx.of h252)) ?_
      refine seqQ_norm ?_
      refine W_seq (by kernel_rfl) ?_
      refine W_run 3 [] [3, 5, 6, 7, 11, 12, 13, 18, 19, 20] [3] (fr' := [(3, .one (.ptr 3 0)), (5, aB x249.1), (6, aB x249.2), (7, aI i248), (11, aD (.slice (.slice .bool)) a0), (12, aI (List.length a0 : Int)), (13, aI i248), (18, aD (.slice .bool) v251), (19, aI (List.length v251 : Int)), (20, aI (0 : Int))]) (L' := [(3, .one (.pair (.int .u64) (.int .u64)) a1)]) (obs := []) (by kernel_rfl) (by kernel_rfl) (by kernel_rfl) allP0 ?_
      refine seqQ_norm ?_
      refine W_block (id := 2) (by kernel_rfl) ?_
      obtain ⟨v382, h383, h⟩ := bind_of h
      refine W_len (t := 18) (u := .bool) (xs := v251) (by kernel_rfl) (fun h386 => ?_)
      obtain ⟨h384, h385⟩ := forL_iter h386 h383
      refine W_weaken [3, 5, 6, 7, 11, 12, 13, 18, 19, 20] [3] (fr' := ((talk_all_s73 a0 a1 i248 v251) ((0 : Int), (x249.1, x249.2))).1) (L' := ((talk_all_s73 a0 a1 i248 v251) ((0 : Int), (x249.1, x249.2))).2) (by kernel_rfl) ?_
      refine W_cutK (W_loop (S := (talk_all_s73 a0 a1 i248 v251)) (J := (exQ (.exit 2) (talk_all_s74 a0 a1 i248))) (by kernel_rfl) ?_ h384 _ v382 h385) ?_
      · rintro ⟨i337, x338⟩ s h
        refine W_seq (by kernel_rfl) ?_
        refine W_run 1 [] [3, 5, 6, 7, 11, 12, 13, 18, 19, 20, 21] [3] (fr' := [(3, .one (.ptr 3 0)), (5, aB x338.1), (6, aB x338.2), (7, aI i248), (11, aD (.slice (.slice .bool)) a0), (12, aI (List.length a0 : Int)), (13, aI i248), (18, aD (.slice .bool) v251), (19, aI (List.length v251 : Int)), (20, aI i337), (21, aB (decide (i337 < (List.length v251 : Int))))]) (L' := [(3, .one (.pair (.int .u64) (.int .u64)) a1)]) (obs := []) (by kernel_rfl) (by kernel_rfl) (by kernel_rfl) allP0 ?_
        refine seqQ_norm ?_
        refine W_seq (by kernel_rfl) ?_
        refine W_cond (o := .tmp 21) (b := decide (i337 < (List.length v251 : Int))) (by kernel_rfl) (by kernel_rfl) (fun h342 => ?_) (fun h342 => ?_)
        · replace h := stepL_true h342 h
          obtain ⟨v340, _, h341, h, rfl⟩ := h
          refine W_skip [3, 5, 6, 7, 11, 12, 13, 18, 19, 20] [3] (fr' := [(3, .one (.ptr 3 0)), (5, aB x338.1), (6, aB x338.2), (7, aI i248), (11, aD (.slice (.slice .bool)) a0), (12, aI (List.length a0 : Int)), (13, aI i248), (18, aD (.slice .bool) v251), (19, aI (List.length v251 : Int)), (20, aI i337)]) (L' := [(3, .one (.pair (.int .u64) (.int .u64)) a1)]) (by kernel_rfl) (by kernel_rfl) ?_
          refine seqQ_norm ?_
          refine W_seq (by kernel_rfl) ?_
          obtain ⟨v379, h380, h⟩ := bind_of h
          refine W_cutK (Q' := (exQ .normal (talk_all_s71 a0 a1 i248 v251 i337)) v379) ?_ ?_
          · replace h := h380
            refine W_block (id := 3) (by kernel_rfl) ?_
            refine W_seq (by kernel_rfl) ?_
            refine W_run 5 [(3, .val (.dat .bool v340))] [3, 5, 6, 7, 9, 10, 11, 12, 13, 18, 19, 20] [3] (fr' := [(3, .one (.ptr 3 0)), (5, aB x338.1), (6, aB x338.2), (7, aI i248), (9, aI i337), (10, aB v340), (11, aD (.slice (.slice .bool)) a0), (12, aI (List.length a0 : Int)), (13, aI i248), (18, aD (.slice .bool) v251), (19, aI (List.length v251 : Int)), (20, aI i337)]) (L' := [(3, .one (.pair (.int .u64) (.int .u64)) a1)]) (obs := [Idx v251 i337 v340]) (by kernel_rfl) (by kernel_rfl) (by kernel_rfl) (allP1 (Idx.of h341)) ?_
            refine seqQ_norm ?_
            refine W_seq (by kernel_rfl) ?_
            obtain ⟨v376, h377, h⟩ := bind_of h
            refine W_cutK (Q' := (exQ .normal (talk_all_s70 a0 a1 i248 v251 i337 x338 v340)) v376) ?_ ?_
            · replace h := h377
              obtain ⟨_, h373, h⟩ := bind_of h
              replace h373 := ck_some h373
              refine W_region (by kernel_rfl) ?_
              refine WO_run (j := 7) (k := 7) (orcs := []) (kF := [3, 5, 6, 7, 9, 10, 11, 12, 13, 18, 19, 20, 31]) (kL := [3]) (fr' := [(3, .one (.ptr 3 0)), (5, aB x338.1), (6, aB x338.2), (7, aI i248), (9, aI i337), (10, aB v340), (11, aD (.slice (.slice .bool)) a0), (12, aI (List.length a0 : Int)), (13, aI i248), (18, aD (.slice .bool) v251), (19, aI (List.length v251 : Int)), (20, aI i337), (31, aB ((bAnd .u64 (bShr .u64 a1.1 i248) (1 : Int)) == (1 : Int)))]) (L' := [(3, .one (.pair (.int .u64) (.int .u64)) a1)]) (obs := [(0 ≤ i248)]) rfl (by kernel_rfl) (allP1 h373) ?_
              rcases Bool.eq_false_or_eq_true ((bAnd .u64 (bShr .u64 a1.1 i248) (1 : Int)) == (1 : Int)) with h374 | h374
              · replace h := ofT h374 h
                obtain ⟨_, h375, h⟩ := bind_of h
                replace h375 := ck_some h375
                refine WO_run (j := 14) (k := 7) (orcs := [(14, .known true), (16, .known true), (18, .known true), (20, .known true), (22, .known true), (24, .known true), (27, .val (.dat .bool true))]) (kF := [3, 5, 6, 7, 10, 11, 12, 13, 18, 19, 20, 38]) (kL := [3]) (fr' := [(3, .one (.ptr 3 0)), (5, aB x338.1), (6, aB x338.2), (7, aI i248), (10, aB v340), (11, aD (.slice (.slice .bool)) a0), (12, aI (List.length a0 : Int)), (13, aI i248), (18, aD (.slice .bool) v251), (19, aI (List.length v251 : Int)), (20, aI i337), (38, aB ((bAnd .u64 (bShr .u64 a1.2 i337) (1 : Int)) == (1 : Int)))]) (L' := [(3, .one (.pair (.int .u64) (.int .u64)) a1)]) (obs := [(((bAnd .u64 (bShr .u64 a1.1 i248) (1 : Int)) == (1 : Int)) = true), (((bAnd .u64 (bShr .u64 a1.1 i248) (1 : Int)) == (1 : Int)) = true), (((bAnd .u64 (bShr .u64 a1.1 i248) (1 : Int)) == (1 : Int)) = true), (((bAnd .u64 (bShr .u64 a1.1 i248) (1 : Int)) == (1 : Int)) = true), (0 ≤ i337), (((bAnd .u64 (bShr .u64 a1.1 i248) (1 : Int)) == (1 : Int)) = true), (((bAnd .u64 (bShr .u64 a1.1 i248) (1 : Int)) == (1 : Int)) = true), (((bAnd .u64 (bShr .u64 a1.1 i248) (1 : Int)) == (1 : Int)) = true)]) rfl (by kernel_rfl) (allP2 h374 (allP2 h374 (allP2 h374 (allP2 h374 (allP2 h375 (allP2 h374 (allP2 h374 (allP1 h374)))))))) ?_
                obtain rfl := Option.some.inj h
                refine WO_fin [3, 5, 6, 7, 10, 11, 12, 13, 18, 19, 20, 38] [3] (fr' := [(3, .one (.ptr 3 0)), (5, aB x338.1), (6, aB x338.2), (7, aI i248), (10, aB v340), (11, aD (.slice (.slice .bool)) a0), (12, aI (List.length a0 : Int)), (13, aI i248), (18, aD (.slice .bool) v251), (19, aI (List.length v251 : Int)), (20, aI i337), (38, aB ((bAnd .u64 (bShr .u64 a1.2 i337) (1 : Int)) == (1 : Int)))]) (L' := [(3, .one (.pair (.int .u64) (.int .u64)) a1)]) (by kernel_rfl) (by kernel_rfl) ?_
                exact exQ_mk (by kernel_rfl) (by kernel_rfl)
              · replace h := ofF h374 h
                refine WO_run (j := 14) (k := 7) (orcs := [(14, .known false), (16, .known false), (18, .known false), (20, .known false), (22, .known false), (24, .known false), (27, .val (.dat .bool false))]) (kF := [3, 5, 6, 7, 10, 11, 12, 13, 18, 19, 20, 38]) (kL := [3]) (fr' := [(3, .one (.ptr 3 0)), (5, aB x338.1), (6, aB x338.2), (7, aI i248), (10, aB v340), (11, aD (.slice (.slice .bool)) a0), (12, aI (List.length a0 : Int)), (13, aI i248), (18, aD (.slice .bool) v251), (19, aI (List.length v251 : Int)), (20, aI i337), (38, aB false)]) (L' := [(3, .one (.pair (.int .u64) (.int .u64)) a1)]) (obs := [(((bAnd .u64 (bShr .u64 a1.1 i248) (1 : Int)) == (1 : Int)) = false), (((bAnd .u64 (bShr .u64 a1.1 i248) (1 : Int)) == (1 : Int)) = false), (((bAnd .u64 (bShr .u64 a1.1 i248) (1 : Int)) == (1 : Int)) = false), (((bAnd .u64 (bShr .u64 a1.1 i248) (1 : Int)) == (1 : Int)) = false), (((bAnd .u64 (bShr .u64 a1.1 i248) (1 : Int)) == (1 : Int)) = false), (((bAnd .u64 (bShr .u64 a1.1 i248) (1 : Int)) == (1 : Int)) = false), (((bAnd .u64 (bShr .u64 a1.1 i248) (1 : Int)) == (1 : Int)) = false)]) rfl (by kernel_rfl) (allP2 h374 (allP2 h374 (allP2 h374 (allP2 h374 (allP2 h374 (allP2 h374 (allP1 h374))))))) ?_
                obtain rfl := Option.some.inj h
                refine WO_fin [3, 5, 6, 7, 10, 11, 12, 13, 18, 19, 20, 38] [3] (fr' := [(3, .one (.ptr 3 0)), (5, aB x338.1), (6, aB x338.2), (7, aI i248), (10, aB v340), (11, aD (.slice (.slice .bool)) a0), (12, aI (List.length a0 : Int)), (13, aI i248), (18, aD (.slice .bool) v251), (19, aI (List.length v251 : Int)), (20, aI i337), (38, aB false)]) (L' := [(3, .one (.pair (.int .u64) (.int .u64)) a1)]) (by kernel_rfl) (by kernel_rfl) ?_
                exact exQ_mk (by kernel_rfl) (by kernel_rfl)
            · intro e fr L hJ
              obtain ⟨rfl, rfl, rfl⟩ := hJ
              refine LT_keep [3, 5, 6, 7, 10, 11, 12, 13, 18, 19, 20, 38] [3] (fr' := [(3, .one (.ptr 3 0)), (5, aB x338.1), (6, aB x338.2), (7, aI i248), (10, aB v340), (11, aD (.slice (.slice .bool)) a0), (12, aI (List.length a0 : Int)), (13, aI i248), (18, aD (.slice .bool) v251), (19, aI (List.length v251 : Int)), (20, aI i337), (38, aB v376)]) (L' := [(3, .one (.pair (.int .u64) (.int .u64)) a1)]) (by kernel_rfl) ?_
              refine seqQ_norm ?_
              refine W_cond (o := .tmp 38) (b := v376) (by kernel_rfl) (by kernel_rfl) (fun h378 => ?_) (fun h378 => ?_)
              · replace h := ofT h378 h
                obtain rfl := Option.some.inj h
                refine W_run 11 [] [3, 5, 6, 7, 11, 12, 13, 18, 19, 20] [3] (fr' := [(3, .one (.ptr 3 0)), (5, aB (x338.1 || (!v340))), (6, aB (x338.2 || v340)), (7, aI i248), (11, aD (.slice (.slice .bool)) a0), (12, aI (List.length a0 : Int)), (13, aI i248), (18, aD (.slice .bool) v251), (19, aI (List.length v251 : Int)), (20, aI i337)]) (L' := [(3, .one (.pair (.int .u64) (.int .u64)) a1)]) (obs := []) (by kernel_rfl) (by kernel_rfl) (by kernel_rfl) allP0 ?_
                refine blockQ_norm ?_
                exact exQ_mk (by kernel_rfl) (by kernel_rfl)
              · replace h := ofF h378 h
                obtain rfl := Option.some.inj h
                refine W_skip [3, 5, 6, 7, 11, 12, 13, 18, 19, 20] [3] (fr' := [(3, .one (.ptr 3 0)), (5, aB x338.1), (6, aB x338.2), (7, aI i248), (11, aD (.slice (.slice .bool)) a0), (12, aI (List.length a0 : Int)), (13, aI i248), (18, aD (.slice .bool) v251), (19, aI (List.length v251 : Int)), (20, aI i337)]) (L' := [(3, .one (.pair (.int .u64) (.int .u64)) a1)]) (by kernel_rfl) (by kernel_rfl) ?_
                refine blockQ_norm ?_
                exact exQ_mk (by kernel_rfl) (by kernel_rfl)
          · intro e fr L hJ
            obtain ⟨rfl, rfl, rfl⟩ := hJ
            refine LT_keep [3, 5, 6, 7, 11, 12, 13, 18, 19, 20] [3] (fr' := [(3, .one (.ptr 3 0)), (5, aB v379.1), (6, aB v379.2), (7, aI i248), (11, aD (.slice (.slice .bool)) a0), (12, aI (List.length a0 : Int)), (13, aI i248), (18, aD (.slice .bool) v251), (19, aI (List.length v251 : Int)), (20, aI i337)]) (L' := [(3, .one (.pair (.int .u64) (.int .u64)) a1)]) (by kernel_rfl) ?_
            refine seqQ_norm ?_
            obtain rfl := Option.some.inj h
            refine W_run 2 [] [3, 5, 6, 7, 11, 12, 13, 18, 19, 20] [3] (fr' := [(3, .one (.ptr 3 0)), (5, aB v379.1), (6, aB v379.2), (7, aI i248), (11, aD (.slice (.slice .bool)) a0), (12, aI (List.length a0 : Int)), (13, aI i248), (18, aD (.slice .bool) v251), (19, aI (List.length v251 : Int)), (20, aI (w64 (i337 + (1 : Int))))]) (L' := [(3, .one (.pair (.int .u64) (.int .u64)) a1)]) (obs := []) (by kernel_rfl) (by kernel_rfl) (by kernel_rfl) allP0 ?_
            exact round_next' (by kernel_rfl) (by kernel_rfl)
        · obtain rfl := stepL_false h342 h
          refine W_exit (id := 2) [3, 5, 6, 11, 12, 13] [3] (fr' := [(3, .one (.ptr 3 0)), (5, aB x338.1), (6, aB x338.2), (11, aD (.slice (.slice .bool)) a0), (12, aI (List.length a0 : Int)), (13, aI i248)]) (L' := [(3, .one (.pair (.int .u64) (.int .u64)) a1)]) (by kernel_rfl) (by kernel_rfl) ?_
          refine seqQ_exit ?_
          refine round_exit ?_
          exact exQ_mk (by kernel_rfl) (by kernel_rfl)
      · intro e fr L hJ
        obtain ⟨rfl, rfl, rfl⟩ := hJ
        refine LT_keep [3, 5, 6, 11, 12, 13] [3] (fr' := [(3, .one (.ptr 3 0)), (5, aB v382.1), (6, aB v382.2), (11, aD (.slice (.slice .bool)) a0), (12, aI (List.length a0 : Int)), (13, aI i248)]) (L' := [(3, .one (.pair (.int .u64) (.int .u64)) a1)]) (by kernel_rfl) ?_
        refine blockQ_hit ?_
        refine blockQ_norm ?_
        refine seqQ_norm ?_
        obtain rfl := Option.some.inj h
        refine W_run 2 [] [3, 5, 6, 11, 12, 13] [3] (fr' := [(3, .one (.ptr 3 0)), (5, aB v382.1), (6, aB v382.2), (11, aD (.slice (.slice .bool)) a0), (12, aI (List.length a0 : Int)), (13, aI (w64 (i248 + (1 : Int))))]) (L' := [(3, .one (.pair (.int .u64) (.int .u64)) a1)]) (obs := []) (by kernel_rfl) (by kernel_rfl) (by kernel_rfl) allP0 ?_
        exact round_next' (by kernel_rfl) (by kernel_rfl)
    · obtain rfl := stepL_false h253 h
      refine W_exit (id := 0) [5, 6] [] (fr' := [(5, aB x249.1), (6, aB x249.2)]) (L' := []) (by kernel_rfl) (by kernel_rfl) ?_
      refine seqQ_exit ?_
      refine round_exit ?_
      exact exQ_mk (by kernel_rfl) (by kernel_rfl)
  · intro e fr L hJ
    obtain ⟨rfl, rfl, rfl⟩ := hJ
    refine LT_keep [5, 6] [] (fr' := [(5, aB v388.1), (6, aB v388.2)]) (L' := []) (by kernel_rfl) ?_
    refine blockQ_hit ?_
    refine seqQ_norm ?_
    refine W_seq (by kernel_rfl) ?_
    refine W_run 7 [] [4] [] (fr' := [(4, aB ((!v388.1) || (!v388.2)))]) (L' := []) (obs := []) (by kernel_rfl) (by kernel_rfl) (by kernel_rfl) allP0 ?_
    refine seqQ_norm ?_
    obtain rfl := Option.some.inj h
    refine W_ret [4] [] (fr' := [(4, aB ((!v388.1) || (!v388.2)))]) (L' := []) (by kernel_rfl) (by kernel_rfl) ?_
    exact retQ_mk (by kernel_rfl) (by kernel_rfl) (by kernel_rfl)

def talk_talker_least_b13 (a1 : (Int × Int)) (rf_talk_talker_least : (Int × Int) → (List (List Bool)) → (Option (List ((Int × Int) × Int))) → Option (Int × (List (List Bool)) × (Option (List ((Int × Int) × Int))))) (x127 : (Int × Int × (List (List Bool)) × (Option (List ((Int × Int) × Int))))) : Option (Flow (Int × Int × (List (List Bool)) × (Option (List ((Int × Int) × Int)))) (Int × (List (List Bool)) × (Option (List ((Int × Int) × Int))))) :=
bif decide (x127.2.1 > (0 : Int)) then
((rf_talk_talker_least (x127.2.1, a1.2) x127.2.2.1 x127.2.2.2).bind fun r138 =>
(rf_talk_talker_least (bClr .u64 a1.1 x127.2.1, a1.2) r138.2.1 r138.2.2).bind fun r140 =>
some (.next (imin x127.1 (w64 ((1 : Int) + (imax r138.1 r140.1))), bAnd .u64 (IntKind.wrap .u64 (x127.2.1 - (1 : Int))) a1.1, r140.2.1, r140.2.2)))
else
(some (.done (x127.1, x127.2.2.1, x127.2.2.2)))
@[reducible] def talk_talker_least_s14 (a1 : (Int × Int)) (v : (Int × Int × (List (List Bool)) × (Option (List ((Int × Int) × Int))))) : Fr × LL := ([(0, .one (.ptr 1000 0)), (3, .one (.ptr 3 0)), (7, aI v.1), (8, aD (.int .u64) v.2.1)], [(1000, .cells [.dat (.slice (.slice .bool)) v.2.2.1, .slc 1001]), (3, .one (.pair (.int .u64) (.int .u64)) a1), (1001, .map (.pair (.int .u64) (.int .u64)) tI v.2.2.2)])
@[reducible] def talk_talker_least_s15 (a1 : (Int × Int)) (v : (Int × (List (List Bool)) × (Option (List ((Int × Int) × Int))))) : Fr × LL := ([(0, .one (.ptr 1000 0)), (3, .one (.ptr 3 0)), (7, aI v.1)], [(1000, .cells [.dat (.slice (.slice .bool)) v.2.1, .slc 1001]), (3, .one (.pair (.int .u64) (.int .u64)) a1), (1001, .map (.pair (.int .u64) (.int .u64)) tI v.2.2)])
def talk_talker_least_b16 (a1 : (Int × Int)) (rf_talk_talker_least : (Int × Int) → (List (List Bool)) → (Option (List ((Int × Int) × Int))) → Option (Int × (List (List Bool)) × (Option (List ((Int × Int) × Int))))) (x154 : (Int × Int × (List (List Bool)) × (Option (List ((Int × Int) × Int))))) : Option (Flow (Int × Int × (List (List Bool)) × (Option (List ((Int × Int) × Int)))) (Int × (List (List Bool)) × (Option (List ((Int × Int) × Int))))) :=
bif decide (x154.2.1 > (0 : Int)) then
((rf_talk_talker_least (a1.1, x154.2.1) x154.2.2.1 x154.2.2.2).bind fun r165 =>
(rf_talk_talker_least (a1.1, bClr .u64 a1.2 x154.2.1) r165.2.1 r165.2.2).bind fun r167 =>
some (.next (imin x154.1 (w64 ((1 : Int) + (imax r165.1 r167.1))), bAnd .u64 (IntKind.wrap .u64 (x154.2.1 - (1 : Int))) a1.2, r167.2.1, r167.2.2)))
else
(some (.done (x154.1, x154.2.2.1, x154.2.2.2)))
@[reducible] def talk_talker_least_s17 (a1 : (Int × Int)) (v : (Int × Int × (List (List Bool)) × (Option (List ((Int × Int) × Int))))) : Fr × LL := ([(0, .one (.ptr 1000 0)), (3, .one (.ptr 3 0)), (7, aI v.1), (9, aD (.int .u64) v.2.1)], [(1000, .cells [.dat (.slice (.slice .bool)) v.2.2.1, .slc 1001]), (3, .one (.pair (.int .u64) (.int .u64)) a1), (1001, .map (.pair (.int .u64) (.int .u64)) tI v.2.2.2)])
@[reducible] def talk_talker_least_s18 (a1 : (Int × Int)) (v : (Int × (List (List Bool)) × (Option (List ((Int × Int) × Int))))) : Fr × LL := ([(0, .one (.ptr 1000 0)), (3, .one (.ptr 3 0)), (7, aI v.1)], [(1000, .cells [.dat (.slice (.slice .bool)) v.2.1, .slc 1001]), (3, .one (.pair (.int .u64) (.int .u64)) a1), (1001, .map (.pair (.int .u64) (.int .u64)) tI v.2.2)])
def talk_talker_least_g19 (a1 : (Int × Int)) (c0 : (List (List Bool))) (c1 : (Option (List ((Int × Int) × Int)))) (rf_talk_talker_least : (Int × Int) → (List (List Bool)) → (Option (List ((Int × Int) × Int))) → Option (Int × (List (List Bool)) × (Option (List ((Int × Int) × Int))))) (fuel : Nat) : Option (Int × (List (List Bool)) × (Option (List ((Int × Int) × Int)))) :=
(talk_all c0 a1).bind fun r116 =>
bif !r116 then
((iter (talk_talker_least_b13 a1 rf_talk_talker_least) fuel ((9 : Int), bAnd .u64 (IntKind.wrap .u64 (a1.1 - (1 : Int))) a1.1, c0, c1)).bind fun v142 =>
(iter (talk_talker_least_b16 a1 rf_talk_talker_least) fuel (v142.1, bAnd .u64 (IntKind.wrap .u64 (a1.2 - (1 : Int))) a1.2, v142.2.1, v142.2.2)).bind fun v169 =>
some (v169.1, v169.2.1, v169.2.2))
else
(some ((0 : Int), c0, c1))
@[reducible] def talk_talker_least_s20 (a1 : (Int × Int)) (v : (Int × (List (List Bool)) × (Option (List ((Int × Int) × Int))))) : Fr × LL := ([(0, .one (.ptr 1000 0)), (3, .one (.ptr 3 0)), (7, aI v.1)], [(1000, .cells [.dat (.slice (.slice .bool)) v.2.1, .slc 1001]), (3, .one (.pair (.int .u64) (.int .u64)) a1), (1001, .map (.pair (.int .u64) (.int .u64)) tI v.2.2)])
def talk_talker_least_step (rf_talk_talker_least : (Int × Int) → (List (List Bool)) → (Option (List ((Int × Int) × Int))) → Option (Int × (List (List Bool)) × (Option (List ((Int × Int) × Int))))) (fuel : Nat) (a1 : (Int × Int)) (c0 : (List (List Bool))) (c1 : (Option (List ((Int × Int) × Int)))) : Option (Int × (List (List Bool)) × (Option (List ((Int × Int) × Int)))) :=
bif Option.isSome (mGet (deqT (.pair (.int .u64) (.int .u64))) (Option.getD c1 []) a1) then
(some (Option.getD (mGet (deqT (.pair (.int .u64) (.int .u64))) (Option.getD c1 []) a1) (0 : Int), c0, c1))
else
((talk_talker_least_g19 a1 c0 c1 rf_talk_talker_least fuel).bind fun v173 =>
(ck (Option.isSome v173.2.2 = true)).bind fun _ =>
some (v173.1, v173.2.1, Option.map (fun l => mPut (deqT (.pair (.int .u64) (.int .u64))) l a1 v173.1) v173.2.2))
def talk_talker_least : Nat → (Int × Int) → (List (List Bool)) → (Option (List ((Int × Int) × Int))) → Option (Int × (List (List Bool)) × (Option (List ((Int × Int) × Int))))
  | 0 => fun _ _ _ => none
  | fuel + 1 => fun a1 c0 c1 => talk_talker_least_step (talk_talker_least fuel) fuel a1 c0 c1
theorem talk_talker_least_step_ok {rf_talk_talker_least : (Int × Int) → (List (List Bool)) → (Option (List ((Int × Int) × Int))) → Option (Int × (List (List Bool)) × (Option (List ((Int × Int) × Int))))} (ih_talk_talker_least : ∀ {a1 : (Int × Int)} {c0 : (List (List Bool))} {c1 : (Option (List ((Int × Int) × Int)))} {r : (Int × (List (List Bool)) × (Option (List ((Int × Int) × Int))))}, rf_talk_talker_least a1 c0 c1 = some r → FnC Try.prog 43 [.one (.ptr 1000 0), aD (.pair (.int .u64) (.int .u64)) a1] [(1000, .cells [.dat (.slice (.slice .bool)) c0, .slc 1001]), (1001, .map (.pair (.int .u64) (.int .u64)) tI c1)] (aI r.1) [(1000, .cells [.dat (.slice (.slice .bool)) r.2.1, .slc 1001]), (1001, .map (.pair (.int .u64) (.int .u64)) tI r.2.2)]) {fuel : Nat} {a1 : (Int × Int)} {c0 : (List (List Bool))} {c1 : (Option (List ((Int × Int) × Int)))} {r : (Int × (List (List Bool)) × (Option (List ((Int × Int) × Int))))} (h : talk_talker_least_step rf_talk_talker_least fuel a1 c0 c1 = some r) : FnC Try.prog 43 [.one (.ptr 1000 0), aD (.pair (.int .u64) (.int .u64)) a1] [(1000, .cells [.dat (.slice (.slice .bool)) c0, .slc 1001]), (1001, .map (.pair (.int .u64) (.int .u64)) tI c1)] (aI r.1) [(1000, .cells [.dat (.slice (.slice .bool)) r.2.1, .slc 1001]), (1001, .map (.pair (.int .u64) (.int .u64)) tI r.2.2)] := by
  refine fnC_of_W (B := bodyOf Try.f43) (n := 99) Try.func43 (by kernel_rfl) (by kernel_rfl) (by kernel_rfl) (by kernel_rfl) (by kernel_rfl) ?_
  intro K
  refine W_seq (by kernel_rfl) ?_
  refine W_run 2 [] [0, 3] [1000, 3, 1001] (fr' := [(0, .one (.ptr 1000 0)), (3, .one (.ptr 3 0))]) (L' := [(1000, .cells [.dat (.slice (.slice .bool)) c0, .slc 1001]), (3, .one (.pair (.int .u64) (.int .u64)) a1), (1001, .map (.pair (.int .u64) (.int .u64)) tI c1)]) (obs := []) (by kernel_rfl) (by kernel_rfl) (by kernel_rfl) allP0 ?_
  refine seqQ_norm ?_
  refine W_seq (by kernel_rfl) ?_
  refine W_seq (by kernel_rfl) ?_
  refine W_draw2 10 [] [] [0, 3, 5, 6] [1000, 3, 1001] (fr' := [(0, .one (.ptr 1000 0)), (3, .one (.ptr 3 0)), (5, aI (Option.getD (mGet (deqT (.pair (.int .u64) (.int .u64))) (Option.getD c1 []) a1) (0 : Int))), (6, aB (Option.isSome (mGet (deqT (.pair (.int .u64) (.int .u64))) (Option.getD c1 []) a1)))]) (L' := [(1000, .cells [.dat (.slice (.slice .bool)) c0, .slc 1001]), (3, .one (.pair (.int .u64) (.int .u64)) a1), (1001, .map (.pair (.int .u64) (.int .u64)) tI c1)]) (out := [(11, .one (.ptr 1000 0)), (12, .one (.ptr 1000 0)), (13, .one (.ptr 1000 1)), (14, .one (.slc 1001)), (15, aD (.pair (.int .u64) (.int .u64)) a1), (16, .tup [.dat tI (Option.getD (mGet (deqT (.pair (.int .u64) (.int .u64))) (Option.getD c1 []) a1) (0 : Int)), .dat .bool (Option.isSome (mGet (deqT (.pair (.int .u64) (.int .u64))) (Option.getD c1 []) a1))]), (10, .tup [.dat tI (Option.getD (mGet (deqT (.pair (.int .u64) (.int .u64))) (Option.getD c1 []) a1) (0 : Int)), .dat .bool (Option.isSome (mGet (deqT (.pair (.int .u64) (.int .u64))) (Option.getD c1 []) a1))]), (17, aI (Option.getD (mGet (deqT (.pair (.int .u64) (.int .u64))) (Option.getD c1 []) a1) (0 : Int))), (18, aB (Option.isSome (mGet (deqT (.pair (.int .u64) (.int .u64))) (Option.getD c1 []) a1))), (5, aI (Option.getD (mGet (deqT (.pair (.int .u64) (.int .u64))) (Option.getD c1 []) a1) (0 : Int)))]) (obs := []) (obs2 := []) (calls := []) (by kernel_rfl) (by kernel_rfl) (by kernel_rfl) (by kernel_rfl) allP0 allC0 (by kernel_rfl) allP0 ?_
  refine seqQ_norm ?_
  refine W_seq (by kernel_rfl) ?_
  refine W_run 1 [] [0, 3, 5, 19] [1000, 3, 1001] (fr' := [(0, .one (.ptr 1000 0)), (3, .one (.ptr 3 0)), (5, aI (Option.getD (mGet (deqT (.pair (.int .u64) (.int .u64))) (Option.getD c1 []) a1) (0 : Int))), (19, aB (Option.isSome (mGet (deqT (.pair (.int .u64) (.int .u64))) (Option.getD c1 []) a1)))]) (L' := [(1000, .cells [.dat (.slice (.slice .bool)) c0, .slc 1001]), (3, .one (.pair (.int .u64) (.int .u64)) a1), (1001, .map (.pair (.int .u64) (.int .u64)) tI c1)]) (obs := []) (by kernel_rfl) (by kernel_rfl) (by kernel_rfl) allP0 ?_
  refine seqQ_norm ?_
  refine W_cond (o := .tmp 19) (b := Option.isSome (mGet (deqT (.pair (.int .u64) (.int .u64))) (Option.getD c1 []) a1)) (by kernel_rfl) (by kernel_rfl) (fun h1 => ?_) (fun h1 => ?_)
  · replace h := ofT h1 h
    refine W_seq (by kernel_rfl) ?_
    refine W_run 2 [] [4] [1000, 1001] (fr' := [(4, aI (Option.getD (mGet (deqT (.pair (.int .u64) (.int .u64))) (Option.getD c1 []) a1) (0 : Int)))]) (L' := [(1000, .cells [.dat (.slice (.slice .bool)) c0, .slc 1001]), (1001, .map (.pair (.int .u64) (.int .u64)) tI c1)]) (obs := []) (by kernel_rfl) (by kernel_rfl) (by kernel_rfl) allP0 ?_
    refine seqQ_norm ?_
    obtain rfl := Option.some.inj h
    refine W_ret [4] [1000, 1001] (fr' := [(4, aI (Option.getD (mGet (deqT (.pair (.int .u64) (.int .u64))) (Option.getD c1 []) a1) (0 : Int)))]) (L' := [(1000, .cells [.dat (.slice (.slice .bool)) c0, .slc 1001]), (1001, .map (.pair (.int .u64) (.int .u64)) tI c1)]) (by kernel_rfl) (by kernel_rfl) ?_
    refine seqQ_ret ?_
    exact retQ_mk (by kernel_rfl) (by kernel_rfl) (by kernel_rfl)
  · replace h := ofF h1 h
    refine W_skip [0, 3] [1000, 3, 1001] (fr' := [(0, .one (.ptr 1000 0)), (3, .one (.ptr 3 0))]) (L' := [(1000, .cells [.dat (.slice (.slice .bool)) c0, .slc 1001]), (3, .one (.pair (.int .u64) (.int .u64)) a1), (1001, .map (.pair (.int .u64) (.int .u64)) tI c1)]) (by kernel_rfl) (by kernel_rfl) ?_
    refine seqQ_norm ?_
    refine W_seq (by kernel_rfl) ?_
    refine W_run 1 [] [0, 3, 7] [1000, 3, 1001] (fr' := [(0, .one (.ptr 1000 0)), (3, .one (.ptr 3 0)), (7, aI (0 : Int))]) (L' := [(1000, .cells [.dat (.slice (.slice .bool)) c0, .slc 1001]), (3, .one (.pair (.int .u64) (.int .u64)) a1), (1001, .map (.pair (.int .u64) (.int .u64)) tI c1)]) (obs := []) (by kernel_rfl) (by kernel_rfl) (by kernel_rfl) allP0 ?_
    refine seqQ_norm ?_
    refine W_seq (by kernel_rfl) ?_
    obtain ⟨v173, h174, h⟩ := bind_of h
    refine W_cutK (Q' := (exQ .normal (talk_talker_least_s20 a1)) v173) ?_ ?_
    · replace h := h174
      refine W_seq (by kernel_rfl) ?_
      obtain ⟨r116, h117, h⟩ := bind_of h
      refine W_draw2 7 [] [(5, [none, none], aB r116)] [0, 3, 7, 27] [1000, 3, 1001] (fr' := [(0, .one (.ptr 1000 0)), (3, .one (.ptr 3 0)), (7, aI (0 : Int)), (27, aB (!r116))]) (L' := [(1000, .cells [.dat (.slice (.slice .bool)) c0, .slc 1001]), (3, .one (.pair (.int .u64) (.int .u64)) a1), (1001, .map (.pair (.int .u64) (.int .u64)) tI c1)]) (out := [(21, .one (.ptr 1000 0)), (22, .one (.ptr 1000 0)), (23, .one (.ptr 1000 0)), (24, aD (.slice (.slice .bool)) c0), (25, aD (.pair (.int .u64) (.int .u64)) a1), (26, aB r116), (27, aB (!r116))]) (obs := [True]) (obs2 := []) (calls := [(58, [aD (.slice (.slice .bool)) c0, aD (.pair (.int .u64) (.int .u64)) a1], aB r116)]) (by kernel_rfl) (by kernel_rfl) (by kernel_rfl) (by kernel_rfl) (allP1 trivial) (allC1 (by kernel_rfl) (talk_all_ok h117) (by kernel_rfl) allC0) (by kernel_rfl) allP0 ?_
      refine seqQ_norm ?_
      refine W_cond (o := .tmp 27) (b := !r116) (by kernel_rfl) (by kernel_rfl) (fun h118 => ?_) (fun h118 => ?_)
      · replace h := ofT h118 h
        refine W_seq (by kernel_rfl) ?_
        refine W_run 1 [] [0, 3, 7] [1000, 3, 1001] (fr' := [(0, .one (.ptr 1000 0)), (3, .one (.ptr 3 0)), (7, aI (9 : Int))]) (L' := [(1000, .cells [.dat (.slice (.slice .bool)) c0, .slc 1001]), (3, .one (.pair (.int .u64) (.int .u64)) a1), (1001, .map (.pair (.int .u64) (.int .u64)) tI c1)]) (obs := []) (by kernel_rfl) (by kernel_rfl) (by kernel_rfl) allP0 ?_
        refine seqQ_norm ?_
        refine W_seq (by kernel_rfl) ?_
        refine W_seq (by kernel_rfl) ?_
        refine W_run 7 [] [0, 3, 7, 8] [1000, 3, 1001] (fr' := [(0, .one (.ptr 1000 0)), (3, .one (.ptr 3 0)), (7, aI (9 : Int)), (8, aD (.int .u64) (bAnd .u64 (IntKind.wrap .u64 (a1.1 - (1 : Int))) a1.1))]) (L' := [(1000, .cells [.dat (.slice (.slice .bool)) c0, .slc 1001]), (3, .one (.pair (.int .u64) (.int .u64)) a1), (1001, .map (.pair (.int .u64) (.int .u64)) tI c1)]) (obs := []) (by kernel_rfl) (by kernel_rfl) (by kernel_rfl) allP0 ?_
        refine seqQ_norm ?_
        refine W_block (id := 0) (by kernel_rfl) ?_
        obtain ⟨v142, h143, h⟩ := bind_of h
        refine W_weaken [0, 3, 7, 8] [1000, 3, 1001] (fr' := ((talk_talker_least_s14 a1) ((9 : Int), bAnd .u64 (IntKind.wrap .u64 (a1.1 - (1 : Int))) a1.1, c0, c1)).1) (L' := ((talk_talker_least_s14 a1) ((9 : Int), bAnd .u64 (IntKind.wrap .u64 (a1.1 - (1 : Int))) a1.1, c0, c1)).2) (by kernel_rfl) ?_
        refine W_cutK (W_loop (S := (talk_talker_least_s14 a1)) (J := (exQ (.exit 0) (talk_talker_least_s15 a1))) (by kernel_rfl) ?_ fuel _ v142 h143) ?_
        · rintro x127 s h
          refine W_seq (by kernel_rfl) ?_
          refine W_seq (by kernel_rfl) ?_
          refine W_run 2 [] [0, 3, 7, 8, 35] [1000, 3, 1001] (fr' := [(0, .one (.ptr 1000 0)), (3, .one (.ptr 3 0)), (7, aI x127.1), (8, aD (.int .u64) x127.2.1), (35, aB (decide (x127.2.1 > (0 : Int))))]) (L' := [(1000, .cells [.dat (.slice (.slice .bool)) x127.2.2.1, .slc 1001]), (3, .one (.pair (.int .u64) (.int .u64)) a1), (1001, .map (.pair (.int .u64) (.int .u64)) tI x127.2.2.2)]) (obs := []) (by kernel_rfl) (by kernel_rfl) (by kernel_rfl) allP0 ?_
          refine seqQ_norm ?_
          refine W_cond (o := .tmp 35) (b := decide (x127.2.1 > (0 : Int))) (by kernel_rfl) (by kernel_rfl) (fun h135 => ?_) (fun h135 => ?_)
          · replace h := ofT h135 h
            refine W_skip [0, 3, 7, 8] [1000, 3, 1001] (fr' := [(0, .one (.ptr 1000 0)), (3, .one (.ptr 3 0)), (7, aI x127.1), (8, aD (.int .u64) x127.2.1)]) (L' := [(1000, .cells [.dat (.slice (.slice .bool)) x127.2.2.1, .slc 1001]), (3, .one (.pair (.int .u64) (.int .u64)) a1), (1001, .map (.pair (.int .u64) (.int .u64)) tI x127.2.2.2)]) (by kernel_rfl) (by kernel_rfl) ?_
            refine seqQ_norm ?_
            refine W_seq (by kernel_rfl) ?_
            refine W_block (id := 1) (by kernel_rfl) ?_
            obtain ⟨r138, h139, h⟩ := bind_of h
            obtain ⟨r140, h141, h⟩ := bind_of h
            refine W_drawC5 18 [(6, [], [(1000, .cells [.dat (.slice (.slice .bool)) r138.2.1, .slc 1001]), (1001, .map (.pair (.int .u64) (.int .u64)) tI r138.2.2)]), (15, [], [(1000, .cells [.dat (.slice (.slice .bool)) r140.2.1, .slc 1001]), (1001, .map (.pair (.int .u64) (.int .u64)) tI r140.2.2)])] [] [(6, aI r138.1), (15, aI r140.1)] [] [] [0, 3, 7, 8, 41, 58] [3, 1000, 1001] (out := [(41, aI x127.1), (42, .one (.ptr 1000 0)), (43, aD (.int .u64) x127.2.1), (44, .one (.ptr 3 1)), (45, aD (.int .u64) a1.2), (46, aD (.pair (.int .u64) (.int .u64)) (x127.2.1, a1.2)), (47, aI r138.1), (48, .one (.ptr 1000 0)), (49, .one (.ptr 3 0)), (50, aD (.int .u64) a1.1), (51, aD (.int .u64) x127.2.1), (52, aD (.int .u64) (bClr .u64 a1.1 x127.2.1)), (53, .one (.ptr 3 1)), (54, aD (.int .u64) a1.2), (55, aD (.pair (.int .u64) (.int .u64)) (bClr .u64 a1.1 x127.2.1, a1.2)), (56, aI r140.1), (57, aI (imax r138.1 r140.1)), (58, aI (w64 ((1 : Int) + (imax r138.1 r140.1))))]) (obs := []) (calls := []) (fr' := [(0, .one (.ptr 1000 0)), (3, .one (.ptr 3 0)), (7, aI x127.1), (8, aD (.int .u64) x127.2.1), (41, aI x127.1), (58, aI (w64 ((1 : Int) + (imax r138.1 r140.1))))]) (L' := [(3, .one (.pair (.int .u64) (.int .u64)) a1), (1000, .cells [.dat (.slice (.slice .bool)) r140.2.1, .slc 1001]), (1001, .map (.pair (.int .u64) (.int .u64)) tI r140.2.2)]) (by kernel_rfl) (by kernel_rfl) (by kernel_rfl) (by kernel_rfl) (by kernel_rfl) allP0 allD0 (chLend (us := [none, none]) (d := 47) (p := True) [(1000, 1000), (1001, 1001)] ⟨by kernel_rfl, by kernel_rfl, by kernel_rfl⟩ trivial (ih_talk_talker_least h139) (by kernel_rfl) (by kernel_rfl) (by kernel_rfl) (by kernel_rfl) (chLend (us := [none, none]) (d := 56) (p := True) [(1000, 1000), (1001, 1001)] ⟨by kernel_rfl, by kernel_rfl, by kernel_rfl⟩ trivial (ih_talk_talker_least h141) (by kernel_rfl) (by kernel_rfl) (by kernel_rfl) (by kernel_rfl) chNil)) mkNil (by kernel_rfl) ?_
            refine WO_run (j := 20) (k := 2) (orcs := []) (kF := [0, 3, 7, 8]) (kL := [3, 1000, 1001]) (fr' := [(0, .one (.ptr 1000 0)), (3, .one (.ptr 3 0)), (7, aI (imin x127.1 (w64 ((1 : Int) + (imax r138.1 r140.1))))), (8, aD (.int .u64) x127.2.1)]) (L' := [(3, .one (.pair (.int .u64) (.int .u64)) a1), (1000, .cells [.dat (.slice (.slice .bool)) r140.2.1, .slc 1001]), (1001, .map (.pair (.int .u64) (.int .u64)) tI r140.2.2)]) (obs := []) rfl (by kernel_rfl) allP0 ?_
            refine WO_fin [0, 3, 7, 8] [1000, 3, 1001] (fr' := [(0, .one (.ptr 1000 0)), (3, .one (.ptr 3 0)), (7, aI (imin x127.1 (w64 ((1 : Int) + (imax r138.1 r140.1))))), (8, aD (.int .u64) x127.2.1)]) (L' := [(1000, .cells [.dat (.slice (.slice .bool)) r140.2.1, .slc 1001]), (3, .one (.pair (.int .u64) (.int .u64)) a1), (1001, .map (.pair (.int .u64) (.int .u64)) tI r140.2.2)]) (by kernel_rfl) (by kernel_rfl) ?_
            refine ⟨rfl, ?_⟩
            refine blockQ_norm ?_
            refine seqQ_norm ?_
            obtain rfl := Option.some.inj h
            refine W_run 6 [] [0, 3, 7, 8] [1000, 3, 1001] (fr' := [(0, .one (.ptr 1000 0)), (3, .one (.ptr 3 0)), (7, aI (imin x127.1 (w64 ((1 : Int) + (imax r138.1 r140.1))))), (8, aD (.int .u64) (bAnd .u64 (IntKind.wrap .u64 (x127.2.1 - (1 : Int))) a1.1))]) (L' := [(1000, .cells [.dat (.slice (.slice .bool)) r140.2.1, .slc 1001]), (3, .one (.pair (.int .u64) (.int .u64)) a1), (1001, .map (.pair (.int .u64) (.int .u64)) tI r140.2.2)]) (obs := []) (by kernel_rfl) (by kernel_rfl) (by kernel_rfl) allP0 ?_
            exact round_next' (by kernel_rfl) (by kernel_rfl)
          · replace h := ofF h135 h
            obtain rfl := Option.some.inj h
            refine W_exit (id := 0) [0, 3, 7] [1000, 3, 1001] (fr' := [(0, .one (.ptr 1000 0)), (3, .one (.ptr 3 0)), (7, aI x127.1)]) (L' := [(1000, .cells [.dat (.slice (.slice .bool)) x127.2.2.1, .slc 1001]), (3, .one (.pair (.int .u64) (.int .u64)) a1), (1001, .map (.pair (.int .u64) (.int .u64)) tI x127.2.2.2)]) (by kernel_rfl) (by kernel_rfl) ?_
            refine seqQ_exit ?_
            refine round_exit ?_
            exact exQ_mk (by kernel_rfl) (by kernel_rfl)
        · intro e fr L hJ
          obtain ⟨rfl, rfl, rfl⟩ := hJ
          refine LT_keep [0, 3, 7] [1000, 3, 1001] (fr' := [(0, .one (.ptr 1000 0)), (3, .one (.ptr 3 0)), (7, aI v142.1)]) (L' := [(1000, .cells [.dat (.slice (.slice .bool)) v142.2.1, .slc 1001]), (3, .one (.pair (.int .u64) (.int .u64)) a1), (1001, .map (.pair (.int .u64) (.int .u64)) tI v142.2.2)]) (by kernel_rfl) ?_
          refine blockQ_hit ?_
          refine seqQ_norm ?_
          refine W_seq (by kernel_rfl) ?_
          refine W_run 7 [] [0, 3, 7, 9] [1000, 3, 1001] (fr' := [(0, .one (.ptr 1000 0)), (3, .one (.ptr 3 0)), (7, aI v142.1), (9, aD (.int .u64) (bAnd .u64 (IntKind.wrap .u64 (a1.2 - (1 : Int))) a1.2))]) (L' := [(1000, .cells [.dat (.slice (.slice .bool)) v142.2.1, .slc 1001]), (3, .one (.pair (.int .u64) (.int .u64)) a1), (1001, .map (.pair (.int .u64) (.int .u64)) tI v142.2.2)]) (obs := []) (by kernel_rfl) (by kernel_rfl) (by kernel_rfl) allP0 ?_
          refine seqQ_norm ?_
          refine W_block (id := 2) (by kernel_rfl) ?_
          obtain ⟨v169, h170, h⟩ := bind_of h
          refine W_weaken [0, 3, 7, 9] [1000, 3, 1001] (fr' := ((talk_talker_least_s17 a1) (v142.1, bAnd .u64 (IntKind.wrap .u64 (a1.2 - (1 : Int))) a1.2, v142.2.1, v142.2.2)).1) (L' := ((talk_talker_least_s17 a1) (v142.1, bAnd .u64 (IntKind.wrap .u64 (a1.2 - (1 : Int))) a1.2, v142.2.1, v142.2.2)).2) (by kernel_rfl) ?_
          refine W_cutK (W_loop (S := (talk_talker_least_s17 a1)) (J := (exQ (.exit 2) (talk_talker_least_s18 a1))) (by kernel_rfl) ?_ fuel _ v169 h170) ?_
          · rintro x154 s h
            refine W_seq (by kernel_rfl) ?_
            refine W_seq (by kernel_rfl) ?_
            refine W_run 2 [] [0, 3, 7, 9, 67] [1000, 3, 1001] (fr' := [(0, .one (.ptr 1000 0)), (3, .one (.ptr 3 0)), (7, aI x154.1), (9, aD (.int .u64) x154.2.1), (67, aB (decide (x154.2.1 > (0 : Int))))]) (L' := [(1000, .cells [.dat (.slice (.slice .bool)) x154.2.2.1, .slc 1001]), (3, .one (.pair (.int .u64) (.int .u64)) a1), (1001, .map (.pair (.int .u64) (.int .u64)) tI x154.2.2.2)]) (obs := []) (by kernel_rfl) (by kernel_rfl) (by kernel_rfl) allP0 ?_
            refine seqQ_norm ?_
            refine W_cond (o := .tmp 67) (b := decide (x154.2.1 > (0 : Int))) (by kernel_rfl) (by kernel_rfl) (fun h162 => ?_) (fun h162 => ?_)
            · replace h := ofT h162 h
              refine W_skip [0, 3, 7, 9] [1000, 3, 1001] (fr' := [(0, .one (.ptr 1000 0)), (3, .one (.ptr 3 0)), (7, aI x154.1), (9, aD (.int .u64) x154.2.1)]) (L' := [(1000, .cells [.dat (.slice (.slice .bool)) x154.2.2.1, .slc 1001]), (3, .one (.pair (.int .u64) (.int .u64)) a1), (1001, .map (.pair (.int .u64) (.int .u64)) tI x154.2.2.2)]) (by kernel_rfl) (by kernel_rfl) ?_
              refine seqQ_norm ?_
              refine W_seq (by kernel_rfl) ?_
              refine W_block (id := 3) (by kernel_rfl) ?_
              obtain ⟨r165, h166, h⟩ := bind_of h
              obtain ⟨r167, h168, h⟩ := bind_of h
              refine W_drawC5 18 [(6, [], [(1000, .cells [.dat (.slice (.slice .bool)) r165.2.1, .slc 1001]), (1001, .map (.pair (.int .u64) (.int .u64)) tI r165.2.2)]), (15, [], [(1000, .cells [.dat (.slice (.slice .bool)) r167.2.1, .slc 1001]), (1001, .map (.pair (.int .u64) (.int .u64)) tI r167.2.2)])] [] [(6, aI r165.1), (15, aI r167.1)] [] [] [0, 3, 7, 9, 73, 90] [3, 1000, 1001] (out := [(73, aI x154.1), (74, .one (.ptr 1000 0)), (75, .one (.ptr 3 0)), (76, aD (.int .u64) a1.1), (77, aD (.int .u64) x154.2.1), (78, aD (.pair (.int .u64) (.int .u64)) (a1.1, x154.2.1)), (79, aI r165.1), (80, .one (.ptr 1000 0)), (81, .one (.ptr 3 0)), (82, aD (.int .u64) a1.1), (83, .one (.ptr 3 1)), (84, aD (.int .u64) a1.2), (85, aD (.int .u64) x154.2.1), (86, aD (.int .u64) (bClr .u64 a1.2 x154.2.1)), (87, aD (.pair (.int .u64) (.int .u64)) (a1.1, bClr .u64 a1.2 x154.2.1)), (88, aI r167.1), (89, aI (imax r165.1 r167.1)), (90, aI (w64 ((1 : Int) + (imax r165.1 r167.1))))]) (obs := []) (calls := []) (fr' := [(0, .one (.ptr 1000 0)), (3, .one (.ptr 3 0)), (7, aI x154.1), (9, aD (.int .u64) x154.2.1), (73, aI x154.1), (90, aI (w64 ((1 : Int) + (imax r165.1 r167.1))))]) (L' := [(3, .one (.pair (.int .u64) (.int .u64)) a1), (1000, .cells [.dat (.slice (.slice .bool)) r167.2.1, .slc 1001]), (1001, .map (.pair (.int .u64) (.int .u64)) tI r167.2.2)]) (by kernel_rfl) (by kernel_rfl) (by kernel_rfl) (by kernel_rfl) (by kernel_rfl) allP0 allD0 (chLend (us := [none, none]) (d := 79) (p := True) [(1000, 1000), (1001, 1001)] ⟨by kernel_rfl, by kernel_rfl, by kernel_rfl⟩ trivial (ih_talk_talker_least h166) (by kernel_rfl) (by kernel_rfl) (by kernel_rfl) (by kernel_rfl) (chLend (us := [none, none]) (d := 88) (p := True) [(1000, 1000), (1001, 1001)] ⟨by kernel_rfl, by kernel_rfl, by kernel_rfl⟩ trivial (ih_talk_talker_least h168) (by kernel_rfl) (by kernel_rfl) (by kernel_rfl) (by kernel_rfl) chNil)) mkNil (by kernel_rfl) ?_
              refine WO_run (j := 20) (k := 2) (orcs := []) (kF := [0, 3, 7, 9]) (kL := [3, 1000, 1001]) (fr' := [(0, .one (.ptr 1000 0)), (3, .one (.ptr 3 0)), (7, aI (imin x154.1 (w64 ((1 : Int) + (imax r165.1 r167.1))))), (9, aD (.int .u64) x154.2.1)]) (L' := [(3, .one (.pair (.int .u64) (.int .u64)) a1), (1000, .cells [.dat (.slice (.slice .bool)) r167.2.1, .slc 1001]), (1001, .map (.pair (.int .u64) (.int .u64)) tI r167.2.2)]) (obs := []) rfl (by kernel_rfl) allP0 ?_
              refine WO_fin [0, 3, 7, 9] [1000, 3, 1001] (fr' := [(0, .one (.ptr 1000 0)), (3, .one (.ptr 3 0)), (7, aI (imin x154.1 (w64 ((1 : Int) + (imax r165.1 r167.1))))), (9, aD (.int .u64) x154.2.1)]) (L' := [(1000, .cells [.dat (.slice (.slice .bool)) r167.2.1, .slc 1001]), (3, .one (.pair (.int .u64) (.int .u64)) a1), (1001, .map (.pair (.int .u64) (.int .u64)) tI r167.2.2)]) (by kernel_rfl) (by kernel_rfl) ?_
              refine ⟨rfl, ?_⟩
              refine blockQ_norm ?_
              refine seqQ_norm ?_
              obtain rfl := Option.some.inj h
              refine W_run 6 [] [0, 3, 7, 9] [1000, 3, 1001] (fr' := [(0, .one (.ptr 1000 0)), (3, .one (.ptr 3 0)), (7, aI (imin x154.1 (w64 ((1 : Int) + (imax r165.1 r167.1))))), (9, aD (.int .u64) (bAnd .u64 (IntKind.wrap .u64 (x154.2.1 - (1 : Int))) a1.2))]) (L' := [(1000, .cells [.dat (.slice (.slice .bool)) r167.2.1, .slc 1001]), (3, .one (.pair (.int .u64) (.int .u64)) a1), (1001, .map (.pair (.int .u64) (.int .u64)) tI r167.2.2)]) (obs := []) (by kernel_rfl) (by kernel_rfl) (by kernel_rfl) allP0 ?_
              exact round_next' (by kernel_rfl) (by kernel_rfl)
            · replace h := ofF h162 h
              obtain rfl := Option.some.inj h
              refine W_exit (id := 2) [0, 3, 7] [1000, 3, 1001] (fr' := [(0, .one (.ptr 1000 0)), (3, .one (.ptr 3 0)), (7, aI x154.1)]) (L' := [(1000, .cells [.dat (.slice (.slice .bool)) x154.2.2.1, .slc 1001]), (3, .one (.pair (.int .u64) (.int .u64)) a1), (1001, .map (.pair (.int .u64) (.int .u64)) tI x154.2.2.2)]) (by kernel_rfl) (by kernel_rfl) ?_
              refine seqQ_exit ?_
              refine round_exit ?_
              exact exQ_mk (by kernel_rfl) (by kernel_rfl)
          · intro e fr L hJ
            obtain ⟨rfl, rfl, rfl⟩ := hJ
            obtain rfl := Option.some.inj h
            refine LT_keep [0, 3, 7] [1000, 3, 1001] (fr' := [(0, .one (.ptr 1000 0)), (3, .one (.ptr 3 0)), (7, aI v169.1)]) (L' := [(1000, .cells [.dat (.slice (.slice .bool)) v169.2.1, .slc 1001]), (3, .one (.pair (.int .u64) (.int .u64)) a1), (1001, .map (.pair (.int .u64) (.int .u64)) tI v169.2.2)]) (by kernel_rfl) ?_
            refine blockQ_hit ?_
            exact exQ_mk (by kernel_rfl) (by kernel_rfl)
      · replace h := ofF h118 h
        obtain rfl := Option.some.inj h
        refine W_skip [0, 3, 7] [1000, 3, 1001] (fr' := [(0, .one (.ptr 1000 0)), (3, .one (.ptr 3 0)), (7, aI (0 : Int))]) (L' := [(1000, .cells [.dat (.slice (.slice .bool)) c0, .slc 1001]), (3, .one (.pair (.int .u64) (.int .u64)) a1), (1001, .map (.pair (.int .u64) (.int .u64)) tI c1)]) (by kernel_rfl) (by kernel_rfl) ?_
        exact exQ_mk (by kernel_rfl) (by kernel_rfl)
    · intro e fr L hJ
      obtain ⟨rfl, rfl, rfl⟩ := hJ
      refine LT_keep [0, 3, 7] [1000, 3, 1001] (fr' := [(0, .one (.ptr 1000 0)), (3, .one (.ptr 3 0)), (7, aI v173.1)]) (L' := [(1000, .cells [.dat (.slice (.slice .bool)) v173.2.1, .slc 1001]), (3, .one (.pair (.int .u64) (.int .u64)) a1), (1001, .map (.pair (.int .u64) (.int .u64)) tI v173.2.2)]) (by kernel_rfl) ?_
      refine seqQ_norm ?_
      refine W_seq (by kernel_rfl) ?_
      obtain ⟨_, h175, h⟩ := bind_of h
      replace h175 := ck_some h175
      refine W_draw2 6 [] [] [7] [1000, 1001] (fr' := [(7, aI v173.1)]) (L' := [(1000, .cells [.dat (.slice (.slice .bool)) v173.2.1, .slc 1001]), (1001, .map (.pair (.int .u64) (.int .u64)) tI (Option.map (fun l => mPut (deqT (.pair (.int .u64) (.int .u64))) l a1 v173.1) v173.2.2))]) (out := [(92, .one (.ptr 1000 0)), (93, .one (.ptr 1000 0)), (94, .one (.ptr 1000 1)), (95, .one (.slc 1001)), (96, aD (.pair (.int .u64) (.int .u64)) a1), (97, aI v173.1)]) (obs := []) (obs2 := [Option.isSome v173.2.2 = true]) (calls := []) (by kernel_rfl) (by kernel_rfl) (by kernel_rfl) (by kernel_rfl) allP0 allC0 (by kernel_rfl) (allP1 h175) ?_
      refine seqQ_norm ?_
      refine W_seq (by kernel_rfl) ?_
      refine W_run 2 [] [4] [1000, 1001] (fr' := [(4, aI v173.1)]) (L' := [(1000, .cells [.dat (.slice (.slice .bool)) v173.2.1, .slc 1001]), (1001, .map (.pair (.int .u64) (.int .u64)) tI (Option.map (fun l => mPut (deqT (.pair (.int .u64) (.int .u64))) l a1 v173.1) v173.2.2))]) (obs := []) (by kernel_rfl) (by kernel_rfl) (by kernel_rfl) allP0 ?_
      refine seqQ_norm ?_
      obtain rfl := Option.some.inj h
      refine W_ret [4] [1000, 1001] (fr' := [(4, aI v173.1)]) (L' := [(1000, .cells [.dat (.slice (.slice .bool)) v173.2.1, .slc 1001]), (1001, .map (.pair (.int .u64) (.int .u64)) tI (Option.map (fun l => mPut (deqT (.pair (.int .u64) (.int .u64))) l a1 v173.1) v173.2.2))]) (by kernel_rfl) (by kernel_rfl) ?_
      exact retQ_mk (by kernel_rfl) (by kernel_rfl) (by kernel_rfl)
theorem talk_talker_least_ok : ∀ {fuel : Nat} {a1 : (Int × Int)} {c0 : (List (List Bool))} {c1 : (Option (List ((Int × Int) × Int)))} {r : (Int × (List (List Bool)) × (Option (List ((Int × Int) × Int))))}, talk_talker_least fuel a1 c0 c1 = some r → FnC Try.prog 43 [.one (.ptr 1000 0), aD (.pair (.int .u64) (.int .u64)) a1] [(1000, .cells [.dat (.slice (.slice .bool)) c0, .slc 1001]), (1001, .map (.pair (.int .u64) (.int .u64)) tI c1)] (aI r.1) [(1000, .cells [.dat (.slice (.slice .bool)) r.2.1, .slc 1001]), (1001, .map (.pair (.int .u64) (.int .u64)) tI r.2.2)] := by
  intro fuel
  induction fuel with
  | zero => intros a1 c0 c1 r h; cases h
  | succ fuel ih => intros a1 c0 c1 r h; exact talk_talker_least_step_ok (fun h => ih h) (show talk_talker_least_step (talk_talker_least fuel) fuel a1 c0 c1 = some r from h)

def talk_Least (fuel : Nat) (a0 : (List (List Bool))) : Option (Int × Int) :=
(talk_wrong a0).bind fun r1 =>
bif r1 != (0 : Int) then
(some ((0 : Int), r1))
else
((talk_whole a0).bind fun r4 =>
(talk_talker_least fuel r4 a0 (some [] : Option (List ((Int × Int) × Int)))).bind fun r6 =>
some (r6.1, (0 : Int)))
theorem talk_Least_ok {fuel : Nat} {a0 : (List (List Bool))} {r : (Int × Int)} (h : talk_Least fuel a0 = some r) : FnC Try.prog 17 [aD (.slice (.slice .bool)) a0] [] (.tup [.dat tI r.1, .dat tI r.2]) [] := by
  refine fnC_of_W (B := bodyOf Try.f17) (n := 19) Try.func17 (by kernel_rfl) (by kernel_rfl) (by kernel_rfl) (by kernel_rfl) (by kernel_rfl) ?_
  intro K
  refine W_seq (by kernel_rfl) ?_
  refine W_run 2 [] [0] [] (fr' := [(0, aD (.slice (.slice .bool)) a0)]) (L' := []) (obs := []) (by kernel_rfl) (by kernel_rfl) (by kernel_rfl) allP0 ?_
  refine seqQ_norm ?_
  refine W_seq (by kernel_rfl) ?_
  refine W_seq (by kernel_rfl) ?_
  refine W_region (by kernel_rfl) ?_
  refine WO_run (j := 1) (k := 1) (orcs := []) (kF := [0, 6]) (kL := []) (fr' := [(0, aD (.slice (.slice .bool)) a0), (6, aD (.slice (.slice .bool)) a0)]) (L' := []) (obs := []) rfl (by kernel_rfl) allP0 ?_
  obtain ⟨r1, h2, h⟩ := bind_of h
  refine WO_call0 (us := [none]) (d := 7) (p := True) (j := 2) rfl ⟨by kernel_rfl, by kernel_rfl, by kernel_rfl⟩ trivial (talk_wrong_ok h2) (by kernel_rfl) ?_
  refine WO_run (j := 3) (k := 1) (orcs := []) (kF := [0, 4]) (kL := []) (fr' := [(0, aD (.slice (.slice .bool)) a0), (4, aI r1)]) (L' := []) (obs := []) rfl (by kernel_rfl) allP0 ?_
  refine WO_fin [0, 4] [] (fr' := [(0, aD (.slice (.slice .bool)) a0), (4, aI r1)]) (L' := []) (by kernel_rfl) (by kernel_rfl) ?_
  refine seqQ_norm ?_
  refine W_seq (by kernel_rfl) ?_
  refine W_run 2 [] [0, 4, 9] [] (fr' := [(0, aD (.slice (.slice .bool)) a0), (4, aI r1), (9, aB (r1 != (0 : Int)))]) (L' := []) (obs := []) (by kernel_rfl) (by kernel_rfl) (by kernel_rfl) allP0 ?_
  refine seqQ_norm ?_
  refine W_cond (o := .tmp 9) (b := r1 != (0 : Int)) (by kernel_rfl) (by kernel_rfl) (fun h3 => ?_) (fun h3 => ?_)
  · replace h := ofT h3 h
    refine W_seq (by kernel_rfl) ?_
    refine W_run 3 [] [2, 3] [] (fr' := [(2, aI (0 : Int)), (3, aI r1)]) (L' := []) (obs := []) (by kernel_rfl) (by kernel_rfl) (by kernel_rfl) allP0 ?_
    refine seqQ_norm ?_
    obtain rfl := Option.some.inj h
    refine W_ret [2, 3] [] (fr' := [(2, aI (0 : Int)), (3, aI r1)]) (L' := []) (by kernel_rfl) (by kernel_rfl) ?_
    refine seqQ_ret ?_
    exact retQ_mk (by kernel_rfl) (by kernel_rfl) (by kernel_rfl)
  · replace h := ofF h3 h
    refine W_skip [0] [] (fr' := [(0, aD (.slice (.slice .bool)) a0)]) (L' := []) (by kernel_rfl) (by kernel_rfl) ?_
    refine seqQ_norm ?_
    refine W_seq (by kernel_rfl) ?_
    refine W_run 5 [] [0, 5] [14, 12] (fr' := [(0, aD (.slice (.slice .bool)) a0), (5, .one (.ptr 14 0))]) (L' := [(14, .cells [.dat (.slice (.slice .bool)) a0, .slc 12]), (12, .map (.pair (.int .u64) (.int .u64)) tI (some [] : Option (List ((Int × Int) × Int))))]) (obs := []) (by kernel_rfl) (by kernel_rfl) (by kernel_rfl) allP0 ?_
    refine seqQ_norm ?_
    refine W_seq (by kernel_rfl) ?_
    refine W_region (by kernel_rfl) ?_
    refine WO_run (j := 2) (k := 2) (orcs := []) (kF := [15, 16]) (kL := [12, 14]) (fr' := [(15, .one (.ptr 14 0)), (16, aD (.slice (.slice .bool)) a0)]) (L' := [(12, .map (.pair (.int .u64) (.int .u64)) tI (some [] : Option (List ((Int × Int) × Int)))), (14, .cells [.dat (.slice (.slice .bool)) a0, .slc 12])]) (obs := []) rfl (by kernel_rfl) allP0 ?_
    obtain ⟨r4, h5, h⟩ := bind_of h
    refine WO_call0 (us := [none]) (d := 17) (p := True) (j := 3) rfl ⟨by kernel_rfl, by kernel_rfl, by kernel_rfl⟩ trivial (talk_whole_ok h5) (by kernel_rfl) ?_
    obtain ⟨r6, h7, h⟩ := bind_of h
    refine WO_lend [(1000, 14), (1001, 12)] (us := [none, none]) (d := 18) (p := True) (j := 4) rfl ⟨by kernel_rfl, by kernel_rfl, by kernel_rfl⟩ trivial (talk_talker_least_ok h7) (by kernel_rfl) (by kernel_rfl) ?_
    refine WO_run (j := 6) (k := 2) (orcs := []) (kF := [2, 3]) (kL := [12, 14]) (fr' := [(2, aI r6.1), (3, aI (0 : Int))]) (L' := [(12, .map (.pair (.int .u64) (.int .u64)) tI r6.2.2), (14, .cells [.dat (.slice (.slice .bool)) r6.2.1, .slc 12])]) (obs := []) rfl (by kernel_rfl) allP0 ?_
    refine WO_fin [2, 3] [] (fr' := [(2, aI r6.1), (3, aI (0 : Int))]) (L' := []) (by kernel_rfl) (by kernel_rfl) ?_
    refine seqQ_norm ?_
    obtain rfl := Option.some.inj h
    refine W_ret [2, 3] [] (fr' := [(2, aI r6.1), (3, aI (0 : Int))]) (L' := []) (by kernel_rfl) (by kernel_rfl) ?_
    exact retQ_mk (by kernel_rfl) (by kernel_rfl) (by kernel_rfl)

def ref_Within (a0 : Int) (a1 : Int) (a2 : Int) : Option Bool :=
some ((decide (a0 ≤ a1)) && (decide (a1 ≤ a2)))
theorem ref_Within_ok {a0 : Int} {a1 : Int} {a2 : Int} {r : Bool} (h : ref_Within a0 a1 a2 = some r) : FnC Try.prog 40 [aI a0, aI a1, aI a2] [] (aB r) [] := by
  refine fnC_of_W (B := bodyOf Try.f40) (n := 15) Try.func40 (by kernel_rfl) (by kernel_rfl) (by kernel_rfl) (by kernel_rfl) (by kernel_rfl) ?_
  intro K
  refine W_seq (by kernel_rfl) ?_
  refine W_run 1 [] [0, 1, 2] [] (fr' := [(0, aI a0), (1, aI a1), (2, aI a2)]) (L' := []) (obs := []) (by kernel_rfl) (by kernel_rfl) (by kernel_rfl) allP0 ?_
  refine seqQ_norm ?_
  refine W_seq (by kernel_rfl) ?_
  refine W_run 9 [] [6] [] (fr' := [(6, aB ((decide (a0 ≤ a1)) && (decide (a1 ≤ a2))))]) (L' := []) (obs := []) (by kernel_rfl) (by kernel_rfl) (by kernel_rfl) allP0 ?_
  refine seqQ_norm ?_
  obtain rfl := Option.some.inj h
  refine W_ret [6] [] (fr' := [(6, aB ((decide (a0 ≤ a1)) && (decide (a1 ≤ a2))))]) (L' := []) (by kernel_rfl) (by kernel_rfl) ?_
  exact retQ_mk (by kernel_rfl) (by kernel_rfl) (by kernel_rfl)

def ref_TalkCheck_g1 (a0 : (List (List Bool))) : Option Bool :=
(ref_Within (1 : Int) (List.length a0 : Int) (4 : Int)).bind fun r15 =>
bif !r15 then
(some true)
else
((idx a0 (0 : Int)).bind fun v18 =>
(ref_Within (1 : Int) (List.length v18 : Int) (4 : Int)).bind fun r20 =>
some (!r20))
def ref_TalkCheck_b2 (a0 : (List (List Bool))) (i37 : Int) (v40 : (List Bool)) (x38 : Unit) : Option (Flow Unit (Esc Int Unit)) :=
(idx a0 (0 : Int)).bind fun v43 =>
bif (List.length v40 : Int) != (List.length v43 : Int) then
(some (.done (.ret (3 : Int))))
else
(some (.next ()))
@[reducible] def ref_TalkCheck_s3 (a0 : (List (List Bool))) (v : Int × Unit) : Fr × LL := ([(0, aD (.slice (.slice .bool)) a0), (17, aD (.slice (.slice .bool)) a0), (18, aI (List.length a0 : Int)), (19, aI v.1)], [])
@[reducible] def ref_TalkCheck_s4 (v : Int) : Fr × LL := ([(2, aI v)], [])
@[reducible] def ref_TalkCheck_s5 (v : Unit) : Fr × LL := ([], [])
@[reducible] def ref_TalkCheck_s6 (a0 : (List (List Bool))) (v : Bool) : Fr × LL := ([(0, aD (.slice (.slice .bool)) a0), (16, aB v)], [])
def ref_TalkCheck (a0 : (List (List Bool))) : Option Int :=
(ref_TalkCheck_g1 a0).bind fun v22 =>
bif v22 then
(some (1 : Int))
else
((forL (ref_TalkCheck_b2 a0) (fun x38 => (.brk ())) a0 0 ()).bind fun v47 =>
match v47 with
| .ret v52 =>
(some v52)
| .brk v53 =>
(some (0 : Int)))
theorem ref_TalkCheck_ok {a0 : (List (List Bool))} {r : Int} (h : ref_TalkCheck a0 = some r) : FnC Try.prog 13 [aD (.slice (.slice .bool)) a0] [] (aI r) [] := by
  refine fnC_of_W (B := bodyOf Try.f13) (n := 31) Try.func13 (by kernel_rfl) (by kernel_rfl) (by kernel_rfl) (by kernel_rfl) (by kernel_rfl) ?_
  intro K
  refine W_seq (by kernel_rfl) ?_
  refine W_run 1 [] [0] [] (fr' := [(0, aD (.slice (.slice .bool)) a0)]) (L' := []) (obs := []) (by kernel_rfl) (by kernel_rfl) (by kernel_rfl) allP0 ?_
  refine seqQ_norm ?_
  refine W_seq (by kernel_rfl) ?_
  refine W_seq (by kernel_rfl) ?_
  obtain ⟨v22, h23, h⟩ := bind_of h
  refine W_cutK (Q' := (exQ .normal (ref_TalkCheck_s6 a0)) v22) ?_ ?_
  · replace h := h23
    refine W_region (by kernel_rfl) ?_
    refine WO_run (j := 2) (k := 2) (orcs := []) (kF := [0, 6]) (kL := []) (fr' := [(0, aD (.slice (.slice .bool)) a0), (6, aI (List.length a0 : Int))]) (L' := []) (obs := []) rfl (by kernel_rfl) allP0 ?_
    obtain ⟨r15, h16, h⟩ := bind_of h
    refine WO_call0 (us := [none, none, none]) (d := 7) (p := True) (j := 3) rfl ⟨by kernel_rfl, by kernel_rfl, by kernel_rfl⟩ trivial (ref_Within_ok h16) (by kernel_rfl) ?_
    refine WO_run (j := 5) (k := 2) (orcs := []) (kF := [0, 9]) (kL := []) (fr' := [(0, aD (.slice (.slice .bool)) a0), (9, aB (!r15))]) (L' := []) (obs := []) rfl (by kernel_rfl) allP0 ?_
    rcases Bool.eq_false_or_eq_true (!r15) with h17 | h17
    · replace h := ofT h17 h
      refine WO_run (j := 12) (k := 7) (orcs := [(10, .known true), (12, .known true), (14, .known true), (16, .known true), (18, .known true), (20, .known true), (23, .val (.dat .bool true))]) (kF := [0, 16]) (kL := []) (fr' := [(0, aD (.slice (.slice .bool)) a0), (16, aB true)]) (L' := []) (obs := [((!r15) = true), ((!r15) = true), ((!r15) = true), ((!r15) = true), ((!r15) = true), ((!r15) = true), ((!r15) = true)]) rfl (by kernel_rfl) (allP2 h17 (allP2 h17 (allP2 h17 (allP2 h17 (allP2 h17 (allP2 h17 (allP1 h17))))))) ?_
      obtain rfl := Option.some.inj h
      refine WO_fin [0, 16] [] (fr' := [(0, aD (.slice (.slice .bool)) a0), (16, aB true)]) (L' := []) (by kernel_rfl) (by kernel_rfl) ?_
      exact exQ_mk (by kernel_rfl) (by kernel_rfl)
    · replace h := ofF h17 h
      obtain ⟨v18, h19, h⟩ := bind_of h
      refine WO_run (j := 9) (k := 4) (orcs := [(10, .known false), (12, .known false), (13, .val (.dat (.slice .bool) v18)), (14, .known false), (16, .known false)]) (kF := [0, 9, 13]) (kL := []) (fr' := [(0, aD (.slice (.slice .bool)) a0), (9, aB (!r15)), (13, aI (List.length v18 : Int))]) (L' := []) (obs := [((!r15) = false), ((!r15) = false), Idx a0 (0 : Int) v18, ((!r15) = false), ((!r15) = false)]) rfl (by kernel_rfl) (allP2 h17 (allP2 h17 (allP2 (Idx.of h19) (allP2 h17 (allP1 h17))))) ?_
      obtain ⟨r20, h21, h⟩ := bind_of h
      refine WO_call0 (us := [none, none, none]) (d := 14) (p := ((!r15) = false)) (j := 10) rfl ⟨by kernel_rfl, by kernel_rfl, by kernel_rfl⟩ h17 (ref_Within_ok h21) (by kernel_rfl) ?_
      refine WO_run (j := 12) (k := 2) (orcs := [(20, .known false), (23, .val (.dat .bool false))]) (kF := [0, 16]) (kL := []) (fr' := [(0, aD (.slice (.slice .bool)) a0), (16, aB (!r20))]) (L' := []) (obs := [((!r15) = false), ((!r15) = false)]) rfl (by kernel_rfl) (allP2 h17 (allP1 h17)) ?_
      obtain rfl := Option.some.inj h
      refine WO_fin [0, 16] [] (fr' := [(0, aD (.slice (.slice .bool)) a0), (16, aB (!r20))]) (L' := []) (by kernel_rfl) (by kernel_rfl) ?_
      exact exQ_mk (by kernel_rfl) (by kernel_rfl)
  · intro e fr L hJ
    obtain ⟨rfl, rfl, rfl⟩ := hJ
    refine LT_keep [0, 16] [] (fr' := [(0, aD (.slice (.slice .bool)) a0), (16, aB v22)]) (L' := []) (by kernel_rfl) ?_
    refine seqQ_norm ?_
    refine W_cond (o := .tmp 16) (b := v22) (by kernel_rfl) (by kernel_rfl) (fun h24 => ?_) (fun h24 => ?_)
    · replace h := ofT h24 h
      refine W_seq (by kernel_rfl) ?_
      refine W_run 1 [] [2] [] (fr' := [(2, aI (1 : Int))]) (L' := []) (obs := []) (by kernel_rfl) (by kernel_rfl) (by kernel_rfl) allP0 ?_
      refine seqQ_norm ?_
      obtain rfl := Option.some.inj h
      refine W_ret [2] [] (fr' := [(2, aI (1 : Int))]) (L' := []) (by kernel_rfl) (by kernel_rfl) ?_
      refine seqQ_ret ?_
      exact retQ_mk (by kernel_rfl) (by kernel_rfl) (by kernel_rfl)
    · replace h := ofF h24 h
      refine W_skip [0] [] (fr' := [(0, aD (.slice (.slice .bool)) a0)]) (L' := []) (by kernel_rfl) (by kernel_rfl) ?_
      refine seqQ_norm ?_
      refine W_seq (by kernel_rfl) ?_
      refine W_seq (by kernel_rfl) ?_
      refine W_run 3 [] [0, 17, 18, 19] [] (fr' := [(0, aD (.slice (.slice .bool)) a0), (17, aD (.slice (.slice .bool)) a0), (18, aI (List.length a0 : Int)), (19, aI (0 : Int))]) (L' := []) (obs := []) (by kernel_rfl) (by kernel_rfl) (by kernel_rfl) allP0 ?_
      refine seqQ_norm ?_
      refine W_block (id := 0) (by kernel_rfl) ?_
      obtain ⟨v47, h48, h⟩ := bind_of h
      refine W_len (t := 17) (u := (.slice .bool)) (xs := a0) (by kernel_rfl) (fun h51 => ?_)
      obtain ⟨h49, h50⟩ := forL_iter h51 h48
      refine W_weaken [0, 17, 18, 19] [] (fr' := ((ref_TalkCheck_s3 a0) ((0 : Int), ())).1) (L' := ((ref_TalkCheck_s3 a0) ((0 : Int), ())).2) (by kernel_rfl) ?_
      refine W_cutK (W_loop (S := (ref_TalkCheck_s3 a0)) (J := (escQ (exQ .ret ref_TalkCheck_s4) (exQ (.exit 0) ref_TalkCheck_s5))) (by kernel_rfl) ?_ h49 _ v47 h50) ?_
      · rintro ⟨i37, x38⟩ s h
        refine W_seq (by kernel_rfl) ?_
        refine W_run 1 [] [0, 17, 18, 19, 20] [] (fr' := [(0, aD (.slice (.slice .bool)) a0), (17, aD (.slice (.slice .bool)) a0), (18, aI (List.length a0 : Int)), (19, aI i37), (20, aB (decide (i37 < (List.length a0 : Int))))]) (L' := []) (obs := []) (by kernel_rfl) (by kernel_rfl) (by kernel_rfl) allP0 ?_
        refine seqQ_norm ?_
        refine W_seq (by kernel_rfl) ?_
        refine W_cond (o := .tmp 20) (b := decide (i37 < (List.length a0 : Int))) (by kernel_rfl) (by kernel_rfl) (fun h42 => ?_) (fun h42 => ?_)
        · replace h := stepL_true h42 h
          obtain ⟨v40, _, h41, h, rfl⟩ := h
          refine W_skip [0, 17, 18, 19] [] (fr' := [(0, aD (.slice (.slice .bool)) a0), (17, aD (.slice (.slice .bool)) a0), (18, aI (List.length a0 : Int)), (19, aI i37)]) (L' := []) (by kernel_rfl) (by kernel_rfl) ?_
          refine seqQ_norm ?_
          refine W_seq (by kernel_rfl) ?_
          refine W_block (id := 1) (by kernel_rfl) ?_
          refine W_seq (by kernel_rfl) ?_
          refine W_run 3 [(1, .val (.dat (.slice .bool) v40))] [0, 4, 17, 18, 19] [] (fr' := [(0, aD (.slice (.slice .bool)) a0), (4, aD (.slice .bool) v40), (17, aD (.slice (.slice .bool)) a0), (18, aI (List.length a0 : Int)), (19, aI i37)]) (L' := []) (obs := [Idx a0 i37 v40]) (by kernel_rfl) (by kernel_rfl) (by kernel_rfl) (allP1 (Idx.of h41)) ?_
          refine seqQ_norm ?_
          refine W_seq (by kernel_rfl) ?_
          obtain ⟨v43, h44, h⟩ := bind_of h
          refine W_run 7 [(7, .val (.dat (.slice .bool) v43))] [0, 17, 18, 19, 29] [] (fr' := [(0, aD (.slice (.slice .bool)) a0), (17, aD (.slice (.slice .bool)) a0), (18, aI (List.length a0 : Int)), (19, aI i37), (29, aB ((List.length v40 : Int) != (List.length v43 : Int)))]) (L' := []) (obs := [Idx a0 (0 : Int) v43]) (by kernel_rfl) (by kernel_rfl) (by kernel_rfl) (allP1 (Idx.of h44)) ?_
          refine seqQ_norm ?_
          refine W_cond (o := .tmp 29) (b := (List.length v40 : Int) != (List.length v43 : Int)) (by kernel_rfl) (by kernel_rfl) (fun h45 => ?_) (fun h45 => ?_)
          · replace h := ofT h45 h
            refine W_seq (by kernel_rfl) ?_
            refine W_run 1 [] [2] [] (fr' := [(2, aI (3 : Int))]) (L' := []) (obs := []) (by kernel_rfl) (by kernel_rfl) (by kernel_rfl) allP0 ?_
            refine seqQ_norm ?_
            obtain rfl := Option.some.inj h
            refine W_ret [2] [] (fr' := [(2, aI (3 : Int))]) (L' := []) (by kernel_rfl) (by kernel_rfl) ?_
            refine blockQ_ret ?_
            refine seqQ_ret ?_
            refine round_ret ?_
            refine escQ_ret ?_
            exact exQ_mk (by kernel_rfl) (by kernel_rfl)
          · replace h := ofF h45 h
            refine W_skip [0, 17, 18, 19] [] (fr' := [(0, aD (.slice (.slice .bool)) a0), (17, aD (.slice (.slice .bool)) a0), (18, aI (List.length a0 : Int)), (19, aI i37)]) (L' := []) (by kernel_rfl) (by kernel_rfl) ?_
            refine blockQ_norm ?_
            refine seqQ_norm ?_
            obtain rfl := Option.some.inj h
            refine W_run 2 [] [0, 17, 18, 19] [] (fr' := [(0, aD (.slice (.slice .bool)) a0), (17, aD (.slice (.slice .bool)) a0), (18, aI (List.length a0 : Int)), (19, aI (w64 (i37 + (1 : Int))))]) (L' := []) (obs := []) (by kernel_rfl) (by kernel_rfl) (by kernel_rfl) allP0 ?_
            exact round_next' (by kernel_rfl) (by kernel_rfl)
        · obtain rfl := stepL_false h42 h
          refine W_exit (id := 0) [] [] (fr' := []) (L' := []) (by kernel_rfl) (by kernel_rfl) ?_
          refine seqQ_exit ?_
          refine round_exit ?_
          refine escQ_brk ?_
          exact exQ_mk (by kernel_rfl) (by kernel_rfl)
      · intro e fr L hJ
        rcases v47 with v52 | v53
        · obtain ⟨rfl, rfl, rfl⟩ := hJ
          obtain rfl := Option.some.inj h
          refine LT_keep [2] [] (fr' := [(2, aI v52)]) (L' := []) (by kernel_rfl) ?_
          refine blockQ_ret ?_
          refine seqQ_ret ?_
          exact retQ_mk (by kernel_rfl) (by kernel_rfl) (by kernel_rfl)
        · obtain ⟨rfl, rfl, rfl⟩ := hJ
          refine LT_keep [] [] (fr' := []) (L' := []) (by kernel_rfl) ?_
          refine blockQ_hit ?_
          refine seqQ_norm ?_
          refine W_seq (by kernel_rfl) ?_
          refine W_run 1 [] [2] [] (fr' := [(2, aI (0 : Int))]) (L' := []) (obs := []) (by kernel_rfl) (by kernel_rfl) (by kernel_rfl) allP0 ?_
          refine seqQ_norm ?_
          obtain rfl := Option.some.inj h
          refine W_ret [2] [] (fr' := [(2, aI (0 : Int))]) (L' := []) (by kernel_rfl) (by kernel_rfl) ?_
          exact retQ_mk (by kernel_rfl) (by kernel_rfl) (by kernel_rfl)

def ref_Bit (a0 : Int) (a1 : Int) : Option Bool :=
bif (decide (a1 ≥ (0 : Int))) && (decide (a1 < (63 : Int))) then
((ck (0 ≤ IntKind.wrap .u64 (a1))).bind fun _ =>
some ((bAnd .i64 a0 (bShl .i64 (1 : Int) (IntKind.wrap .u64 (a1)))) != (0 : Int)))
else
(some false)
theorem ref_Bit_ok {a0 : Int} {a1 : Int} {r : Bool} (h : ref_Bit a0 a1 = some r) : FnC Try.prog 45 [aI a0, aI a1] [] (aB r) [] := by
  refine fnC_of_W (B := bodyOf Try.f45) (n := 19) Try.func45 (by kernel_rfl) (by kernel_rfl) (by kernel_rfl) (by kernel_rfl) (by kernel_rfl) ?_
  intro K
  refine W_seq (by kernel_rfl) ?_
  refine W_run 1 [] [0, 1] [] (fr' := [(0, aI a0), (1, aI a1)]) (L' := []) (obs := []) (by kernel_rfl) (by kernel_rfl) (by kernel_rfl) allP0 ?_
  refine seqQ_norm ?_
  refine W_seq (by kernel_rfl) ?_
  refine W_region (by kernel_rfl) ?_
  refine WO_run (j := 7) (k := 7) (orcs := []) (kF := [0, 1, 11]) (kL := []) (fr' := [(0, aI a0), (1, aI a1), (11, aB ((decide (a1 ≥ (0 : Int))) && (decide (a1 < (63 : Int)))))]) (L' := []) (obs := []) rfl (by kernel_rfl) allP0 ?_
  rcases Bool.eq_false_or_eq_true ((decide (a1 ≥ (0 : Int))) && (decide (a1 < (63 : Int)))) with h1 | h1
  · replace h := ofT h1 h
    obtain ⟨_, h2, h⟩ := bind_of h
    replace h2 := ck_some h2
    refine WO_run (j := 15) (k := 8) (orcs := [(14, .known true), (16, .known true), (18, .known true), (20, .known true), (22, .known true), (24, .known true), (27, .val (.dat .bool true))]) (kF := [4]) (kL := []) (fr' := [(4, aB ((bAnd .i64 a0 (bShl .i64 (1 : Int) (IntKind.wrap .u64 (a1)))) != (0 : Int)))]) (L' := []) (obs := [(((decide (a1 ≥ (0 : Int))) && (decide (a1 < (63 : Int)))) = true), (((decide (a1 ≥ (0 : Int))) && (decide (a1 < (63 : Int)))) = true), (((decide (a1 ≥ (0 : Int))) && (decide (a1 < (63 : Int)))) = true), (((decide (a1 ≥ (0 : Int))) && (decide (a1 < (63 : Int)))) = true), (0 ≤ IntKind.wrap .u64 (a1)), (((decide (a1 ≥ (0 : Int))) && (decide (a1 < (63 : Int)))) = true), (((decide (a1 ≥ (0 : Int))) && (decide (a1 < (63 : Int)))) = true), (((decide (a1 ≥ (0 : Int))) && (decide (a1 < (63 : Int)))) = true)]) rfl (by kernel_rfl) (allP2 h1 (allP2 h1 (allP2 h1 (allP2 h1 (allP2 h2 (allP2 h1 (allP2 h1 (allP1 h1)))))))) ?_
    refine WO_fin [4] [] (fr' := [(4, aB ((bAnd .i64 a0 (bShl .i64 (1 : Int) (IntKind.wrap .u64 (a1)))) != (0 : Int)))]) (L' := []) (by kernel_rfl) (by kernel_rfl) ?_
    refine seqQ_norm ?_
    obtain rfl := Option.some.inj h
    refine W_ret [4] [] (fr' := [(4, aB ((bAnd .i64 a0 (bShl .i64 (1 : Int) (IntKind.wrap .u64 (a1)))) != (0 : Int)))]) (L' := []) (by kernel_rfl) (by kernel_rfl) ?_
    exact retQ_mk (by kernel_rfl) (by kernel_rfl) (by kernel_rfl)
  · replace h := ofF h1 h
    refine WO_run (j := 15) (k := 8) (orcs := [(14, .known false), (16, .known false), (18, .known false), (20, .known false), (22, .known false), (24, .known false), (27, .val (.dat .bool false))]) (kF := [4]) (kL := []) (fr' := [(4, aB false)]) (L' := []) (obs := [(((decide (a1 ≥ (0 : Int))) && (decide (a1 < (63 : Int)))) = false), (((decide (a1 ≥ (0 : Int))) && (decide (a1 < (63 : Int)))) = false), (((decide (a1 ≥ (0 : Int))) && (decide (a1 < (63 : Int)))) = false), (((decide (a1 ≥ (0 : Int))) && (decide (a1 < (63 : Int)))) = false), (((decide (a1 ≥ (0 : Int))) && (decide (a1 < (63 : Int)))) = false), (((decide (a1 ≥ (0 : Int))) && (decide (a1 < (63 : Int)))) = false), (((decide (a1 ≥ (0 : Int))) && (decide (a1 < (63 : Int)))) = false)]) rfl (by kernel_rfl) (allP2 h1 (allP2 h1 (allP2 h1 (allP2 h1 (allP2 h1 (allP2 h1 (allP1 h1))))))) ?_
    refine WO_fin [4] [] (fr' := [(4, aB false)]) (L' := []) (by kernel_rfl) (by kernel_rfl) ?_
    refine seqQ_norm ?_
    obtain rfl := Option.some.inj h
    refine W_ret [4] [] (fr' := [(4, aB false)]) (L' := []) (by kernel_rfl) (by kernel_rfl) ?_
    exact retQ_mk (by kernel_rfl) (by kernel_rfl) (by kernel_rfl)

@[reducible] def ref_Talks_s72 (a0 : (List (List Bool))) (a1 : Int) (a2 : Int) (a3 : Int) (i665 : Int) (x773 : (Bool × Bool × Int)) (v : Bool) : Fr × LL := ([(0, aD (.slice (.slice .bool)) a0), (1, aI a1), (2, aI a2), (3, aI a3), (9, aB v), (10, aB x773.2.1), (11, aI i665), (12, aI x773.2.2)], [])
@[reducible] def ref_Talks_s73 (a0 : (List (List Bool))) (a1 : Int) (a2 : Int) (a3 : Int) (i665 : Int) (x773 : (Bool × Bool × Int)) (v : Bool) : Fr × LL := ([(0, aD (.slice (.slice .bool)) a0), (1, aI a1), (2, aI a2), (3, aI a3), (9, aB x773.1), (10, aB x773.2.1), (11, aI i665), (12, aI x773.2.2), (36, aB v)], [])
def ref_Talks_g74 (a1 : Int) (a2 : Int) (i665 : Int) (v668 : (List Bool)) (x773 : (Bool × Bool × Int)) : Option (Bool × Bool) :=
((ref_Bit a1 i665).bind fun r952 =>
bif r952 then
((ref_Bit a2 x773.2.2).bind fun r955 =>
some r955)
else
(some false)).bind fun v957 =>
bif v957 then
((bif x773.1 then
(some true)
else
((idx v668 x773.2.2).bind fun v967 =>
some v967)).bind fun v969 =>
bif x773.2.1 then
(some (v969, true))
else
((idx v668 x773.2.2).bind fun v972 =>
some (v969, !v972)))
else
(some (x773.1, x773.2.1))
@[reducible] def ref_Talks_s75 (a0 : (List (List Bool))) (a1 : Int) (a2 : Int) (a3 : Int) (i665 : Int) (x773 : (Bool × Bool × Int)) (v : (Bool × Bool)) : Fr × LL := ([(0, aD (.slice (.slice .bool)) a0), (1, aI a1), (2, aI a2), (3, aI a3), (9, aB v.1), (10, aB v.2), (11, aI i665), (12, aI x773.2.2)], [])
def ref_Talks_b76 (a0 : (List (List Bool))) (a1 : Int) (a2 : Int) (i665 : Int) (v668 : (List Bool)) (x773 : (Bool × Bool × Int)) : Option (Flow (Bool × Bool × Int) (Bool × Bool)) :=
(idx a0 (0 : Int)).bind fun v875 =>
bif decide (x773.2.2 < (List.length v875 : Int)) then
((ref_Talks_g74 a1 a2 i665 v668 x773).bind fun v974 =>
some (.next (v974.1, v974.2, w64 (x773.2.2 + (1 : Int)))))
else
(some (.done (x773.1, x773.2.1)))
@[reducible] def ref_Talks_s77 (a0 : (List (List Bool))) (a1 : Int) (a2 : Int) (a3 : Int) (i665 : Int) (v : (Bool × Bool × Int)) : Fr × LL := ([(0, aD (.slice (.slice .bool)) a0), (1, aI a1), (2, aI a2), (3, aI a3), (9, aB v.1), (10, aB v.2.1), (11, aI i665), (12, aI v.2.2)], [])
@[reducible] def ref_Talks_s78 (a0 : (List (List Bool))) (a1 : Int) (a2 : Int) (a3 : Int) (i665 : Int) (v : (Bool × Bool)) : Fr × LL := ([(0, aD (.slice (.slice .bool)) a0), (1, aI a1), (2, aI a2), (3, aI a3), (9, aB v.1), (10, aB v.2), (11, aI i665)], [])
def ref_Talks_b79 (a0 : (List (List Bool))) (a1 : Int) (a2 : Int) (fuel : Nat) (i665 : Int) (v668 : (List Bool)) (x666 : (Bool × Bool)) : Option (Flow (Bool × Bool) (Bool × Bool)) :=
(iter (ref_Talks_b76 a0 a1 a2 i665 v668) fuel (x666.1, x666.2, (0 : Int))).bind fun v976 =>
some (.next (v976.1, v976.2))
@[reducible] def ref_Talks_s80 (a0 : (List (List Bool))) (a1 : Int) (a2 : Int) (a3 : Int) (v : Int × (Bool × Bool)) : Fr × LL := ([(0, aD (.slice (.slice .bool)) a0), (1, aI a1), (2, aI a2), (3, aI a3), (9, aB v.2.1), (10, aB v.2.2), (11, aI v.1)], [])
@[reducible] def ref_Talks_s81 (a0 : (List (List Bool))) (a1 : Int) (a2 : Int) (a3 : Int) (v : (Bool × Bool)) : Fr × LL := ([(0, aD (.slice (.slice .bool)) a0), (1, aI a1), (2, aI a2), (3, aI a3), (9, aB v.1), (10, aB v.2)], [])
def ref_Talks_g86 (a0 : (List (List Bool))) (a1 : Int) (a2 : Int) (a3 : Int) (rf_ref_Talks : (List (List Bool)) → Int → Int → Int → Option Bool) (i1034 : Int) : Option Bool :=
bif (bOr .i64 i1034 a1) == a1 then
((rf_ref_Talks a0 i1034 a2 (w64 (a3 - (1 : Int)))).bind fun r1051 =>
bif r1051 then
((rf_ref_Talks a0 (w64 (a1 - i1034)) a2 (w64 (a3 - (1 : Int)))).bind fun r1054 =>
some r1054)
else
(some false))
else
(some false)
@[reducible] def ref_Talks_s87 (a0 : (List (List Bool))) (a1 : Int) (a2 : Int) (a3 : Int) (i1034 : Int) (v : Bool) : Fr × LL := ([(0, aD (.slice (.slice .bool)) a0), (1, aI a1), (2, aI a2), (3, aI a3), (13, aI i1034), (93, aB v)], [])
def ref_Talks_b88 (a0 : (List (List Bool))) (a1 : Int) (a2 : Int) (a3 : Int) (rf_ref_Talks : (List (List Bool)) → Int → Int → Int → Option Bool) (i1034 : Int) (x1035 : Unit) : Option (Flow Unit (Esc Bool Unit)) :=
(ref_Talks_g86 a0 a1 a2 a3 rf_ref_Talks i1034).bind fun v1056 =>
bif v1056 then
(some (.done (.ret true)))
else
(some (.next ()))
@[reducible] def ref_Talks_s89 (a0 : (List (List Bool))) (a1 : Int) (a2 : Int) (a3 : Int) (v : Int × Unit) : Fr × LL := ([(0, aD (.slice (.slice .bool)) a0), (1, aI a1), (2, aI a2), (3, aI a3), (13, aI v.1)], [])
@[reducible] def ref_Talks_s90 (v : Bool) : Fr × LL := ([(8, aB v)], [])
@[reducible] def ref_Talks_s91 (a0 : (List (List Bool))) (a1 : Int) (a2 : Int) (a3 : Int) (v : Unit) : Fr × LL := ([(0, aD (.slice (.slice .bool)) a0), (1, aI a1), (2, aI a2), (3, aI a3)], [])
def ref_Talks_g96 (a0 : (List (List Bool))) (a1 : Int) (a2 : Int) (a3 : Int) (rf_ref_Talks : (List (List Bool)) → Int → Int → Int → Option Bool) (i1112 : Int) : Option Bool :=
bif (bOr .i64 i1112 a2) == a2 then
((rf_ref_Talks a0 a1 i1112 (w64 (a3 - (1 : Int)))).bind fun r1129 =>
bif r1129 then
((rf_ref_Talks a0 a1 (w64 (a2 - i1112)) (w64 (a3 - (1 : Int)))).bind fun r1132 =>
some r1132)
else
(some false))
else
(some false)
@[reducible] def ref_Talks_s97 (a0 : (List (List Bool))) (a1 : Int) (a2 : Int) (a3 : Int) (i1112 : Int) (v : Bool) : Fr × LL := ([(0, aD (.slice (.slice .bool)) a0), (1, aI a1), (2, aI a2), (3, aI a3), (14, aI i1112), (121, aB v)], [])
def ref_Talks_b98 (a0 : (List (List Bool))) (a1 : Int) (a2 : Int) (a3 : Int) (rf_ref_Talks : (List (List Bool)) → Int → Int → Int → Option Bool) (i1112 : Int) (x1113 : Unit) : Option (Flow Unit (Esc Bool Unit)) :=
(ref_Talks_g96 a0 a1 a2 a3 rf_ref_Talks i1112).bind fun v1134 =>
bif v1134 then
(some (.done (.ret true)))
else
(some (.next ()))
@[reducible] def ref_Talks_s99 (a0 : (List (List Bool))) (a1 : Int) (a2 : Int) (a3 : Int) (v : Int × Unit) : Fr × LL := ([(0, aD (.slice (.slice .bool)) a0), (1, aI a1), (2, aI a2), (3, aI a3), (14, aI v.1)], [])
@[reducible] def ref_Talks_s100 (v : Bool) : Fr × LL := ([(8, aB v)], [])
@[reducible] def ref_Talks_s101 (v : Unit) : Fr × LL := ([], [])
def ref_Talks_step (rf_ref_Talks : (List (List Bool)) → Int → Int → Int → Option Bool) (fuel : Nat) (a0 : (List (List Bool))) (a1 : Int) (a2 : Int) (a3 : Int) : Option Bool :=
(forL (ref_Talks_b79 a0 a1 a2 fuel) (fun x666 => (x666.1, x666.2)) a0 0 (false, false)).bind fun v981 =>
bif (!v981.1) || (!v981.2) then
(some true)
else
(bif a3 == (0 : Int) then
(some false)
else
((forI (1 : Int) a1 (ref_Talks_b88 a0 a1 a2 a3 rf_ref_Talks) (fun x1035 => (.brk ())) ()).bind fun v1060 =>
match v1060 with
| .ret v1064 =>
(some v1064)
| .brk v1065 =>
((forI (1 : Int) a2 (ref_Talks_b98 a0 a1 a2 a3 rf_ref_Talks) (fun x1113 => (.brk ())) ()).bind fun v1138 =>
match v1138 with
| .ret v1142 =>
(some v1142)
| .brk v1143 =>
(some false))))
def ref_Talks : Nat → (List (List Bool)) → Int → Int → Int → Option Bool
  | 0 => fun _ _ _ _ => none
  | fuel + 1 => fun a0 a1 a2 a3 => ref_Talks_step (ref_Talks fuel) fuel a0 a1 a2 a3
theorem ref_Talks_step_ok {rf_ref_Talks : (List (List Bool)) → Int → Int → Int → Option Bool} (ih_ref_Talks : ∀ {a0 : (List (List Bool))} {a1 : Int} {a2 : Int} {a3 : Int} {r : Bool}, rf_ref_Talks a0 a1 a2 a3 = some r → FnC Try.prog 18 [aD (.slice (.slice .bool)) a0, aI a1, aI a2, aI a3] [] (aB r) []) {fuel : Nat} {a0 : (List (List Bool))} {a1 : Int} {a2 : Int} {a3 : Int} {r : Bool} (h : ref_Talks_step rf_ref_Talks fuel a0 a1 a2 a3 = some r) : FnC Try.prog 18 [aD (.slice (.slice .bool)) a0, aI a1, aI a2, aI a3] [] (aB r) [] := by
  refine fnC_of_W (B := bodyOf Try.f18) (n := 122) Try.func18 (by kernel_rfl) (by kernel_rfl) (by kernel_rfl) (by kernel_rfl) (by kernel_rfl) ?_
  intro K
  refine W_seq (by kernel_rfl) ?_
  refine W_run 1 [] [0, 1, 2, 3] [] (fr' := [(0, aD (.slice (.slice .bool)) a0), (1, aI a1), (2, aI a2), (3, aI a3)]) (L' := []) (obs := []) (by kernel_rfl) (by kernel_rfl) (by kernel_rfl) allP0 ?_
  refine seqQ_norm ?_
  refine W_seq (by kernel_rfl) ?_
  refine W_run 1 [] [0, 1, 2, 3, 9] [] (fr' := [(0, aD (.slice (.slice .bool)) a0), (1, aI a1), (2, aI a2), (3, aI a3), (9, aB false)]) (L' := []) (obs := []) (by kernel_rfl) (by kernel_rfl) (by kernel_rfl) allP0 ?_
  refine seqQ_norm ?_
  refine W_seq (by kernel_rfl) ?_
  refine W_run 1 [] [0, 1, 2, 3, 9, 10] [] (fr' := [(0, aD (.slice (.slice .bool)) a0), (1, aI a1), (2, aI a2), (3, aI a3), (9, aB false), (10, aB false)]) (L' := []) (obs := []) (by kernel_rfl) (by kernel_rfl) (by kernel_rfl) allP0 ?_
  refine seqQ_norm ?_
  refine W_seq (by kernel_rfl) ?_
  refine W_seq (by kernel_rfl) ?_
  refine W_run 1 [] [0, 1, 2, 3, 9, 10, 11] [] (fr' := [(0, aD (.slice (.slice .bool)) a0), (1, aI a1), (2, aI a2), (3, aI a3), (9, aB false), (10, aB false), (11, aI (0 : Int))]) (L' := []) (obs := []) (by kernel_rfl) (by kernel_rfl) (by kernel_rfl) allP0 ?_
  refine seqQ_norm ?_
  refine W_block (id := 0) (by kernel_rfl) ?_
  obtain ⟨v981, h982, h⟩ := bind_of h
  refine W_len (t := 0) (u := (.slice .bool)) (xs := a0) (by kernel_rfl) (fun h985 => ?_)
  obtain ⟨h983, h984⟩ := forL_iter h985 h982
  refine W_weaken [0, 1, 2, 3, 9, 10, 11] [] (fr' := ((ref_Talks_s80 a0 a1 a2 a3) ((0 : Int), (false, false))).1) (L' := ((ref_Talks_s80 a0 a1 a2 a3) ((0 : Int), (false, false))).2) (by kernel_rfl) ?_
  refine W_cutK (W_loop (S := (ref_Talks_s80 a0 a1 a2 a3)) (J := (exQ (.exit 0) (ref_Talks_s81 a0 a1 a2 a3))) (by kernel_rfl) ?_ h983 _ v981 h984) ?_
  · rintro ⟨i665, x666⟩ s h
    refine W_seq (by kernel_rfl) ?_
    refine W_seq (by kernel_rfl) ?_
    refine W_run 4 [] [0, 1, 2, 3, 9, 10, 11, 18] [] (fr' := [(0, aD (.slice (.slice .bool)) a0), (1, aI a1), (2, aI a2), (3, aI a3), (9, aB x666.1), (10, aB x666.2), (11, aI i665), (18, aB (decide (i665 < (List.length a0 : Int))))]) (L' := []) (obs := []) (by kernel_rfl) (by kernel_rfl) (by kernel_rfl) allP0 ?_
    refine seqQ_norm ?_
    refine W_cond (o := .tmp 18) (b := decide (i665 < (List.length a0 : Int))) (by kernel_rfl) (by kernel_rfl) (fun h670 => ?_) (fun h670 => ?_)
    · replace h := stepL_true h670 h
      obtain ⟨v668, _, h669, h, rfl⟩ := h
      refine W_skip [0, 1, 2, 3, 9, 10, 11] [] (fr' := [(0, aD (.slice (.slice .bool)) a0), (1, aI a1), (2, aI a2), (3, aI a3), (9, aB x666.1), (10, aB x666.2), (11, aI i665)]) (L' := []) (by kernel_rfl) (by kernel_rfl) ?_
      refine seqQ_norm ?_
      refine W_seq (by kernel_rfl) ?_
      refine W_block (id := 1) (by kernel_rfl) ?_
      refine W_seq (by kernel_rfl) ?_
      refine W_run 1 [] [0, 1, 2, 3, 9, 10, 11, 12] [] (fr' := [(0, aD (.slice (.slice .bool)) a0), (1, aI a1), (2, aI a2), (3, aI a3), (9, aB x666.1), (10, aB x666.2), (11, aI i665), (12, aI (0 : Int))]) (L' := []) (obs := []) (by kernel_rfl) (by kernel_rfl) (by kernel_rfl) allP0 ?_
      refine seqQ_norm ?_
      refine W_block (id := 2) (by kernel_rfl) ?_
      obtain ⟨v976, h977, h⟩ := bind_of h
      refine W_weaken [0, 1, 2, 3, 9, 10, 11, 12] [] (fr' := ((ref_Talks_s77 a0 a1 a2 a3 i665) (x666.1, x666.2, (0 : Int))).1) (L' := ((ref_Talks_s77 a0 a1 a2 a3 i665) (x666.1, x666.2, (0 : Int))).2) (by kernel_rfl) ?_
      refine W_cutK (W_loop (S := (ref_Talks_s77 a0 a1 a2 a3 i665)) (J := (exQ (.exit 2) (ref_Talks_s78 a0 a1 a2 a3 i665))) (by kernel_rfl) ?_ fuel _ v976 h977) ?_
      · rintro x773 s h
        refine W_seq (by kernel_rfl) ?_
        refine W_seq (by kernel_rfl) ?_
        obtain ⟨v875, h876, h⟩ := bind_of h
        refine W_run 6 [(5, .val (.dat (.slice .bool) v875))] [0, 1, 2, 3, 9, 10, 11, 12, 26] [] (fr' := [(0, aD (.slice (.slice .bool)) a0), (1, aI a1), (2, aI a2), (3, aI a3), (9, aB x773.1), (10, aB x773.2.1), (11, aI i665), (12, aI x773.2.2), (26, aB (decide (x773.2.2 < (List.length v875 : Int))))]) (L' := []) (obs := [Idx a0 (0 : Int) v875]) (by kernel_rfl) (by kernel_rfl) (by kernel_rfl) (allP1 (Idx.of h876)) ?_
        refine seqQ_norm ?_
        refine W_cond (o := .tmp 26) (b := decide (x773.2.2 < (List.length v875 : Int))) (by kernel_rfl) (by kernel_rfl) (fun h877 => ?_) (fun h877 => ?_)
        · replace h := ofT h877 h
          refine W_skip [0, 1, 2, 3, 9, 10, 11, 12] [] (fr' := [(0, aD (.slice (.slice .bool)) a0), (1, aI a1), (2, aI a2), (3, aI a3), (9, aB x773.1), (10, aB x773.2.1), (11, aI i665), (12, aI x773.2.2)]) (L' := []) (by kernel_rfl) (by kernel_rfl) ?_
          refine seqQ_norm ?_
          refine W_seq (by kernel_rfl) ?_
          obtain ⟨v974, h975, h⟩ := bind_of h
          refine W_cutK (Q' := (exQ .normal (ref_Talks_s75 a0 a1 a2 a3 i665 x773)) v974) ?_ ?_
          · replace h := h975
            refine W_block (id := 3) (by kernel_rfl) ?_
            refine W_seq (by kernel_rfl) ?_
            obtain ⟨v957, h958, h⟩ := bind_of h
            refine W_cutK (Q' := (exQ .normal (ref_Talks_s73 a0 a1 a2 a3 i665 x773)) v957) ?_ ?_
            · replace h := h958
              refine W_region (by kernel_rfl) ?_
              refine WO_run (j := 2) (k := 2) (orcs := []) (kF := [0, 1, 2, 3, 9, 10, 11, 12, 29, 30]) (kL := []) (fr' := [(0, aD (.slice (.slice .bool)) a0), (1, aI a1), (2, aI a2), (3, aI a3), (9, aB x773.1), (10, aB x773.2.1), (11, aI i665), (12, aI x773.2.2), (29, aI a1), (30, aI i665)]) (L' := []) (obs := []) rfl (by kernel_rfl) allP0 ?_
              obtain ⟨r952, h953, h⟩ := bind_of h
              refine WO_call0 (us := [none, none]) (d := 31) (p := True) (j := 3) rfl ⟨by kernel_rfl, by kernel_rfl, by kernel_rfl⟩ trivial (ref_Bit_ok h953) (by kernel_rfl) ?_
              refine WO_run (j := 4) (k := 1) (orcs := []) (kF := [0, 1, 2, 3, 9, 10, 11, 12, 32]) (kL := []) (fr' := [(0, aD (.slice (.slice .bool)) a0), (1, aI a1), (2, aI a2), (3, aI a3), (9, aB x773.1), (10, aB x773.2.1), (11, aI i665), (12, aI x773.2.2), (32, aB r952)]) (L' := []) (obs := []) rfl (by kernel_rfl) allP0 ?_
              rcases Bool.eq_false_or_eq_true (r952) with h954 | h954
              · replace h := ofT h954 h
                refine WO_run (j := 6) (k := 2) (orcs := [(8, .known true), (10, .known true)]) (kF := [0, 1, 2, 3, 9, 10, 11, 12, 32, 33, 34]) (kL := []) (fr' := [(0, aD (.slice (.slice .bool)) a0), (1, aI a1), (2, aI a2), (3, aI a3), (9, aB x773.1), (10, aB x773.2.1), (11, aI i665), (12, aI x773.2.2), (32, aB r952), (33, aI a2), (34, aI x773.2.2)]) (L' := []) (obs := [(r952 = true), (r952 = true)]) rfl (by kernel_rfl) (allP2 h954 (allP1 h954)) ?_
                obtain ⟨r955, h956, h⟩ := bind_of h
                refine WO_call0 (us := [none, none]) (d := 35) (p := (r952 = true)) (j := 7) rfl ⟨by kernel_rfl, by kernel_rfl, by kernel_rfl⟩ h954 (ref_Bit_ok h956) (by kernel_rfl) ?_
                refine WO_run (j := 8) (k := 1) (orcs := [(15, .val (.dat .bool true))]) (kF := [0, 1, 2, 3, 9, 10, 11, 12, 36]) (kL := []) (fr' := [(0, aD (.slice (.slice .bool)) a0), (1, aI a1), (2, aI a2), (3, aI a3), (9, aB x773.1), (10, aB x773.2.1), (11, aI i665), (12, aI x773.2.2), (36, aB r955)]) (L' := []) (obs := [(r952 = true)]) rfl (by kernel_rfl) (allP1 h954) ?_
                obtain rfl := Option.some.inj h
                refine WO_fin [0, 1, 2, 3, 9, 10, 11, 12, 36] [] (fr' := [(0, aD (.slice (.slice .bool)) a0), (1, aI a1), (2, aI a2), (3, aI a3), (9, aB x773.1), (10, aB x773.2.1), (11, aI i665), (12, aI x773.2.2), (36, aB r955)]) (L' := []) (by kernel_rfl) (by kernel_rfl) ?_
                exact exQ_mk (by kernel_rfl) (by kernel_rfl)
              · replace h := ofF h954 h
                refine WO_run (j := 8) (k := 4) (orcs := [(8, .known false), (10, .known false), (12, .known false), (15, .val (.dat .bool false))]) (kF := [0, 1, 2, 3, 9, 10, 11, 12, 36]) (kL := []) (fr' := [(0, aD (.slice (.slice .bool)) a0), (1, aI a1), (2, aI a2), (3, aI a3), (9, aB x773.1), (10, aB x773.2.1), (11, aI i665), (12, aI x773.2.2), (36, aB false)]) (L' := []) (obs := [(r952 = false), (r952 = false), (r952 = false), (r952 = false)]) rfl (by kernel_rfl) (allP2 h954 (allP2 h954 (allP2 h954 (allP1 h954)))) ?_
                obtain rfl := Option.some.inj h
                refine WO_fin [0, 1, 2, 3, 9, 10, 11, 12, 36] [] (fr' := [(0, aD (.slice (.slice .bool)) a0), (1, aI a1), (2, aI a2), (3, aI a3), (9, aB x773.1), (10, aB x773.2.1), (11, aI i665), (12, aI x773.2.2), (36, aB false)]) (L' := []) (by kernel_rfl) (by kernel_rfl) ?_
                exact exQ_mk (by kernel_rfl) (by kernel_rfl)
            · intro e fr L hJ
              obtain ⟨rfl, rfl, rfl⟩ := hJ
              refine LT_keep [0, 1, 2, 3, 9, 10, 11, 12, 36] [] (fr' := [(0, aD (.slice (.slice .bool)) a0), (1, aI a1), (2, aI a2), (3, aI a3), (9, aB x773.1), (10, aB x773.2.1), (11, aI i665), (12, aI x773.2.2), (36, aB v957)]) (L' := []) (by kernel_rfl) ?_
              refine seqQ_norm ?_
              refine W_cond (o := .tmp 36) (b := v957) (by kernel_rfl) (by kernel_rfl) (fun h959 => ?_) (fun h959 => ?_)
              · replace h := ofT h959 h
                refine W_seq (by kernel_rfl) ?_
                obtain ⟨v969, h970, h⟩ := bind_of h
                refine W_cutK (Q' := (exQ .normal (ref_Talks_s72 a0 a1 a2 a3 i665 x773)) v969) ?_ ?_
                · replace h := h970
                  refine W_region (by kernel_rfl) ?_
                  refine WO_run (j := 2) (k := 2) (orcs := []) (kF := [0, 1, 2, 3, 9, 10, 11, 12, 38]) (kL := []) (fr' := [(0, aD (.slice (.slice .bool)) a0), (1, aI a1), (2, aI a2), (3, aI a3), (9, aB x773.1), (10, aB x773.2.1), (11, aI i665), (12, aI x773.2.2), (38, aB x773.1)]) (L' := []) (obs := []) rfl (by kernel_rfl) allP0 ?_
                  rcases Bool.eq_false_or_eq_true (x773.1) with h966 | h966
                  · replace h := ofT h966 h
                    refine WO_run (j := 11) (k := 9) (orcs := [(4, .known true), (6, .known true), (8, .known true), (10, .known true), (12, .known true), (14, .known true), (16, .known true), (19, .val (.dat .bool true))]) (kF := [0, 1, 2, 3, 9, 10, 11, 12]) (kL := []) (fr' := [(0, aD (.slice (.slice .bool)) a0), (1, aI a1), (2, aI a2), (3, aI a3), (9, aB true), (10, aB x773.2.1), (11, aI i665), (12, aI x773.2.2)]) (L' := []) (obs := [(x773.1 = true), (x773.1 = true), (x773.1 = true), (x773.1 = true), (x773.1 = true), (x773.1 = true), (x773.1 = true), (x773.1 = true)]) rfl (by kernel_rfl) (allP2 h966 (allP2 h966 (allP2 h966 (allP2 h966 (allP2 h966 (allP2 h966 (allP2 h966 (allP1 h966)))))))) ?_
                    obtain rfl := Option.some.inj h
                    refine WO_fin [0, 1, 2, 3, 9, 10, 11, 12] [] (fr' := [(0, aD (.slice (.slice .bool)) a0), (1, aI a1), (2, aI a2), (3, aI a3), (9, aB true), (10, aB x773.2.1), (11, aI i665), (12, aI x773.2.2)]) (L' := []) (by kernel_rfl) (by kernel_rfl) ?_
                    exact exQ_mk (by kernel_rfl) (by kernel_rfl)
                  · replace h := ofF h966 h
                    obtain ⟨v967, h968, h⟩ := bind_of h
                    refine WO_run (j := 11) (k := 9) (orcs := [(4, .known false), (6, .known false), (8, .known false), (9, .val (.dat (.slice .bool) v668)), (10, .known false), (12, .known false), (14, .known false), (15, .val (.dat .bool v967)), (16, .known false), (19, .val (.dat .bool false))]) (kF := [0, 1, 2, 3, 9, 10, 11, 12]) (kL := []) (fr' := [(0, aD (.slice (.slice .bool)) a0), (1, aI a1), (2, aI a2), (3, aI a3), (9, aB v967), (10, aB x773.2.1), (11, aI i665), (12, aI x773.2.2)]) (L' := []) (obs := [(x773.1 = false), (x773.1 = false), (x773.1 = false), Idx a0 i665 v668, (x773.1 = false), (x773.1 = false), (x773.1 = false), Idx v668 x773.2.2 v967, (x773.1 = false), (x773.1 = false)]) rfl (by kernel_rfl) (allP2 h966 (allP2 h966 (allP2 h966 (allP2 (Idx.of h669) (allP2 h966 (allP2 h966 (allP2 h966 (allP2 (Idx.of h968) (allP2 h966 (allP1 h966)))))))))) ?_
                    obtain rfl := Option.some.inj h
                    refine WO_fin [0, 1, 2, 3, 9, 10, 11, 12] [] (fr' := [(0, aD (.slice (.slice .bool)) a0), (1, aI a1), (2, aI a2), (3, aI a3), (9, aB v967), (10, aB x773.2.1), (11, aI i665), (12, aI x773.2.2)]) (L' := []) (by kernel_rfl) (by kernel_rfl) ?_
                    exact exQ_mk (by kernel_rfl) (by kernel_rfl)
                · intro e fr L hJ
                  obtain ⟨rfl, rfl, rfl⟩ := hJ
                  refine LT_keep [0, 1, 2, 3, 9, 10, 11, 12] [] (fr' := [(0, aD (.slice (.slice .bool)) a0), (1, aI a1), (2, aI a2), (3, aI a3), (9, aB v969), (10, aB x773.2.1), (11, aI i665), (12, aI x773.2.2)]) (L' := []) (by kernel_rfl) ?_
                  refine seqQ_norm ?_
                  refine W_region (by kernel_rfl) ?_
                  refine WO_run (j := 2) (k := 2) (orcs := []) (kF := [0, 1, 2, 3, 9, 10, 11, 12, 48]) (kL := []) (fr' := [(0, aD (.slice (.slice .bool)) a0), (1, aI a1), (2, aI a2), (3, aI a3), (9, aB v969), (10, aB x773.2.1), (11, aI i665), (12, aI x773.2.2), (48, aB x773.2.1)]) (L' := []) (obs := []) rfl (by kernel_rfl) allP0 ?_
                  rcases Bool.eq_false_or_eq_true (x773.2.1) with h971 | h971
                  · replace h := ofT h971 h
                    refine WO_run (j := 12) (k := 10) (orcs := [(4, .known true), (6, .known true), (8, .known true), (10, .known true), (12, .known true), (14, .known true), (16, .known true), (18, .known true), (21, .val (.dat .bool true))]) (kF := [0, 1, 2, 3, 9, 10, 11, 12]) (kL := []) (fr' := [(0, aD (.slice (.slice .bool)) a0), (1, aI a1), (2, aI a2), (3, aI a3), (9, aB v969), (10, aB true), (11, aI i665), (12, aI x773.2.2)]) (L' := []) (obs := [(x773.2.1 = true), (x773.2.1 = true), (x773.2.1 = true), (x773.2.1 = true), (x773.2.1 = true), (x773.2.1 = true), (x773.2.1 = true), (x773.2.1 = true), (x773.2.1 = true)]) rfl (by kernel_rfl) (allP2 h971 (allP2 h971 (allP2 h971 (allP2 h971 (allP2 h971 (allP2 h971 (allP2 h971 (allP2 h971 (allP1 h971))))))))) ?_
                    obtain rfl := Option.some.inj h
                    refine WO_fin [0, 1, 2, 3, 9, 10, 11, 12] [] (fr' := [(0, aD (.slice (.slice .bool)) a0), (1, aI a1), (2, aI a2), (3, aI a3), (9, aB v969), (10, aB true), (11, aI i665), (12, aI x773.2.2)]) (L' := []) (by kernel_rfl) (by kernel_rfl) ?_
                    refine blockQ_norm ?_
                    exact exQ_mk (by kernel_rfl) (by kernel_rfl)
                  · replace h := ofF h971 h
                    obtain ⟨v972, h973, h⟩ := bind_of h
                    refine WO_run (j := 12) (k := 10) (orcs := [(4, .known false), (6, .known false), (8, .known false), (9, .val (.dat (.slice .bool) v668)), (10, .known false), (12, .known false), (14, .known false), (15, .val (.dat .bool v972)), (16, .known false), (18, .known false), (21, .val (.dat .bool false))]) (kF := [0, 1, 2, 3, 9, 10, 11, 12]) (kL := []) (fr' := [(0, aD (.slice (.slice .bool)) a0), (1, aI a1), (2, aI a2), (3, aI a3), (9, aB v969), (10, aB (!v972)), (11, aI i665), (12, aI x773.2.2)]) (L' := []) (obs := [(x773.2.1 = false), (x773.2.1 = false), (x773.2.1 = false), Idx a0 i665 v668, (x773.2.1 = false), (x773.2.1 = false), (x773.2.1 = false), Idx v668 x773.2.2 v972, (x773.2.1 = false), (x773.2.1 = false), (x773.2.1 = false)]) rfl (by kernel_rfl) (allP2 h971 (allP2 h971 (allP2 h971 (allP2 (Idx.of h669) (allP2 h971 (allP2 h971 (allP2 h971 (allP2 (Idx.of h973) (allP2 h971 (allP2 h971 (allP1 h971))))))))))) ?_
                    obtain rfl := Option.some.inj h
                    refine WO_fin [0, 1, 2, 3, 9, 10, 11, 12] [] (fr' := [(0, aD (.slice (.slice .bool)) a0), (1, aI a1), (2, aI a2), (3, aI a3), (9, aB v969), (10, aB (!v972)), (11, aI i665), (12, aI x773.2.2)]) (L' := []) (by kernel_rfl) (by kernel_rfl) ?_
                    refine blockQ_norm ?_
                    exact exQ_mk (by kernel_rfl) (by kernel_rfl)
              · replace h := ofF h959 h
                obtain rfl := Option.some.inj h
                refine W_skip [0, 1, 2, 3, 9, 10, 11, 12] [] (fr' := [(0, aD (.slice (.slice .bool)) a0), (1, aI a1), (2, aI a2), (3, aI a3), (9, aB x773.1), (10, aB x773.2.1), (11, aI i665), (12, aI x773.2.2)]) (L' := []) (by kernel_rfl) (by kernel_rfl) ?_
                refine blockQ_norm ?_
                exact exQ_mk (by kernel_rfl) (by kernel_rfl)
          · intro e fr L hJ
            obtain ⟨rfl, rfl, rfl⟩ := hJ
            refine LT_keep [0, 1, 2, 3, 9, 10, 11, 12] [] (fr' := [(0, aD (.slice (.slice .bool)) a0), (1, aI a1), (2, aI a2), (3, aI a3), (9, aB v974.1), (10, aB v974.2), (11, aI i665), (12, aI x773.2.2)]) (L' := []) (by kernel_rfl) ?_
            refine seqQ_norm ?_
            obtain rfl := Option.some.inj h
            refine W_run 3 [] [0, 1, 2, 3, 9, 10, 11, 12] [] (fr' := [(0, aD (.slice (.slice .bool)) a0), (1, aI a1), (2, aI a2), (3, aI a3), (9, aB v974.1), (10, aB v974.2), (11, aI i665), (12, aI (w64 (x773.2.2 + (1 : Int))))]) (L' := []) (obs := []) (by kernel_rfl) (by kernel_rfl) (by kernel_rfl) allP0 ?_
            exact round_next' (by kernel_rfl) (by kernel_rfl)
        · replace h := ofF h877 h
          obtain rfl := Option.some.inj h
          refine W_exit (id := 2) [0, 1, 2, 3, 9, 10, 11] [] (fr' := [(0, aD (.slice (.slice .bool)) a0), (1, aI a1), (2, aI a2), (3, aI a3), (9, aB x773.1), (10, aB x773.2.1), (11, aI i665)]) (L' := []) (by kernel_rfl) (by kernel_rfl) ?_
          refine seqQ_exit ?_
          refine round_exit ?_
          exact exQ_mk (by kernel_rfl) (by kernel_rfl)
      · intro e fr L hJ
        obtain ⟨rfl, rfl, rfl⟩ := hJ
        refine LT_keep [0, 1, 2, 3, 9, 10, 11] [] (fr' := [(0, aD (.slice (.slice .bool)) a0), (1, aI a1), (2, aI a2), (3, aI a3), (9, aB v976.1), (10, aB v976.2), (11, aI i665)]) (L' := []) (by kernel_rfl) ?_
        refine blockQ_hit ?_
        refine blockQ_norm ?_
        refine seqQ_norm ?_
        obtain rfl := Option.some.inj h
        refine W_run 3 [] [0, 1, 2, 3, 9, 10, 11] [] (fr' := [(0, aD (.slice (.slice .bool)) a0), (1, aI a1), (2, aI a2), (3, aI a3), (9, aB v976.1), (10, aB v976.2), (11, aI (w64 (i665 + (1 : Int))))]) (L' := []) (obs := []) (by kernel_rfl) (by kernel_rfl) (by kernel_rfl) allP0 ?_
        exact round_next' (by kernel_rfl) (by kernel_rfl)
    · obtain rfl := stepL_false h670 h
      refine W_exit (id := 0) [0, 1, 2, 3, 9, 10] [] (fr' := [(0, aD (.slice (.slice .bool)) a0), (1, aI a1), (2, aI a2), (3, aI a3), (9, aB x666.1), (10, aB x666.2)]) (L' := []) (by kernel_rfl) (by kernel_rfl) ?_
      refine seqQ_exit ?_
      refine round_exit ?_
      exact exQ_mk (by kernel_rfl) (by kernel_rfl)
  · intro e fr L hJ
    obtain ⟨rfl, rfl, rfl⟩ := hJ
    refine LT_keep [0, 1, 2, 3, 9, 10] [] (fr' := [(0, aD (.slice (.slice .bool)) a0), (1, aI a1), (2, aI a2), (3, aI a3), (9, aB v981.1), (10, aB v981.2)]) (L' := []) (by kernel_rfl) ?_
    refine blockQ_hit ?_
    refine seqQ_norm ?_
    refine W_seq (by kernel_rfl) ?_
    refine W_seq (by kernel_rfl) ?_
    refine W_run 6 [] [0, 1, 2, 3, 63] [] (fr' := [(0, aD (.slice (.slice .bool)) a0), (1, aI a1), (2, aI a2), (3, aI a3), (63, aB ((!v981.1) || (!v981.2)))]) (L' := []) (obs := []) (by kernel_rfl) (by kernel_rfl) (by kernel_rfl) allP0 ?_
    refine seqQ_norm ?_
    refine W_cond (o := .tmp 63) (b := (!v981.1) || (!v981.2)) (by kernel_rfl) (by kernel_rfl) (fun h986 => ?_) (fun h986 => ?_)
    · replace h := ofT h986 h
      refine W_seq (by kernel_rfl) ?_
      refine W_run 1 [] [8] [] (fr' := [(8, aB true)]) (L' := []) (obs := []) (by kernel_rfl) (by kernel_rfl) (by kernel_rfl) allP0 ?_
      refine seqQ_norm ?_
      obtain rfl := Option.some.inj h
      refine W_ret [8] [] (fr' := [(8, aB true)]) (L' := []) (by kernel_rfl) (by kernel_rfl) ?_
      refine seqQ_ret ?_
      exact retQ_mk (by kernel_rfl) (by kernel_rfl) (by kernel_rfl)
    · replace h := ofF h986 h
      refine W_skip [0, 1, 2, 3] [] (fr' := [(0, aD (.slice (.slice .bool)) a0), (1, aI a1), (2, aI a2), (3, aI a3)]) (L' := []) (by kernel_rfl) (by kernel_rfl) ?_
      refine seqQ_norm ?_
      refine W_seq (by kernel_rfl) ?_
      refine W_seq (by kernel_rfl) ?_
      refine W_run 2 [] [0, 1, 2, 3, 65] [] (fr' := [(0, aD (.slice (.slice .bool)) a0), (1, aI a1), (2, aI a2), (3, aI a3), (65, aB (a3 == (0 : Int)))]) (L' := []) (obs := []) (by kernel_rfl) (by kernel_rfl) (by kernel_rfl) allP0 ?_
      refine seqQ_norm ?_
      refine W_cond (o := .tmp 65) (b := a3 == (0 : Int)) (by kernel_rfl) (by kernel_rfl) (fun h987 => ?_) (fun h987 => ?_)
      · replace h := ofT h987 h
        refine W_seq (by kernel_rfl) ?_
        refine W_run 1 [] [8] [] (fr' := [(8, aB false)]) (L' := []) (obs := []) (by kernel_rfl) (by kernel_rfl) (by kernel_rfl) allP0 ?_
        refine seqQ_norm ?_
        obtain rfl := Option.some.inj h
        refine W_ret [8] [] (fr' := [(8, aB false)]) (L' := []) (by kernel_rfl) (by kernel_rfl) ?_
        refine seqQ_ret ?_
        exact retQ_mk (by kernel_rfl) (by kernel_rfl) (by kernel_rfl)
      · replace h := ofF h987 h
        refine W_skip [0, 1, 2, 3] [] (fr' := [(0, aD (.slice (.slice .bool)) a0), (1, aI a1), (2, aI a2), (3, aI a3)]) (L' := []) (by kernel_rfl) (by kernel_rfl) ?_
        refine seqQ_norm ?_
        refine W_seq (by kernel_rfl) ?_
        refine W_seq (by kernel_rfl) ?_
        refine W_run 1 [] [0, 1, 2, 3, 13] [] (fr' := [(0, aD (.slice (.slice .bool)) a0), (1, aI a1), (2, aI a2), (3, aI a3), (13, aI (1 : Int))]) (L' := []) (obs := []) (by kernel_rfl) (by kernel_rfl) (by kernel_rfl) allP0 ?_
        refine seqQ_norm ?_
        refine W_block (id := 4) (by kernel_rfl) ?_
        obtain ⟨v1060, h1061, h⟩ := bind_of h
        obtain ⟨h1062, h1063⟩ := forI_iter h1061
        refine W_weaken [0, 1, 2, 3, 13] [] (fr' := ((ref_Talks_s89 a0 a1 a2 a3) ((1 : Int), ())).1) (L' := ((ref_Talks_s89 a0 a1 a2 a3) ((1 : Int), ())).2) (by kernel_rfl) ?_
        refine W_cutK (W_loop (S := (ref_Talks_s89 a0 a1 a2 a3)) (J := (escQ (exQ .ret ref_Talks_s90) (exQ (.exit 4) (ref_Talks_s91 a0 a1 a2 a3)))) (by kernel_rfl) ?_ h1062 _ v1060 h1063) ?_
        · rintro ⟨i1034, x1035⟩ s h
          refine W_seq (by kernel_rfl) ?_
          refine W_seq (by kernel_rfl) ?_
          refine W_run 3 [] [0, 1, 2, 3, 13, 68] [] (fr' := [(0, aD (.slice (.slice .bool)) a0), (1, aI a1), (2, aI a2), (3, aI a3), (13, aI i1034), (68, aB (decide (i1034 < a1)))]) (L' := []) (obs := []) (by kernel_rfl) (by kernel_rfl) (by kernel_rfl) allP0 ?_
          refine seqQ_norm ?_
          refine W_cond (o := .tmp 68) (b := decide (i1034 < a1)) (by kernel_rfl) (by kernel_rfl) (fun h1037 => ?_) (fun h1037 => ?_)
          · replace h := stepI_true h1037 h
            obtain ⟨_, h, rfl⟩ := h
            refine W_skip [0, 1, 2, 3, 13] [] (fr' := [(0, aD (.slice (.slice .bool)) a0), (1, aI a1), (2, aI a2), (3, aI a3), (13, aI i1034)]) (L' := []) (by kernel_rfl) (by kernel_rfl) ?_
            refine seqQ_norm ?_
            refine W_seq (by kernel_rfl) ?_
            refine W_block (id := 5) (by kernel_rfl) ?_
            refine W_seq (by kernel_rfl) ?_
            obtain ⟨v1056, h1057, h⟩ := bind_of h
            refine W_cutK (Q' := (exQ .normal (ref_Talks_s87 a0 a1 a2 a3 i1034)) v1056) ?_ ?_
            · replace h := h1057
              refine W_region (by kernel_rfl) ?_
              refine WO_run (j := 6) (k := 6) (orcs := []) (kF := [0, 1, 2, 3, 13, 76]) (kL := []) (fr' := [(0, aD (.slice (.slice .bool)) a0), (1, aI a1), (2, aI a2), (3, aI a3), (13, aI i1034), (76, aB ((bOr .i64 i1034 a1) == a1))]) (L' := []) (obs := []) rfl (by kernel_rfl) allP0 ?_
              rcases Bool.eq_false_or_eq_true ((bOr .i64 i1034 a1) == a1) with h1050 | h1050
              · replace h := ofT h1050 h
                refine WO_run (j := 11) (k := 5) (orcs := [(12, .known true), (14, .known true), (16, .known true), (18, .known true), (20, .known true)]) (kF := [0, 1, 2, 3, 13, 76, 77, 78, 79, 81]) (kL := []) (fr' := [(0, aD (.slice (.slice .bool)) a0), (1, aI a1), (2, aI a2), (3, aI a3), (13, aI i1034), (76, aB ((bOr .i64 i1034 a1) == a1)), (77, aD (.slice (.slice .bool)) a0), (78, aI i1034), (79, aI a2), (81, aI (w64 (a3 - (1 : Int))))]) (L' := []) (obs := [(((bOr .i64 i1034 a1) == a1) = true), (((bOr .i64 i1034 a1) == a1) = true), (((bOr .i64 i1034 a1) == a1) = true), (((bOr .i64 i1034 a1) == a1) = true), (((bOr .i64 i1034 a1) == a1) = true)]) rfl (by kernel_rfl) (allP2 h1050 (allP2 h1050 (allP2 h1050 (allP2 h1050 (allP1 h1050))))) ?_
                obtain ⟨r1051, h1052, h⟩ := bind_of h
                refine WO_call0 (us := [none, none, none, none]) (d := 82) (p := (((bOr .i64 i1034 a1) == a1) = true)) (j := 12) rfl ⟨by kernel_rfl, by kernel_rfl, by kernel_rfl⟩ h1050 (ih_ref_Talks h1052) (by kernel_rfl) ?_
                refine WO_run (j := 14) (k := 2) (orcs := [(25, .val (.dat .bool true))]) (kF := [0, 1, 2, 3, 13, 84]) (kL := []) (fr' := [(0, aD (.slice (.slice .bool)) a0), (1, aI a1), (2, aI a2), (3, aI a3), (13, aI i1034), (84, aB r1051)]) (L' := []) (obs := [(((bOr .i64 i1034 a1) == a1) = true)]) rfl (by kernel_rfl) (allP1 h1050) ?_
                rcases Bool.eq_false_or_eq_true (r1051) with h1053 | h1053
                · replace h := ofT h1053 h
                  refine WO_run (j := 21) (k := 7) (orcs := [(28, .known true), (30, .known true), (32, .known true), (34, .known true), (36, .known true), (38, .known true), (40, .known true)]) (kF := [0, 1, 2, 3, 13, 84, 85, 88, 89, 91]) (kL := []) (fr' := [(0, aD (.slice (.slice .bool)) a0), (1, aI a1), (2, aI a2), (3, aI a3), (13, aI i1034), (84, aB r1051), (85, aD (.slice (.slice .bool)) a0), (88, aI (w64 (a1 - i1034))), (89, aI a2), (91, aI (w64 (a3 - (1 : Int))))]) (L' := []) (obs := [(r1051 = true), (r1051 = true), (r1051 = true), (r1051 = true), (r1051 = true), (r1051 = true), (r1051 = true)]) rfl (by kernel_rfl) (allP2 h1053 (allP2 h1053 (allP2 h1053 (allP2 h1053 (allP2 h1053 (allP2 h1053 (allP1 h1053))))))) ?_
                  obtain ⟨r1054, h1055, h⟩ := bind_of h
                  refine WO_call0 (us := [none, none, none, none]) (d := 92) (p := (r1051 = true)) (j := 22) rfl ⟨by kernel_rfl, by kernel_rfl, by kernel_rfl⟩ h1053 (ih_ref_Talks h1055) (by kernel_rfl) ?_
                  refine WO_run (j := 23) (k := 1) (orcs := [(45, .val (.dat .bool true))]) (kF := [0, 1, 2, 3, 13, 93]) (kL := []) (fr' := [(0, aD (.slice (.slice .bool)) a0), (1, aI a1), (2, aI a2), (3, aI a3), (13, aI i1034), (93, aB r1054)]) (L' := []) (obs := [(r1051 = true)]) rfl (by kernel_rfl) (allP1 h1053) ?_
                  obtain rfl := Option.some.inj h
                  refine WO_fin [0, 1, 2, 3, 13, 93] [] (fr' := [(0, aD (.slice (.slice .bool)) a0), (1, aI a1), (2, aI a2), (3, aI a3), (13, aI i1034), (93, aB r1054)]) (L' := []) (by kernel_rfl) (by kernel_rfl) ?_
                  exact exQ_mk (by kernel_rfl) (by kernel_rfl)
                · replace h := ofF h1053 h
                  refine WO_run (j := 23) (k := 9) (orcs := [(28, .known false), (30, .known false), (32, .known false), (34, .known false), (36, .known false), (38, .known false), (40, .known false), (42, .known false), (45, .val (.dat .bool false))]) (kF := [0, 1, 2, 3, 13, 93]) (kL := []) (fr' := [(0, aD (.slice (.slice .bool)) a0), (1, aI a1), (2, aI a2), (3, aI a3), (13, aI i1034), (93, aB false)]) (L' := []) (obs := [(r1051 = false), (r1051 = false), (r1051 = false), (r1051 = false), (r1051 = false), (r1051 = false), (r1051 = false), (r1051 = false), (r1051 = false)]) rfl (by kernel_rfl) (allP2 h1053 (allP2 h1053 (allP2 h1053 (allP2 h1053 (allP2 h1053 (allP2 h1053 (allP2 h1053 (allP2 h1053 (allP1 h1053))))))))) ?_
                  obtain rfl := Option.some.inj h
                  refine WO_fin [0, 1, 2, 3, 13, 93] [] (fr' := [(0, aD (.slice (.slice .bool)) a0), (1, aI a1), (2, aI a2), (3, aI a3), (13, aI i1034), (93, aB false)]) (L' := []) (by kernel_rfl) (by kernel_rfl) ?_
                  exact exQ_mk (by kernel_rfl) (by kernel_rfl)
              · replace h := ofF h1050 h
                refine WO_run (j := 23) (k := 17) (orcs := [(12, .known false), (14, .known false), (16, .known false), (18, .known false), (20, .known false), (22, .known false), (25, .val (.dat .bool false)), (28, .known false), (30, .known false), (32, .known false), (34, .known false), (36, .known false), (38, .known false), (40, .known false), (42, .known false), (45, .val (.dat .bool false))]) (kF := [0, 1, 2, 3, 13, 93]) (kL := []) (fr' := [(0, aD (.slice (.slice .bool)) a0), (1, aI a1), (2, aI a2), (3, aI a3), (13, aI i1034), (93, aB false)]) (L' := []) (obs := [(((bOr .i64 i1034 a1) == a1) = false), (((bOr .i64 i1034 a1) == a1) = false), (((bOr .i64 i1034 a1) == a1) = false), (((bOr .i64 i1034 a1) == a1) = false), (((bOr .i64 i1034 a1) == a1) = false), (((bOr .i64 i1034 a1) == a1) = false), (((bOr .i64 i1034 a1) == a1) = false), (false = false), (false = false), (false = false), (false = false), (false = false), (false = false), (false = false), (false = false), (false = false)]) rfl (by kernel_rfl) (allP2 h1050 (allP2 h1050 (allP2 h1050 (allP2 h1050 (allP2 h1050 (allP2 h1050 (allP2 h1050 (allP2 rfl (allP2 rfl (allP2 rfl (allP2 rfl (allP2 rfl (allP2 rfl (allP2 rfl (allP2 rfl (allP1 rfl)))))))))))))))) ?_
                obtain rfl := Option.some.inj h
                refine WO_fin [0, 1, 2, 3, 13, 93] [] (fr' := [(0, aD (.slice (.slice .bool)) a0), (1, aI a1), (2, aI a2), (3, aI a3), (13, aI i1034), (93, aB false)]) (L' := []) (by kernel_rfl) (by kernel_rfl) ?_
                exact exQ_mk (by kernel_rfl) (by kernel_rfl)
            · intro e fr L hJ
              obtain ⟨rfl, rfl, rfl⟩ := hJ
              refine LT_keep [0, 1, 2, 3, 13, 93] [] (fr' := [(0, aD (.slice (.slice .bool)) a0), (1, aI a1), (2, aI a2), (3, aI a3), (13, aI i1034), (93, aB v1056)]) (L' := []) (by kernel_rfl) ?_
              refine seqQ_norm ?_
              refine W_cond (o := .tmp 93) (b := v1056) (by kernel_rfl) (by kernel_rfl) (fun h1058 => ?_) (fun h1058 => ?_)
              · replace h := ofT h1058 h
                refine W_seq (by kernel_rfl) ?_
                refine W_run 1 [] [8] [] (fr' := [(8, aB true)]) (L' := []) (obs := []) (by kernel_rfl) (by kernel_rfl) (by kernel_rfl) allP0 ?_
                refine seqQ_norm ?_
                obtain rfl := Option.some.inj h
                refine W_ret [8] [] (fr' := [(8, aB true)]) (L' := []) (by kernel_rfl) (by kernel_rfl) ?_
                refine blockQ_ret ?_
                refine seqQ_ret ?_
                refine round_ret ?_
                refine escQ_ret ?_
                exact exQ_mk (by kernel_rfl) (by kernel_rfl)
              · replace h := ofF h1058 h
                refine W_skip [0, 1, 2, 3, 13] [] (fr' := [(0, aD (.slice (.slice .bool)) a0), (1, aI a1), (2, aI a2), (3, aI a3), (13, aI i1034)]) (L' := []) (by kernel_rfl) (by kernel_rfl) ?_
                refine blockQ_norm ?_
                refine seqQ_norm ?_
                obtain rfl := Option.some.inj h
                refine W_run 3 [] [0, 1, 2, 3, 13] [] (fr' := [(0, aD (.slice (.slice .bool)) a0), (1, aI a1), (2, aI a2), (3, aI a3), (13, aI (w64 (i1034 + (1 : Int))))]) (L' := []) (obs := []) (by kernel_rfl) (by kernel_rfl) (by kernel_rfl) allP0 ?_
                exact round_next' (by kernel_rfl) (by kernel_rfl)
          · obtain rfl := stepI_false h1037 h
            refine W_exit (id := 4) [0, 1, 2, 3] [] (fr' := [(0, aD (.slice (.slice .bool)) a0), (1, aI a1), (2, aI a2), (3, aI a3)]) (L' := []) (by kernel_rfl) (by kernel_rfl) ?_
            refine seqQ_exit ?_
            refine round_exit ?_
            refine escQ_brk ?_
            exact exQ_mk (by kernel_rfl) (by kernel_rfl)
        · intro e fr L hJ
          rcases v1060 with v1064 | v1065
          · obtain ⟨rfl, rfl, rfl⟩ := hJ
            obtain rfl := Option.some.inj h
            refine LT_keep [8] [] (fr' := [(8, aB v1064)]) (L' := []) (by kernel_rfl) ?_
            refine blockQ_ret ?_
            refine seqQ_ret ?_
            exact retQ_mk (by kernel_rfl) (by kernel_rfl) (by kernel_rfl)
          · obtain ⟨rfl, rfl, rfl⟩ := hJ
            refine LT_keep [0, 1, 2, 3] [] (fr' := [(0, aD (.slice (.slice .bool)) a0), (1, aI a1), (2, aI a2), (3, aI a3)]) (L' := []) (by kernel_rfl) ?_
            refine blockQ_hit ?_
            refine seqQ_norm ?_
            refine W_seq (by kernel_rfl) ?_
            refine W_seq (by kernel_rfl) ?_
            refine W_run 1 [] [0, 1, 2, 3, 14] [] (fr' := [(0, aD (.slice (.slice .bool)) a0), (1, aI a1), (2, aI a2), (3, aI a3), (14, aI (1 : Int))]) (L' := []) (obs := []) (by kernel_rfl) (by kernel_rfl) (by kernel_rfl) allP0 ?_
            refine seqQ_norm ?_
            refine W_block (id := 6) (by kernel_rfl) ?_
            obtain ⟨v1138, h1139, h⟩ := bind_of h
            obtain ⟨h1140, h1141⟩ := forI_iter h1139
            refine W_weaken [0, 1, 2, 3, 14] [] (fr' := ((ref_Talks_s99 a0 a1 a2 a3) ((1 : Int), ())).1) (L' := ((ref_Talks_s99 a0 a1 a2 a3) ((1 : Int), ())).2) (by kernel_rfl) ?_
            refine W_cutK (W_loop (S := (ref_Talks_s99 a0 a1 a2 a3)) (J := (escQ (exQ .ret ref_Talks_s100) (exQ (.exit 6) ref_Talks_s101))) (by kernel_rfl) ?_ h1140 _ v1138 h1141) ?_
            · rintro ⟨i1112, x1113⟩ s h
              refine W_seq (by kernel_rfl) ?_
              refine W_seq (by kernel_rfl) ?_
              refine W_run 3 [] [0, 1, 2, 3, 14, 96] [] (fr' := [(0, aD (.slice (.slice .bool)) a0), (1, aI a1), (2, aI a2), (3, aI a3), (14, aI i1112), (96, aB (decide (i1112 < a2)))]) (L' := []) (obs := []) (by kernel_rfl) (by kernel_rfl) (by kernel_rfl) allP0 ?_
              refine seqQ_norm ?_
              refine W_cond (o := .tmp 96) (b := decide (i1112 < a2)) (by kernel_rfl) (by kernel_rfl) (fun h1115 => ?_) (fun h1115 => ?_)
              · replace h := stepI_true h1115 h
                obtain ⟨_, h, rfl⟩ := h
                refine W_skip [0, 1, 2, 3, 14] [] (fr' := [(0, aD (.slice (.slice .bool)) a0), (1, aI a1), (2, aI a2), (3, aI a3), (14, aI i1112)]) (L' := []) (by kernel_rfl) (by kernel_rfl) ?_
                refine seqQ_norm ?_
                refine W_seq (by kernel_rfl) ?_
                refine W_block (id := 7) (by kernel_rfl) ?_
                refine W_seq (by kernel_rfl) ?_
                obtain ⟨v1134, h1135, h⟩ := bind_of h
                refine W_cutK (Q' := (exQ .normal (ref_Talks_s97 a0 a1 a2 a3 i1112)) v1134) ?_ ?_
                · replace h := h1135
                  refine W_region (by kernel_rfl) ?_
                  refine WO_run (j := 6) (k := 6) (orcs := []) (kF := [0, 1, 2, 3, 14, 104]) (kL := []) (fr' := [(0, aD (.slice (.slice .bool)) a0), (1, aI a1), (2, aI a2), (3, aI a3), (14, aI i1112), (104, aB ((bOr .i64 i1112 a2) == a2))]) (L' := []) (obs := []) rfl (by kernel_rfl) allP0 ?_
                  rcases Bool.eq_false_or_eq_true ((bOr .i64 i1112 a2) == a2) with h1128 | h1128
                  · replace h := ofT h1128 h
                    refine WO_run (j := 11) (k := 5) (orcs := [(12, .known true), (14, .known true), (16, .known true), (18, .known true), (20, .known true)]) (kF := [0, 1, 2, 3, 14, 104, 105, 106, 107, 109]) (kL := []) (fr' := [(0, aD (.slice (.slice .bool)) a0), (1, aI a1), (2, aI a2), (3, aI a3), (14, aI i1112), (104, aB ((bOr .i64 i1112 a2) == a2)), (105, aD (.slice (.slice .bool)) a0), (106, aI a1), (107, aI i1112), (109, aI (w64 (a3 - (1 : Int))))]) (L' := []) (obs := [(((bOr .i64 i1112 a2) == a2) = true), (((bOr .i64 i1112 a2) == a2) = true), (((bOr .i64 i1112 a2) == a2) = true), (((bOr .i64 i1112 a2) == a2) = true), (((bOr .i64 i1112 a2) == a2) = true)]) rfl (by kernel_rfl) (allP2 h1128 (allP2 h1128 (allP2 h1128 (allP2 h1128 (allP1 h1128))))) ?_
                    obtain ⟨r1129, h1130, h⟩ := bind_of h
                    refine WO_call0 (us := [none, none, none, none]) (d := 110) (p := (((bOr .i64 i1112 a2) == a2) = true)) (j := 12) rfl ⟨by kernel_rfl, by kernel_rfl, by kernel_rfl⟩ h1128 (ih_ref_Talks h1130) (by kernel_rfl) ?_
                    refine WO_run (j := 14) (k := 2) (orcs := [(25, .val (.dat .bool true))]) (kF := [0, 1, 2, 3, 14, 112]) (kL := []) (fr' := [(0, aD (.slice (.slice .bool)) a0), (1, aI a1), (2, aI a2), (3, aI a3), (14, aI i1112), (112, aB r1129)]) (L' := []) (obs := [(((bOr .i64 i1112 a2) == a2) = true)]) rfl (by kernel_rfl) (allP1 h1128) ?_
                    rcases Bool.eq_false_or_eq_true (r1129) with h1131 | h1131
                    · replace h := ofT h1131 h
                      refine WO_run (j := 21) (k := 7) (orcs := [(28, .known true), (30, .known true), (32, .known true), (34, .known true), (36, .known true), (38, .known true), (40, .known true)]) (kF := [0, 1, 2, 3, 14, 112, 113, 114, 117, 119]) (kL := []) (fr' := [(0, aD (.slice (.slice .bool)) a0), (1, aI a1), (2, aI a2), (3, aI a3), (14, aI i1112), (112, aB r1129), (113, aD (.slice (.slice .bool)) a0), (114, aI a1), (117, aI (w64 (a2 - i1112))), (119, aI (w64 (a3 - (1 : Int))))]) (L' := []) (obs := [(r1129 = true), (r1129 = true), (r1129 = true), (r1129 = true), (r1129 = true), (r1129 = true), (r1129 = true)]) rfl (by kernel_rfl) (allP2 h1131 (allP2 h1131 (allP2 h1131 (allP2 h1131 (allP2 h1131 (allP2 h1131 (allP1 h1131))))))) ?_
                      obtain ⟨r1132, h1133, h⟩ := bind_of h
                      refine WO_call0 (us := [none, none, none, none]) (d := 120) (p := (r1129 = true)) (j := 22) rfl ⟨by kernel_rfl, by kernel_rfl, by kernel_rfl⟩ h1131 (ih_ref_Talks h1133) (by kernel_rfl) ?_
                      refine WO_run (j := 23) (k := 1) (orcs := [(45, .val (.dat .bool true))]) (kF := [0, 1, 2, 3, 14, 121]) (kL := []) (fr' := [(0, aD (.slice (.slice .bool)) a0), (1, aI a1), (2, aI a2), (3, aI a3), (14, aI i1112), (121, aB r1132)]) (L' := []) (obs := [(r1129 = true)]) rfl (by kernel_rfl) (allP1 h1131) ?_
                      obtain rfl := Option.some.inj h
                      refine WO_fin [0, 1, 2, 3, 14, 121] [] (fr' := [(0, aD (.slice (.slice .bool)) a0), (1, aI a1), (2, aI a2), (3, aI a3), (14, aI i1112), (121, aB r1132)]) (L' := []) (by kernel_rfl) (by kernel_rfl) ?_
                      exact exQ_mk (by kernel_rfl) (by kernel_rfl)
                    · replace h := ofF h1131 h
                      refine WO_run (j := 23) (k := 9) (orcs := [(28, .known false), (30, .known false), (32, .known false), (34, .known false), (36, .known false), (38, .known false), (40, .known false), (42, .known false), (45, .val (.dat .bool false))]) (kF := [0, 1, 2, 3, 14, 121]) (kL := []) (fr' := [(0, aD (.slice (.slice .bool)) a0), (1, aI a1), (2, aI a2), (3, aI a3), (14, aI i1112), (121, aB false)]) (L' := []) (obs := [(r1129 = false), (r1129 = false), (r1129 = false), (r1129 = false), (r1129 = false), (r1129 = false), (r1129 = false), (r1129 = false), (r1129 = false)]) rfl (by kernel_rfl) (allP2 h1131 (allP2 h1131 (allP2 h1131 (allP2 h1131 (allP2 h1131 (allP2 h1131 (allP2 h1131 (allP2 h1131 (allP1 h1131))))))))) ?_
                      obtain rfl := Option.some.inj h
                      refine WO_fin [0, 1, 2, 3, 14, 121] [] (fr' := [(0, aD (.slice (.slice .bool)) a0), (1, aI a1), (2, aI a2), (3, aI a3), (14, aI i1112), (121, aB false)]) (L' := []) (by kernel_rfl) (by kernel_rfl) ?_
                      exact exQ_mk (by kernel_rfl) (by kernel_rfl)
                  · replace h := ofF h1128 h
                    refine WO_run (j := 23) (k := 17) (orcs := [(12, .known false), (14, .known false), (16, .known false), (18, .known false), (20, .known false), (22, .known false), (25, .val (.dat .bool false)), (28, .known false), (30, .known false), (32, .known false), (34, .known false), (36, .known false), (38, .known false), (40, .known false), (42, .known false), (45, .val (.dat .bool false))]) (kF := [0, 1, 2, 3, 14, 121]) (kL := []) (fr' := [(0, aD (.slice (.slice .bool)) a0), (1, aI a1), (2, aI a2), (3, aI a3), (14, aI i1112), (121, aB false)]) (L' := []) (obs := [(((bOr .i64 i1112 a2) == a2) = false), (((bOr .i64 i1112 a2) == a2) = false), (((bOr .i64 i1112 a2) == a2) = false), (((bOr .i64 i1112 a2) == a2) = false), (((bOr .i64 i1112 a2) == a2) = false), (((bOr .i64 i1112 a2) == a2) = false), (((bOr .i64 i1112 a2) == a2) = false), (false = false), (false = false), (false = false), (false = false), (false = false), (false = false), (false = false), (false = false), (false = false)]) rfl (by kernel_rfl) (allP2 h1128 (allP2 h1128 (allP2 h1128 (allP2 h1128 (allP2 h1128 (allP2 h1128 (allP2 h1128 (allP2 rfl (allP2 rfl (allP2 rfl (allP2 rfl (allP2 rfl (allP2 rfl (allP2 rfl (allP2 rfl (allP1 rfl)))))))))))))))) ?_
                    obtain rfl := Option.some.inj h
                    refine WO_fin [0, 1, 2, 3, 14, 121] [] (fr' := [(0, aD (.slice (.slice .bool)) a0), (1, aI a1), (2, aI a2), (3, aI a3), (14, aI i1112), (121, aB false)]) (L' := []) (by kernel_rfl) (by kernel_rfl) ?_
                    exact exQ_mk (by kernel_rfl) (by kernel_rfl)
                · intro e fr L hJ
                  obtain ⟨rfl, rfl, rfl⟩ := hJ
                  refine LT_keep [0, 1, 2, 3, 14, 121] [] (fr' := [(0, aD (.slice (.slice .bool)) a0), (1, aI a1), (2, aI a2), (3, aI a3), (14, aI i1112), (121, aB v1134)]) (L' := []) (by kernel_rfl) ?_
                  refine seqQ_norm ?_
                  refine W_cond (o := .tmp 121) (b := v1134) (by kernel_rfl) (by kernel_rfl) (fun h1136 => ?_) (fun h1136 => ?_)
                  · replace h := ofT h1136 h
                    refine W_seq (by kernel_rfl) ?_
                    refine W_run 1 [] [8] [] (fr' := [(8, aB true)]) (L' := []) (obs := []) (by kernel_rfl) (by kernel_rfl) (by kernel_rfl) allP0 ?_
                    refine seqQ_norm ?_
                    obtain rfl := Option.some.inj h
                    refine W_ret [8] [] (fr' := [(8, aB true)]) (L' := []) (by kernel_rfl) (by kernel_rfl) ?_
                    refine blockQ_ret ?_
                    refine seqQ_ret ?_
                    refine round_ret ?_
                    refine escQ_ret ?_
                    exact exQ_mk (by kernel_rfl) (by kernel_rfl)
                  · replace h := ofF h1136 h
                    refine W_skip [0, 1, 2, 3, 14] [] (fr' := [(0, aD (.slice (.slice .bool)) a0), (1, aI a1), (2, aI a2), (3, aI a3), (14, aI i1112)]) (L' := []) (by kernel_rfl) (by kernel_rfl) ?_
                    refine blockQ_norm ?_
                    refine seqQ_norm ?_
                    obtain rfl := Option.some.inj h
                    refine W_run 3 [] [0, 1, 2, 3, 14] [] (fr' := [(0, aD (.slice (.slice .bool)) a0), (1, aI a1), (2, aI a2), (3, aI a3), (14, aI (w64 (i1112 + (1 : Int))))]) (L' := []) (obs := []) (by kernel_rfl) (by kernel_rfl) (by kernel_rfl) allP0 ?_
                    exact round_next' (by kernel_rfl) (by kernel_rfl)
              · obtain rfl := stepI_false h1115 h
                refine W_exit (id := 6) [] [] (fr' := []) (L' := []) (by kernel_rfl) (by kernel_rfl) ?_
                refine seqQ_exit ?_
                refine round_exit ?_
                refine escQ_brk ?_
                exact exQ_mk (by kernel_rfl) (by kernel_rfl)
            · intro e fr L hJ
              rcases v1138 with v1142 | v1143
              · obtain ⟨rfl, rfl, rfl⟩ := hJ
                obtain rfl := Option.some.inj h
                refine LT_keep [8] [] (fr' := [(8, aB v1142)]) (L' := []) (by kernel_rfl) ?_
                refine blockQ_ret ?_
                refine seqQ_ret ?_
                exact retQ_mk (by kernel_rfl) (by kernel_rfl) (by kernel_rfl)
              · obtain ⟨rfl, rfl, rfl⟩ := hJ
                refine LT_keep [] [] (fr' := []) (L' := []) (by kernel_rfl) ?_
                refine blockQ_hit ?_
                refine seqQ_norm ?_
                refine W_seq (by kernel_rfl) ?_
                refine W_run 1 [] [8] [] (fr' := [(8, aB false)]) (L' := []) (obs := []) (by kernel_rfl) (by kernel_rfl) (by kernel_rfl) allP0 ?_
                refine seqQ_norm ?_
                obtain rfl := Option.some.inj h
                refine W_ret [8] [] (fr' := [(8, aB false)]) (L' := []) (by kernel_rfl) (by kernel_rfl) ?_
                exact retQ_mk (by kernel_rfl) (by kernel_rfl) (by kernel_rfl)
theorem ref_Talks_ok : ∀ {fuel : Nat} {a0 : (List (List Bool))} {a1 : Int} {a2 : Int} {a3 : Int} {r : Bool}, ref_Talks fuel a0 a1 a2 a3 = some r → FnC Try.prog 18 [aD (.slice (.slice .bool)) a0, aI a1, aI a2, aI a3] [] (aB r) [] := by
  intro fuel
  induction fuel with
  | zero => intros a0 a1 a2 a3 r h; cases h
  | succ fuel ih => intros a0 a1 a2 a3 r h; exact ref_Talks_step_ok (fun h => ih h) (show ref_Talks_step (ref_Talks fuel) fuel a0 a1 a2 a3 = some r from h)

def law_TalkLeasts_g1 (a0 : (List (List Bool))) (fuel : Nat) (r1 : (Int × Int)) (v8 : (List Bool)) : Option Bool :=
bif r1.2 == (0 : Int) then
((ref_Talks fuel a0 (w64 ((bShl .i64 (1 : Int) (IntKind.wrap .u64 ((List.length a0 : Int)))) - (1 : Int))) (w64 ((bShl .i64 (1 : Int) (IntKind.wrap .u64 ((List.length v8 : Int)))) - (1 : Int))) r1.1).bind fun r26 =>
bif r26 then
(bif r1.1 == (0 : Int) then
(some true)
else
((ref_Talks fuel a0 (w64 ((bShl .i64 (1 : Int) (IntKind.wrap .u64 ((List.length a0 : Int)))) - (1 : Int))) (w64 ((bShl .i64 (1 : Int) (IntKind.wrap .u64 ((List.length v8 : Int)))) - (1 : Int))) (w64 (r1.1 - (1 : Int)))).bind fun r30 =>
some (!r30)))
else
(some false))
else
(some false)
@[reducible] def law_TalkLeasts_s2 (v : Bool) : Fr × LL := ([(2, aB v)], [])
def law_TalkLeasts (fuel : Nat) (a0 : (List (List Bool))) : Option Bool :=
(talk_Least fuel a0).bind fun r1 =>
(ref_TalkCheck a0).bind fun r3 =>
bif r3 != (0 : Int) then
(some ((r1.2 == r3) && (r1.1 == (0 : Int))))
else
(bif (decide (r1.1 < (0 : Int))) || (decide (r1.1 > (8 : Int))) then
(some false)
else
((ck (0 ≤ IntKind.wrap .u64 ((List.length a0 : Int)))).bind fun _ =>
(idx a0 (0 : Int)).bind fun v8 =>
(ck (0 ≤ IntKind.wrap .u64 ((List.length v8 : Int)))).bind fun _ =>
(law_TalkLeasts_g1 a0 fuel r1 v8).bind fun v32 =>
some v32))
theorem law_TalkLeasts_ok {fuel : Nat} {a0 : (List (List Bool))} {r : Bool} (h : law_TalkLeasts fuel a0 = some r) : FnC Try.prog 5 [aD (.slice (.slice .bool)) a0] [] (aB r) [] := by
  refine fnC_of_W (B := bodyOf Try.f5) (n := 64) Try.func5 (by kernel_rfl) (by kernel_rfl) (by kernel_rfl) (by kernel_rfl) (by kernel_rfl) ?_
  intro K
  refine W_seq (by kernel_rfl) ?_
  refine W_run 1 [] [0] [] (fr' := [(0, aD (.slice (.slice .bool)) a0)]) (L' := []) (obs := []) (by kernel_rfl) (by kernel_rfl) (by kernel_rfl) allP0 ?_
  refine seqQ_norm ?_
  refine W_seq (by kernel_rfl) ?_
  refine W_region (by kernel_rfl) ?_
  refine WO_run (j := 1) (k := 1) (orcs := []) (kF := [0, 9]) (kL := []) (fr' := [(0, aD (.slice (.slice .bool)) a0), (9, aD (.slice (.slice .bool)) a0)]) (L' := []) (obs := []) rfl (by kernel_rfl) allP0 ?_
  obtain ⟨r1, h2, h⟩ := bind_of h
  refine WO_call0 (us := [none]) (d := 10) (p := True) (j := 2) rfl ⟨by kernel_rfl, by kernel_rfl, by kernel_rfl⟩ trivial (talk_Least_ok h2) (by kernel_rfl) ?_
  refine WO_run (j := 7) (k := 5) (orcs := []) (kF := [0, 3, 4]) (kL := []) (fr' := [(0, aD (.slice (.slice .bool)) a0), (3, aI r1.1), (4, aI r1.2)]) (L' := []) (obs := []) rfl (by kernel_rfl) allP0 ?_
  refine WO_fin [0, 3, 4] [] (fr' := [(0, aD (.slice (.slice .bool)) a0), (3, aI r1.1), (4, aI r1.2)]) (L' := []) (by kernel_rfl) (by kernel_rfl) ?_
  refine seqQ_norm ?_
  refine W_seq (by kernel_rfl) ?_
  refine W_region (by kernel_rfl) ?_
  refine WO_run (j := 1) (k := 1) (orcs := []) (kF := [0, 3, 4, 13]) (kL := []) (fr' := [(0, aD (.slice (.slice .bool)) a0), (3, aI r1.1), (4, aI r1.2), (13, aD (.slice (.slice .bool)) a0)]) (L' := []) (obs := []) rfl (by kernel_rfl) allP0 ?_
  obtain ⟨r3, h4, h⟩ := bind_of h
  refine WO_call0 (us := [none]) (d := 14) (p := True) (j := 2) rfl ⟨by kernel_rfl, by kernel_rfl, by kernel_rfl⟩ trivial (ref_TalkCheck_ok h4) (by kernel_rfl) ?_
  refine WO_run (j := 3) (k := 1) (orcs := []) (kF := [0, 3, 4, 5]) (kL := []) (fr' := [(0, aD (.slice (.slice .bool)) a0), (3, aI r1.1), (4, aI r1.2), (5, aI r3)]) (L' := []) (obs := []) rfl (by kernel_rfl) allP0 ?_
  refine WO_fin [0, 3, 4, 5] [] (fr' := [(0, aD (.slice (.slice .bool)) a0), (3, aI r1.1), (4, aI r1.2), (5, aI r3)]) (L' := []) (by kernel_rfl) (by kernel_rfl) ?_
  refine seqQ_norm ?_
  refine W_seq (by kernel_rfl) ?_
  refine W_seq (by kernel_rfl) ?_
  refine W_run 2 [] [0, 3, 4, 5, 16] [] (fr' := [(0, aD (.slice (.slice .bool)) a0), (3, aI r1.1), (4, aI r1.2), (5, aI r3), (16, aB (r3 != (0 : Int)))]) (L' := []) (obs := []) (by kernel_rfl) (by kernel_rfl) (by kernel_rfl) allP0 ?_
  refine seqQ_norm ?_
  refine W_cond (o := .tmp 16) (b := r3 != (0 : Int)) (by kernel_rfl) (by kernel_rfl) (fun h5 => ?_) (fun h5 => ?_)
  · replace h := ofT h5 h
    refine W_seq (by kernel_rfl) ?_
    refine W_run 8 [] [2] [] (fr' := [(2, aB ((r1.2 == r3) && (r1.1 == (0 : Int))))]) (L' := []) (obs := []) (by kernel_rfl) (by kernel_rfl) (by kernel_rfl) allP0 ?_
    refine seqQ_norm ?_
    obtain rfl := Option.some.inj h
    refine W_ret [2] [] (fr' := [(2, aB ((r1.2 == r3) && (r1.1 == (0 : Int))))]) (L' := []) (by kernel_rfl) (by kernel_rfl) ?_
    refine seqQ_ret ?_
    exact retQ_mk (by kernel_rfl) (by kernel_rfl) (by kernel_rfl)
  · replace h := ofF h5 h
    refine W_skip [0, 3, 4] [] (fr' := [(0, aD (.slice (.slice .bool)) a0), (3, aI r1.1), (4, aI r1.2)]) (L' := []) (by kernel_rfl) (by kernel_rfl) ?_
    refine seqQ_norm ?_
    refine W_seq (by kernel_rfl) ?_
    refine W_seq (by kernel_rfl) ?_
    refine W_run 6 [] [0, 3, 4, 29] [] (fr' := [(0, aD (.slice (.slice .bool)) a0), (3, aI r1.1), (4, aI r1.2), (29, aB ((decide (r1.1 < (0 : Int))) || (decide (r1.1 > (8 : Int)))))]) (L' := []) (obs := []) (by kernel_rfl) (by kernel_rfl) (by kernel_rfl) allP0 ?_
    refine seqQ_norm ?_
    refine W_cond (o := .tmp 29) (b := (decide (r1.1 < (0 : Int))) || (decide (r1.1 > (8 : Int)))) (by kernel_rfl) (by kernel_rfl) (fun h6 => ?_) (fun h6 => ?_)
    · replace h := ofT h6 h
      refine W_seq (by kernel_rfl) ?_
      refine W_run 1 [] [2] [] (fr' := [(2, aB false)]) (L' := []) (obs := []) (by kernel_rfl) (by kernel_rfl) (by kernel_rfl) allP0 ?_
      refine seqQ_norm ?_
      obtain rfl := Option.some.inj h
      refine W_ret [2] [] (fr' := [(2, aB false)]) (L' := []) (by kernel_rfl) (by kernel_rfl) ?_
      refine seqQ_ret ?_
      exact retQ_mk (by kernel_rfl) (by kernel_rfl) (by kernel_rfl)
    · replace h := ofF h6 h
      refine W_skip [0, 3, 4] [] (fr' := [(0, aD (.slice (.slice .bool)) a0), (3, aI r1.1), (4, aI r1.2)]) (L' := []) (by kernel_rfl) (by kernel_rfl) ?_
      refine seqQ_norm ?_
      refine W_seq (by kernel_rfl) ?_
      obtain ⟨_, h7, h⟩ := bind_of h
      replace h7 := ck_some h7
      refine W_run 6 [] [0, 3, 4, 6] [] (fr' := [(0, aD (.slice (.slice .bool)) a0), (3, aI r1.1), (4, aI r1.2), (6, aI (w64 ((bShl .i64 (1 : Int) (IntKind.wrap .u64 ((List.length a0 : Int)))) - (1 : Int))))]) (L' := []) (obs := [(0 ≤ IntKind.wrap .u64 ((List.length a0 : Int)))]) (by kernel_rfl) (by kernel_rfl) (by kernel_rfl) (allP1 h7) ?_
      refine seqQ_norm ?_
      refine W_seq (by kernel_rfl) ?_
      obtain ⟨v8, h9, h⟩ := bind_of h
      obtain ⟨_, h10, h⟩ := bind_of h
      replace h10 := ck_some h10
      refine W_run 8 [(3, .val (.dat (.slice .bool) v8))] [0, 3, 4, 6, 7] [] (fr' := [(0, aD (.slice (.slice .bool)) a0), (3, aI r1.1), (4, aI r1.2), (6, aI (w64 ((bShl .i64 (1 : Int) (IntKind.wrap .u64 ((List.length a0 : Int)))) - (1 : Int)))), (7, aI (w64 ((bShl .i64 (1 : Int) (IntKind.wrap .u64 ((List.length v8 : Int)))) - (1 : Int))))]) (L' := []) (obs := [Idx a0 (0 : Int) v8, (0 ≤ IntKind.wrap .u64 ((List.length v8 : Int)))]) (by kernel_rfl) (by kernel_rfl) (by kernel_rfl) (allP2 (Idx.of h9) (allP1 h10)) ?_
      refine seqQ_norm ?_
      refine W_seq (by kernel_rfl) ?_
      obtain ⟨v32, h33, h⟩ := bind_of h
      refine W_cutK (Q' := (exQ .normal law_TalkLeasts_s2) v32) ?_ ?_
      · replace h := h33
        refine W_region (by kernel_rfl) ?_
        refine WO_run (j := 3) (k := 3) (orcs := []) (kF := [0, 3, 6, 7, 44]) (kL := []) (fr' := [(0, aD (.slice (.slice .bool)) a0), (3, aI r1.1), (6, aI (w64 ((bShl .i64 (1 : Int) (IntKind.wrap .u64 ((List.length a0 : Int)))) - (1 : Int)))), (7, aI (w64 ((bShl .i64 (1 : Int) (IntKind.wrap .u64 ((List.length v8 : Int)))) - (1 : Int)))), (44, aB (r1.2 == (0 : Int)))]) (L' := []) (obs := []) rfl (by kernel_rfl) allP0 ?_
        rcases Bool.eq_false_or_eq_true (r1.2 == (0 : Int)) with h25 | h25
        · replace h := ofT h25 h
          refine WO_run (j := 7) (k := 4) (orcs := [(6, .known true), (8, .known true), (10, .known true), (12, .known true)]) (kF := [0, 3, 6, 7, 44, 45, 46, 47, 48]) (kL := []) (fr' := [(0, aD (.slice (.slice .bool)) a0), (3, aI r1.1), (6, aI (w64 ((bShl .i64 (1 : Int) (IntKind.wrap .u64 ((List.length a0 : Int)))) - (1 : Int)))), (7, aI (w64 ((bShl .i64 (1 : Int) (IntKind.wrap .u64 ((List.length v8 : Int)))) - (1 : Int)))), (44, aB (r1.2 == (0 : Int))), (45, aD (.slice (.slice .bool)) a0), (46, aI (w64 ((bShl .i64 (1 : Int) (IntKind.wrap .u64 ((List.length a0 : Int)))) - (1 : Int)))), (47, aI (w64 ((bShl .i64 (1 : Int) (IntKind.wrap .u64 ((List.length v8 : Int)))) - (1 : Int)))), (48, aI r1.1)]) (L' := []) (obs := [((r1.2 == (0 : Int)) = true), ((r1.2 == (0 : Int)) = true), ((r1.2 == (0 : Int)) = true), ((r1.2 == (0 : Int)) = true)]) rfl (by kernel_rfl) (allP2 h25 (allP2 h25 (allP2 h25 (allP1 h25)))) ?_
          obtain ⟨r26, h27, h⟩ := bind_of h
          refine WO_call0 (us := [none, none, none, none]) (d := 49) (p := ((r1.2 == (0 : Int)) = true)) (j := 8) rfl ⟨by kernel_rfl, by kernel_rfl, by kernel_rfl⟩ h25 (ref_Talks_ok h27) (by kernel_rfl) ?_
          refine WO_run (j := 10) (k := 2) (orcs := [(17, .val (.dat .bool true))]) (kF := [0, 3, 6, 7, 51]) (kL := []) (fr' := [(0, aD (.slice (.slice .bool)) a0), (3, aI r1.1), (6, aI (w64 ((bShl .i64 (1 : Int) (IntKind.wrap .u64 ((List.length a0 : Int)))) - (1 : Int)))), (7, aI (w64 ((bShl .i64 (1 : Int) (IntKind.wrap .u64 ((List.length v8 : Int)))) - (1 : Int)))), (51, aB r26)]) (L' := []) (obs := [((r1.2 == (0 : Int)) = true)]) rfl (by kernel_rfl) (allP1 h25) ?_
          rcases Bool.eq_false_or_eq_true (r26) with h28 | h28
          · replace h := ofT h28 h
            refine WO_run (j := 13) (k := 3) (orcs := [(20, .known true), (22, .known true), (24, .known true)]) (kF := [0, 3, 6, 7, 51, 54]) (kL := []) (fr' := [(0, aD (.slice (.slice .bool)) a0), (3, aI r1.1), (6, aI (w64 ((bShl .i64 (1 : Int) (IntKind.wrap .u64 ((List.length a0 : Int)))) - (1 : Int)))), (7, aI (w64 ((bShl .i64 (1 : Int) (IntKind.wrap .u64 ((List.length v8 : Int)))) - (1 : Int)))), (51, aB r26), (54, aB (r1.1 == (0 : Int)))]) (L' := []) (obs := [(r26 = true), (r26 = true), (r26 = true)]) rfl (by kernel_rfl) (allP2 h28 (allP2 h28 (allP1 h28))) ?_
            rcases Bool.eq_false_or_eq_true (r1.1 == (0 : Int)) with h29 | h29
            · replace h := ofT h29 h
              refine WO_run (j := 23) (k := 10) (orcs := [(26, .known true), (28, .known true), (30, .known true), (32, .known true), (34, .known true), (36, .known true), (38, .known true), (40, .known true), (41, .val (.dat .bool true)), (43, .val (.dat .bool true))]) (kF := [2]) (kL := []) (fr' := [(2, aB true)]) (L' := []) (obs := [((r1.1 == (0 : Int)) = true), ((r1.1 == (0 : Int)) = true), ((r1.1 == (0 : Int)) = true), ((r1.1 == (0 : Int)) = true), ((r1.1 == (0 : Int)) = true), ((r1.1 == (0 : Int)) = true), ((r1.1 == (0 : Int)) = true), (r26 = true), ((r1.1 == (0 : Int)) = true), (r26 = true)]) rfl (by kernel_rfl) (allP2 h29 (allP2 h29 (allP2 h29 (allP2 h29 (allP2 h29 (allP2 h29 (allP2 h29 (allP2 h28 (allP2 h29 (allP1 h28)))))))))) ?_
              obtain rfl := Option.some.inj h
              refine WO_fin [2] [] (fr' := [(2, aB true)]) (L' := []) (by kernel_rfl) (by kernel_rfl) ?_
              exact exQ_mk (by kernel_rfl) (by kernel_rfl)
            · replace h := ofF h29 h
              refine WO_run (j := 18) (k := 5) (orcs := [(26, .known false), (28, .known false), (30, .known false), (32, .known false), (34, .known false)]) (kF := [51, 54, 55, 56, 57, 59]) (kL := []) (fr' := [(51, aB r26), (54, aB (r1.1 == (0 : Int))), (55, aD (.slice (.slice .bool)) a0), (56, aI (w64 ((bShl .i64 (1 : Int) (IntKind.wrap .u64 ((List.length a0 : Int)))) - (1 : Int)))), (57, aI (w64 ((bShl .i64 (1 : Int) (IntKind.wrap .u64 ((List.length v8 : Int)))) - (1 : Int)))), (59, aI (w64 (r1.1 - (1 : Int))))]) (L' := []) (obs := [((r1.1 == (0 : Int)) = false), ((r1.1 == (0 : Int)) = false), ((r1.1 == (0 : Int)) = false), ((r1.1 == (0 : Int)) = false), ((r1.1 == (0 : Int)) = false)]) rfl (by kernel_rfl) (allP2 h29 (allP2 h29 (allP2 h29 (allP2 h29 (allP1 h29))))) ?_
              obtain ⟨r30, h31, h⟩ := bind_of h
              refine WO_call0 (us := [none, none, none, none]) (d := 60) (p := ((r1.1 == (0 : Int)) = false)) (j := 19) rfl ⟨by kernel_rfl, by kernel_rfl, by kernel_rfl⟩ h29 (ref_Talks_ok h31) (by kernel_rfl) ?_
              refine WO_run (j := 23) (k := 4) (orcs := [(38, .known false), (40, .known true), (41, .val (.dat .bool false)), (43, .val (.dat .bool true))]) (kF := [2]) (kL := []) (fr' := [(2, aB (!r30))]) (L' := []) (obs := [((r1.1 == (0 : Int)) = false), (r26 = true), ((r1.1 == (0 : Int)) = false), (r26 = true)]) rfl (by kernel_rfl) (allP2 h29 (allP2 h28 (allP2 h29 (allP1 h28)))) ?_
              obtain rfl := Option.some.inj h
              refine WO_fin [2] [] (fr' := [(2, aB (!r30))]) (L' := []) (by kernel_rfl) (by kernel_rfl) ?_
              exact exQ_mk (by kernel_rfl) (by kernel_rfl)
          · replace h := ofF h28 h
            refine WO_run (j := 23) (k := 13) (orcs := [(20, .known false), (22, .known false), (24, .known false), (26, .known true), (28, .known true), (30, .known true), (32, .known true), (34, .known true), (36, .known true), (38, .known true), (40, .known false), (43, .val (.dat .bool false))]) (kF := [2]) (kL := []) (fr' := [(2, aB false)]) (L' := []) (obs := [(r26 = false), (r26 = false), (r26 = false), (r26 = false), (r26 = false)]) rfl (by kernel_rfl) (allP2 h28 (allP2 h28 (allP2 h28 (allP2 h28 (allP1 h28))))) ?_
            obtain rfl := Option.some.inj h
            refine WO_fin [2] [] (fr' := [(2, aB false)]) (L' := []) (by kernel_rfl) (by kernel_rfl) ?_
            exact exQ_mk (by kernel_rfl) (by kernel_rfl)
        · replace h := ofF h25 h
          refine WO_run (j := 23) (k := 20) (orcs := [(6, .known false), (8, .known false), (10, .known false), (12, .known false), (14, .known false), (17, .val (.dat .bool false)), (20, .known false), (22, .known false), (24, .known false), (26, .known true), (28, .known true), (30, .known true), (32, .known true), (34, .known true), (36, .known true), (38, .known true), (40, .known false), (43, .val (.dat .bool false))]) (kF := [2]) (kL := []) (fr' := [(2, aB false)]) (L' := []) (obs := [((r1.2 == (0 : Int)) = false), ((r1.2 == (0 : Int)) = false), ((r1.2 == (0 : Int)) = false), ((r1.2 == (0 : Int)) = false), ((r1.2 == (0 : Int)) = false), ((r1.2 == (0 : Int)) = false), (false = false), (false = false), (false = false), (false = false), (false = false)]) rfl (by kernel_rfl) (allP2 h25 (allP2 h25 (allP2 h25 (allP2 h25 (allP2 h25 (allP2 h25 (allP2 rfl (allP2 rfl (allP2 rfl (allP2 rfl (allP1 rfl))))))))))) ?_
          obtain rfl := Option.some.inj h
          refine WO_fin [2] [] (fr' := [(2, aB false)]) (L' := []) (by kernel_rfl) (by kernel_rfl) ?_
          exact exQ_mk (by kernel_rfl) (by kernel_rfl)
      · intro e fr L hJ
        obtain ⟨rfl, rfl, rfl⟩ := hJ
        refine LT_keep [2] [] (fr' := [(2, aB v32)]) (L' := []) (by kernel_rfl) ?_
        refine seqQ_norm ?_
        obtain rfl := Option.some.inj h
        refine W_ret [2] [] (fr' := [(2, aB v32)]) (L' := []) (by kernel_rfl) (by kernel_rfl) ?_
        exact retQ_mk (by kernel_rfl) (by kernel_rfl) (by kernel_rfl)
end Go.Proofs.Ytjghcbdfpcpahaa.talkLeasts
