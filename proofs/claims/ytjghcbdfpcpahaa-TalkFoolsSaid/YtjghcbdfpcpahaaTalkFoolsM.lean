/- What the functions that TalkFools calls compute, as models, and that they compute it: written by a program of mine. -/
import Derived.Test.YtjghcbdfpcpahaaProg
import Derived.Test.YtjghcbdfpcpahaaSl5
set_option linter.all false
set_option maxRecDepth 100000
namespace Go.Proofs.Ytjghcbdfpcpahaa.talkFools
open Go Go.Sl
def talk_wrong_1 (a0 : (List Bool)) (c0 : (List (List Bool))) : Option Bool :=
(idx c0 (0 : Int)).bind fun v1 =>
some ((List.length a0 : Int) != (List.length v1 : Int))
theorem talk_wrong_1_ok {a0 : (List Bool)} {c0 : (List (List Bool))} {r : Bool} (h : talk_wrong_1 a0 c0 = some r) : FnC Try.prog 56 [aD (.slice .bool) a0, .one (.ptr 1000 0)] [(1000, .cells [.dat (.slice (.slice .bool)) c0])] (aB r) [(1000, .cells [.dat (.slice (.slice .bool)) c0])] := by
  refine fnC_of_W (B := bodyOf Try.f56) (n := 11) Try.func56 (by kernel_rfl) (by kernel_rfl) (by kernel_rfl) (by kernel_rfl) (by kernel_rfl) ?_
  intro K
  refine W_seq (by kernel_rfl) ?_
  refine W_run 1 [] [0, 1] [1000] (fr' := [(0, aD (.slice .bool) a0), (1, .one (.ptr 1000 0))]) (L' := [(1000, .cells [.dat (.slice (.slice .bool)) c0])]) (obs := []) (by kernel_rfl) (by kernel_rfl) (by kernel_rfl) allP0 ?_
  refine seqQ_norm ?_
  refine W_seq (by kernel_rfl) ?_
  obtain ⟨v1, h2, h⟩ := bind_of h
  refine W_run 8 [(7, .val (.dat (.slice .bool) v1))] [3] [1000] (fr' := [(3, aB ((List.length a0 : Int) != (List.length v1 : Int)))]) (L' := [(1000, .cells [.dat (.slice (.slice .bool)) c0])]) (obs := [Idx c0 (0 : Int) v1]) (by kernel_rfl) (by kernel_rfl) (by kernel_rfl) (allP1 (Idx.of h2)) ?_
  refine seqQ_norm ?_
  obtain rfl := Option.some.inj h
  refine W_ret [3] [1000] (fr' := [(3, aB ((List.length a0 : Int) != (List.length v1 : Int)))]) (L' := [(1000, .cells [.dat (.slice (.slice .bool)) c0])]) (by kernel_rfl) (by kernel_rfl) ?_
  exact retQ_mk (by kernel_rfl) (by kernel_rfl) (by kernel_rfl)

def slices_IndexFunc_LLboolLbool_with_talk_wrong_1_b1 (c0 : (List (List Bool))) (i15 : Int) (v18 : (List Bool)) (x16 : Unit) : Option (Flow Unit (Esc Int Unit)) :=
(talk_wrong_1 v18 c0).bind fun r21 =>
bif r21 then
(some (.done (.ret i15)))
else
(some (.next ()))
@[reducible] def slices_IndexFunc_LLboolLbool_with_talk_wrong_1_s2 (a0 : (List (List Bool))) (c0 : (List (List Bool))) (v : Int × Unit) : Fr × LL := ([(0, aD (.slice (.slice .bool)) a0), (1, .one (.fn 56 [(1000, 0)])), (7, aI (List.length a0 : Int)), (8, aI v.1)], [(1000, .cells [.dat (.slice (.slice .bool)) c0])])
@[reducible] def slices_IndexFunc_LLboolLbool_with_talk_wrong_1_s3 (c0 : (List (List Bool))) (v : Int) : Fr × LL := ([(4, aI v)], [(1000, .cells [.dat (.slice (.slice .bool)) c0])])
@[reducible] def slices_IndexFunc_LLboolLbool_with_talk_wrong_1_s4 (c0 : (List (List Bool))) (v : Unit) : Fr × LL := ([], [(1000, .cells [.dat (.slice (.slice .bool)) c0])])
def slices_IndexFunc_LLboolLbool_with_talk_wrong_1 (a0 : (List (List Bool))) (c0 : (List (List Bool))) : Option Int :=
(forL (slices_IndexFunc_LLboolLbool_with_talk_wrong_1_b1 c0) (fun x16 => (.brk ())) a0 0 ()).bind fun v25 =>
match v25 with
| .ret v30 =>
(some v30)
| .brk v31 =>
(some (-1 : Int))
theorem slices_IndexFunc_LLboolLbool_with_talk_wrong_1_ok {a0 : (List (List Bool))} {c0 : (List (List Bool))} {r : Int} (h : slices_IndexFunc_LLboolLbool_with_talk_wrong_1 a0 c0 = some r) : FnC Try.prog 57 [aD (.slice (.slice .bool)) a0, .one (.fn 56 [(1000, 0)])] [(1000, .cells [.dat (.slice (.slice .bool)) c0])] (aI r) [(1000, .cells [.dat (.slice (.slice .bool)) c0])] := by
  refine fnC_of_W (B := bodyOf Try.f57) (n := 19) Try.func57 (by kernel_rfl) (by kernel_rfl) (by kernel_rfl) (by kernel_rfl) (by kernel_rfl) ?_
  intro K
  refine W_seq (by kernel_rfl) ?_
  refine W_run 1 [] [0, 1] [1000] (fr' := [(0, aD (.slice (.slice .bool)) a0), (1, .one (.fn 56 [(1000, 0)]))]) (L' := [(1000, .cells [.dat (.slice (.slice .bool)) c0])]) (obs := []) (by kernel_rfl) (by kernel_rfl) (by kernel_rfl) allP0 ?_
  refine seqQ_norm ?_
  refine W_seq (by kernel_rfl) ?_
  refine W_seq (by kernel_rfl) ?_
  refine W_run 3 [] [0, 1, 7, 8] [1000] (fr' := [(0, aD (.slice (.slice .bool)) a0), (1, .one (.fn 56 [(1000, 0)])), (7, aI (List.length a0 : Int)), (8, aI (0 : Int))]) (L' := [(1000, .cells [.dat (.slice (.slice .bool)) c0])]) (obs := []) (by kernel_rfl) (by kernel_rfl) (by kernel_rfl) allP0 ?_
  refine seqQ_norm ?_
  refine W_block (id := 0) (by kernel_rfl) ?_
  obtain ⟨v25, h26, h⟩ := bind_of h
  refine W_len (t := 0) (u := (.slice .bool)) (xs := a0) (by kernel_rfl) (fun h29 => ?_)
  obtain ⟨h27, h28⟩ := forL_iter h29 h26
  refine W_weaken [0, 1, 7, 8] [1000] (fr' := ((slices_IndexFunc_LLboolLbool_with_talk_wrong_1_s2 a0 c0) ((0 : Int), ())).1) (L' := ((slices_IndexFunc_LLboolLbool_with_talk_wrong_1_s2 a0 c0) ((0 : Int), ())).2) (by kernel_rfl) ?_
  refine W_cutK (W_loop (S := (slices_IndexFunc_LLboolLbool_with_talk_wrong_1_s2 a0 c0)) (J := (escQ (exQ .ret (slices_IndexFunc_LLboolLbool_with_talk_wrong_1_s3 c0)) (exQ (.exit 0) (slices_IndexFunc_LLboolLbool_with_talk_wrong_1_s4 c0)))) (by kernel_rfl) ?_ h27 _ v25 h28) ?_
  · rintro ⟨i15, x16⟩ s h
    refine W_seq (by kernel_rfl) ?_
    refine W_run 1 [] [0, 1, 7, 8, 9] [1000] (fr' := [(0, aD (.slice (.slice .bool)) a0), (1, .one (.fn 56 [(1000, 0)])), (7, aI (List.length a0 : Int)), (8, aI i15), (9, aB (decide (i15 < (List.length a0 : Int))))]) (L' := [(1000, .cells [.dat (.slice (.slice .bool)) c0])]) (obs := []) (by kernel_rfl) (by kernel_rfl) (by kernel_rfl) allP0 ?_
    refine seqQ_norm ?_
    refine W_seq (by kernel_rfl) ?_
    refine W_cond (o := .tmp 9) (b := decide (i15 < (List.length a0 : Int))) (by kernel_rfl) (by kernel_rfl) (fun h20 => ?_) (fun h20 => ?_)
    · replace h := stepL_true h20 h
      obtain ⟨v18, _, h19, h, rfl⟩ := h
      refine W_skip [0, 1, 7, 8] [1000] (fr' := [(0, aD (.slice (.slice .bool)) a0), (1, .one (.fn 56 [(1000, 0)])), (7, aI (List.length a0 : Int)), (8, aI i15)]) (L' := [(1000, .cells [.dat (.slice (.slice .bool)) c0])]) (by kernel_rfl) (by kernel_rfl) ?_
      refine seqQ_norm ?_
      refine W_seq (by kernel_rfl) ?_
      refine W_block (id := 1) (by kernel_rfl) ?_
      refine W_seq (by kernel_rfl) ?_
      refine W_run 2 [] [0, 1, 5, 7, 8] [1000] (fr' := [(0, aD (.slice (.slice .bool)) a0), (1, .one (.fn 56 [(1000, 0)])), (5, aI i15), (7, aI (List.length a0 : Int)), (8, aI i15)]) (L' := [(1000, .cells [.dat (.slice (.slice .bool)) c0])]) (obs := []) (by kernel_rfl) (by kernel_rfl) (by kernel_rfl) allP0 ?_
      refine seqQ_norm ?_
      refine W_seq (by kernel_rfl) ?_
      refine W_region (by kernel_rfl) ?_
      refine WO_run (j := 5) (k := 5) (orcs := [(7, .val (.dat (.slice .bool) v18))]) (kF := [0, 1, 5, 7, 8, 11, 15]) (kL := [1000]) (fr' := [(0, aD (.slice (.slice .bool)) a0), (1, .one (.fn 56 [(1000, 0)])), (5, aI i15), (7, aI (List.length a0 : Int)), (8, aI i15), (11, .one (.fn 56 [(1000, 0)])), (15, aD (.slice .bool) v18)]) (L' := [(1000, .cells [.dat (.slice (.slice .bool)) c0])]) (obs := [Idx a0 i15 v18]) rfl (by kernel_rfl) (allP1 (Idx.of h19)) ?_
      obtain ⟨r21, h22, h⟩ := bind_of h
      refine WO_lend [(1000, 1000)] (us := [none, none]) (d := 16) (p := True) (j := 6) rfl ⟨by kernel_rfl, by kernel_rfl, by kernel_rfl⟩ trivial (talk_wrong_1_ok h22) (by kernel_rfl) (by kernel_rfl) ?_
      refine WO_fin [0, 1, 5, 7, 8, 16] [1000] (fr' := [(0, aD (.slice (.slice .bool)) a0), (1, .one (.fn 56 [(1000, 0)])), (5, aI i15), (7, aI (List.length a0 : Int)), (8, aI i15), (16, aB r21)]) (L' := [(1000, .cells [.dat (.slice (.slice .bool)) c0])]) (by kernel_rfl) (by kernel_rfl) ?_
      refine seqQ_norm ?_
      refine W_cond (o := .tmp 16) (b := r21) (by kernel_rfl) (by kernel_rfl) (fun h23 => ?_) (fun h23 => ?_)
      · replace h := ofT h23 h
        refine W_seq (by kernel_rfl) ?_
        refine W_run 2 [] [4] [1000] (fr' := [(4, aI i15)]) (L' := [(1000, .cells [.dat (.slice (.slice .bool)) c0])]) (obs := []) (by kernel_rfl) (by kernel_rfl) (by kernel_rfl) allP0 ?_
        refine seqQ_norm ?_
        obtain rfl := Option.some.inj h
        refine W_ret [4] [1000] (fr' := [(4, aI i15)]) (L' := [(1000, .cells [.dat (.slice (.slice .bool)) c0])]) (by kernel_rfl) (by kernel_rfl) ?_
        refine blockQ_ret ?_
        refine seqQ_ret ?_
        refine round_ret ?_
        refine escQ_ret ?_
        exact exQ_mk (by kernel_rfl) (by kernel_rfl)
      · replace h := ofF h23 h
        refine W_skip [0, 1, 7, 8] [1000] (fr' := [(0, aD (.slice (.slice .bool)) a0), (1, .one (.fn 56 [(1000, 0)])), (7, aI (List.length a0 : Int)), (8, aI i15)]) (L' := [(1000, .cells [.dat (.slice (.slice .bool)) c0])]) (by kernel_rfl) (by kernel_rfl) ?_
        refine blockQ_norm ?_
        refine seqQ_norm ?_
        obtain rfl := Option.some.inj h
        refine W_run 2 [] [0, 1, 7, 8] [1000] (fr' := [(0, aD (.slice (.slice .bool)) a0), (1, .one (.fn 56 [(1000, 0)])), (7, aI (List.length a0 : Int)), (8, aI (w64 (i15 + (1 : Int))))]) (L' := [(1000, .cells [.dat (.slice (.slice .bool)) c0])]) (obs := []) (by kernel_rfl) (by kernel_rfl) (by kernel_rfl) allP0 ?_
        exact round_next' (by kernel_rfl) (by kernel_rfl)
    · obtain rfl := stepL_false h20 h
      refine W_exit (id := 0) [] [1000] (fr' := []) (L' := [(1000, .cells [.dat (.slice (.slice .bool)) c0])]) (by kernel_rfl) (by kernel_rfl) ?_
      refine seqQ_exit ?_
      refine round_exit ?_
      refine escQ_brk ?_
      exact exQ_mk (by kernel_rfl) (by kernel_rfl)
  · intro e fr L hJ
    rcases v25 with v30 | v31
    · obtain ⟨rfl, rfl, rfl⟩ := hJ
      obtain rfl := Option.some.inj h
      refine LT_keep [4] [1000] (fr' := [(4, aI v30)]) (L' := [(1000, .cells [.dat (.slice (.slice .bool)) c0])]) (by kernel_rfl) ?_
      refine blockQ_ret ?_
      refine seqQ_ret ?_
      exact retQ_mk (by kernel_rfl) (by kernel_rfl) (by kernel_rfl)
    · obtain ⟨rfl, rfl, rfl⟩ := hJ
      refine LT_keep [] [1000] (fr' := []) (L' := [(1000, .cells [.dat (.slice (.slice .bool)) c0])]) (by kernel_rfl) ?_
      refine blockQ_hit ?_
      refine seqQ_norm ?_
      refine W_seq (by kernel_rfl) ?_
      refine W_run 1 [] [4] [1000] (fr' := [(4, aI (-1 : Int))]) (L' := [(1000, .cells [.dat (.slice (.slice .bool)) c0])]) (obs := []) (by kernel_rfl) (by kernel_rfl) (by kernel_rfl) allP0 ?_
      refine seqQ_norm ?_
      obtain rfl := Option.some.inj h
      refine W_ret [4] [1000] (fr' := [(4, aI (-1 : Int))]) (L' := [(1000, .cells [.dat (.slice (.slice .bool)) c0])]) (by kernel_rfl) (by kernel_rfl) ?_
      exact retQ_mk (by kernel_rfl) (by kernel_rfl) (by kernel_rfl)

def slices_ContainsFunc_LLboolLbool_with_talk_wrong_1 (a0 : (List (List Bool))) (c0 : (List (List Bool))) : Option Bool :=
(slices_IndexFunc_LLboolLbool_with_talk_wrong_1 a0 c0).bind fun r1 =>
some (decide (r1 ≥ (0 : Int)))
theorem slices_ContainsFunc_LLboolLbool_with_talk_wrong_1_ok {a0 : (List (List Bool))} {c0 : (List (List Bool))} {r : Bool} (h : slices_ContainsFunc_LLboolLbool_with_talk_wrong_1 a0 c0 = some r) : FnC Try.prog 37 [aD (.slice (.slice .bool)) a0, .one (.fn 56 [(1000, 0)])] [(1000, .cells [.dat (.slice (.slice .bool)) c0])] (aB r) [(1000, .cells [.dat (.slice (.slice .bool)) c0])] := by
  refine fnC_of_W (B := bodyOf Try.f37) (n := 9) Try.func37 (by kernel_rfl) (by kernel_rfl) (by kernel_rfl) (by kernel_rfl) (by kernel_rfl) ?_
  intro K
  refine W_seq (by kernel_rfl) ?_
  refine W_run 1 [] [0, 1] [1000] (fr' := [(0, aD (.slice (.slice .bool)) a0), (1, .one (.fn 56 [(1000, 0)]))]) (L' := [(1000, .cells [.dat (.slice (.slice .bool)) c0])]) (obs := []) (by kernel_rfl) (by kernel_rfl) (by kernel_rfl) allP0 ?_
  refine seqQ_norm ?_
  refine W_seq (by kernel_rfl) ?_
  refine W_region (by kernel_rfl) ?_
  refine WO_run (j := 2) (k := 2) (orcs := []) (kF := [5, 6]) (kL := [1000]) (fr' := [(5, aD (.slice (.slice .bool)) a0), (6, .one (.fn 56 [(1000, 0)]))]) (L' := [(1000, .cells [.dat (.slice (.slice .bool)) c0])]) (obs := []) rfl (by kernel_rfl) allP0 ?_
  obtain ⟨r1, h2, h⟩ := bind_of h
  refine WO_lend [(1000, 1000)] (us := [none, none]) (d := 7) (p := True) (j := 3) rfl ⟨by kernel_rfl, by kernel_rfl, by kernel_rfl⟩ trivial (slices_IndexFunc_LLboolLbool_with_talk_wrong_1_ok h2) (by kernel_rfl) (by kernel_rfl) ?_
  refine WO_run (j := 5) (k := 2) (orcs := []) (kF := [4]) (kL := [1000]) (fr' := [(4, aB (decide (r1 ≥ (0 : Int))))]) (L' := [(1000, .cells [.dat (.slice (.slice .bool)) c0])]) (obs := []) rfl (by kernel_rfl) allP0 ?_
  refine WO_fin [4] [1000] (fr' := [(4, aB (decide (r1 ≥ (0 : Int))))]) (L' := [(1000, .cells [.dat (.slice (.slice .bool)) c0])]) (by kernel_rfl) (by kernel_rfl) ?_
  refine seqQ_norm ?_
  obtain rfl := Option.some.inj h
  refine W_ret [4] [1000] (fr' := [(4, aB (decide (r1 ≥ (0 : Int))))]) (L' := [(1000, .cells [.dat (.slice (.slice .bool)) c0])]) (by kernel_rfl) (by kernel_rfl) ?_
  exact retQ_mk (by kernel_rfl) (by kernel_rfl) (by kernel_rfl)

def talk_wrong_g1 (a0 : (List (List Bool))) : Option Bool :=
bif (decide ((List.length a0 : Int) < (1 : Int))) || (decide ((List.length a0 : Int) > (4 : Int))) then
(some true)
else
((idx a0 (0 : Int)).bind fun v10 =>
bif decide ((List.length v10 : Int) < (1 : Int)) then
(some true)
else
(some (decide ((List.length v10 : Int) > (4 : Int)))))
@[reducible] def talk_wrong_s2 (a0 : (List (List Bool))) (v : Bool) : Fr × LL := ([(1, .one (.ptr 1 0)), (24, aB v)], [(1, .cells [.dat (.slice (.slice .bool)) a0])])
def talk_wrong (a0 : (List (List Bool))) : Option Int :=
(talk_wrong_g1 a0).bind fun v13 =>
bif v13 then
(some (1 : Int))
else
((slices_ContainsFunc_LLboolLbool_with_talk_wrong_1 a0 a0).bind fun r16 =>
bif r16 then
(some (3 : Int))
else
(some (0 : Int)))
theorem talk_wrong_ok {a0 : (List (List Bool))} {r : Int} (h : talk_wrong a0 = some r) : FnC Try.prog 36 [aD (.slice (.slice .bool)) a0] [] (aI r) [] := by
  refine fnC_of_W (B := bodyOf Try.f36) (n := 28) Try.func36 (by kernel_rfl) (by kernel_rfl) (by kernel_rfl) (by kernel_rfl) (by kernel_rfl) ?_
  intro K
  refine W_seq (by kernel_rfl) ?_
  refine W_run 2 [] [1] [1] (fr' := [(1, .one (.ptr 1 0))]) (L' := [(1, .cells [.dat (.slice (.slice .bool)) a0])]) (obs := []) (by kernel_rfl) (by kernel_rfl) (by kernel_rfl) allP0 ?_
  refine seqQ_norm ?_
  refine W_seq (by kernel_rfl) ?_
  refine W_seq (by kernel_rfl) ?_
  obtain ⟨v13, h14, h⟩ := bind_of h
  refine W_cutK (Q' := (exQ .normal (talk_wrong_s2 a0)) v13) ?_ ?_
  · replace h := h14
    refine W_region (by kernel_rfl) ?_
    refine WO_run (j := 9) (k := 9) (orcs := []) (kF := [1, 11]) (kL := [1]) (fr' := [(1, .one (.ptr 1 0)), (11, aB ((decide ((List.length a0 : Int) < (1 : Int))) || (decide ((List.length a0 : Int) > (4 : Int)))))]) (L' := [(1, .cells [.dat (.slice (.slice .bool)) a0])]) (obs := []) rfl (by kernel_rfl) allP0 ?_
    rcases Bool.eq_false_or_eq_true ((decide ((List.length a0 : Int) < (1 : Int))) || (decide ((List.length a0 : Int) > (4 : Int)))) with h9 | h9
    · replace h := ofT h9 h
      refine WO_run (j := 22) (k := 13) (orcs := [(18, .known true), (20, .known true), (22, .known true), (24, .known true), (26, .known true), (29, .val (.dat .bool true)), (32, .known true), (34, .known true), (36, .known true), (38, .known true), (40, .known true), (43, .val (.dat .bool true))]) (kF := [1, 24]) (kL := [1]) (fr' := [(1, .one (.ptr 1 0)), (24, aB true)]) (L' := [(1, .cells [.dat (.slice (.slice .bool)) a0])]) (obs := [(((decide ((List.length a0 : Int) < (1 : Int))) || (decide ((List.length a0 : Int) > (4 : Int)))) = true), (((decide ((List.length a0 : Int) < (1 : Int))) || (decide ((List.length a0 : Int) > (4 : Int)))) = true), (((decide ((List.length a0 : Int) < (1 : Int))) || (decide ((List.length a0 : Int) > (4 : Int)))) = true), (((decide ((List.length a0 : Int) < (1 : Int))) || (decide ((List.length a0 : Int) > (4 : Int)))) = true), (((decide ((List.length a0 : Int) < (1 : Int))) || (decide ((List.length a0 : Int) > (4 : Int)))) = true), (((decide ((List.length a0 : Int) < (1 : Int))) || (decide ((List.length a0 : Int) > (4 : Int)))) = true), (true = true), (true = true), (true = true), (true = true), (true = true), (true = true)]) rfl (by kernel_rfl) (allP2 h9 (allP2 h9 (allP2 h9 (allP2 h9 (allP2 h9 (allP2 h9 (allP2 rfl (allP2 rfl (allP2 rfl (allP2 rfl (allP2 rfl (allP1 rfl)))))))))))) ?_
      obtain rfl := Option.some.inj h
      refine WO_fin [1, 24] [1] (fr' := [(1, .one (.ptr 1 0)), (24, aB true)]) (L' := [(1, .cells [.dat (.slice (.slice .bool)) a0])]) (by kernel_rfl) (by kernel_rfl) ?_
      exact exQ_mk (by kernel_rfl) (by kernel_rfl)
    · replace h := ofF h9 h
      obtain ⟨v10, h11, h⟩ := bind_of h
      refine WO_run (j := 16) (k := 7) (orcs := [(18, .known false), (20, .known false), (21, .val (.dat (.slice .bool) v10)), (22, .known false), (24, .known false), (26, .known false), (29, .val (.dat .bool false))]) (kF := [1, 18]) (kL := [1]) (fr' := [(1, .one (.ptr 1 0)), (18, aB (decide ((List.length v10 : Int) < (1 : Int))))]) (L' := [(1, .cells [.dat (.slice (.slice .bool)) a0])]) (obs := [(((decide ((List.length a0 : Int) < (1 : Int))) || (decide ((List.length a0 : Int) > (4 : Int)))) = false), (((decide ((List.length a0 : Int) < (1 : Int))) || (decide ((List.length a0 : Int) > (4 : Int)))) = false), Idx a0 (0 : Int) v10, (((decide ((List.length a0 : Int) < (1 : Int))) || (decide ((List.length a0 : Int) > (4 : Int)))) = false), (((decide ((List.length a0 : Int) < (1 : Int))) || (decide ((List.length a0 : Int) > (4 : Int)))) = false), (((decide ((List.length a0 : Int) < (1 : Int))) || (decide ((List.length a0 : Int) > (4 : Int)))) = false), (((decide ((List.length a0 : Int) < (1 : Int))) || (decide ((List.length a0 : Int) > (4 : Int)))) = false)]) rfl (by kernel_rfl) (allP2 h9 (allP2 h9 (allP2 (Idx.of h11) (allP2 h9 (allP2 h9 (allP2 h9 (allP1 h9))))))) ?_
      rcases Bool.eq_false_or_eq_true (decide ((List.length v10 : Int) < (1 : Int))) with h12 | h12
      · replace h := ofT h12 h
        refine WO_run (j := 22) (k := 6) (orcs := [(32, .known true), (34, .known true), (36, .known true), (38, .known true), (40, .known true), (43, .val (.dat .bool true))]) (kF := [1, 24]) (kL := [1]) (fr' := [(1, .one (.ptr 1 0)), (24, aB true)]) (L' := [(1, .cells [.dat (.slice (.slice .bool)) a0])]) (obs := [((decide ((List.length v10 : Int) < (1 : Int))) = true), ((decide ((List.length v10 : Int) < (1 : Int))) = true), ((decide ((List.length v10 : Int) < (1 : Int))) = true), ((decide ((List.length v10 : Int) < (1 : Int))) = true), ((decide ((List.length v10 : Int) < (1 : Int))) = true), ((decide ((List.length v10 : Int) < (1 : Int))) = true)]) rfl (by kernel_rfl) (allP2 h12 (allP2 h12 (allP2 h12 (allP2 h12 (allP2 h12 (allP1 h12)))))) ?_
        obtain rfl := Option.some.inj h
        refine WO_fin [1, 24] [1] (fr' := [(1, .one (.ptr 1 0)), (24, aB true)]) (L' := [(1, .cells [.dat (.slice (.slice .bool)) a0])]) (by kernel_rfl) (by kernel_rfl) ?_
        exact exQ_mk (by kernel_rfl) (by kernel_rfl)
      · replace h := ofF h12 h
        refine WO_run (j := 22) (k := 6) (orcs := [(32, .known false), (34, .known false), (35, .val (.dat (.slice .bool) v10)), (36, .known false), (38, .known false), (40, .known false), (43, .val (.dat .bool false))]) (kF := [1, 24]) (kL := [1]) (fr' := [(1, .one (.ptr 1 0)), (24, aB (decide ((List.length v10 : Int) > (4 : Int))))]) (L' := [(1, .cells [.dat (.slice (.slice .bool)) a0])]) (obs := [((decide ((List.length v10 : Int) < (1 : Int))) = false), ((decide ((List.length v10 : Int) < (1 : Int))) = false), Idx a0 (0 : Int) v10, ((decide ((List.length v10 : Int) < (1 : Int))) = false), ((decide ((List.length v10 : Int) < (1 : Int))) = false), ((decide ((List.length v10 : Int) < (1 : Int))) = false), ((decide ((List.length v10 : Int) < (1 : Int))) = false)]) rfl (by kernel_rfl) (allP2 h12 (allP2 h12 (allP2 (Idx.of h11) (allP2 h12 (allP2 h12 (allP2 h12 (allP1 h12))))))) ?_
        obtain rfl := Option.some.inj h
        refine WO_fin [1, 24] [1] (fr' := [(1, .one (.ptr 1 0)), (24, aB (decide ((List.length v10 : Int) > (4 : Int))))]) (L' := [(1, .cells [.dat (.slice (.slice .bool)) a0])]) (by kernel_rfl) (by kernel_rfl) ?_
        exact exQ_mk (by kernel_rfl) (by kernel_rfl)
  · intro e fr L hJ
    obtain ⟨rfl, rfl, rfl⟩ := hJ
    refine LT_keep [1, 24] [1] (fr' := [(1, .one (.ptr 1 0)), (24, aB v13)]) (L' := [(1, .cells [.dat (.slice (.slice .bool)) a0])]) (by kernel_rfl) ?_
    refine seqQ_norm ?_
    refine W_cond (o := .tmp 24) (b := v13) (by kernel_rfl) (by kernel_rfl) (fun h15 => ?_) (fun h15 => ?_)
    · replace h := ofT h15 h
      refine W_seq (by kernel_rfl) ?_
      refine W_run 1 [] [2] [] (fr' := [(2, aI (1 : Int))]) (L' := []) (obs := []) (by kernel_rfl) (by kernel_rfl) (by kernel_rfl) allP0 ?_
      refine seqQ_norm ?_
      obtain rfl := Option.some.inj h
      refine W_ret [2] [] (fr' := [(2, aI (1 : Int))]) (L' := []) (by kernel_rfl) (by kernel_rfl) ?_
      refine seqQ_ret ?_
      exact retQ_mk (by kernel_rfl) (by kernel_rfl) (by kernel_rfl)
    · replace h := ofF h15 h
      refine W_skip [1] [1] (fr' := [(1, .one (.ptr 1 0))]) (L' := [(1, .cells [.dat (.slice (.slice .bool)) a0])]) (by kernel_rfl) (by kernel_rfl) ?_
      refine seqQ_norm ?_
      refine W_seq (by kernel_rfl) ?_
      refine W_seq (by kernel_rfl) ?_
      refine W_region (by kernel_rfl) ?_
      refine WO_run (j := 2) (k := 2) (orcs := []) (kF := [25, 26]) (kL := [1]) (fr' := [(25, aD (.slice (.slice .bool)) a0), (26, .one (.fn 56 [(1, 0)]))]) (L' := [(1, .cells [.dat (.slice (.slice .bool)) a0])]) (obs := []) rfl (by kernel_rfl) allP0 ?_
      obtain ⟨r16, h17, h⟩ := bind_of h
      refine WO_lend [(1000, 1)] (us := [none, none]) (d := 27) (p := True) (j := 3) rfl ⟨by kernel_rfl, by kernel_rfl, by kernel_rfl⟩ trivial (slices_ContainsFunc_LLboolLbool_with_talk_wrong_1_ok h17) (by kernel_rfl) (by kernel_rfl) ?_
      refine WO_fin [27] [] (fr' := [(27, aB r16)]) (L' := []) (by kernel_rfl) (by kernel_rfl) ?_
      refine seqQ_norm ?_
      refine W_cond (o := .tmp 27) (b := r16) (by kernel_rfl) (by kernel_rfl) (fun h18 => ?_) (fun h18 => ?_)
      · replace h := ofT h18 h
        refine W_seq (by kernel_rfl) ?_
        refine W_run 1 [] [2] [] (fr' := [(2, aI (3 : Int))]) (L' := []) (obs := []) (by kernel_rfl) (by kernel_rfl) (by kernel_rfl) allP0 ?_
        refine seqQ_norm ?_
        obtain rfl := Option.some.inj h
        refine W_ret [2] [] (fr' := [(2, aI (3 : Int))]) (L' := []) (by kernel_rfl) (by kernel_rfl) ?_
        refine seqQ_ret ?_
        exact retQ_mk (by kernel_rfl) (by kernel_rfl) (by kernel_rfl)
      · replace h := ofF h18 h
        refine W_skip [] [] (fr' := []) (L' := []) (by kernel_rfl) (by kernel_rfl) ?_
        refine seqQ_norm ?_
        refine W_seq (by kernel_rfl) ?_
        refine W_run 1 [] [2] [] (fr' := [(2, aI (0 : Int))]) (L' := []) (obs := []) (by kernel_rfl) (by kernel_rfl) (by kernel_rfl) allP0 ?_
        refine seqQ_norm ?_
        obtain rfl := Option.some.inj h
        refine W_ret [2] [] (fr' := [(2, aI (0 : Int))]) (L' := []) (by kernel_rfl) (by kernel_rfl) ?_
        exact retQ_mk (by kernel_rfl) (by kernel_rfl) (by kernel_rfl)

def talk_fool_b29 (a0 : (List (List Bool))) (a3 : Bool) (v1 : (List Bool)) (i413 : Int) (v552 : (List Bool)) (i588 : Int) (v591 : (List Int)) (x589 : Bool) : Option (Flow Bool Bool) :=
bif x589 then
((idx v591 (1 : Int)).bind fun v595 =>
(idx v552 v595).bind fun v597 =>
bif !(v597 == a3) then
(some (.next true))
else
((idx v591 (0 : Int)).bind fun v600 =>
(idx a0 v600).bind fun v602 =>
(idx v602 (Int.tmod i413 (List.length v1 : Int))).bind fun v604 =>
some (.next (!(v604 == a3)))))
else
(some (.next false))
@[reducible] def talk_fool_s30 (a0 : (List (List Bool))) (a1 : (List (List Int))) (a3 : Bool) (v1 : (List Bool)) (i413 : Int) (x414 : (List (List Int))) (v : Int × Bool) : Fr × LL := ([(0, aD (.slice (.slice .bool)) a0), (1, aD (.slice (.arr 2 tI)) a1), (3, aB a3), (9, aD (.slice (.arr 2 tI)) x414), (10, aI (List.length v1 : Int)), (11, aI i413), (12, .one (.ptr 12 0)), (13, aB v.2), (49, aD (.slice (.arr 2 tI)) a1), (50, aI (List.length a1 : Int)), (51, aI v.1)], [(12, .one (.arr 2 tI) [w64 (Int.tdiv i413 (List.length v1 : Int)), Int.tmod i413 (List.length v1 : Int)])])
@[reducible] def talk_fool_s31 (a0 : (List (List Bool))) (a1 : (List (List Int))) (a3 : Bool) (v1 : (List Bool)) (i413 : Int) (x414 : (List (List Int))) (v : Bool) : Fr × LL := ([(0, aD (.slice (.slice .bool)) a0), (1, aD (.slice (.arr 2 tI)) a1), (3, aB a3), (9, aD (.slice (.arr 2 tI)) x414), (10, aI (List.length v1 : Int)), (11, aI i413), (12, .one (.ptr 12 0)), (13, aB v)], [(12, .one (.arr 2 tI) [w64 (Int.tdiv i413 (List.length v1 : Int)), Int.tmod i413 (List.length v1 : Int)])])
def talk_fool_g32 (a0 : (List (List Bool))) (a1 : (List (List Int))) (a3 : Bool) (v1 : (List Bool)) (rf_talk_fool : (List (List Bool)) → (List (List Int)) → Int → Bool → Option (List (List Int))) (i413 : Int) (x414 : (List (List Int))) : Option (List (List Int)) :=
(ck ((List.length v1 : Int) ≠ 0)).bind fun _ =>
(idx a0 (w64 (Int.tdiv i413 (List.length v1 : Int)))).bind fun v552 =>
(idx v552 (Int.tmod i413 (List.length v1 : Int))).bind fun v554 =>
(forL (talk_fool_b29 a0 a3 v1 i413 v552) (fun x589 => x589) a1 0 (v554 == a3)).bind fun v607 =>
bif !v607 then
(some x414)
else
((ck (0 ≤ (0 : Int) ∧ (0 : Int) ≤ (List.length a1 : Int) ∧ (List.length a1 : Int) ≤ (List.length a1 : Int) ∧ (List.length a1 : Int) = (List.length a1 : Int))).bind fun _ =>
(ck ((List.length (sub a1 (0 : Int) (List.length a1 : Int)) : Int) + 1 ≤ 4294967296)).bind fun _ =>
(rf_talk_fool a0 ((sub a1 (0 : Int) (List.length a1 : Int)) ++ [[w64 (Int.tdiv i413 (List.length v1 : Int)), Int.tmod i413 (List.length v1 : Int)]]) (w64 (i413 + (1 : Int))) a3).bind fun r615 =>
bif decide ((List.length r615 : Int) > (List.length x414 : Int)) then
(some r615)
else
(some x414))
@[reducible] def talk_fool_s33 (a0 : (List (List Bool))) (a1 : (List (List Int))) (a3 : Bool) (v1 : (List Bool)) (i413 : Int) (v : (List (List Int))) : Fr × LL := ([(0, aD (.slice (.slice .bool)) a0), (1, aD (.slice (.arr 2 tI)) a1), (3, aB a3), (9, aD (.slice (.arr 2 tI)) v), (10, aI (List.length v1 : Int)), (11, aI i413)], [])
def talk_fool_b34 (a0 : (List (List Bool))) (a1 : (List (List Int))) (a3 : Bool) (v1 : (List Bool)) (rf_talk_fool : (List (List Bool)) → (List (List Int)) → Int → Bool → Option (List (List Int))) (i413 : Int) (x414 : (List (List Int))) : Option (Flow (List (List Int)) (List (List Int))) :=
(talk_fool_g32 a0 a1 a3 v1 rf_talk_fool i413 x414).bind fun v618 =>
some (.next v618)
@[reducible] def talk_fool_s35 (a0 : (List (List Bool))) (a1 : (List (List Int))) (a3 : Bool) (v1 : (List Bool)) (v : Int × (List (List Int))) : Fr × LL := ([(0, aD (.slice (.slice .bool)) a0), (1, aD (.slice (.arr 2 tI)) a1), (3, aB a3), (9, aD (.slice (.arr 2 tI)) v.2), (10, aI (List.length v1 : Int)), (11, aI v.1)], [])
@[reducible] def talk_fool_s36 (v : (List (List Int))) : Fr × LL := ([(9, aD (.slice (.arr 2 tI)) v)], [])
def talk_fool_step (rf_talk_fool : (List (List Bool)) → (List (List Int)) → Int → Bool → Option (List (List Int))) (fuel : Nat) (a0 : (List (List Bool))) (a1 : (List (List Int))) (a2 : Int) (a3 : Bool) : Option (List (List Int)) :=
(idx a0 (0 : Int)).bind fun v1 =>
(forI a2 (w64 ((List.length a0 : Int) * (List.length v1 : Int))) (talk_fool_b34 a0 a1 a3 v1 rf_talk_fool) (fun x414 => x414) a1).bind fun v621 =>
some v621
def talk_fool : Nat → (List (List Bool)) → (List (List Int)) → Int → Bool → Option (List (List Int))
  | 0 => fun _ _ _ _ => none
  | fuel + 1 => fun a0 a1 a2 a3 => talk_fool_step (talk_fool fuel) fuel a0 a1 a2 a3
theorem talk_fool_step_ok {rf_talk_fool : (List (List Bool)) → (List (List Int)) → Int → Bool → Option (List (List Int))} (ih_talk_fool : ∀ {a0 : (List (List Bool))} {a1 : (List (List Int))} {a2 : Int} {a3 : Bool} {r : (List (List Int))}, rf_talk_fool a0 a1 a2 a3 = some r → FnC Try.prog 46 [aD (.slice (.slice .bool)) a0, aD (.slice (.arr 2 tI)) a1, aI a2, aB a3] [] (aD (.slice (.arr 2 tI)) r) []) {fuel : Nat} {a0 : (List (List Bool))} {a1 : (List (List Int))} {a2 : Int} {a3 : Bool} {r : (List (List Int))} (h : talk_fool_step rf_talk_fool fuel a0 a1 a2 a3 = some r) : FnC Try.prog 46 [aD (.slice (.slice .bool)) a0, aD (.slice (.arr 2 tI)) a1, aI a2, aB a3] [] (aD (.slice (.arr 2 tI)) r) [] := by
  refine fnC_of_W (B := bodyOf Try.f46) (n := 106) Try.func46 (by kernel_rfl) (by kernel_rfl) (by kernel_rfl) (by kernel_rfl) (by kernel_rfl) ?_
  intro K
  refine W_seq (by kernel_rfl) ?_
  refine W_run 1 [] [0, 1, 2, 3] [] (fr' := [(0, aD (.slice (.slice .bool)) a0), (1, aD (.slice (.arr 2 tI)) a1), (2, aI a2), (3, aB a3)]) (L' := []) (obs := []) (by kernel_rfl) (by kernel_rfl) (by kernel_rfl) allP0 ?_
  refine seqQ_norm ?_
  refine W_seq (by kernel_rfl) ?_
  refine W_run 2 [] [0, 1, 2, 3, 9] [] (fr' := [(0, aD (.slice (.slice .bool)) a0), (1, aD (.slice (.arr 2 tI)) a1), (2, aI a2), (3, aB a3), (9, aD (.slice (.arr 2 tI)) a1)]) (L' := []) (obs := []) (by kernel_rfl) (by kernel_rfl) (by kernel_rfl) allP0 ?_
  refine seqQ_norm ?_
  refine W_seq (by kernel_rfl) ?_
  obtain ⟨v1, h2, h⟩ := bind_of h
  refine W_run 5 [(3, .val (.dat (.slice .bool) v1))] [0, 1, 2, 3, 9, 10] [] (fr' := [(0, aD (.slice (.slice .bool)) a0), (1, aD (.slice (.arr 2 tI)) a1), (2, aI a2), (3, aB a3), (9, aD (.slice (.arr 2 tI)) a1), (10, aI (List.length v1 : Int))]) (L' := []) (obs := [Idx a0 (0 : Int) v1]) (by kernel_rfl) (by kernel_rfl) (by kernel_rfl) (allP1 (Idx.of h2)) ?_
  refine seqQ_norm ?_
  refine W_seq (by kernel_rfl) ?_
  refine W_seq (by kernel_rfl) ?_
  refine W_run 2 [] [0, 1, 3, 9, 10, 11] [] (fr' := [(0, aD (.slice (.slice .bool)) a0), (1, aD (.slice (.arr 2 tI)) a1), (3, aB a3), (9, aD (.slice (.arr 2 tI)) a1), (10, aI (List.length v1 : Int)), (11, aI a2)]) (L' := []) (obs := []) (by kernel_rfl) (by kernel_rfl) (by kernel_rfl) allP0 ?_
  refine seqQ_norm ?_
  refine W_block (id := 0) (by kernel_rfl) ?_
  obtain ⟨v621, h622, h⟩ := bind_of h
  obtain ⟨h623, h624⟩ := forI_iter h622
  refine W_weaken [0, 1, 3, 9, 10, 11] [] (fr' := ((talk_fool_s35 a0 a1 a3 v1) (a2, a1)).1) (L' := ((talk_fool_s35 a0 a1 a3 v1) (a2, a1)).2) (by kernel_rfl) ?_
  refine W_cutK (W_loop (S := (talk_fool_s35 a0 a1 a3 v1)) (J := (exQ (.exit 0) talk_fool_s36)) (by kernel_rfl) ?_ h623 _ v621 h624) ?_
  · rintro ⟨i413, x414⟩ s h
    refine W_seq (by kernel_rfl) ?_
    refine W_seq (by kernel_rfl) ?_
    refine W_run 6 [] [0, 1, 3, 9, 10, 11, 28] [] (fr' := [(0, aD (.slice (.slice .bool)) a0), (1, aD (.slice (.arr 2 tI)) a1), (3, aB a3), (9, aD (.slice (.arr 2 tI)) x414), (10, aI (List.length v1 : Int)), (11, aI i413), (28, aB (decide (i413 < (w64 ((List.length a0 : Int) * (List.length v1 : Int))))))]) (L' := []) (obs := []) (by kernel_rfl) (by kernel_rfl) (by kernel_rfl) allP0 ?_
    refine seqQ_norm ?_
    refine W_cond (o := .tmp 28) (b := decide (i413 < (w64 ((List.length a0 : Int) * (List.length v1 : Int))))) (by kernel_rfl) (by kernel_rfl) (fun h416 => ?_) (fun h416 => ?_)
    · replace h := stepI_true h416 h
      obtain ⟨_, h, rfl⟩ := h
      refine W_skip [0, 1, 3, 9, 10, 11] [] (fr' := [(0, aD (.slice (.slice .bool)) a0), (1, aD (.slice (.arr 2 tI)) a1), (3, aB a3), (9, aD (.slice (.arr 2 tI)) x414), (10, aI (List.length v1 : Int)), (11, aI i413)]) (L' := []) (by kernel_rfl) (by kernel_rfl) ?_
      refine seqQ_norm ?_
      refine W_seq (by kernel_rfl) ?_
      obtain ⟨v618, h619, h⟩ := bind_of h
      refine W_cutK (Q' := (exQ .normal (talk_fool_s33 a0 a1 a3 v1 i413)) v618) ?_ ?_
      · replace h := h619
        refine W_block (id := 1) (by kernel_rfl) ?_
        refine W_seq (by kernel_rfl) ?_
        obtain ⟨_, h551, h⟩ := bind_of h
        replace h551 := ck_some h551
        refine W_drawC5 8 [] [(7, 12, .one (.arr 2 tI) [(0 : Int), (0 : Int)])] [(7, .one (.ptr 12 0))] [] [] [0, 1, 3, 9, 10, 11, 12, 37] [12] (out := [(31, aI i413), (32, aI (List.length v1 : Int)), (33, aI (w64 (Int.tdiv i413 (List.length v1 : Int)))), (34, aI i413), (35, aI (List.length v1 : Int)), (36, aI (Int.tmod i413 (List.length v1 : Int))), (37, aD (.arr 2 tI) [w64 (Int.tdiv i413 (List.length v1 : Int)), Int.tmod i413 (List.length v1 : Int)]), (12, .one (.ptr 12 0))]) (obs := [((List.length v1 : Int) ≠ 0), ((List.length v1 : Int) ≠ 0)]) (calls := []) (fr' := [(0, aD (.slice (.slice .bool)) a0), (1, aD (.slice (.arr 2 tI)) a1), (3, aB a3), (9, aD (.slice (.arr 2 tI)) x414), (10, aI (List.length v1 : Int)), (11, aI i413), (12, .one (.ptr 12 0)), (37, aD (.arr 2 tI) [w64 (Int.tdiv i413 (List.length v1 : Int)), Int.tmod i413 (List.length v1 : Int)])]) (L' := [(12, .one (.arr 2 tI) [(0 : Int), (0 : Int)])]) (by kernel_rfl) (by kernel_rfl) (by kernel_rfl) (by kernel_rfl) (by kernel_rfl) (allP2 h551 (allP1 h551)) allD0 chNil (mkDo (ty := true) (av := .one (.ptr 12 0)) (p := True) (by kernel_rfl) trivial (by kernel_rfl) mkNil) (by kernel_rfl) ?_
        refine WO_run (j := 9) (k := 1) (orcs := []) (kF := [0, 1, 3, 9, 10, 11, 12]) (kL := [12]) (fr' := [(0, aD (.slice (.slice .bool)) a0), (1, aD (.slice (.arr 2 tI)) a1), (3, aB a3), (9, aD (.slice (.arr 2 tI)) x414), (10, aI (List.length v1 : Int)), (11, aI i413), (12, .one (.ptr 12 0))]) (L' := [(12, .one (.arr 2 tI) [w64 (Int.tdiv i413 (List.length v1 : Int)), Int.tmod i413 (List.length v1 : Int)])]) (obs := [True]) rfl (by kernel_rfl) (allP1 trivial) ?_
        refine WO_fin [0, 1, 3, 9, 10, 11, 12] [12] (fr' := [(0, aD (.slice (.slice .bool)) a0), (1, aD (.slice (.arr 2 tI)) a1), (3, aB a3), (9, aD (.slice (.arr 2 tI)) x414), (10, aI (List.length v1 : Int)), (11, aI i413), (12, .one (.ptr 12 0))]) (L' := [(12, .one (.arr 2 tI) [w64 (Int.tdiv i413 (List.length v1 : Int)), Int.tmod i413 (List.length v1 : Int)])]) (by kernel_rfl) (by kernel_rfl) ?_
        refine ⟨rfl, ?_⟩
        refine seqQ_norm ?_
        refine W_seq (by kernel_rfl) ?_
        obtain ⟨v552, h553, h⟩ := bind_of h
        obtain ⟨v554, h555, h⟩ := bind_of h
        refine W_draw2 11 [(5, .val (.dat tI (w64 (Int.tdiv i413 (List.length v1 : Int))))), (7, .val (.dat (.slice .bool) v552)), (13, .val (.dat tI (Int.tmod i413 (List.length v1 : Int)))), (15, .val (.dat .bool v554))] [] [0, 1, 3, 9, 10, 11, 12, 13] [12] (fr' := [(0, aD (.slice (.slice .bool)) a0), (1, aD (.slice (.arr 2 tI)) a1), (3, aB a3), (9, aD (.slice (.arr 2 tI)) x414), (10, aI (List.length v1 : Int)), (11, aI i413), (12, .one (.ptr 12 0)), (13, aB (v554 == a3))]) (L' := [(12, .one (.arr 2 tI) [w64 (Int.tdiv i413 (List.length v1 : Int)), Int.tmod i413 (List.length v1 : Int)])]) (out := [(38, aD (.slice (.slice .bool)) a0), (39, .one (.eptr 12 1 (0 : Int) 0)), (40, aI (w64 (Int.tdiv i413 (List.length v1 : Int)))), (41, .one (.dptr (.slice .bool) v552)), (42, aD (.slice .bool) v552), (43, .one (.eptr 12 1 (1 : Int) 0)), (44, aI (Int.tmod i413 (List.length v1 : Int))), (45, .one (.dptr .bool v554)), (46, aB v554), (47, aB a3), (48, aB (v554 == a3))]) (obs := [InR (0 : Int) 2, Idx [w64 (Int.tdiv i413 (List.length v1 : Int)), Int.tmod i413 (List.length v1 : Int)] (0 : Int) (w64 (Int.tdiv i413 (List.length v1 : Int))), Idx a0 (w64 (Int.tdiv i413 (List.length v1 : Int))) v552, InR (1 : Int) 2, Idx [w64 (Int.tdiv i413 (List.length v1 : Int)), Int.tmod i413 (List.length v1 : Int)] (1 : Int) (Int.tmod i413 (List.length v1 : Int)), Idx v552 (Int.tmod i413 (List.length v1 : Int)) v554]) (obs2 := []) (calls := []) (by kernel_rfl) (by kernel_rfl) (by kernel_rfl) (by kernel_rfl) (allP2 (by unfold InR; decide) (allP2 (Idx.of (rfl : idx [w64 (Int.tdiv i413 (List.length v1 : Int)), Int.tmod i413 (List.length v1 : Int)] (0 : Int) = some (w64 (Int.tdiv i413 (List.length v1 : Int))))) (allP2 (Idx.of h553) (allP2 (by unfold InR; decide) (allP2 (Idx.of (rfl : idx [w64 (Int.tdiv i413 (List.length v1 : Int)), Int.tmod i413 (List.length v1 : Int)] (1 : Int) = some (Int.tmod i413 (List.length v1 : Int)))) (allP1 (Idx.of h555))))))) allC0 (by kernel_rfl) allP0 ?_
        refine seqQ_norm ?_
        refine W_seq (by kernel_rfl) ?_
        refine W_seq (by kernel_rfl) ?_
        refine W_run 3 [] [0, 1, 3, 9, 10, 11, 12, 13, 49, 50, 51] [12] (fr' := [(0, aD (.slice (.slice .bool)) a0), (1, aD (.slice (.arr 2 tI)) a1), (3, aB a3), (9, aD (.slice (.arr 2 tI)) x414), (10, aI (List.length v1 : Int)), (11, aI i413), (12, .one (.ptr 12 0)), (13, aB (v554 == a3)), (49, aD (.slice (.arr 2 tI)) a1), (50, aI (List.length a1 : Int)), (51, aI (0 : Int))]) (L' := [(12, .one (.arr 2 tI) [w64 (Int.tdiv i413 (List.length v1 : Int)), Int.tmod i413 (List.length v1 : Int)])]) (obs := []) (by kernel_rfl) (by kernel_rfl) (by kernel_rfl) allP0 ?_
        refine seqQ_norm ?_
        refine W_block (id := 2) (by kernel_rfl) ?_
        obtain ⟨v607, h608, h⟩ := bind_of h
        refine W_len (t := 49) (u := (.arr 2 tI)) (xs := a1) (by kernel_rfl) (fun h611 => ?_)
        obtain ⟨h609, h610⟩ := forL_iter h611 h608
        refine W_weaken [0, 1, 3, 9, 10, 11, 12, 13, 49, 50, 51] [12] (fr' := ((talk_fool_s30 a0 a1 a3 v1 i413 x414) ((0 : Int), v554 == a3)).1) (L' := ((talk_fool_s30 a0 a1 a3 v1 i413 x414) ((0 : Int), v554 == a3)).2) (by kernel_rfl) ?_
        refine W_cutK (W_loop (S := (talk_fool_s30 a0 a1 a3 v1 i413 x414)) (J := (exQ (.exit 2) (talk_fool_s31 a0 a1 a3 v1 i413 x414))) (by kernel_rfl) ?_ h609 _ v607 h610) ?_
        · rintro ⟨i588, x589⟩ s h
          refine W_seq (by kernel_rfl) ?_
          refine W_run 1 [] [0, 1, 3, 9, 10, 11, 12, 13, 49, 50, 51, 52] [12] (fr' := [(0, aD (.slice (.slice .bool)) a0), (1, aD (.slice (.arr 2 tI)) a1), (3, aB a3), (9, aD (.slice (.arr 2 tI)) x414), (10, aI (List.length v1 : Int)), (11, aI i413), (12, .one (.ptr 12 0)), (13, aB x589), (49, aD (.slice (.arr 2 tI)) a1), (50, aI (List.length a1 : Int)), (51, aI i588), (52, aB (decide (i588 < (List.length a1 : Int))))]) (L' := [(12, .one (.arr 2 tI) [w64 (Int.tdiv i413 (List.length v1 : Int)), Int.tmod i413 (List.length v1 : Int)])]) (obs := []) (by kernel_rfl) (by kernel_rfl) (by kernel_rfl) allP0 ?_
          refine seqQ_norm ?_
          refine W_seq (by kernel_rfl) ?_
          refine W_cond (o := .tmp 52) (b := decide (i588 < (List.length a1 : Int))) (by kernel_rfl) (by kernel_rfl) (fun h593 => ?_) (fun h593 => ?_)
          · replace h := stepL_true h593 h
            obtain ⟨v591, _, h592, h, rfl⟩ := h
            refine W_skip [0, 1, 3, 9, 10, 11, 12, 13, 49, 50, 51] [12] (fr' := [(0, aD (.slice (.slice .bool)) a0), (1, aD (.slice (.arr 2 tI)) a1), (3, aB a3), (9, aD (.slice (.arr 2 tI)) x414), (10, aI (List.length v1 : Int)), (11, aI i413), (12, .one (.ptr 12 0)), (13, aB x589), (49, aD (.slice (.arr 2 tI)) a1), (50, aI (List.length a1 : Int)), (51, aI i588)]) (L' := [(12, .one (.arr 2 tI) [w64 (Int.tdiv i413 (List.length v1 : Int)), Int.tmod i413 (List.length v1 : Int)])]) (by kernel_rfl) (by kernel_rfl) ?_
            refine seqQ_norm ?_
            refine W_seq (by kernel_rfl) ?_
            refine W_block (id := 3) (by kernel_rfl) ?_
            refine W_seq (by kernel_rfl) ?_
            refine W_run 4 [(1, .val (.dat (.arr 2 tI) v591)), (5, .typed)] [0, 1, 3, 9, 10, 11, 12, 13, 15, 49, 50, 51] [12, 15] (fr' := [(0, aD (.slice (.slice .bool)) a0), (1, aD (.slice (.arr 2 tI)) a1), (3, aB a3), (9, aD (.slice (.arr 2 tI)) x414), (10, aI (List.length v1 : Int)), (11, aI i413), (12, .one (.ptr 12 0)), (13, aB x589), (15, .one (.ptr 15 0)), (49, aD (.slice (.arr 2 tI)) a1), (50, aI (List.length a1 : Int)), (51, aI i588)]) (L' := [(12, .one (.arr 2 tI) [w64 (Int.tdiv i413 (List.length v1 : Int)), Int.tmod i413 (List.length v1 : Int)]), (15, .one (.arr 2 tI) v591)]) (obs := [Idx a1 i588 v591, True]) (by kernel_rfl) (by kernel_rfl) (by kernel_rfl) (allP2 (Idx.of h592) (allP1 trivial)) ?_
            refine seqQ_norm ?_
            rcases Bool.eq_false_or_eq_true (x589) with h594 | h594
            · replace h := ofT h594 h
              obtain ⟨v595, h596, h⟩ := bind_of h
              obtain ⟨v597, h598, h⟩ := bind_of h
              rcases Bool.eq_false_or_eq_true (!(v597 == a3)) with h599 | h599
              · replace h := ofT h599 h
                refine W_draw2 27 [(4, .known true), (6, .known true), (8, .known true), (9, .val (.dat tI (w64 (Int.tdiv i413 (List.length v1 : Int))))), (10, .known true), (11, .val (.dat (.slice .bool) v552)), (12, .known true), (14, .known true), (16, .known true), (17, .val (.dat tI v595)), (18, .known true), (19, .val (.dat .bool v597)), (20, .known true), (22, .known true), (24, .known true), (26, .known true), (28, .known true), (30, .known true), (32, .known true), (34, .known true), (36, .known true), (38, .known true), (40, .known true), (42, .known true), (44, .known true), (46, .known true), (48, .known true), (50, .known true), (51, .val (.dat .bool true)), (53, .val (.dat .bool true))] [] [0, 1, 3, 9, 10, 11, 12, 13, 49, 50, 51] [12] (fr' := [(0, aD (.slice (.slice .bool)) a0), (1, aD (.slice (.arr 2 tI)) a1), (3, aB a3), (9, aD (.slice (.arr 2 tI)) x414), (10, aI (List.length v1 : Int)), (11, aI i413), (12, .one (.ptr 12 0)), (13, aB true), (49, aD (.slice (.arr 2 tI)) a1), (50, aI (List.length a1 : Int)), (51, aI i588)]) (L' := [(12, .one (.arr 2 tI) [w64 (Int.tdiv i413 (List.length v1 : Int)), Int.tmod i413 (List.length v1 : Int)])]) (out := [(55, aB x589), (56, aB x589), (57, aD (.slice (.slice .bool)) a0), (58, .one (.eptr 12 1 (0 : Int) 0)), (59, aI (w64 (Int.tdiv i413 (List.length v1 : Int)))), (60, .one (.dptr (.slice .bool) v552)), (61, aD (.slice .bool) v552), (62, .one (.eptr 15 1 (1 : Int) 0)), (63, aI v595), (64, .one (.dptr .bool v597)), (65, aB v597), (66, aB a3), (67, aB (!(v597 == a3))), (68, aB (!(v597 == a3))), (69, .tup []), (70, .tup []), (71, .tup []), (72, .tup []), (73, .tup []), (74, .tup []), (75, .tup []), (76, .tup []), (77, .tup []), (78, .tup []), (79, .tup []), (80, aB true), (81, aB true)]) (obs := [(x589 = true), (x589 = true), InR (0 : Int) 2, (x589 = true), Idx [w64 (Int.tdiv i413 (List.length v1 : Int)), Int.tmod i413 (List.length v1 : Int)] (0 : Int) (w64 (Int.tdiv i413 (List.length v1 : Int))), (x589 = true), Idx a0 (w64 (Int.tdiv i413 (List.length v1 : Int))) v552, (x589 = true), (x589 = true), InR (1 : Int) 2, (x589 = true), Idx v591 (1 : Int) v595, (x589 = true), Idx v552 v595 v597, (x589 = true), (x589 = true), (x589 = true), (x589 = true), ((!(v597 == a3)) = true), ((!(v597 == a3)) = true), ((!(v597 == a3)) = true), ((!(v597 == a3)) = true), ((!(v597 == a3)) = true), ((!(v597 == a3)) = true), ((!(v597 == a3)) = true), ((!(v597 == a3)) = true), ((!(v597 == a3)) = true), ((!(v597 == a3)) = true), ((!(v597 == a3)) = true), (x589 = true), ((!(v597 == a3)) = true), (x589 = true)]) (obs2 := []) (calls := []) (by kernel_rfl) (by kernel_rfl) (by kernel_rfl) (by kernel_rfl) (allP2 h594 (allP2 h594 (allP2 (by unfold InR; decide) (allP2 h594 (allP2 (Idx.of (rfl : idx [w64 (Int.tdiv i413 (List.length v1 : Int)), Int.tmod i413 (List.length v1 : Int)] (0 : Int) = some (w64 (Int.tdiv i413 (List.length v1 : Int))))) (allP2 h594 (allP2 (Idx.of h553) (allP2 h594 (allP2 h594 (allP2 (by unfold InR; decide) (allP2 h594 (allP2 (Idx.of h596) (allP2 h594 (allP2 (Idx.of h598) (allP2 h594 (allP2 h594 (allP2 h594 (allP2 h594 (allP2 h599 (allP2 h599 (allP2 h599 (allP2 h599 (allP2 h599 (allP2 h599 (allP2 h599 (allP2 h599 (allP2 h599 (allP2 h599 (allP2 h599 (allP2 h594 (allP2 h599 (allP1 h594)))))))))))))))))))))))))))))))) allC0 (by kernel_rfl) allP0 ?_
                refine blockQ_norm ?_
                refine seqQ_norm ?_
                obtain rfl := Option.some.inj h
                refine W_run 2 [] [0, 1, 3, 9, 10, 11, 12, 13, 49, 50, 51] [12] (fr' := [(0, aD (.slice (.slice .bool)) a0), (1, aD (.slice (.arr 2 tI)) a1), (3, aB a3), (9, aD (.slice (.arr 2 tI)) x414), (10, aI (List.length v1 : Int)), (11, aI i413), (12, .one (.ptr 12 0)), (13, aB true), (49, aD (.slice (.arr 2 tI)) a1), (50, aI (List.length a1 : Int)), (51, aI (w64 (i588 + (1 : Int))))]) (L' := [(12, .one (.arr 2 tI) [w64 (Int.tdiv i413 (List.length v1 : Int)), Int.tmod i413 (List.length v1 : Int)])]) (obs := []) (by kernel_rfl) (by kernel_rfl) (by kernel_rfl) allP0 ?_
                exact round_next' (by kernel_rfl) (by kernel_rfl)
              · replace h := ofF h599 h
                obtain ⟨v600, h601, h⟩ := bind_of h
                obtain ⟨v602, h603, h⟩ := bind_of h
                obtain ⟨v604, h605, h⟩ := bind_of h
                refine W_draw2 27 [(4, .known true), (6, .known true), (8, .known true), (9, .val (.dat tI (w64 (Int.tdiv i413 (List.length v1 : Int))))), (10, .known true), (11, .val (.dat (.slice .bool) v552)), (12, .known true), (14, .known true), (16, .known true), (17, .val (.dat tI v595)), (18, .known true), (19, .val (.dat .bool v597)), (20, .known true), (22, .known true), (24, .known true), (26, .known true), (28, .known false), (30, .known false), (32, .known false), (33, .val (.dat tI v600)), (34, .known false), (35, .val (.dat (.slice .bool) v602)), (36, .known false), (38, .known false), (40, .known false), (41, .val (.dat tI (Int.tmod i413 (List.length v1 : Int)))), (42, .known false), (43, .val (.dat .bool v604)), (44, .known false), (46, .known false), (48, .known false), (50, .known true), (51, .val (.dat .bool false)), (53, .val (.dat .bool true))] [] [0, 1, 3, 9, 10, 11, 12, 13, 49, 50, 51] [12] (fr' := [(0, aD (.slice (.slice .bool)) a0), (1, aD (.slice (.arr 2 tI)) a1), (3, aB a3), (9, aD (.slice (.arr 2 tI)) x414), (10, aI (List.length v1 : Int)), (11, aI i413), (12, .one (.ptr 12 0)), (13, aB (!(v604 == a3))), (49, aD (.slice (.arr 2 tI)) a1), (50, aI (List.length a1 : Int)), (51, aI i588)]) (L' := [(12, .one (.arr 2 tI) [w64 (Int.tdiv i413 (List.length v1 : Int)), Int.tmod i413 (List.length v1 : Int)])]) (out := [(55, aB x589), (56, aB x589), (57, aD (.slice (.slice .bool)) a0), (58, .one (.eptr 12 1 (0 : Int) 0)), (59, aI (w64 (Int.tdiv i413 (List.length v1 : Int)))), (60, .one (.dptr (.slice .bool) v552)), (61, aD (.slice .bool) v552), (62, .one (.eptr 15 1 (1 : Int) 0)), (63, aI v595), (64, .one (.dptr .bool v597)), (65, aB v597), (66, aB a3), (67, aB (!(v597 == a3))), (68, aB (!(v597 == a3))), (69, aD (.slice (.slice .bool)) a0), (70, .one (.eptr 15 1 (0 : Int) 0)), (71, aI v600), (72, .one (.dptr (.slice .bool) v602)), (73, aD (.slice .bool) v602), (74, .one (.eptr 12 1 (1 : Int) 0)), (75, aI (Int.tmod i413 (List.length v1 : Int))), (76, .one (.dptr .bool v604)), (77, aB v604), (78, aB a3), (79, aB (!(v604 == a3))), (80, aB (!(v604 == a3))), (81, aB (!(v604 == a3)))]) (obs := [(x589 = true), (x589 = true), InR (0 : Int) 2, (x589 = true), Idx [w64 (Int.tdiv i413 (List.length v1 : Int)), Int.tmod i413 (List.length v1 : Int)] (0 : Int) (w64 (Int.tdiv i413 (List.length v1 : Int))), (x589 = true), Idx a0 (w64 (Int.tdiv i413 (List.length v1 : Int))) v552, (x589 = true), (x589 = true), InR (1 : Int) 2, (x589 = true), Idx v591 (1 : Int) v595, (x589 = true), Idx v552 v595 v597, (x589 = true), (x589 = true), (x589 = true), (x589 = true), ((!(v597 == a3)) = false), ((!(v597 == a3)) = false), InR (0 : Int) 2, ((!(v597 == a3)) = false), Idx v591 (0 : Int) v600, ((!(v597 == a3)) = false), Idx a0 v600 v602, ((!(v597 == a3)) = false), ((!(v597 == a3)) = false), InR (1 : Int) 2, ((!(v597 == a3)) = false), Idx [w64 (Int.tdiv i413 (List.length v1 : Int)), Int.tmod i413 (List.length v1 : Int)] (1 : Int) (Int.tmod i413 (List.length v1 : Int)), ((!(v597 == a3)) = false), Idx v602 (Int.tmod i413 (List.length v1 : Int)) v604, ((!(v597 == a3)) = false), ((!(v597 == a3)) = false), ((!(v597 == a3)) = false), (x589 = true), ((!(v597 == a3)) = false), (x589 = true)]) (obs2 := []) (calls := []) (by kernel_rfl) (by kernel_rfl) (by kernel_rfl) (by kernel_rfl) (allP2 h594 (allP2 h594 (allP2 (by unfold InR; decide) (allP2 h594 (allP2 (Idx.of (rfl : idx [w64 (Int.tdiv i413 (List.length v1 : Int)), Int.tmod i413 (List.length v1 : Int)] (0 : Int) = some (w64 (Int.tdiv i413 (List.length v1 : Int))))) (allP2 h594 (allP2 (Idx.of h553) (allP2 h594 (allP2 h594 (allP2 (by unfold InR; decide) (allP2 h594 (allP2 (Idx.of h596) (allP2 h594 (allP2 (Idx.of h598) (allP2 h594 (allP2 h594 (allP2 h594 (allP2 h594 (allP2 h599 (allP2 h599 (allP2 (by unfold InR; decide) (allP2 h599 (allP2 (Idx.of h601) (allP2 h599 (allP2 (Idx.of h603) (allP2 h599 (allP2 h599 (allP2 (by unfold InR; decide) (allP2 h599 (allP2 (Idx.of (rfl : idx [w64 (Int.tdiv i413 (List.length v1 : Int)), Int.tmod i413 (List.length v1 : Int)] (1 : Int) = some (Int.tmod i413 (List.length v1 : Int)))) (allP2 h599 (allP2 (Idx.of h605) (allP2 h599 (allP2 h599 (allP2 h599 (allP2 h594 (allP2 h599 (allP1 h594)))))))))))))))))))))))))))))))))))))) allC0 (by kernel_rfl) allP0 ?_
                refine blockQ_norm ?_
                refine seqQ_norm ?_
                obtain rfl := Option.some.inj h
                refine W_run 2 [] [0, 1, 3, 9, 10, 11, 12, 13, 49, 50, 51] [12] (fr' := [(0, aD (.slice (.slice .bool)) a0), (1, aD (.slice (.arr 2 tI)) a1), (3, aB a3), (9, aD (.slice (.arr 2 tI)) x414), (10, aI (List.length v1 : Int)), (11, aI i413), (12, .one (.ptr 12 0)), (13, aB (!(v604 == a3))), (49, aD (.slice (.arr 2 tI)) a1), (50, aI (List.length a1 : Int)), (51, aI (w64 (i588 + (1 : Int))))]) (L' := [(12, .one (.arr 2 tI) [w64 (Int.tdiv i413 (List.length v1 : Int)), Int.tmod i413 (List.length v1 : Int)])]) (obs := []) (by kernel_rfl) (by kernel_rfl) (by kernel_rfl) allP0 ?_
                exact round_next' (by kernel_rfl) (by kernel_rfl)
            · replace h := ofF h594 h
              refine W_draw2 27 [(4, .known false), (6, .known false), (8, .known false), (10, .known false), (12, .known false), (14, .known false), (16, .known false), (18, .known false), (20, .known false), (22, .known false), (24, .known false), (26, .known false), (28, .known true), (30, .known true), (32, .known true), (34, .known true), (36, .known true), (38, .known true), (40, .known true), (42, .known true), (44, .known true), (46, .known true), (48, .known true), (50, .known false), (53, .val (.dat .bool false))] [] [0, 1, 3, 9, 10, 11, 12, 13, 49, 50, 51] [12] (fr' := [(0, aD (.slice (.slice .bool)) a0), (1, aD (.slice (.arr 2 tI)) a1), (3, aB a3), (9, aD (.slice (.arr 2 tI)) x414), (10, aI (List.length v1 : Int)), (11, aI i413), (12, .one (.ptr 12 0)), (13, aB false), (49, aD (.slice (.arr 2 tI)) a1), (50, aI (List.length a1 : Int)), (51, aI i588)]) (L' := [(12, .one (.arr 2 tI) [w64 (Int.tdiv i413 (List.length v1 : Int)), Int.tmod i413 (List.length v1 : Int)])]) (out := [(55, aB x589), (56, aB x589), (57, .tup []), (58, .tup []), (59, .tup []), (60, .tup []), (61, .tup []), (62, .tup []), (63, .tup []), (64, .tup []), (65, .tup []), (66, .tup []), (67, .tup []), (68, .tup []), (69, .tup []), (70, .tup []), (71, .tup []), (72, .tup []), (73, .tup []), (74, .tup []), (75, .tup []), (76, .tup []), (77, .tup []), (78, .tup []), (79, .tup []), (80, .tup []), (81, aB false)]) (obs := [(x589 = false), (x589 = false), (x589 = false), (x589 = false), (x589 = false), (x589 = false), (x589 = false), (x589 = false), (x589 = false), (x589 = false), (x589 = false), (x589 = false), (x589 = false), (x589 = false)]) (obs2 := []) (calls := []) (by kernel_rfl) (by kernel_rfl) (by kernel_rfl) (by kernel_rfl) (allP2 h594 (allP2 h594 (allP2 h594 (allP2 h594 (allP2 h594 (allP2 h594 (allP2 h594 (allP2 h594 (allP2 h594 (allP2 h594 (allP2 h594 (allP2 h594 (allP2 h594 (allP1 h594)))))))))))))) allC0 (by kernel_rfl) allP0 ?_
              refine blockQ_norm ?_
              refine seqQ_norm ?_
              obtain rfl := Option.some.inj h
              refine W_run 2 [] [0, 1, 3, 9, 10, 11, 12, 13, 49, 50, 51] [12] (fr' := [(0, aD (.slice (.slice .bool)) a0), (1, aD (.slice (.arr 2 tI)) a1), (3, aB a3), (9, aD (.slice (.arr 2 tI)) x414), (10, aI (List.length v1 : Int)), (11, aI i413), (12, .one (.ptr 12 0)), (13, aB false), (49, aD (.slice (.arr 2 tI)) a1), (50, aI (List.length a1 : Int)), (51, aI (w64 (i588 + (1 : Int))))]) (L' := [(12, .one (.arr 2 tI) [w64 (Int.tdiv i413 (List.length v1 : Int)), Int.tmod i413 (List.length v1 : Int)])]) (obs := []) (by kernel_rfl) (by kernel_rfl) (by kernel_rfl) allP0 ?_
              exact round_next' (by kernel_rfl) (by kernel_rfl)
          · obtain rfl := stepL_false h593 h
            refine W_exit (id := 2) [0, 1, 3, 9, 10, 11, 12, 13] [12] (fr' := [(0, aD (.slice (.slice .bool)) a0), (1, aD (.slice (.arr 2 tI)) a1), (3, aB a3), (9, aD (.slice (.arr 2 tI)) x414), (10, aI (List.length v1 : Int)), (11, aI i413), (12, .one (.ptr 12 0)), (13, aB x589)]) (L' := [(12, .one (.arr 2 tI) [w64 (Int.tdiv i413 (List.length v1 : Int)), Int.tmod i413 (List.length v1 : Int)])]) (by kernel_rfl) (by kernel_rfl) ?_
            refine seqQ_exit ?_
            refine round_exit ?_
            exact exQ_mk (by kernel_rfl) (by kernel_rfl)
        · intro e fr L hJ
          obtain ⟨rfl, rfl, rfl⟩ := hJ
          refine LT_keep [0, 1, 3, 9, 10, 11, 12, 13] [12] (fr' := [(0, aD (.slice (.slice .bool)) a0), (1, aD (.slice (.arr 2 tI)) a1), (3, aB a3), (9, aD (.slice (.arr 2 tI)) x414), (10, aI (List.length v1 : Int)), (11, aI i413), (12, .one (.ptr 12 0)), (13, aB v607)]) (L' := [(12, .one (.arr 2 tI) [w64 (Int.tdiv i413 (List.length v1 : Int)), Int.tmod i413 (List.length v1 : Int)])]) (by kernel_rfl) ?_
          refine blockQ_hit ?_
          refine seqQ_norm ?_
          refine W_seq (by kernel_rfl) ?_
          refine W_seq (by kernel_rfl) ?_
          refine W_run 2 [] [0, 1, 3, 9, 10, 11, 12, 84] [12] (fr' := [(0, aD (.slice (.slice .bool)) a0), (1, aD (.slice (.arr 2 tI)) a1), (3, aB a3), (9, aD (.slice (.arr 2 tI)) x414), (10, aI (List.length v1 : Int)), (11, aI i413), (12, .one (.ptr 12 0)), (84, aB (!v607))]) (L' := [(12, .one (.arr 2 tI) [w64 (Int.tdiv i413 (List.length v1 : Int)), Int.tmod i413 (List.length v1 : Int)])]) (obs := []) (by kernel_rfl) (by kernel_rfl) (by kernel_rfl) allP0 ?_
          refine seqQ_norm ?_
          refine W_cond (o := .tmp 84) (b := !v607) (by kernel_rfl) (by kernel_rfl) (fun h612 => ?_) (fun h612 => ?_)
          · replace h := ofT h612 h
            obtain rfl := Option.some.inj h
            refine W_exit (id := 1) [0, 1, 3, 9, 10, 11] [] (fr' := [(0, aD (.slice (.slice .bool)) a0), (1, aD (.slice (.arr 2 tI)) a1), (3, aB a3), (9, aD (.slice (.arr 2 tI)) x414), (10, aI (List.length v1 : Int)), (11, aI i413)]) (L' := []) (by kernel_rfl) (by kernel_rfl) ?_
            refine seqQ_exit ?_
            refine blockQ_hit ?_
            exact exQ_mk (by kernel_rfl) (by kernel_rfl)
          · replace h := ofF h612 h
            refine W_skip [0, 1, 3, 9, 10, 11, 12] [12] (fr' := [(0, aD (.slice (.slice .bool)) a0), (1, aD (.slice (.arr 2 tI)) a1), (3, aB a3), (9, aD (.slice (.arr 2 tI)) x414), (10, aI (List.length v1 : Int)), (11, aI i413), (12, .one (.ptr 12 0))]) (L' := [(12, .one (.arr 2 tI) [w64 (Int.tdiv i413 (List.length v1 : Int)), Int.tmod i413 (List.length v1 : Int)])]) (by kernel_rfl) (by kernel_rfl) ?_
            refine seqQ_norm ?_
            refine W_seq (by kernel_rfl) ?_
            obtain ⟨_, h613, h⟩ := bind_of h
            replace h613 := ck_some h613
            obtain ⟨_, h614, h⟩ := bind_of h
            replace h614 := ck_some h614
            obtain ⟨r615, h616, h⟩ := bind_of h
            refine W_draw5 14 [] [] [(13, [none, none, none, none], aD (.slice (.arr 2 tI)) r615)] [0, 1, 3, 9, 10, 11, 16] [] (fr' := [(0, aD (.slice (.slice .bool)) a0), (1, aD (.slice (.arr 2 tI)) a1), (3, aB a3), (9, aD (.slice (.arr 2 tI)) x414), (10, aI (List.length v1 : Int)), (11, aI i413), (16, aD (.slice (.arr 2 tI)) r615)]) (L' := []) (out := [(85, aD (.slice (.slice .bool)) a0), (86, aD (.slice (.arr 2 tI)) a1), (87, aD (.slice (.arr 2 tI)) a1), (88, aI (List.length a1 : Int)), (89, aD (.slice (.arr 2 tI)) a1), (90, aI (List.length a1 : Int)), (91, .one (.cdat (.arr 2 tI) (sub a1 (0 : Int) (List.length a1 : Int)))), (92, aD (.arr 2 tI) [w64 (Int.tdiv i413 (List.length v1 : Int)), Int.tmod i413 (List.length v1 : Int)]), (93, aD (.slice (.arr 2 tI)) [[w64 (Int.tdiv i413 (List.length v1 : Int)), Int.tmod i413 (List.length v1 : Int)]]), (94, aD (.slice (.arr 2 tI)) ((sub a1 (0 : Int) (List.length a1 : Int)) ++ [[w64 (Int.tdiv i413 (List.length v1 : Int)), Int.tmod i413 (List.length v1 : Int)]])), (95, aI i413), (96, aI (w64 (i413 + (1 : Int)))), (97, aB a3), (98, aD (.slice (.arr 2 tI)) r615)]) (obs := [Cuts (0 : Int) (List.length a1 : Int) (List.length a1) ∧ (List.length a1 : Int) = (List.length a1 : Int), True, True, 0 < List.length [[w64 (Int.tdiv i413 (List.length v1 : Int)), Int.tmod i413 (List.length v1 : Int)]] ∧ SmallLen (List.length (sub a1 (0 : Int) (List.length a1 : Int)) + List.length [[w64 (Int.tdiv i413 (List.length v1 : Int)), Int.tmod i413 (List.length v1 : Int)]]), True]) (obs2 := []) (calls := [(46, [aD (.slice (.slice .bool)) a0, aD (.slice (.arr 2 tI)) ((sub a1 (0 : Int) (List.length a1 : Int)) ++ [[w64 (Int.tdiv i413 (List.length v1 : Int)), Int.tmod i413 (List.length v1 : Int)]]), aI (w64 (i413 + (1 : Int))), aB a3], aD (.slice (.arr 2 tI)) r615)]) (by kernel_rfl) (by kernel_rfl) (by kernel_rfl) (by kernel_rfl) (allP2 ⟨⟨h613.1, h613.2.1, h613.2.2.1⟩, h613.2.2.2⟩ (allP2 trivial (allP2 trivial (allP2 ⟨(Nat.succ_pos _), h614⟩ (allP1 trivial))))) (allD2 [] _ _ (by kernel_rfl) (ih_talk_fool h616) (by kernel_rfl) (by kernel_rfl) (by kernel_rfl) (by kernel_rfl) allD0) (by kernel_rfl) allP0 ?_
            refine seqQ_norm ?_
            refine W_seq (by kernel_rfl) ?_
            refine W_run 5 [] [0, 1, 3, 9, 10, 11, 16, 103] [] (fr' := [(0, aD (.slice (.slice .bool)) a0), (1, aD (.slice (.arr 2 tI)) a1), (3, aB a3), (9, aD (.slice (.arr 2 tI)) x414), (10, aI (List.length v1 : Int)), (11, aI i413), (16, aD (.slice (.arr 2 tI)) r615), (103, aB (decide ((List.length r615 : Int) > (List.length x414 : Int))))]) (L' := []) (obs := []) (by kernel_rfl) (by kernel_rfl) (by kernel_rfl) allP0 ?_
            refine seqQ_norm ?_
            refine W_cond (o := .tmp 103) (b := decide ((List.length r615 : Int) > (List.length x414 : Int))) (by kernel_rfl) (by kernel_rfl) (fun h617 => ?_) (fun h617 => ?_)
            · replace h := ofT h617 h
              obtain rfl := Option.some.inj h
              refine W_run 2 [] [0, 1, 3, 9, 10, 11] [] (fr' := [(0, aD (.slice (.slice .bool)) a0), (1, aD (.slice (.arr 2 tI)) a1), (3, aB a3), (9, aD (.slice (.arr 2 tI)) r615), (10, aI (List.length v1 : Int)), (11, aI i413)]) (L' := []) (obs := []) (by kernel_rfl) (by kernel_rfl) (by kernel_rfl) allP0 ?_
              refine blockQ_norm ?_
              exact exQ_mk (by kernel_rfl) (by kernel_rfl)
            · replace h := ofF h617 h
              obtain rfl := Option.some.inj h
              refine W_skip [0, 1, 3, 9, 10, 11] [] (fr' := [(0, aD (.slice (.slice .bool)) a0), (1, aD (.slice (.arr 2 tI)) a1), (3, aB a3), (9, aD (.slice (.arr 2 tI)) x414), (10, aI (List.length v1 : Int)), (11, aI i413)]) (L' := []) (by kernel_rfl) (by kernel_rfl) ?_
              refine blockQ_norm ?_
              exact exQ_mk (by kernel_rfl) (by kernel_rfl)
      · intro e fr L hJ
        obtain ⟨rfl, rfl, rfl⟩ := hJ
        refine LT_keep [0, 1, 3, 9, 10, 11] [] (fr' := [(0, aD (.slice (.slice .bool)) a0), (1, aD (.slice (.arr 2 tI)) a1), (3, aB a3), (9, aD (.slice (.arr 2 tI)) v618), (10, aI (List.length v1 : Int)), (11, aI i413)]) (L' := []) (by kernel_rfl) ?_
        refine seqQ_norm ?_
        obtain rfl := Option.some.inj h
        refine W_run 3 [] [0, 1, 3, 9, 10, 11] [] (fr' := [(0, aD (.slice (.slice .bool)) a0), (1, aD (.slice (.arr 2 tI)) a1), (3, aB a3), (9, aD (.slice (.arr 2 tI)) v618), (10, aI (List.length v1 : Int)), (11, aI (w64 (i413 + (1 : Int))))]) (L' := []) (obs := []) (by kernel_rfl) (by kernel_rfl) (by kernel_rfl) allP0 ?_
        exact round_next' (by kernel_rfl) (by kernel_rfl)
    · obtain rfl := stepI_false h416 h
      refine W_exit (id := 0) [9] [] (fr' := [(9, aD (.slice (.arr 2 tI)) x414)]) (L' := []) (by kernel_rfl) (by kernel_rfl) ?_
      refine seqQ_exit ?_
      refine round_exit ?_
      exact exQ_mk (by kernel_rfl) (by kernel_rfl)
  · intro e fr L hJ
    obtain ⟨rfl, rfl, rfl⟩ := hJ
    refine LT_keep [9] [] (fr' := [(9, aD (.slice (.arr 2 tI)) v621)]) (L' := []) (by kernel_rfl) ?_
    refine blockQ_hit ?_
    refine seqQ_norm ?_
    refine W_seq (by kernel_rfl) ?_
    refine W_run 2 [] [8] [] (fr' := [(8, aD (.slice (.arr 2 tI)) v621)]) (L' := []) (obs := []) (by kernel_rfl) (by kernel_rfl) (by kernel_rfl) allP0 ?_
    refine seqQ_norm ?_
    obtain rfl := Option.some.inj h
    refine W_ret [8] [] (fr' := [(8, aD (.slice (.arr 2 tI)) v621)]) (L' := []) (by kernel_rfl) (by kernel_rfl) ?_
    exact retQ_mk (by kernel_rfl) (by kernel_rfl) (by kernel_rfl)
theorem talk_fool_ok : ∀ {fuel : Nat} {a0 : (List (List Bool))} {a1 : (List (List Int))} {a2 : Int} {a3 : Bool} {r : (List (List Int))}, talk_fool fuel a0 a1 a2 a3 = some r → FnC Try.prog 46 [aD (.slice (.slice .bool)) a0, aD (.slice (.arr 2 tI)) a1, aI a2, aB a3] [] (aD (.slice (.arr 2 tI)) r) [] := by
  intro fuel
  induction fuel with
  | zero => intros a0 a1 a2 a3 r h; cases h
  | succ fuel ih => intros a0 a1 a2 a3 r h; exact talk_fool_step_ok (fun h => ih h) (show talk_fool_step (talk_fool fuel) fuel a0 a1 a2 a3 = some r from h)

def cmp_isNaN_int (a0 : Int) : Option Bool :=
some (a0 != a0)
theorem cmp_isNaN_int_ok {a0 : Int} {r : Bool} (h : cmp_isNaN_int a0 = some r) : FnC Try.prog 67 [aI a0] [] (aB r) [] := by
  refine fnC_of_W (B := bodyOf Try.f67) (n := 6) Try.func67 (by kernel_rfl) (by kernel_rfl) (by kernel_rfl) (by kernel_rfl) (by kernel_rfl) ?_
  intro K
  refine W_seq (by kernel_rfl) ?_
  refine W_run 1 [] [0] [] (fr' := [(0, aI a0)]) (L' := []) (obs := []) (by kernel_rfl) (by kernel_rfl) (by kernel_rfl) allP0 ?_
  refine seqQ_norm ?_
  refine W_seq (by kernel_rfl) ?_
  refine W_run 4 [] [2] [] (fr' := [(2, aB (a0 != a0))]) (L' := []) (obs := []) (by kernel_rfl) (by kernel_rfl) (by kernel_rfl) allP0 ?_
  refine seqQ_norm ?_
  obtain rfl := Option.some.inj h
  refine W_ret [2] [] (fr' := [(2, aB (a0 != a0))]) (L' := []) (by kernel_rfl) (by kernel_rfl) ?_
  exact retQ_mk (by kernel_rfl) (by kernel_rfl) (by kernel_rfl)

def cmp_Compare_int (a0 : Int) (a1 : Int) : Option Int :=
(cmp_isNaN_int a0).bind fun r1 =>
(cmp_isNaN_int a1).bind fun r3 =>
bif r1 then
(bif r3 then
(some (0 : Int))
else
(some (-1 : Int)))
else
(bif r3 then
(some (1 : Int))
else
(bif decide (a0 < a1) then
(some (-1 : Int))
else
(bif decide (a0 > a1) then
(some (1 : Int))
else
(some (0 : Int)))))
theorem cmp_Compare_int_ok {a0 : Int} {a1 : Int} {r : Int} (h : cmp_Compare_int a0 a1 = some r) : FnC Try.prog 59 [aI a0, aI a1] [] (aI r) [] := by
  refine fnC_of_W (B := bodyOf Try.f59) (n := 20) Try.func59 (by kernel_rfl) (by kernel_rfl) (by kernel_rfl) (by kernel_rfl) (by kernel_rfl) ?_
  intro K
  refine W_seq (by kernel_rfl) ?_
  refine W_run 1 [] [0, 1] [] (fr' := [(0, aI a0), (1, aI a1)]) (L' := []) (obs := []) (by kernel_rfl) (by kernel_rfl) (by kernel_rfl) allP0 ?_
  refine seqQ_norm ?_
  refine W_seq (by kernel_rfl) ?_
  refine W_region (by kernel_rfl) ?_
  refine WO_run (j := 1) (k := 1) (orcs := []) (kF := [0, 1, 7]) (kL := []) (fr' := [(0, aI a0), (1, aI a1), (7, aI a0)]) (L' := []) (obs := []) rfl (by kernel_rfl) allP0 ?_
  obtain ⟨r1, h2, h⟩ := bind_of h
  refine WO_call0 (us := [none]) (d := 8) (p := True) (j := 2) rfl ⟨by kernel_rfl, by kernel_rfl, by kernel_rfl⟩ trivial (cmp_isNaN_int_ok h2) (by kernel_rfl) ?_
  refine WO_run (j := 3) (k := 1) (orcs := []) (kF := [0, 1, 5]) (kL := []) (fr' := [(0, aI a0), (1, aI a1), (5, aB r1)]) (L' := []) (obs := []) rfl (by kernel_rfl) allP0 ?_
  refine WO_fin [0, 1, 5] [] (fr' := [(0, aI a0), (1, aI a1), (5, aB r1)]) (L' := []) (by kernel_rfl) (by kernel_rfl) ?_
  refine seqQ_norm ?_
  refine W_seq (by kernel_rfl) ?_
  refine W_region (by kernel_rfl) ?_
  refine WO_run (j := 1) (k := 1) (orcs := []) (kF := [0, 1, 5, 9]) (kL := []) (fr' := [(0, aI a0), (1, aI a1), (5, aB r1), (9, aI a1)]) (L' := []) (obs := []) rfl (by kernel_rfl) allP0 ?_
  obtain ⟨r3, h4, h⟩ := bind_of h
  refine WO_call0 (us := [none]) (d := 10) (p := True) (j := 2) rfl ⟨by kernel_rfl, by kernel_rfl, by kernel_rfl⟩ trivial (cmp_isNaN_int_ok h4) (by kernel_rfl) ?_
  refine WO_run (j := 3) (k := 1) (orcs := []) (kF := [0, 1, 5, 6]) (kL := []) (fr' := [(0, aI a0), (1, aI a1), (5, aB r1), (6, aB r3)]) (L' := []) (obs := []) rfl (by kernel_rfl) allP0 ?_
  refine WO_fin [0, 1, 5, 6] [] (fr' := [(0, aI a0), (1, aI a1), (5, aB r1), (6, aB r3)]) (L' := []) (by kernel_rfl) (by kernel_rfl) ?_
  refine seqQ_norm ?_
  refine W_seq (by kernel_rfl) ?_
  refine W_seq (by kernel_rfl) ?_
  refine W_run 1 [] [0, 1, 6, 11] [] (fr' := [(0, aI a0), (1, aI a1), (6, aB r3), (11, aB r1)]) (L' := []) (obs := []) (by kernel_rfl) (by kernel_rfl) (by kernel_rfl) allP0 ?_
  refine seqQ_norm ?_
  refine W_cond (o := .tmp 11) (b := r1) (by kernel_rfl) (by kernel_rfl) (fun h5 => ?_) (fun h5 => ?_)
  · replace h := ofT h5 h
    refine W_seq (by kernel_rfl) ?_
    refine W_seq (by kernel_rfl) ?_
    refine W_run 1 [] [12] [] (fr' := [(12, aB r3)]) (L' := []) (obs := []) (by kernel_rfl) (by kernel_rfl) (by kernel_rfl) allP0 ?_
    refine seqQ_norm ?_
    refine W_cond (o := .tmp 12) (b := r3) (by kernel_rfl) (by kernel_rfl) (fun h6 => ?_) (fun h6 => ?_)
    · replace h := ofT h6 h
      refine W_seq (by kernel_rfl) ?_
      refine W_run 1 [] [4] [] (fr' := [(4, aI (0 : Int))]) (L' := []) (obs := []) (by kernel_rfl) (by kernel_rfl) (by kernel_rfl) allP0 ?_
      refine seqQ_norm ?_
      obtain rfl := Option.some.inj h
      refine W_ret [4] [] (fr' := [(4, aI (0 : Int))]) (L' := []) (by kernel_rfl) (by kernel_rfl) ?_
      refine seqQ_ret ?_
      refine seqQ_ret ?_
      exact retQ_mk (by kernel_rfl) (by kernel_rfl) (by kernel_rfl)
    · replace h := ofF h6 h
      refine W_skip [] [] (fr' := []) (L' := []) (by kernel_rfl) (by kernel_rfl) ?_
      refine seqQ_norm ?_
      refine W_seq (by kernel_rfl) ?_
      refine W_run 1 [] [4] [] (fr' := [(4, aI (-1 : Int))]) (L' := []) (obs := []) (by kernel_rfl) (by kernel_rfl) (by kernel_rfl) allP0 ?_
      refine seqQ_norm ?_
      obtain rfl := Option.some.inj h
      refine W_ret [4] [] (fr' := [(4, aI (-1 : Int))]) (L' := []) (by kernel_rfl) (by kernel_rfl) ?_
      refine seqQ_ret ?_
      exact retQ_mk (by kernel_rfl) (by kernel_rfl) (by kernel_rfl)
  · replace h := ofF h5 h
    refine W_skip [0, 1, 6] [] (fr' := [(0, aI a0), (1, aI a1), (6, aB r3)]) (L' := []) (by kernel_rfl) (by kernel_rfl) ?_
    refine seqQ_norm ?_
    refine W_seq (by kernel_rfl) ?_
    refine W_seq (by kernel_rfl) ?_
    refine W_run 1 [] [0, 1, 13] [] (fr' := [(0, aI a0), (1, aI a1), (13, aB r3)]) (L' := []) (obs := []) (by kernel_rfl) (by kernel_rfl) (by kernel_rfl) allP0 ?_
    refine seqQ_norm ?_
    refine W_cond (o := .tmp 13) (b := r3) (by kernel_rfl) (by kernel_rfl) (fun h7 => ?_) (fun h7 => ?_)
    · replace h := ofT h7 h
      refine W_seq (by kernel_rfl) ?_
      refine W_run 1 [] [4] [] (fr' := [(4, aI (1 : Int))]) (L' := []) (obs := []) (by kernel_rfl) (by kernel_rfl) (by kernel_rfl) allP0 ?_
      refine seqQ_norm ?_
      obtain rfl := Option.some.inj h
      refine W_ret [4] [] (fr' := [(4, aI (1 : Int))]) (L' := []) (by kernel_rfl) (by kernel_rfl) ?_
      refine seqQ_ret ?_
      exact retQ_mk (by kernel_rfl) (by kernel_rfl) (by kernel_rfl)
    · replace h := ofF h7 h
      refine W_skip [0, 1] [] (fr' := [(0, aI a0), (1, aI a1)]) (L' := []) (by kernel_rfl) (by kernel_rfl) ?_
      refine seqQ_norm ?_
      refine W_seq (by kernel_rfl) ?_
      refine W_seq (by kernel_rfl) ?_
      refine W_run 3 [] [0, 1, 16] [] (fr' := [(0, aI a0), (1, aI a1), (16, aB (decide (a0 < a1)))]) (L' := []) (obs := []) (by kernel_rfl) (by kernel_rfl) (by kernel_rfl) allP0 ?_
      refine seqQ_norm ?_
      refine W_cond (o := .tmp 16) (b := decide (a0 < a1)) (by kernel_rfl) (by kernel_rfl) (fun h8 => ?_) (fun h8 => ?_)
      · replace h := ofT h8 h
        refine W_seq (by kernel_rfl) ?_
        refine W_run 1 [] [4] [] (fr' := [(4, aI (-1 : Int))]) (L' := []) (obs := []) (by kernel_rfl) (by kernel_rfl) (by kernel_rfl) allP0 ?_
        refine seqQ_norm ?_
        obtain rfl := Option.some.inj h
        refine W_ret [4] [] (fr' := [(4, aI (-1 : Int))]) (L' := []) (by kernel_rfl) (by kernel_rfl) ?_
        refine seqQ_ret ?_
        exact retQ_mk (by kernel_rfl) (by kernel_rfl) (by kernel_rfl)
      · replace h := ofF h8 h
        refine W_skip [0, 1] [] (fr' := [(0, aI a0), (1, aI a1)]) (L' := []) (by kernel_rfl) (by kernel_rfl) ?_
        refine seqQ_norm ?_
        refine W_seq (by kernel_rfl) ?_
        refine W_seq (by kernel_rfl) ?_
        refine W_run 3 [] [19] [] (fr' := [(19, aB (decide (a0 > a1)))]) (L' := []) (obs := []) (by kernel_rfl) (by kernel_rfl) (by kernel_rfl) allP0 ?_
        refine seqQ_norm ?_
        refine W_cond (o := .tmp 19) (b := decide (a0 > a1)) (by kernel_rfl) (by kernel_rfl) (fun h9 => ?_) (fun h9 => ?_)
        · replace h := ofT h9 h
          refine W_seq (by kernel_rfl) ?_
          refine W_run 1 [] [4] [] (fr' := [(4, aI (1 : Int))]) (L' := []) (obs := []) (by kernel_rfl) (by kernel_rfl) (by kernel_rfl) allP0 ?_
          refine seqQ_norm ?_
          obtain rfl := Option.some.inj h
          refine W_ret [4] [] (fr' := [(4, aI (1 : Int))]) (L' := []) (by kernel_rfl) (by kernel_rfl) ?_
          refine seqQ_ret ?_
          exact retQ_mk (by kernel_rfl) (by kernel_rfl) (by kernel_rfl)
        · replace h := ofF h9 h
          refine W_skip [] [] (fr' := []) (L' := []) (by kernel_rfl) (by kernel_rfl) ?_
          refine seqQ_norm ?_
          refine W_seq (by kernel_rfl) ?_
          refine W_run 1 [] [4] [] (fr' := [(4, aI (0 : Int))]) (L' := []) (obs := []) (by kernel_rfl) (by kernel_rfl) (by kernel_rfl) allP0 ?_
          refine seqQ_norm ?_
          obtain rfl := Option.some.inj h
          refine W_ret [4] [] (fr' := [(4, aI (0 : Int))]) (L' := []) (by kernel_rfl) (by kernel_rfl) ?_
          exact retQ_mk (by kernel_rfl) (by kernel_rfl) (by kernel_rfl)

def slices_Compare_Lintint_b1 (a1 : (List Int)) (i21 : Int) (v24 : Int) (x22 : Unit) : Option (Flow Unit (Esc Int Unit)) :=
bif decide (i21 ≥ (List.length a1 : Int)) then
(some (.done (.ret (1 : Int))))
else
((idx a1 i21).bind fun v28 =>
(cmp_Compare_int v24 v28).bind fun r30 =>
bif r30 != (0 : Int) then
(some (.done (.ret r30)))
else
(some (.next ())))
@[reducible] def slices_Compare_Lintint_s2 (a0 : (List Int)) (a1 : (List Int)) (v : Int × Unit) : Fr × LL := ([(0, aD (.slice tI) a0), (1, aD (.slice tI) a1), (9, aD (.slice tI) a0), (10, aI (List.length a0 : Int)), (11, aI v.1)], [])
@[reducible] def slices_Compare_Lintint_s3 (v : Int) : Fr × LL := ([(4, aI v)], [])
@[reducible] def slices_Compare_Lintint_s4 (a0 : (List Int)) (a1 : (List Int)) (v : Unit) : Fr × LL := ([(0, aD (.slice tI) a0), (1, aD (.slice tI) a1)], [])
def slices_Compare_Lintint (a0 : (List Int)) (a1 : (List Int)) : Option Int :=
(forL (slices_Compare_Lintint_b1 a1) (fun x22 => (.brk ())) a0 0 ()).bind fun v34 =>
match v34 with
| .ret v39 =>
(some v39)
| .brk v40 =>
(bif decide ((List.length a0 : Int) < (List.length a1 : Int)) then
(some (-1 : Int))
else
(some (0 : Int)))
theorem slices_Compare_Lintint_ok {a0 : (List Int)} {a1 : (List Int)} {r : Int} (h : slices_Compare_Lintint a0 a1 = some r) : FnC Try.prog 49 [aD (.slice tI) a0, aD (.slice tI) a1] [] (aI r) [] := by
  refine fnC_of_W (B := bodyOf Try.f49) (n := 36) Try.func49 (by kernel_rfl) (by kernel_rfl) (by kernel_rfl) (by kernel_rfl) (by kernel_rfl) ?_
  intro K
  refine W_seq (by kernel_rfl) ?_
  refine W_run 1 [] [0, 1] [] (fr' := [(0, aD (.slice tI) a0), (1, aD (.slice tI) a1)]) (L' := []) (obs := []) (by kernel_rfl) (by kernel_rfl) (by kernel_rfl) allP0 ?_
  refine seqQ_norm ?_
  refine W_seq (by kernel_rfl) ?_
  refine W_seq (by kernel_rfl) ?_
  refine W_run 3 [] [0, 1, 9, 10, 11] [] (fr' := [(0, aD (.slice tI) a0), (1, aD (.slice tI) a1), (9, aD (.slice tI) a0), (10, aI (List.length a0 : Int)), (11, aI (0 : Int))]) (L' := []) (obs := []) (by kernel_rfl) (by kernel_rfl) (by kernel_rfl) allP0 ?_
  refine seqQ_norm ?_
  refine W_block (id := 0) (by kernel_rfl) ?_
  obtain ⟨v34, h35, h⟩ := bind_of h
  refine W_len (t := 9) (u := tI) (xs := a0) (by kernel_rfl) (fun h38 => ?_)
  obtain ⟨h36, h37⟩ := forL_iter h38 h35
  refine W_weaken [0, 1, 9, 10, 11] [] (fr' := ((slices_Compare_Lintint_s2 a0 a1) ((0 : Int), ())).1) (L' := ((slices_Compare_Lintint_s2 a0 a1) ((0 : Int), ())).2) (by kernel_rfl) ?_
  refine W_cutK (W_loop (S := (slices_Compare_Lintint_s2 a0 a1)) (J := (escQ (exQ .ret slices_Compare_Lintint_s3) (exQ (.exit 0) (slices_Compare_Lintint_s4 a0 a1)))) (by kernel_rfl) ?_ h36 _ v34 h37) ?_
  · rintro ⟨i21, x22⟩ s h
    refine W_seq (by kernel_rfl) ?_
    refine W_run 1 [] [0, 1, 9, 10, 11, 12] [] (fr' := [(0, aD (.slice tI) a0), (1, aD (.slice tI) a1), (9, aD (.slice tI) a0), (10, aI (List.length a0 : Int)), (11, aI i21), (12, aB (decide (i21 < (List.length a0 : Int))))]) (L' := []) (obs := []) (by kernel_rfl) (by kernel_rfl) (by kernel_rfl) allP0 ?_
    refine seqQ_norm ?_
    refine W_seq (by kernel_rfl) ?_
    refine W_cond (o := .tmp 12) (b := decide (i21 < (List.length a0 : Int))) (by kernel_rfl) (by kernel_rfl) (fun h26 => ?_) (fun h26 => ?_)
    · replace h := stepL_true h26 h
      obtain ⟨v24, _, h25, h, rfl⟩ := h
      refine W_skip [0, 1, 9, 10, 11] [] (fr' := [(0, aD (.slice tI) a0), (1, aD (.slice tI) a1), (9, aD (.slice tI) a0), (10, aI (List.length a0 : Int)), (11, aI i21)]) (L' := []) (by kernel_rfl) (by kernel_rfl) ?_
      refine seqQ_norm ?_
      refine W_seq (by kernel_rfl) ?_
      refine W_block (id := 1) (by kernel_rfl) ?_
      refine W_seq (by kernel_rfl) ?_
      refine W_run 5 [(3, .val (.dat tI v24))] [0, 1, 5, 6, 9, 10, 11] [] (fr' := [(0, aD (.slice tI) a0), (1, aD (.slice tI) a1), (5, aI i21), (6, aI v24), (9, aD (.slice tI) a0), (10, aI (List.length a0 : Int)), (11, aI i21)]) (L' := []) (obs := [Idx a0 i21 v24]) (by kernel_rfl) (by kernel_rfl) (by kernel_rfl) (allP1 (Idx.of h25)) ?_
      refine seqQ_norm ?_
      refine W_seq (by kernel_rfl) ?_
      refine W_seq (by kernel_rfl) ?_
      refine W_run 4 [] [0, 1, 5, 6, 9, 10, 11, 19] [] (fr' := [(0, aD (.slice tI) a0), (1, aD (.slice tI) a1), (5, aI i21), (6, aI v24), (9, aD (.slice tI) a0), (10, aI (List.length a0 : Int)), (11, aI i21), (19, aB (decide (i21 ≥ (List.length a1 : Int))))]) (L' := []) (obs := []) (by kernel_rfl) (by kernel_rfl) (by kernel_rfl) allP0 ?_
      refine seqQ_norm ?_
      refine W_cond (o := .tmp 19) (b := decide (i21 ≥ (List.length a1 : Int))) (by kernel_rfl) (by kernel_rfl) (fun h27 => ?_) (fun h27 => ?_)
      · replace h := ofT h27 h
        refine W_seq (by kernel_rfl) ?_
        refine W_run 1 [] [4] [] (fr' := [(4, aI (1 : Int))]) (L' := []) (obs := []) (by kernel_rfl) (by kernel_rfl) (by kernel_rfl) allP0 ?_
        refine seqQ_norm ?_
        obtain rfl := Option.some.inj h
        refine W_ret [4] [] (fr' := [(4, aI (1 : Int))]) (L' := []) (by kernel_rfl) (by kernel_rfl) ?_
        refine seqQ_ret ?_
        refine blockQ_ret ?_
        refine seqQ_ret ?_
        refine round_ret ?_
        refine escQ_ret ?_
        exact exQ_mk (by kernel_rfl) (by kernel_rfl)
      · replace h := ofF h27 h
        refine W_skip [0, 1, 5, 6, 9, 10, 11] [] (fr' := [(0, aD (.slice tI) a0), (1, aD (.slice tI) a1), (5, aI i21), (6, aI v24), (9, aD (.slice tI) a0), (10, aI (List.length a0 : Int)), (11, aI i21)]) (L' := []) (by kernel_rfl) (by kernel_rfl) ?_
        refine seqQ_norm ?_
        refine W_seq (by kernel_rfl) ?_
        obtain ⟨v28, h29, h⟩ := bind_of h
        refine W_run 5 [(5, .val (.dat tI v28))] [0, 1, 6, 7, 9, 10, 11] [] (fr' := [(0, aD (.slice tI) a0), (1, aD (.slice tI) a1), (6, aI v24), (7, aI v28), (9, aD (.slice tI) a0), (10, aI (List.length a0 : Int)), (11, aI i21)]) (L' := []) (obs := [Idx a1 i21 v28]) (by kernel_rfl) (by kernel_rfl) (by kernel_rfl) (allP1 (Idx.of h29)) ?_
        refine seqQ_norm ?_
        refine W_seq (by kernel_rfl) ?_
        refine W_region (by kernel_rfl) ?_
        refine WO_run (j := 2) (k := 2) (orcs := []) (kF := [0, 1, 9, 10, 11, 24, 25]) (kL := []) (fr' := [(0, aD (.slice tI) a0), (1, aD (.slice tI) a1), (9, aD (.slice tI) a0), (10, aI (List.length a0 : Int)), (11, aI i21), (24, aI v24), (25, aI v28)]) (L' := []) (obs := []) rfl (by kernel_rfl) allP0 ?_
        obtain ⟨r30, h31, h⟩ := bind_of h
        refine WO_call0 (us := [none, none]) (d := 26) (p := True) (j := 3) rfl ⟨by kernel_rfl, by kernel_rfl, by kernel_rfl⟩ trivial (cmp_Compare_int_ok h31) (by kernel_rfl) ?_
        refine WO_run (j := 4) (k := 1) (orcs := []) (kF := [0, 1, 8, 9, 10, 11]) (kL := []) (fr' := [(0, aD (.slice tI) a0), (1, aD (.slice tI) a1), (8, aI r30), (9, aD (.slice tI) a0), (10, aI (List.length a0 : Int)), (11, aI i21)]) (L' := []) (obs := []) rfl (by kernel_rfl) allP0 ?_
        refine WO_fin [0, 1, 8, 9, 10, 11] [] (fr' := [(0, aD (.slice tI) a0), (1, aD (.slice tI) a1), (8, aI r30), (9, aD (.slice tI) a0), (10, aI (List.length a0 : Int)), (11, aI i21)]) (L' := []) (by kernel_rfl) (by kernel_rfl) ?_
        refine seqQ_norm ?_
        refine W_seq (by kernel_rfl) ?_
        refine W_run 2 [] [0, 1, 8, 9, 10, 11, 28] [] (fr' := [(0, aD (.slice tI) a0), (1, aD (.slice tI) a1), (8, aI r30), (9, aD (.slice tI) a0), (10, aI (List.length a0 : Int)), (11, aI i21), (28, aB (r30 != (0 : Int)))]) (L' := []) (obs := []) (by kernel_rfl) (by kernel_rfl) (by kernel_rfl) allP0 ?_
        refine seqQ_norm ?_
        refine W_cond (o := .tmp 28) (b := r30 != (0 : Int)) (by kernel_rfl) (by kernel_rfl) (fun h32 => ?_) (fun h32 => ?_)
        · replace h := ofT h32 h
          refine W_seq (by kernel_rfl) ?_
          refine W_run 2 [] [4] [] (fr' := [(4, aI r30)]) (L' := []) (obs := []) (by kernel_rfl) (by kernel_rfl) (by kernel_rfl) allP0 ?_
          refine seqQ_norm ?_
          obtain rfl := Option.some.inj h
          refine W_ret [4] [] (fr' := [(4, aI r30)]) (L' := []) (by kernel_rfl) (by kernel_rfl) ?_
          refine blockQ_ret ?_
          refine seqQ_ret ?_
          refine round_ret ?_
          refine escQ_ret ?_
          exact exQ_mk (by kernel_rfl) (by kernel_rfl)
        · replace h := ofF h32 h
          refine W_skip [0, 1, 9, 10, 11] [] (fr' := [(0, aD (.slice tI) a0), (1, aD (.slice tI) a1), (9, aD (.slice tI) a0), (10, aI (List.length a0 : Int)), (11, aI i21)]) (L' := []) (by kernel_rfl) (by kernel_rfl) ?_
          refine blockQ_norm ?_
          refine seqQ_norm ?_
          obtain rfl := Option.some.inj h
          refine W_run 2 [] [0, 1, 9, 10, 11] [] (fr' := [(0, aD (.slice tI) a0), (1, aD (.slice tI) a1), (9, aD (.slice tI) a0), (10, aI (List.length a0 : Int)), (11, aI (w64 (i21 + (1 : Int))))]) (L' := []) (obs := []) (by kernel_rfl) (by kernel_rfl) (by kernel_rfl) allP0 ?_
          exact round_next' (by kernel_rfl) (by kernel_rfl)
    · obtain rfl := stepL_false h26 h
      refine W_exit (id := 0) [0, 1] [] (fr' := [(0, aD (.slice tI) a0), (1, aD (.slice tI) a1)]) (L' := []) (by kernel_rfl) (by kernel_rfl) ?_
      refine seqQ_exit ?_
      refine round_exit ?_
      refine escQ_brk ?_
      exact exQ_mk (by kernel_rfl) (by kernel_rfl)
  · intro e fr L hJ
    rcases v34 with v39 | v40
    · obtain ⟨rfl, rfl, rfl⟩ := hJ
      obtain rfl := Option.some.inj h
      refine LT_keep [4] [] (fr' := [(4, aI v39)]) (L' := []) (by kernel_rfl) ?_
      refine blockQ_ret ?_
      refine seqQ_ret ?_
      exact retQ_mk (by kernel_rfl) (by kernel_rfl) (by kernel_rfl)
    · obtain ⟨rfl, rfl, rfl⟩ := hJ
      refine LT_keep [0, 1] [] (fr' := [(0, aD (.slice tI) a0), (1, aD (.slice tI) a1)]) (L' := []) (by kernel_rfl) ?_
      refine blockQ_hit ?_
      refine seqQ_norm ?_
      refine W_seq (by kernel_rfl) ?_
      refine W_seq (by kernel_rfl) ?_
      refine W_run 5 [] [35] [] (fr' := [(35, aB (decide ((List.length a0 : Int) < (List.length a1 : Int))))]) (L' := []) (obs := []) (by kernel_rfl) (by kernel_rfl) (by kernel_rfl) allP0 ?_
      refine seqQ_norm ?_
      refine W_cond (o := .tmp 35) (b := decide ((List.length a0 : Int) < (List.length a1 : Int))) (by kernel_rfl) (by kernel_rfl) (fun h41 => ?_) (fun h41 => ?_)
      · replace h := ofT h41 h
        refine W_seq (by kernel_rfl) ?_
        refine W_run 1 [] [4] [] (fr' := [(4, aI (-1 : Int))]) (L' := []) (obs := []) (by kernel_rfl) (by kernel_rfl) (by kernel_rfl) allP0 ?_
        refine seqQ_norm ?_
        obtain rfl := Option.some.inj h
        refine W_ret [4] [] (fr' := [(4, aI (-1 : Int))]) (L' := []) (by kernel_rfl) (by kernel_rfl) ?_
        refine seqQ_ret ?_
        exact retQ_mk (by kernel_rfl) (by kernel_rfl) (by kernel_rfl)
      · replace h := ofF h41 h
        refine W_skip [] [] (fr' := []) (L' := []) (by kernel_rfl) (by kernel_rfl) ?_
        refine seqQ_norm ?_
        refine W_seq (by kernel_rfl) ?_
        refine W_run 1 [] [4] [] (fr' := [(4, aI (0 : Int))]) (L' := []) (obs := []) (by kernel_rfl) (by kernel_rfl) (by kernel_rfl) allP0 ?_
        refine seqQ_norm ?_
        obtain rfl := Option.some.inj h
        refine W_ret [4] [] (fr' := [(4, aI (0 : Int))]) (L' := []) (by kernel_rfl) (by kernel_rfl) ?_
        exact retQ_mk (by kernel_rfl) (by kernel_rfl) (by kernel_rfl)

def talk_Fool_1 (a0 : (List Int)) (a1 : (List Int)) : Option Int :=
(slices_Compare_Lintint a0 a1).bind fun r1 =>
some r1
theorem talk_Fool_1_ok {a0 : (List Int)} {a1 : (List Int)} {r : Int} (h : talk_Fool_1 a0 a1 = some r) : FnC Try.prog 48 [aD (.arr 2 tI) a0, aD (.arr 2 tI) a1] [] (aI r) [] := by
  refine fnC_of_W (B := bodyOf Try.f48) (n := 8) Try.func48 (by kernel_rfl) (by kernel_rfl) (by kernel_rfl) (by kernel_rfl) (by kernel_rfl) ?_
  intro K
  refine W_seq (by kernel_rfl) ?_
  refine W_run 3 [] [2, 3] [2, 3] (fr' := [(2, .one (.ptr 2 0)), (3, .one (.ptr 3 0))]) (L' := [(2, .one (.arr 2 tI) a0), (3, .one (.arr 2 tI) a1)]) (obs := []) (by kernel_rfl) (by kernel_rfl) (by kernel_rfl) allP0 ?_
  refine seqQ_norm ?_
  refine W_seq (by kernel_rfl) ?_
  refine W_fz 2 (by kernel_rfl) ?_
  refine W_fz 3 (by kernel_rfl) ?_
  obtain ⟨r1, h2, h⟩ := bind_of h
  refine W_draw2 3 [] [(2, [none, none], aI r1)] [4] [] (fr' := [(4, aI r1)]) (L' := []) (out := [(5, aD (.slice tI) a0), (6, aD (.slice tI) a1), (7, aI r1)]) (obs := [True, True, True]) (obs2 := []) (calls := [(49, [aD (.slice tI) a0, aD (.slice tI) a1], aI r1)]) (by kernel_rfl) (by kernel_rfl) (by kernel_rfl) (by kernel_rfl) (allP2 trivial (allP2 trivial (allP1 trivial))) (allC1 (by kernel_rfl) (slices_Compare_Lintint_ok h2) (by kernel_rfl) allC0) (by kernel_rfl) allP0 ?_
  refine seqQ_norm ?_
  obtain rfl := Option.some.inj h
  refine W_ret [4] [] (fr' := [(4, aI r1)]) (L' := []) (by kernel_rfl) (by kernel_rfl) ?_
  exact retQ_mk (by kernel_rfl) (by kernel_rfl) (by kernel_rfl)

def slices_CompareFunc_L2intL2int2int2int_with_talk_Fool_1_b1 (a1 : (List (List Int))) (i21 : Int) (v24 : (List Int)) (x22 : Unit) : Option (Flow Unit (Esc Int Unit)) :=
bif decide (i21 ≥ (List.length a1 : Int)) then
(some (.done (.ret (1 : Int))))
else
((idx a1 i21).bind fun v28 =>
(talk_Fool_1 v24 v28).bind fun r30 =>
bif r30 != (0 : Int) then
(some (.done (.ret r30)))
else
(some (.next ())))
@[reducible] def slices_CompareFunc_L2intL2int2int2int_with_talk_Fool_1_s2 (a0 : (List (List Int))) (a1 : (List (List Int))) (v : Int × Unit) : Fr × LL := ([(0, aD (.slice (.arr 2 tI)) a0), (1, aD (.slice (.arr 2 tI)) a1), (2, .one (.fn 48 [])), (11, aD (.slice (.arr 2 tI)) a0), (12, aI (List.length a0 : Int)), (13, aI v.1)], [])
@[reducible] def slices_CompareFunc_L2intL2int2int2int_with_talk_Fool_1_s3 (v : Int) : Fr × LL := ([(6, aI v)], [])
@[reducible] def slices_CompareFunc_L2intL2int2int2int_with_talk_Fool_1_s4 (a0 : (List (List Int))) (a1 : (List (List Int))) (v : Unit) : Fr × LL := ([(0, aD (.slice (.arr 2 tI)) a0), (1, aD (.slice (.arr 2 tI)) a1)], [])
def slices_CompareFunc_L2intL2int2int2int_with_talk_Fool_1 (a0 : (List (List Int))) (a1 : (List (List Int))) : Option Int :=
(forL (slices_CompareFunc_L2intL2int2int2int_with_talk_Fool_1_b1 a1) (fun x22 => (.brk ())) a0 0 ()).bind fun v34 =>
match v34 with
| .ret v39 =>
(some v39)
| .brk v40 =>
(bif decide ((List.length a0 : Int) < (List.length a1 : Int)) then
(some (-1 : Int))
else
(some (0 : Int)))
theorem slices_CompareFunc_L2intL2int2int2int_with_talk_Fool_1_ok {a0 : (List (List Int))} {a1 : (List (List Int))} {r : Int} (h : slices_CompareFunc_L2intL2int2int2int_with_talk_Fool_1 a0 a1 = some r) : FnC Try.prog 47 [aD (.slice (.arr 2 tI)) a0, aD (.slice (.arr 2 tI)) a1, .one (.fn 48 [])] [] (aI r) [] := by
  refine fnC_of_W (B := bodyOf Try.f47) (n := 39) Try.func47 (by kernel_rfl) (by kernel_rfl) (by kernel_rfl) (by kernel_rfl) (by kernel_rfl) ?_
  intro K
  refine W_seq (by kernel_rfl) ?_
  refine W_run 1 [] [0, 1, 2] [] (fr' := [(0, aD (.slice (.arr 2 tI)) a0), (1, aD (.slice (.arr 2 tI)) a1), (2, .one (.fn 48 []))]) (L' := []) (obs := []) (by kernel_rfl) (by kernel_rfl) (by kernel_rfl) allP0 ?_
  refine seqQ_norm ?_
  refine W_seq (by kernel_rfl) ?_
  refine W_seq (by kernel_rfl) ?_
  refine W_run 3 [] [0, 1, 2, 11, 12, 13] [] (fr' := [(0, aD (.slice (.arr 2 tI)) a0), (1, aD (.slice (.arr 2 tI)) a1), (2, .one (.fn 48 [])), (11, aD (.slice (.arr 2 tI)) a0), (12, aI (List.length a0 : Int)), (13, aI (0 : Int))]) (L' := []) (obs := []) (by kernel_rfl) (by kernel_rfl) (by kernel_rfl) allP0 ?_
  refine seqQ_norm ?_
  refine W_block (id := 0) (by kernel_rfl) ?_
  obtain ⟨v34, h35, h⟩ := bind_of h
  refine W_len (t := 11) (u := (.arr 2 tI)) (xs := a0) (by kernel_rfl) (fun h38 => ?_)
  obtain ⟨h36, h37⟩ := forL_iter h38 h35
  refine W_weaken [0, 1, 2, 11, 12, 13] [] (fr' := ((slices_CompareFunc_L2intL2int2int2int_with_talk_Fool_1_s2 a0 a1) ((0 : Int), ())).1) (L' := ((slices_CompareFunc_L2intL2int2int2int_with_talk_Fool_1_s2 a0 a1) ((0 : Int), ())).2) (by kernel_rfl) ?_
  refine W_cutK (W_loop (S := (slices_CompareFunc_L2intL2int2int2int_with_talk_Fool_1_s2 a0 a1)) (J := (escQ (exQ .ret slices_CompareFunc_L2intL2int2int2int_with_talk_Fool_1_s3) (exQ (.exit 0) (slices_CompareFunc_L2intL2int2int2int_with_talk_Fool_1_s4 a0 a1)))) (by kernel_rfl) ?_ h36 _ v34 h37) ?_
  · rintro ⟨i21, x22⟩ s h
    refine W_seq (by kernel_rfl) ?_
    refine W_run 1 [] [0, 1, 2, 11, 12, 13, 14] [] (fr' := [(0, aD (.slice (.arr 2 tI)) a0), (1, aD (.slice (.arr 2 tI)) a1), (2, .one (.fn 48 [])), (11, aD (.slice (.arr 2 tI)) a0), (12, aI (List.length a0 : Int)), (13, aI i21), (14, aB (decide (i21 < (List.length a0 : Int))))]) (L' := []) (obs := []) (by kernel_rfl) (by kernel_rfl) (by kernel_rfl) allP0 ?_
    refine seqQ_norm ?_
    refine W_seq (by kernel_rfl) ?_
    refine W_cond (o := .tmp 14) (b := decide (i21 < (List.length a0 : Int))) (by kernel_rfl) (by kernel_rfl) (fun h26 => ?_) (fun h26 => ?_)
    · replace h := stepL_true h26 h
      obtain ⟨v24, _, h25, h, rfl⟩ := h
      refine W_skip [0, 1, 2, 11, 12, 13] [] (fr' := [(0, aD (.slice (.arr 2 tI)) a0), (1, aD (.slice (.arr 2 tI)) a1), (2, .one (.fn 48 [])), (11, aD (.slice (.arr 2 tI)) a0), (12, aI (List.length a0 : Int)), (13, aI i21)]) (L' := []) (by kernel_rfl) (by kernel_rfl) ?_
      refine seqQ_norm ?_
      refine W_seq (by kernel_rfl) ?_
      refine W_block (id := 1) (by kernel_rfl) ?_
      refine W_seq (by kernel_rfl) ?_
      refine W_run 6 [(3, .val (.dat (.arr 2 tI) v24)), (7, .typed)] [0, 1, 2, 7, 8, 11, 12, 13] [8] (fr' := [(0, aD (.slice (.arr 2 tI)) a0), (1, aD (.slice (.arr 2 tI)) a1), (2, .one (.fn 48 [])), (7, aI i21), (8, .one (.ptr 8 0)), (11, aD (.slice (.arr 2 tI)) a0), (12, aI (List.length a0 : Int)), (13, aI i21)]) (L' := [(8, .one (.arr 2 tI) v24)]) (obs := [Idx a0 i21 v24, True]) (by kernel_rfl) (by kernel_rfl) (by kernel_rfl) (allP2 (Idx.of h25) (allP1 trivial)) ?_
      refine seqQ_norm ?_
      refine W_seq (by kernel_rfl) ?_
      refine W_seq (by kernel_rfl) ?_
      refine W_run 4 [] [0, 1, 2, 7, 8, 11, 12, 13, 21] [8] (fr' := [(0, aD (.slice (.arr 2 tI)) a0), (1, aD (.slice (.arr 2 tI)) a1), (2, .one (.fn 48 [])), (7, aI i21), (8, .one (.ptr 8 0)), (11, aD (.slice (.arr 2 tI)) a0), (12, aI (List.length a0 : Int)), (13, aI i21), (21, aB (decide (i21 ≥ (List.length a1 : Int))))]) (L' := [(8, .one (.arr 2 tI) v24)]) (obs := []) (by kernel_rfl) (by kernel_rfl) (by kernel_rfl) allP0 ?_
      refine seqQ_norm ?_
      refine W_cond (o := .tmp 21) (b := decide (i21 ≥ (List.length a1 : Int))) (by kernel_rfl) (by kernel_rfl) (fun h27 => ?_) (fun h27 => ?_)
      · replace h := ofT h27 h
        refine W_seq (by kernel_rfl) ?_
        refine W_run 1 [] [6] [] (fr' := [(6, aI (1 : Int))]) (L' := []) (obs := []) (by kernel_rfl) (by kernel_rfl) (by kernel_rfl) allP0 ?_
        refine seqQ_norm ?_
        obtain rfl := Option.some.inj h
        refine W_ret [6] [] (fr' := [(6, aI (1 : Int))]) (L' := []) (by kernel_rfl) (by kernel_rfl) ?_
        refine seqQ_ret ?_
        refine blockQ_ret ?_
        refine seqQ_ret ?_
        refine round_ret ?_
        refine escQ_ret ?_
        exact exQ_mk (by kernel_rfl) (by kernel_rfl)
      · replace h := ofF h27 h
        refine W_skip [0, 1, 2, 7, 8, 11, 12, 13] [8] (fr' := [(0, aD (.slice (.arr 2 tI)) a0), (1, aD (.slice (.arr 2 tI)) a1), (2, .one (.fn 48 [])), (7, aI i21), (8, .one (.ptr 8 0)), (11, aD (.slice (.arr 2 tI)) a0), (12, aI (List.length a0 : Int)), (13, aI i21)]) (L' := [(8, .one (.arr 2 tI) v24)]) (by kernel_rfl) (by kernel_rfl) ?_
        refine seqQ_norm ?_
        refine W_seq (by kernel_rfl) ?_
        obtain ⟨v28, h29, h⟩ := bind_of h
        refine W_run 6 [(5, .val (.dat (.arr 2 tI) v28)), (9, .typed)] [0, 1, 2, 8, 9, 11, 12, 13] [8, 9] (fr' := [(0, aD (.slice (.arr 2 tI)) a0), (1, aD (.slice (.arr 2 tI)) a1), (2, .one (.fn 48 [])), (8, .one (.ptr 8 0)), (9, .one (.ptr 9 0)), (11, aD (.slice (.arr 2 tI)) a0), (12, aI (List.length a0 : Int)), (13, aI i21)]) (L' := [(8, .one (.arr 2 tI) v24), (9, .one (.arr 2 tI) v28)]) (obs := [Idx a1 i21 v28, True]) (by kernel_rfl) (by kernel_rfl) (by kernel_rfl) (allP2 (Idx.of h29) (allP1 trivial)) ?_
        refine seqQ_norm ?_
        refine W_seq (by kernel_rfl) ?_
        refine W_region (by kernel_rfl) ?_
        refine WO_run (j := 3) (k := 3) (orcs := []) (kF := [0, 1, 2, 11, 12, 13, 26, 27, 28]) (kL := [8, 9]) (fr' := [(0, aD (.slice (.arr 2 tI)) a0), (1, aD (.slice (.arr 2 tI)) a1), (2, .one (.fn 48 [])), (11, aD (.slice (.arr 2 tI)) a0), (12, aI (List.length a0 : Int)), (13, aI i21), (26, .one (.fn 48 [])), (27, aD (.arr 2 tI) v24), (28, aD (.arr 2 tI) v28)]) (L' := [(8, .one (.arr 2 tI) v24), (9, .one (.arr 2 tI) v28)]) (obs := []) rfl (by kernel_rfl) allP0 ?_
        obtain ⟨r30, h31, h⟩ := bind_of h
        refine WO_call0 (us := [none, none]) (d := 29) (p := True) (j := 4) rfl ⟨by kernel_rfl, by kernel_rfl, by kernel_rfl⟩ trivial (talk_Fool_1_ok h31) (by kernel_rfl) ?_
        refine WO_run (j := 5) (k := 1) (orcs := []) (kF := [0, 1, 2, 10, 11, 12, 13]) (kL := [8, 9]) (fr' := [(0, aD (.slice (.arr 2 tI)) a0), (1, aD (.slice (.arr 2 tI)) a1), (2, .one (.fn 48 [])), (10, aI r30), (11, aD (.slice (.arr 2 tI)) a0), (12, aI (List.length a0 : Int)), (13, aI i21)]) (L' := [(8, .one (.arr 2 tI) v24), (9, .one (.arr 2 tI) v28)]) (obs := []) rfl (by kernel_rfl) allP0 ?_
        refine WO_fin [0, 1, 2, 10, 11, 12, 13] [] (fr' := [(0, aD (.slice (.arr 2 tI)) a0), (1, aD (.slice (.arr 2 tI)) a1), (2, .one (.fn 48 [])), (10, aI r30), (11, aD (.slice (.arr 2 tI)) a0), (12, aI (List.length a0 : Int)), (13, aI i21)]) (L' := []) (by kernel_rfl) (by kernel_rfl) ?_
        refine seqQ_norm ?_
        refine W_seq (by kernel_rfl) ?_
        refine W_run 2 [] [0, 1, 2, 10, 11, 12, 13, 31] [] (fr' := [(0, aD (.slice (.arr 2 tI)) a0), (1, aD (.slice (.arr 2 tI)) a1), (2, .one (.fn 48 [])), (10, aI r30), (11, aD (.slice (.arr 2 tI)) a0), (12, aI (List.length a0 : Int)), (13, aI i21), (31, aB (r30 != (0 : Int)))]) (L' := []) (obs := []) (by kernel_rfl) (by kernel_rfl) (by kernel_rfl) allP0 ?_
        refine seqQ_norm ?_
        refine W_cond (o := .tmp 31) (b := r30 != (0 : Int)) (by kernel_rfl) (by kernel_rfl) (fun h32 => ?_) (fun h32 => ?_)
        · replace h := ofT h32 h
          refine W_seq (by kernel_rfl) ?_
          refine W_run 2 [] [6] [] (fr' := [(6, aI r30)]) (L' := []) (obs := []) (by kernel_rfl) (by kernel_rfl) (by kernel_rfl) allP0 ?_
          refine seqQ_norm ?_
          obtain rfl := Option.some.inj h
          refine W_ret [6] [] (fr' := [(6, aI r30)]) (L' := []) (by kernel_rfl) (by kernel_rfl) ?_
          refine blockQ_ret ?_
          refine seqQ_ret ?_
          refine round_ret ?_
          refine escQ_ret ?_
          exact exQ_mk (by kernel_rfl) (by kernel_rfl)
        · replace h := ofF h32 h
          refine W_skip [0, 1, 2, 11, 12, 13] [] (fr' := [(0, aD (.slice (.arr 2 tI)) a0), (1, aD (.slice (.arr 2 tI)) a1), (2, .one (.fn 48 [])), (11, aD (.slice (.arr 2 tI)) a0), (12, aI (List.length a0 : Int)), (13, aI i21)]) (L' := []) (by kernel_rfl) (by kernel_rfl) ?_
          refine blockQ_norm ?_
          refine seqQ_norm ?_
          obtain rfl := Option.some.inj h
          refine W_run 2 [] [0, 1, 2, 11, 12, 13] [] (fr' := [(0, aD (.slice (.arr 2 tI)) a0), (1, aD (.slice (.arr 2 tI)) a1), (2, .one (.fn 48 [])), (11, aD (.slice (.arr 2 tI)) a0), (12, aI (List.length a0 : Int)), (13, aI (w64 (i21 + (1 : Int))))]) (L' := []) (obs := []) (by kernel_rfl) (by kernel_rfl) (by kernel_rfl) allP0 ?_
          exact round_next' (by kernel_rfl) (by kernel_rfl)
    · obtain rfl := stepL_false h26 h
      refine W_exit (id := 0) [0, 1] [] (fr' := [(0, aD (.slice (.arr 2 tI)) a0), (1, aD (.slice (.arr 2 tI)) a1)]) (L' := []) (by kernel_rfl) (by kernel_rfl) ?_
      refine seqQ_exit ?_
      refine round_exit ?_
      refine escQ_brk ?_
      exact exQ_mk (by kernel_rfl) (by kernel_rfl)
  · intro e fr L hJ
    rcases v34 with v39 | v40
    · obtain ⟨rfl, rfl, rfl⟩ := hJ
      obtain rfl := Option.some.inj h
      refine LT_keep [6] [] (fr' := [(6, aI v39)]) (L' := []) (by kernel_rfl) ?_
      refine blockQ_ret ?_
      refine seqQ_ret ?_
      exact retQ_mk (by kernel_rfl) (by kernel_rfl) (by kernel_rfl)
    · obtain ⟨rfl, rfl, rfl⟩ := hJ
      refine LT_keep [0, 1] [] (fr' := [(0, aD (.slice (.arr 2 tI)) a0), (1, aD (.slice (.arr 2 tI)) a1)]) (L' := []) (by kernel_rfl) ?_
      refine blockQ_hit ?_
      refine seqQ_norm ?_
      refine W_seq (by kernel_rfl) ?_
      refine W_seq (by kernel_rfl) ?_
      refine W_run 5 [] [38] [] (fr' := [(38, aB (decide ((List.length a0 : Int) < (List.length a1 : Int))))]) (L' := []) (obs := []) (by kernel_rfl) (by kernel_rfl) (by kernel_rfl) allP0 ?_
      refine seqQ_norm ?_
      refine W_cond (o := .tmp 38) (b := decide ((List.length a0 : Int) < (List.length a1 : Int))) (by kernel_rfl) (by kernel_rfl) (fun h41 => ?_) (fun h41 => ?_)
      · replace h := ofT h41 h
        refine W_seq (by kernel_rfl) ?_
        refine W_run 1 [] [6] [] (fr' := [(6, aI (-1 : Int))]) (L' := []) (obs := []) (by kernel_rfl) (by kernel_rfl) (by kernel_rfl) allP0 ?_
        refine seqQ_norm ?_
        obtain rfl := Option.some.inj h
        refine W_ret [6] [] (fr' := [(6, aI (-1 : Int))]) (L' := []) (by kernel_rfl) (by kernel_rfl) ?_
        refine seqQ_ret ?_
        exact retQ_mk (by kernel_rfl) (by kernel_rfl) (by kernel_rfl)
      · replace h := ofF h41 h
        refine W_skip [] [] (fr' := []) (L' := []) (by kernel_rfl) (by kernel_rfl) ?_
        refine seqQ_norm ?_
        refine W_seq (by kernel_rfl) ?_
        refine W_run 1 [] [6] [] (fr' := [(6, aI (0 : Int))]) (L' := []) (obs := []) (by kernel_rfl) (by kernel_rfl) (by kernel_rfl) allP0 ?_
        refine seqQ_norm ?_
        obtain rfl := Option.some.inj h
        refine W_ret [6] [] (fr' := [(6, aI (0 : Int))]) (L' := []) (by kernel_rfl) (by kernel_rfl) ?_
        exact retQ_mk (by kernel_rfl) (by kernel_rfl) (by kernel_rfl)

def talk_Fool_g1 (r4 : (List (List Int))) (r6 : (List (List Int))) : Option Bool :=
bif decide ((List.length r6 : Int) > (List.length r4 : Int)) then
(some true)
else
(bif (List.length r6 : Int) == (List.length r4 : Int) then
((slices_CompareFunc_L2intL2int2int2int_with_talk_Fool_1 r6 r4).bind fun r18 =>
some (decide (r18 < (0 : Int))))
else
(some false))
@[reducible] def talk_Fool_s2 (r4 : (List (List Int))) (r6 : (List (List Int))) (v : Bool) : Fr × LL := ([(5, aD (.slice (.arr 2 tI)) r4), (6, aD (.slice (.arr 2 tI)) r6), (33, aB v)], [])
def talk_Fool (fuel : Nat) (a0 : (List (List Bool))) : Option ((List (List Int)) × Int) :=
(talk_wrong a0).bind fun r1 =>
bif r1 != (0 : Int) then
(some ([], r1))
else
((talk_fool fuel a0 [] (0 : Int) false).bind fun r4 =>
(talk_fool fuel a0 [] (0 : Int) true).bind fun r6 =>
(talk_Fool_g1 r4 r6).bind fun v20 =>
bif v20 then
(some (r6, (0 : Int)))
else
(some (r4, (0 : Int))))
theorem talk_Fool_ok {fuel : Nat} {a0 : (List (List Bool))} {r : ((List (List Int)) × Int)} (h : talk_Fool fuel a0 = some r) : FnC Try.prog 19 [aD (.slice (.slice .bool)) a0] [] (.tup [.dat (.slice (.arr 2 tI)) r.1, .dat tI r.2]) [] := by
  refine fnC_of_W (B := bodyOf Try.f19) (n := 36) Try.func19 (by kernel_rfl) (by kernel_rfl) (by kernel_rfl) (by kernel_rfl) (by kernel_rfl) ?_
  intro K
  refine W_seq (by kernel_rfl) ?_
  refine W_run 2 [] [0] [] (fr' := [(0, aD (.slice (.slice .bool)) a0)]) (L' := []) (obs := []) (by kernel_rfl) (by kernel_rfl) (by kernel_rfl) allP0 ?_
  refine seqQ_norm ?_
  refine W_seq (by kernel_rfl) ?_
  refine W_seq (by kernel_rfl) ?_
  refine W_region (by kernel_rfl) ?_
  refine WO_run (j := 1) (k := 1) (orcs := []) (kF := [0, 7]) (kL := []) (fr' := [(0, aD (.slice (.slice .bool)) a0), (7, aD (.slice (.slice .bool)) a0)]) (L' := []) (obs := []) rfl (by kernel_rfl) allP0 ?_
  obtain ⟨r1, h2, h⟩ := bind_of h
  refine WO_call0 (us := [none]) (d := 8) (p := True) (j := 2) rfl ⟨by kernel_rfl, by kernel_rfl, by kernel_rfl⟩ trivial (talk_wrong_ok h2) (by kernel_rfl) ?_
  refine WO_run (j := 3) (k := 1) (orcs := []) (kF := [0, 4]) (kL := []) (fr' := [(0, aD (.slice (.slice .bool)) a0), (4, aI r1)]) (L' := []) (obs := []) rfl (by kernel_rfl) allP0 ?_
  refine WO_fin [0, 4] [] (fr' := [(0, aD (.slice (.slice .bool)) a0), (4, aI r1)]) (L' := []) (by kernel_rfl) (by kernel_rfl) ?_
  refine seqQ_norm ?_
  refine W_seq (by kernel_rfl) ?_
  refine W_run 2 [] [0, 4, 10] [] (fr' := [(0, aD (.slice (.slice .bool)) a0), (4, aI r1), (10, aB (r1 != (0 : Int)))]) (L' := []) (obs := []) (by kernel_rfl) (by kernel_rfl) (by kernel_rfl) allP0 ?_
  refine seqQ_norm ?_
  refine W_cond (o := .tmp 10) (b := r1 != (0 : Int)) (by kernel_rfl) (by kernel_rfl) (fun h3 => ?_) (fun h3 => ?_)
  · replace h := ofT h3 h
    refine W_seq (by kernel_rfl) ?_
    refine W_run 3 [] [2, 3] [] (fr' := [(2, .one (.nilS)), (3, aI r1)]) (L' := []) (obs := []) (by kernel_rfl) (by kernel_rfl) (by kernel_rfl) allP0 ?_
    refine seqQ_norm ?_
    obtain rfl := Option.some.inj h
    refine W_cnv 2 (.slice (.arr 2 tI)) (by kernel_rfl) ?_
    refine W_ret [2, 3] [] (fr' := [(2, aD (.slice (.arr 2 tI)) []), (3, aI r1)]) (L' := []) (by kernel_rfl) (by kernel_rfl) ?_
    refine seqQ_ret ?_
    exact retQ_mk (by kernel_rfl) (by kernel_rfl) (by kernel_rfl)
  · replace h := ofF h3 h
    refine W_skip [0] [] (fr' := [(0, aD (.slice (.slice .bool)) a0)]) (L' := []) (by kernel_rfl) (by kernel_rfl) ?_
    refine seqQ_norm ?_
    refine W_seq (by kernel_rfl) ?_
    refine W_region (by kernel_rfl) ?_
    refine WO_run (j := 1) (k := 1) (orcs := []) (kF := [0, 12]) (kL := []) (fr' := [(0, aD (.slice (.slice .bool)) a0), (12, aD (.slice (.slice .bool)) a0)]) (L' := []) (obs := []) rfl (by kernel_rfl) allP0 ?_
    obtain ⟨r4, h5, h⟩ := bind_of h
    refine WO_call0 (us := [none, some (.slice (.arr 2 tI)), none, none]) (d := 13) (p := True) (j := 2) rfl ⟨by kernel_rfl, by kernel_rfl, by kernel_rfl⟩ trivial (talk_fool_ok h5) (by kernel_rfl) ?_
    refine WO_run (j := 3) (k := 1) (orcs := []) (kF := [13, 14]) (kL := []) (fr' := [(13, aD (.slice (.arr 2 tI)) r4), (14, aD (.slice (.slice .bool)) a0)]) (L' := []) (obs := []) rfl (by kernel_rfl) allP0 ?_
    obtain ⟨r6, h7, h⟩ := bind_of h
    refine WO_call0 (us := [none, some (.slice (.arr 2 tI)), none, none]) (d := 15) (p := True) (j := 4) rfl ⟨by kernel_rfl, by kernel_rfl, by kernel_rfl⟩ trivial (talk_fool_ok h7) (by kernel_rfl) ?_
    refine WO_run (j := 6) (k := 2) (orcs := []) (kF := [5, 6]) (kL := []) (fr' := [(5, aD (.slice (.arr 2 tI)) r4), (6, aD (.slice (.arr 2 tI)) r6)]) (L' := []) (obs := []) rfl (by kernel_rfl) allP0 ?_
    refine WO_fin [5, 6] [] (fr' := [(5, aD (.slice (.arr 2 tI)) r4), (6, aD (.slice (.arr 2 tI)) r6)]) (L' := []) (by kernel_rfl) (by kernel_rfl) ?_
    refine seqQ_norm ?_
    refine W_seq (by kernel_rfl) ?_
    refine W_seq (by kernel_rfl) ?_
    obtain ⟨v20, h21, h⟩ := bind_of h
    refine W_cutK (Q' := (exQ .normal (talk_Fool_s2 r4 r6)) v20) ?_ ?_
    · replace h := h21
      refine W_region (by kernel_rfl) ?_
      refine WO_run (j := 6) (k := 6) (orcs := []) (kF := [5, 6, 21]) (kL := []) (fr' := [(5, aD (.slice (.arr 2 tI)) r4), (6, aD (.slice (.arr 2 tI)) r6), (21, aB (decide ((List.length r6 : Int) > (List.length r4 : Int))))]) (L' := []) (obs := []) rfl (by kernel_rfl) allP0 ?_
      rcases Bool.eq_false_or_eq_true (decide ((List.length r6 : Int) > (List.length r4 : Int))) with h16 | h16
      · replace h := ofT h16 h
        refine WO_run (j := 18) (k := 12) (orcs := [(12, .known true), (14, .known true), (16, .known true), (18, .known true), (20, .known true), (22, .known true), (24, .known true), (26, .known true), (28, .known true), (30, .known true), (32, .known true), (35, .val (.dat .bool true))]) (kF := [5, 6, 33]) (kL := []) (fr' := [(5, aD (.slice (.arr 2 tI)) r4), (6, aD (.slice (.arr 2 tI)) r6), (33, aB true)]) (L' := []) (obs := [((decide ((List.length r6 : Int) > (List.length r4 : Int))) = true), ((decide ((List.length r6 : Int) > (List.length r4 : Int))) = true), ((decide ((List.length r6 : Int) > (List.length r4 : Int))) = true), ((decide ((List.length r6 : Int) > (List.length r4 : Int))) = true), ((decide ((List.length r6 : Int) > (List.length r4 : Int))) = true), ((decide ((List.length r6 : Int) > (List.length r4 : Int))) = true), ((decide ((List.length r6 : Int) > (List.length r4 : Int))) = true), ((decide ((List.length r6 : Int) > (List.length r4 : Int))) = true)]) rfl (by kernel_rfl) (allP2 h16 (allP2 h16 (allP2 h16 (allP2 h16 (allP2 h16 (allP2 h16 (allP2 h16 (allP1 h16)))))))) ?_
        obtain rfl := Option.some.inj h
        refine WO_fin [5, 6, 33] [] (fr' := [(5, aD (.slice (.arr 2 tI)) r4), (6, aD (.slice (.arr 2 tI)) r6), (33, aB true)]) (L' := []) (by kernel_rfl) (by kernel_rfl) ?_
        exact exQ_mk (by kernel_rfl) (by kernel_rfl)
      · replace h := ofF h16 h
        refine WO_run (j := 12) (k := 6) (orcs := [(12, .known false), (14, .known false), (16, .known false), (18, .known false), (20, .known false), (22, .known false)]) (kF := [5, 6, 21, 27]) (kL := []) (fr' := [(5, aD (.slice (.arr 2 tI)) r4), (6, aD (.slice (.arr 2 tI)) r6), (21, aB (decide ((List.length r6 : Int) > (List.length r4 : Int)))), (27, aB ((List.length r6 : Int) == (List.length r4 : Int)))]) (L' := []) (obs := [((decide ((List.length r6 : Int) > (List.length r4 : Int))) = false), ((decide ((List.length r6 : Int) > (List.length r4 : Int))) = false), ((decide ((List.length r6 : Int) > (List.length r4 : Int))) = false), ((decide ((List.length r6 : Int) > (List.length r4 : Int))) = false), ((decide ((List.length r6 : Int) > (List.length r4 : Int))) = false), ((decide ((List.length r6 : Int) > (List.length r4 : Int))) = false)]) rfl (by kernel_rfl) (allP2 h16 (allP2 h16 (allP2 h16 (allP2 h16 (allP2 h16 (allP1 h16)))))) ?_
        rcases Bool.eq_false_or_eq_true ((List.length r6 : Int) == (List.length r4 : Int)) with h17 | h17
        · replace h := ofT h17 h
          refine WO_run (j := 14) (k := 2) (orcs := [(24, .known true), (26, .known true)]) (kF := [5, 6, 21, 27, 28, 29]) (kL := []) (fr' := [(5, aD (.slice (.arr 2 tI)) r4), (6, aD (.slice (.arr 2 tI)) r6), (21, aB (decide ((List.length r6 : Int) > (List.length r4 : Int)))), (27, aB ((List.length r6 : Int) == (List.length r4 : Int))), (28, aD (.slice (.arr 2 tI)) r6), (29, aD (.slice (.arr 2 tI)) r4)]) (L' := []) (obs := [(((List.length r6 : Int) == (List.length r4 : Int)) = true), (((List.length r6 : Int) == (List.length r4 : Int)) = true)]) rfl (by kernel_rfl) (allP2 h17 (allP1 h17)) ?_
          obtain ⟨r18, h19, h⟩ := bind_of h
          refine WO_call0 (us := [none, none, none]) (d := 30) (p := (((List.length r6 : Int) == (List.length r4 : Int)) = true)) (j := 15) rfl ⟨by kernel_rfl, by kernel_rfl, by kernel_rfl⟩ h17 (slices_CompareFunc_L2intL2int2int2int_with_talk_Fool_1_ok h19) (by kernel_rfl) ?_
          refine WO_run (j := 18) (k := 3) (orcs := [(30, .known true), (32, .known false), (33, .val (.dat .bool true)), (35, .val (.dat .bool false))]) (kF := [5, 6, 33]) (kL := []) (fr' := [(5, aD (.slice (.arr 2 tI)) r4), (6, aD (.slice (.arr 2 tI)) r6), (33, aB (decide (r18 < (0 : Int))))]) (L' := []) (obs := [(((List.length r6 : Int) == (List.length r4 : Int)) = true), ((decide ((List.length r6 : Int) > (List.length r4 : Int))) = false), (((List.length r6 : Int) == (List.length r4 : Int)) = true), ((decide ((List.length r6 : Int) > (List.length r4 : Int))) = false)]) rfl (by kernel_rfl) (allP2 h17 (allP2 h16 (allP2 h17 (allP1 h16)))) ?_
          obtain rfl := Option.some.inj h
          refine WO_fin [5, 6, 33] [] (fr' := [(5, aD (.slice (.arr 2 tI)) r4), (6, aD (.slice (.arr 2 tI)) r6), (33, aB (decide (r18 < (0 : Int))))]) (L' := []) (by kernel_rfl) (by kernel_rfl) ?_
          exact exQ_mk (by kernel_rfl) (by kernel_rfl)
        · replace h := ofF h17 h
          refine WO_run (j := 18) (k := 6) (orcs := [(24, .known false), (26, .known false), (28, .known false), (30, .known false), (32, .known false), (33, .val (.dat .bool false)), (35, .val (.dat .bool false))]) (kF := [5, 6, 33]) (kL := []) (fr' := [(5, aD (.slice (.arr 2 tI)) r4), (6, aD (.slice (.arr 2 tI)) r6), (33, aB false)]) (L' := []) (obs := [(((List.length r6 : Int) == (List.length r4 : Int)) = false), (((List.length r6 : Int) == (List.length r4 : Int)) = false), (((List.length r6 : Int) == (List.length r4 : Int)) = false), (((List.length r6 : Int) == (List.length r4 : Int)) = false), ((decide ((List.length r6 : Int) > (List.length r4 : Int))) = false), (((List.length r6 : Int) == (List.length r4 : Int)) = false), ((decide ((List.length r6 : Int) > (List.length r4 : Int))) = false)]) rfl (by kernel_rfl) (allP2 h17 (allP2 h17 (allP2 h17 (allP2 h17 (allP2 h16 (allP2 h17 (allP1 h16))))))) ?_
          obtain rfl := Option.some.inj h
          refine WO_fin [5, 6, 33] [] (fr' := [(5, aD (.slice (.arr 2 tI)) r4), (6, aD (.slice (.arr 2 tI)) r6), (33, aB false)]) (L' := []) (by kernel_rfl) (by kernel_rfl) ?_
          exact exQ_mk (by kernel_rfl) (by kernel_rfl)
    · intro e fr L hJ
      obtain ⟨rfl, rfl, rfl⟩ := hJ
      refine LT_keep [5, 6, 33] [] (fr' := [(5, aD (.slice (.arr 2 tI)) r4), (6, aD (.slice (.arr 2 tI)) r6), (33, aB v20)]) (L' := []) (by kernel_rfl) ?_
      refine seqQ_norm ?_
      refine W_cond (o := .tmp 33) (b := v20) (by kernel_rfl) (by kernel_rfl) (fun h22 => ?_) (fun h22 => ?_)
      · replace h := ofT h22 h
        refine W_seq (by kernel_rfl) ?_
        refine W_run 3 [] [2, 3] [] (fr' := [(2, aD (.slice (.arr 2 tI)) r6), (3, aI (0 : Int))]) (L' := []) (obs := []) (by kernel_rfl) (by kernel_rfl) (by kernel_rfl) allP0 ?_
        refine seqQ_norm ?_
        obtain rfl := Option.some.inj h
        refine W_ret [2, 3] [] (fr' := [(2, aD (.slice (.arr 2 tI)) r6), (3, aI (0 : Int))]) (L' := []) (by kernel_rfl) (by kernel_rfl) ?_
        refine seqQ_ret ?_
        exact retQ_mk (by kernel_rfl) (by kernel_rfl) (by kernel_rfl)
      · replace h := ofF h22 h
        refine W_skip [5] [] (fr' := [(5, aD (.slice (.arr 2 tI)) r4)]) (L' := []) (by kernel_rfl) (by kernel_rfl) ?_
        refine seqQ_norm ?_
        refine W_seq (by kernel_rfl) ?_
        refine W_run 3 [] [2, 3] [] (fr' := [(2, aD (.slice (.arr 2 tI)) r4), (3, aI (0 : Int))]) (L' := []) (obs := []) (by kernel_rfl) (by kernel_rfl) (by kernel_rfl) allP0 ?_
        refine seqQ_norm ?_
        obtain rfl := Option.some.inj h
        refine W_ret [2, 3] [] (fr' := [(2, aD (.slice (.arr 2 tI)) r4), (3, aI (0 : Int))]) (L' := []) (by kernel_rfl) (by kernel_rfl) ?_
        exact retQ_mk (by kernel_rfl) (by kernel_rfl) (by kernel_rfl)

def ref_Within (a0 : Int) (a1 : Int) (a2 : Int) : Option Bool :=
some ((decide (a0 ≤ a1)) && (decide (a1 ≤ a2)))
theorem ref_Within_ok {a0 : Int} {a1 : Int} {a2 : Int} {r : Bool} (h : ref_Within a0 a1 a2 = some r) : FnC Try.prog 40 [aI a0, aI a1, aI a2] [] (aB r) [] := by
  refine fnC_of_W (B := bodyOf Try.f40) (n := 15) Try.func40 (by kernel_rfl) (by kernel_rfl) (by kernel_rfl) (by kernel_rfl) (by kernel_rfl) ?_
  intro K
  refine W_seq (by kernel_rfl) ?_
  refine W_run 1 [] [0, 1, 2] [] (fr' := [(0, aI a0), (1, aI a1), (2, aI a2)]) (L' := []) (obs := []) (by kernel_rfl) (by kernel_rfl) (by kernel_rfl) allP0 ?_
  refine seqQ_norm ?_
  refine W_seq (by kernel_rfl) ?_
  refine W_run 9 [] [6] [] (fr' := [(6, aB ((decide (a0 ≤ a1)) && (decide (a1 ≤ a2))))]) (L' := []) (obs := []) (by kernel_rfl) (by kernel_rfl) (by kernel_rfl) allP0 ?_
  refine seqQ_norm ?_
  obtain rfl := Option.some.inj h
  refine W_ret [6] [] (fr' := [(6, aB ((decide (a0 ≤ a1)) && (decide (a1 ≤ a2))))]) (L' := []) (by kernel_rfl) (by kernel_rfl) ?_
  exact retQ_mk (by kernel_rfl) (by kernel_rfl) (by kernel_rfl)

def ref_TalkCheck_g1 (a0 : (List (List Bool))) : Option Bool :=
(ref_Within (1 : Int) (List.length a0 : Int) (4 : Int)).bind fun r15 =>
bif !r15 then
(some true)
else
((idx a0 (0 : Int)).bind fun v18 =>
(ref_Within (1 : Int) (List.length v18 : Int) (4 : Int)).bind fun r20 =>
some (!r20))
def ref_TalkCheck_b2 (a0 : (List (List Bool))) (i37 : Int) (v40 : (List Bool)) (x38 : Unit) : Option (Flow Unit (Esc Int Unit)) :=
(idx a0 (0 : Int)).bind fun v43 =>
bif (List.length v40 : Int) != (List.length v43 : Int) then
(some (.done (.ret (3 : Int))))
else
(some (.next ()))
@[reducible] def ref_TalkCheck_s3 (a0 : (List (List Bool))) (v : Int × Unit) : Fr × LL := ([(0, aD (.slice (.slice .bool)) a0), (17, aD (.slice (.slice .bool)) a0), (18, aI (List.length a0 : Int)), (19, aI v.1)], [])
@[reducible] def ref_TalkCheck_s4 (v : Int) : Fr × LL := ([(2, aI v)], [])
@[reducible] def ref_TalkCheck_s5 (v : Unit) : Fr × LL := ([], [])
@[reducible] def ref_TalkCheck_s6 (a0 : (List (List Bool))) (v : Bool) : Fr × LL := ([(0, aD (.slice (.slice .bool)) a0), (16, aB v)], [])
def ref_TalkCheck (a0 : (List (List Bool))) : Option Int :=
(ref_TalkCheck_g1 a0).bind fun v22 =>
bif v22 then
(some (1 : Int))
else
((forL (ref_TalkCheck_b2 a0) (fun x38 => (.brk ())) a0 0 ()).bind fun v47 =>
match v47 with
| .ret v52 =>
(some v52)
| .brk v53 =>
(some (0 : Int)))
theorem ref_TalkCheck_ok {a0 : (List (List Bool))} {r : Int} (h : ref_TalkCheck a0 = some r) : FnC Try.prog 13 [aD (.slice (.slice .bool)) a0] [] (aI r) [] := by
  refine fnC_of_W (B := bodyOf Try.f13) (n := 31) Try.func13 (by kernel_rfl) (by kernel_rfl) (by kernel_rfl) (by kernel_rfl) (by kernel_rfl) ?_
  intro K
  refine W_seq (by kernel_rfl) ?_
  refine W_run 1 [] [0] [] (fr' := [(0, aD (.slice (.slice .bool)) a0)]) (L' := []) (obs := []) (by kernel_rfl) (by kernel_rfl) (by kernel_rfl) allP0 ?_
  refine seqQ_norm ?_
  refine W_seq (by kernel_rfl) ?_
  refine W_seq (by kernel_rfl) ?_
  obtain ⟨v22, h23, h⟩ := bind_of h
  refine W_cutK (Q' := (exQ .normal (ref_TalkCheck_s6 a0)) v22) ?_ ?_
  · replace h := h23
    refine W_region (by kernel_rfl) ?_
    refine WO_run (j := 2) (k := 2) (orcs := []) (kF := [0, 6]) (kL := []) (fr' := [(0, aD (.slice (.slice .bool)) a0), (6, aI (List.length a0 : Int))]) (L' := []) (obs := []) rfl (by kernel_rfl) allP0 ?_
    obtain ⟨r15, h16, h⟩ := bind_of h
    refine WO_call0 (us := [none, none, none]) (d := 7) (p := True) (j := 3) rfl ⟨by kernel_rfl, by kernel_rfl, by kernel_rfl⟩ trivial (ref_Within_ok h16) (by kernel_rfl) ?_
    refine WO_run (j := 5) (k := 2) (orcs := []) (kF := [0, 9]) (kL := []) (fr' := [(0, aD (.slice (.slice .bool)) a0), (9, aB (!r15))]) (L' := []) (obs := []) rfl (by kernel_rfl) allP0 ?_
    rcases Bool.eq_false_or_eq_true (!r15) with h17 | h17
    · replace h := ofT h17 h
      refine WO_run (j := 12) (k := 7) (orcs := [(10, .known true), (12, .known true), (14, .known true), (16, .known true), (18, .known true), (20, .known true), (23, .val (.dat .bool true))]) (kF := [0, 16]) (kL := []) (fr' := [(0, aD (.slice (.slice .bool)) a0), (16, aB true)]) (L' := []) (obs := [((!r15) = true), ((!r15) = true), ((!r15) = true), ((!r15) = true), ((!r15) = true), ((!r15) = true), ((!r15) = true)]) rfl (by kernel_rfl) (allP2 h17 (allP2 h17 (allP2 h17 (allP2 h17 (allP2 h17 (allP2 h17 (allP1 h17))))))) ?_
      obtain rfl := Option.some.inj h
      refine WO_fin [0, 16] [] (fr' := [(0, aD (.slice (.slice .bool)) a0), (16, aB true)]) (L' := []) (by kernel_rfl) (by kernel_rfl) ?_
      exact exQ_mk (by kernel_rfl) (by kernel_rfl)
    · replace h := ofF h17 h
      obtain ⟨v18, h19, h⟩ := bind_of h
      refine WO_run (j := 9) (k := 4) (orcs := [(10, .known false), (12, .known false), (13, .val (.dat (.slice .bool) v18)), (14, .known false), (16, .known false)]) (kF := [0, 9, 13]) (kL := []) (fr' := [(0, aD (.slice (.slice .bool)) a0), (9, aB (!r15)), (13, aI (List.length v18 : Int))]) (L' := []) (obs := [((!r15) = false), ((!r15) = false), Idx a0 (0 : Int) v18, ((!r15) = false), ((!r15) = false)]) rfl (by kernel_rfl) (allP2 h17 (allP2 h17 (allP2 (Idx.of h19) (allP2 h17 (allP1 h17))))) ?_
      obtain ⟨r20, h21, h⟩ := bind_of h
      refine WO_call0 (us := [none, none, none]) (d := 14) (p := ((!r15) = false)) (j := 10) rfl ⟨by kernel_rfl, by kernel_rfl, by kernel_rfl⟩ h17 (ref_Within_ok h21) (by kernel_rfl) ?_
      refine WO_run (j := 12) (k := 2) (orcs := [(20, .known false), (23, .val (.dat .bool false))]) (kF := [0, 16]) (kL := []) (fr' := [(0, aD (.slice (.slice .bool)) a0), (16, aB (!r20))]) (L' := []) (obs := [((!r15) = false), ((!r15) = false)]) rfl (by kernel_rfl) (allP2 h17 (allP1 h17)) ?_
      obtain rfl := Option.some.inj h
      refine WO_fin [0, 16] [] (fr' := [(0, aD (.slice (.slice .bool)) a0), (16, aB (!r20))]) (L' := []) (by kernel_rfl) (by kernel_rfl) ?_
      exact exQ_mk (by kernel_rfl) (by kernel_rfl)
  · intro e fr L hJ
    obtain ⟨rfl, rfl, rfl⟩ := hJ
    refine LT_keep [0, 16] [] (fr' := [(0, aD (.slice (.slice .bool)) a0), (16, aB v22)]) (L' := []) (by kernel_rfl) ?_
    refine seqQ_norm ?_
    refine W_cond (o := .tmp 16) (b := v22) (by kernel_rfl) (by kernel_rfl) (fun h24 => ?_) (fun h24 => ?_)
    · replace h := ofT h24 h
      refine W_seq (by kernel_rfl) ?_
      refine W_run 1 [] [2] [] (fr' := [(2, aI (1 : Int))]) (L' := []) (obs := []) (by kernel_rfl) (by kernel_rfl) (by kernel_rfl) allP0 ?_
      refine seqQ_norm ?_
      obtain rfl := Option.some.inj h
      refine W_ret [2] [] (fr' := [(2, aI (1 : Int))]) (L' := []) (by kernel_rfl) (by kernel_rfl) ?_
      refine seqQ_ret ?_
      exact retQ_mk (by kernel_rfl) (by kernel_rfl) (by kernel_rfl)
    · replace h := ofF h24 h
      refine W_skip [0] [] (fr' := [(0, aD (.slice (.slice .bool)) a0)]) (L' := []) (by kernel_rfl) (by kernel_rfl) ?_
      refine seqQ_norm ?_
      refine W_seq (by kernel_rfl) ?_
      refine W_seq (by kernel_rfl) ?_
      refine W_run 3 [] [0, 17, 18, 19] [] (fr' := [(0, aD (.slice (.slice .bool)) a0), (17, aD (.slice (.slice .bool)) a0), (18, aI (List.length a0 : Int)), (19, aI (0 : Int))]) (L' := []) (obs := []) (by kernel_rfl) (by kernel_rfl) (by kernel_rfl) allP0 ?_
      refine seqQ_norm ?_
      refine W_block (id := 0) (by kernel_rfl) ?_
      obtain ⟨v47, h48, h⟩ := bind_of h
      refine W_len (t := 17) (u := (.slice .bool)) (xs := a0) (by kernel_rfl) (fun h51 => ?_)
      obtain ⟨h49, h50⟩ := forL_iter h51 h48
      refine W_weaken [0, 17, 18, 19] [] (fr' := ((ref_TalkCheck_s3 a0) ((0 : Int), ())).1) (L' := ((ref_TalkCheck_s3 a0) ((0 : Int), ())).2) (by kernel_rfl) ?_
      refine W_cutK (W_loop (S := (ref_TalkCheck_s3 a0)) (J := (escQ (exQ .ret ref_TalkCheck_s4) (exQ (.exit 0) ref_TalkCheck_s5))) (by kernel_rfl) ?_ h49 _ v47 h50) ?_
      · rintro ⟨i37, x38⟩ s h
        refine W_seq (by kernel_rfl) ?_
        refine W_run 1 [] [0, 17, 18, 19, 20] [] (fr' := [(0, aD (.slice (.slice .bool)) a0), (17, aD (.slice (.slice .bool)) a0), (18, aI (List.length a0 : Int)), (19, aI i37), (20, aB (decide (i37 < (List.length a0 : Int))))]) (L' := []) (obs := []) (by kernel_rfl) (by kernel_rfl) (by kernel_rfl) allP0 ?_
        refine seqQ_norm ?_
        refine W_seq (by kernel_rfl) ?_
        refine W_cond (o := .tmp 20) (b := decide (i37 < (List.length a0 : Int))) (by kernel_rfl) (by kernel_rfl) (fun h42 => ?_) (fun h42 => ?_)
        · replace h := stepL_true h42 h
          obtain ⟨v40, _, h41, h, rfl⟩ := h
          refine W_skip [0, 17, 18, 19] [] (fr' := [(0, aD (.slice (.slice .bool)) a0), (17, aD (.slice (.slice .bool)) a0), (18, aI (List.length a0 : Int)), (19, aI i37)]) (L' := []) (by kernel_rfl) (by kernel_rfl) ?_
          refine seqQ_norm ?_
          refine W_seq (by kernel_rfl) ?_
          refine W_block (id := 1) (by kernel_rfl) ?_
          refine W_seq (by kernel_rfl) ?_
          refine W_run 3 [(1, .val (.dat (.slice .bool) v40))] [0, 4, 17, 18, 19] [] (fr' := [(0, aD (.slice (.slice .bool)) a0), (4, aD (.slice .bool) v40), (17, aD (.slice (.slice .bool)) a0), (18, aI (List.length a0 : Int)), (19, aI i37)]) (L' := []) (obs := [Idx a0 i37 v40]) (by kernel_rfl) (by kernel_rfl) (by kernel_rfl) (allP1 (Idx.of h41)) ?_
          refine seqQ_norm ?_
          refine W_seq (by kernel_rfl) ?_
          obtain ⟨v43, h44, h⟩ := bind_of h
          refine W_run 7 [(7, .val (.dat (.slice .bool) v43))] [0, 17, 18, 19, 29] [] (fr' := [(0, aD (.slice (.slice .bool)) a0), (17, aD (.slice (.slice .bool)) a0), (18, aI (List.length a0 : Int)), (19, aI i37), (29, aB ((List.length v40 : Int) != (List.length v43 : Int)))]) (L' := []) (obs := [Idx a0 (0 : Int) v43]) (by kernel_rfl) (by kernel_rfl) (by kernel_rfl) (allP1 (Idx.of h44)) ?_
          refine seqQ_norm ?_
          refine W_cond (o := .tmp 29) (b := (List.length v40 : Int) != (List.length v43 : Int)) (by kernel_rfl) (by kernel_rfl) (fun h45 => ?_) (fun h45 => ?_)
          · replace h := ofT h45 h
            refine W_seq (by kernel_rfl) ?_
            refine W_run 1 [] [2] [] (fr' := [(2, aI (3 : Int))]) (L' := []) (obs := []) (by kernel_rfl) (by kernel_rfl) (by kernel_rfl) allP0 ?_
            refine seqQ_norm ?_
            obtain rfl := Option.some.inj h
            refine W_ret [2] [] (fr' := [(2, aI (3 : Int))]) (L' := []) (by kernel_rfl) (by kernel_rfl) ?_
            refine blockQ_ret ?_
            refine seqQ_ret ?_
            refine round_ret ?_
            refine escQ_ret ?_
            exact exQ_mk (by kernel_rfl) (by kernel_rfl)
          · replace h := ofF h45 h
            refine W_skip [0, 17, 18, 19] [] (fr' := [(0, aD (.slice (.slice .bool)) a0), (17, aD (.slice (.slice .bool)) a0), (18, aI (List.length a0 : Int)), (19, aI i37)]) (L' := []) (by kernel_rfl) (by kernel_rfl) ?_
            refine blockQ_norm ?_
            refine seqQ_norm ?_
            obtain rfl := Option.some.inj h
            refine W_run 2 [] [0, 17, 18, 19] [] (fr' := [(0, aD (.slice (.slice .bool)) a0), (17, aD (.slice (.slice .bool)) a0), (18, aI (List.length a0 : Int)), (19, aI (w64 (i37 + (1 : Int))))]) (L' := []) (obs := []) (by kernel_rfl) (by kernel_rfl) (by kernel_rfl) allP0 ?_
            exact round_next' (by kernel_rfl) (by kernel_rfl)
        · obtain rfl := stepL_false h42 h
          refine W_exit (id := 0) [] [] (fr' := []) (L' := []) (by kernel_rfl) (by kernel_rfl) ?_
          refine seqQ_exit ?_
          refine round_exit ?_
          refine escQ_brk ?_
          exact exQ_mk (by kernel_rfl) (by kernel_rfl)
      · intro e fr L hJ
        rcases v47 with v52 | v53
        · obtain ⟨rfl, rfl, rfl⟩ := hJ
          obtain rfl := Option.some.inj h
          refine LT_keep [2] [] (fr' := [(2, aI v52)]) (L' := []) (by kernel_rfl) ?_
          refine blockQ_ret ?_
          refine seqQ_ret ?_
          exact retQ_mk (by kernel_rfl) (by kernel_rfl) (by kernel_rfl)
        · obtain ⟨rfl, rfl, rfl⟩ := hJ
          refine LT_keep [] [] (fr' := []) (L' := []) (by kernel_rfl) ?_
          refine blockQ_hit ?_
          refine seqQ_norm ?_
          refine W_seq (by kernel_rfl) ?_
          refine W_run 1 [] [2] [] (fr' := [(2, aI (0 : Int))]) (L' := []) (obs := []) (by kernel_rfl) (by kernel_rfl) (by kernel_rfl) allP0 ?_
          refine seqQ_norm ?_
          obtain rfl := Option.some.inj h
          refine W_ret [2] [] (fr' := [(2, aI (0 : Int))]) (L' := []) (by kernel_rfl) (by kernel_rfl) ?_
          exact retQ_mk (by kernel_rfl) (by kernel_rfl) (by kernel_rfl)

def ref_Bit (a0 : Int) (a1 : Int) : Option Bool :=
bif (decide (a1 ≥ (0 : Int))) && (decide (a1 < (63 : Int))) then
((ck (0 ≤ IntKind.wrap .u64 (a1))).bind fun _ =>
some ((bAnd .i64 a0 (bShl .i64 (1 : Int) (IntKind.wrap .u64 (a1)))) != (0 : Int)))
else
(some false)
theorem ref_Bit_ok {a0 : Int} {a1 : Int} {r : Bool} (h : ref_Bit a0 a1 = some r) : FnC Try.prog 45 [aI a0, aI a1] [] (aB r) [] := by
  refine fnC_of_W (B := bodyOf Try.f45) (n := 19) Try.func45 (by kernel_rfl) (by kernel_rfl) (by kernel_rfl) (by kernel_rfl) (by kernel_rfl) ?_
  intro K
  refine W_seq (by kernel_rfl) ?_
  refine W_run 1 [] [0, 1] [] (fr' := [(0, aI a0), (1, aI a1)]) (L' := []) (obs := []) (by kernel_rfl) (by kernel_rfl) (by kernel_rfl) allP0 ?_
  refine seqQ_norm ?_
  refine W_seq (by kernel_rfl) ?_
  refine W_region (by kernel_rfl) ?_
  refine WO_run (j := 7) (k := 7) (orcs := []) (kF := [0, 1, 11]) (kL := []) (fr' := [(0, aI a0), (1, aI a1), (11, aB ((decide (a1 ≥ (0 : Int))) && (decide (a1 < (63 : Int)))))]) (L' := []) (obs := []) rfl (by kernel_rfl) allP0 ?_
  rcases Bool.eq_false_or_eq_true ((decide (a1 ≥ (0 : Int))) && (decide (a1 < (63 : Int)))) with h1 | h1
  · replace h := ofT h1 h
    obtain ⟨_, h2, h⟩ := bind_of h
    replace h2 := ck_some h2
    refine WO_run (j := 15) (k := 8) (orcs := [(14, .known true), (16, .known true), (18, .known true), (20, .known true), (22, .known true), (24, .known true), (27, .val (.dat .bool true))]) (kF := [4]) (kL := []) (fr' := [(4, aB ((bAnd .i64 a0 (bShl .i64 (1 : Int) (IntKind.wrap .u64 (a1)))) != (0 : Int)))]) (L' := []) (obs := [(((decide (a1 ≥ (0 : Int))) && (decide (a1 < (63 : Int)))) = true), (((decide (a1 ≥ (0 : Int))) && (decide (a1 < (63 : Int)))) = true), (((decide (a1 ≥ (0 : Int))) && (decide (a1 < (63 : Int)))) = true), (((decide (a1 ≥ (0 : Int))) && (decide (a1 < (63 : Int)))) = true), (0 ≤ IntKind.wrap .u64 (a1)), (((decide (a1 ≥ (0 : Int))) && (decide (a1 < (63 : Int)))) = true), (((decide (a1 ≥ (0 : Int))) && (decide (a1 < (63 : Int)))) = true), (((decide (a1 ≥ (0 : Int))) && (decide (a1 < (63 : Int)))) = true)]) rfl (by kernel_rfl) (allP2 h1 (allP2 h1 (allP2 h1 (allP2 h1 (allP2 h2 (allP2 h1 (allP2 h1 (allP1 h1)))))))) ?_
    refine WO_fin [4] [] (fr' := [(4, aB ((bAnd .i64 a0 (bShl .i64 (1 : Int) (IntKind.wrap .u64 (a1)))) != (0 : Int)))]) (L' := []) (by kernel_rfl) (by kernel_rfl) ?_
    refine seqQ_norm ?_
    obtain rfl := Option.some.inj h
    refine W_ret [4] [] (fr' := [(4, aB ((bAnd .i64 a0 (bShl .i64 (1 : Int) (IntKind.wrap .u64 (a1)))) != (0 : Int)))]) (L' := []) (by kernel_rfl) (by kernel_rfl) ?_
    exact retQ_mk (by kernel_rfl) (by kernel_rfl) (by kernel_rfl)
  · replace h := ofF h1 h
    refine WO_run (j := 15) (k := 8) (orcs := [(14, .known false), (16, .known false), (18, .known false), (20, .known false), (22, .known false), (24, .known false), (27, .val (.dat .bool false))]) (kF := [4]) (kL := []) (fr' := [(4, aB false)]) (L' := []) (obs := [(((decide (a1 ≥ (0 : Int))) && (decide (a1 < (63 : Int)))) = false), (((decide (a1 ≥ (0 : Int))) && (decide (a1 < (63 : Int)))) = false), (((decide (a1 ≥ (0 : Int))) && (decide (a1 < (63 : Int)))) = false), (((decide (a1 ≥ (0 : Int))) && (decide (a1 < (63 : Int)))) = false), (((decide (a1 ≥ (0 : Int))) && (decide (a1 < (63 : Int)))) = false), (((decide (a1 ≥ (0 : Int))) && (decide (a1 < (63 : Int)))) = false), (((decide (a1 ≥ (0 : Int))) && (decide (a1 < (63 : Int)))) = false)]) rfl (by kernel_rfl) (allP2 h1 (allP2 h1 (allP2 h1 (allP2 h1 (allP2 h1 (allP2 h1 (allP1 h1))))))) ?_
    refine WO_fin [4] [] (fr' := [(4, aB false)]) (L' := []) (by kernel_rfl) (by kernel_rfl) ?_
    refine seqQ_norm ?_
    obtain rfl := Option.some.inj h
    refine W_ret [4] [] (fr' := [(4, aB false)]) (L' := []) (by kernel_rfl) (by kernel_rfl) ?_
    exact retQ_mk (by kernel_rfl) (by kernel_rfl) (by kernel_rfl)

@[reducible] def ref_Size_s3 (a0 : Int) (i27 : Int) (v : Int) : Fr × LL := ([(0, aI a0), (3, aI v), (4, aI i27)], [])
def ref_Size_b4 (a0 : Int) (i27 : Int) (x28 : Int) : Option (Flow Int Int) :=
((ref_Bit a0 i27).bind fun r37 =>
bif r37 then
(some (w64 (x28 + (1 : Int))))
else
(some x28)).bind fun v40 =>
some (.next v40)
@[reducible] def ref_Size_s5 (a0 : Int) (v : Int × Int) : Fr × LL := ([(0, aI a0), (3, aI v.2), (4, aI v.1)], [])
@[reducible] def ref_Size_s6 (v : Int) : Fr × LL := ([(3, aI v)], [])
def ref_Size (a0 : Int) : Option Int :=
(forI (0 : Int) (63 : Int) (ref_Size_b4 a0) (fun x28 => x28) (0 : Int)).bind fun v43 =>
some v43
theorem ref_Size_ok {a0 : Int} {r : Int} (h : ref_Size a0 = some r) : FnC Try.prog 20 [aI a0] [] (aI r) [] := by
  refine fnC_of_W (B := bodyOf Try.f20) (n := 15) Try.func20 (by kernel_rfl) (by kernel_rfl) (by kernel_rfl) (by kernel_rfl) (by kernel_rfl) ?_
  intro K
  refine W_seq (by kernel_rfl) ?_
  refine W_run 1 [] [0] [] (fr' := [(0, aI a0)]) (L' := []) (obs := []) (by kernel_rfl) (by kernel_rfl) (by kernel_rfl) allP0 ?_
  refine seqQ_norm ?_
  refine W_seq (by kernel_rfl) ?_
  refine W_run 1 [] [0, 3] [] (fr' := [(0, aI a0), (3, aI (0 : Int))]) (L' := []) (obs := []) (by kernel_rfl) (by kernel_rfl) (by kernel_rfl) allP0 ?_
  refine seqQ_norm ?_
  refine W_seq (by kernel_rfl) ?_
  refine W_seq (by kernel_rfl) ?_
  refine W_run 1 [] [0, 3, 4] [] (fr' := [(0, aI a0), (3, aI (0 : Int)), (4, aI (0 : Int))]) (L' := []) (obs := []) (by kernel_rfl) (by kernel_rfl) (by kernel_rfl) allP0 ?_
  refine seqQ_norm ?_
  refine W_block (id := 0) (by kernel_rfl) ?_
  obtain ⟨v43, h44, h⟩ := bind_of h
  obtain ⟨h45, h46⟩ := forI_iter h44
  refine W_weaken [0, 3, 4] [] (fr' := ((ref_Size_s5 a0) ((0 : Int), (0 : Int))).1) (L' := ((ref_Size_s5 a0) ((0 : Int), (0 : Int))).2) (by kernel_rfl) ?_
  refine W_cutK (W_loop (S := (ref_Size_s5 a0)) (J := (exQ (.exit 0) ref_Size_s6)) (by kernel_rfl) ?_ h45 _ v43 h46) ?_
  · rintro ⟨i27, x28⟩ s h
    refine W_seq (by kernel_rfl) ?_
    refine W_seq (by kernel_rfl) ?_
    refine W_run 2 [] [0, 3, 4, 6] [] (fr' := [(0, aI a0), (3, aI x28), (4, aI i27), (6, aB (decide (i27 < (63 : Int))))]) (L' := []) (obs := []) (by kernel_rfl) (by kernel_rfl) (by kernel_rfl) allP0 ?_
    refine seqQ_norm ?_
    refine W_cond (o := .tmp 6) (b := decide (i27 < (63 : Int))) (by kernel_rfl) (by kernel_rfl) (fun h30 => ?_) (fun h30 => ?_)
    · replace h := stepI_true h30 h
      obtain ⟨_, h, rfl⟩ := h
      refine W_skip [0, 3, 4] [] (fr' := [(0, aI a0), (3, aI x28), (4, aI i27)]) (L' := []) (by kernel_rfl) (by kernel_rfl) ?_
      refine seqQ_norm ?_
      refine W_seq (by kernel_rfl) ?_
      obtain ⟨v40, h41, h⟩ := bind_of h
      refine W_cutK (Q' := (exQ .normal (ref_Size_s3 a0 i27)) v40) ?_ ?_
      · replace h := h41
        refine W_block (id := 1) (by kernel_rfl) ?_
        refine W_seq (by kernel_rfl) ?_
        refine W_region (by kernel_rfl) ?_
        refine WO_run (j := 2) (k := 2) (orcs := []) (kF := [0, 3, 4, 9, 10]) (kL := []) (fr' := [(0, aI a0), (3, aI x28), (4, aI i27), (9, aI a0), (10, aI i27)]) (L' := []) (obs := []) rfl (by kernel_rfl) allP0 ?_
        obtain ⟨r37, h38, h⟩ := bind_of h
        refine WO_call0 (us := [none, none]) (d := 11) (p := True) (j := 3) rfl ⟨by kernel_rfl, by kernel_rfl, by kernel_rfl⟩ trivial (ref_Bit_ok h38) (by kernel_rfl) ?_
        refine WO_fin [0, 3, 4, 11] [] (fr' := [(0, aI a0), (3, aI x28), (4, aI i27), (11, aB r37)]) (L' := []) (by kernel_rfl) (by kernel_rfl) ?_
        refine seqQ_norm ?_
        refine W_cond (o := .tmp 11) (b := r37) (by kernel_rfl) (by kernel_rfl) (fun h39 => ?_) (fun h39 => ?_)
        · replace h := ofT h39 h
          obtain rfl := Option.some.inj h
          refine W_run 3 [] [0, 3, 4] [] (fr' := [(0, aI a0), (3, aI (w64 (x28 + (1 : Int)))), (4, aI i27)]) (L' := []) (obs := []) (by kernel_rfl) (by kernel_rfl) (by kernel_rfl) allP0 ?_
          refine blockQ_norm ?_
          exact exQ_mk (by kernel_rfl) (by kernel_rfl)
        · replace h := ofF h39 h
          obtain rfl := Option.some.inj h
          refine W_skip [0, 3, 4] [] (fr' := [(0, aI a0), (3, aI x28), (4, aI i27)]) (L' := []) (by kernel_rfl) (by kernel_rfl) ?_
          refine blockQ_norm ?_
          exact exQ_mk (by kernel_rfl) (by kernel_rfl)
      · intro e fr L hJ
        obtain ⟨rfl, rfl, rfl⟩ := hJ
        refine LT_keep [0, 3, 4] [] (fr' := [(0, aI a0), (3, aI v40), (4, aI i27)]) (L' := []) (by kernel_rfl) ?_
        refine seqQ_norm ?_
        obtain rfl := Option.some.inj h
        refine W_run 3 [] [0, 3, 4] [] (fr' := [(0, aI a0), (3, aI v40), (4, aI (w64 (i27 + (1 : Int))))]) (L' := []) (obs := []) (by kernel_rfl) (by kernel_rfl) (by kernel_rfl) allP0 ?_
        exact round_next' (by kernel_rfl) (by kernel_rfl)
    · obtain rfl := stepI_false h30 h
      refine W_exit (id := 0) [3] [] (fr' := [(3, aI x28)]) (L' := []) (by kernel_rfl) (by kernel_rfl) ?_
      refine seqQ_exit ?_
      refine round_exit ?_
      exact exQ_mk (by kernel_rfl) (by kernel_rfl)
  · intro e fr L hJ
    obtain ⟨rfl, rfl, rfl⟩ := hJ
    refine LT_keep [3] [] (fr' := [(3, aI v43)]) (L' := []) (by kernel_rfl) ?_
    refine blockQ_hit ?_
    refine seqQ_norm ?_
    refine W_seq (by kernel_rfl) ?_
    refine W_run 2 [] [2] [] (fr' := [(2, aI v43)]) (L' := []) (obs := []) (by kernel_rfl) (by kernel_rfl) (by kernel_rfl) allP0 ?_
    refine seqQ_norm ?_
    obtain rfl := Option.some.inj h
    refine W_ret [2] [] (fr' := [(2, aI v43)]) (L' := []) (by kernel_rfl) (by kernel_rfl) ?_
    exact retQ_mk (by kernel_rfl) (by kernel_rfl) (by kernel_rfl)

@[reducible] def ref_ListOf_s3 (a0 : Int) (i30 : Int) (v : (List Int)) : Fr × LL := ([(0, aI a0), (3, .one (.slc 15)), (4, aI i30)], [(15, .seq tI v)])
def ref_ListOf_b4 (a0 : Int) (i30 : Int) (x31 : (List Int)) : Option (Flow (List Int) (List Int)) :=
((ref_Bit a0 i30).bind fun r42 =>
bif r42 then
((ck ((List.length x31 : Int) + 1 ≤ 4294967296)).bind fun _ =>
some (x31 ++ [i30]))
else
(some x31)).bind fun v46 =>
some (.next v46)
@[reducible] def ref_ListOf_s5 (a0 : Int) (v : Int × (List Int)) : Fr × LL := ([(0, aI a0), (3, .one (.slc 15)), (4, aI v.1)], [(15, .seq tI v.2)])
@[reducible] def ref_ListOf_s6 (v : (List Int)) : Fr × LL := ([(3, .one (.slc 15))], [(15, .seq tI v)])
def ref_ListOf (a0 : Int) : Option (List Int) :=
(forI (0 : Int) (63 : Int) (ref_ListOf_b4 a0) (fun x31 => x31) []).bind fun v49 =>
some v49
theorem ref_ListOf_ok {a0 : Int} {r : (List Int)} (h : ref_ListOf a0 = some r) : FnC Try.prog 22 [aI a0] [] (aD (.slice tI) r) [] := by
  refine fnC_of_W (B := bodyOf Try.f22) (n := 17) Try.func22 (by kernel_rfl) (by kernel_rfl) (by kernel_rfl) (by kernel_rfl) (by kernel_rfl) ?_
  intro K
  refine W_seq (by kernel_rfl) ?_
  refine W_run 1 [] [0] [] (fr' := [(0, aI a0)]) (L' := []) (obs := []) (by kernel_rfl) (by kernel_rfl) (by kernel_rfl) allP0 ?_
  refine seqQ_norm ?_
  refine W_seq (by kernel_rfl) ?_
  refine W_run 1 [] [0, 3] [] (fr' := [(0, aI a0), (3, .one (.nilS))]) (L' := []) (obs := []) (by kernel_rfl) (by kernel_rfl) (by kernel_rfl) allP0 ?_
  refine seqQ_norm ?_
  refine W_seq (by kernel_rfl) ?_
  refine W_seq (by kernel_rfl) ?_
  refine W_run 1 [] [0, 3, 4] [] (fr' := [(0, aI a0), (3, .one (.nilS)), (4, aI (0 : Int))]) (L' := []) (obs := []) (by kernel_rfl) (by kernel_rfl) (by kernel_rfl) allP0 ?_
  refine seqQ_norm ?_
  refine W_block (id := 0) (by kernel_rfl) ?_
  obtain ⟨v49, h50, h⟩ := bind_of h
  obtain ⟨h51, h52⟩ := forI_iter h50
  refine W_mine 3 15 tI (by kernel_rfl) ?_
  refine W_weaken [0, 3, 4] [15] (fr' := ((ref_ListOf_s5 a0) ((0 : Int), [])).1) (L' := ((ref_ListOf_s5 a0) ((0 : Int), [])).2) (by kernel_rfl) ?_
  refine W_cutK (W_loop (S := (ref_ListOf_s5 a0)) (J := (exQ (.exit 0) ref_ListOf_s6)) (by kernel_rfl) ?_ h51 _ v49 h52) ?_
  · rintro ⟨i30, x31⟩ s h
    refine W_seq (by kernel_rfl) ?_
    refine W_seq (by kernel_rfl) ?_
    refine W_run 2 [] [0, 3, 4, 6] [15] (fr' := [(0, aI a0), (3, .one (.slc 15)), (4, aI i30), (6, aB (decide (i30 < (63 : Int))))]) (L' := [(15, .seq tI x31)]) (obs := []) (by kernel_rfl) (by kernel_rfl) (by kernel_rfl) allP0 ?_
    refine seqQ_norm ?_
    refine W_cond (o := .tmp 6) (b := decide (i30 < (63 : Int))) (by kernel_rfl) (by kernel_rfl) (fun h33 => ?_) (fun h33 => ?_)
    · replace h := stepI_true h33 h
      obtain ⟨_, h, rfl⟩ := h
      refine W_skip [0, 3, 4] [15] (fr' := [(0, aI a0), (3, .one (.slc 15)), (4, aI i30)]) (L' := [(15, .seq tI x31)]) (by kernel_rfl) (by kernel_rfl) ?_
      refine seqQ_norm ?_
      refine W_seq (by kernel_rfl) ?_
      obtain ⟨v46, h47, h⟩ := bind_of h
      refine W_cutK (Q' := (exQ .normal (ref_ListOf_s3 a0 i30)) v46) ?_ ?_
      · replace h := h47
        refine W_block (id := 1) (by kernel_rfl) ?_
        refine W_seq (by kernel_rfl) ?_
        refine W_region (by kernel_rfl) ?_
        refine WO_run (j := 2) (k := 2) (orcs := []) (kF := [0, 3, 4, 9, 10]) (kL := [15]) (fr' := [(0, aI a0), (3, .one (.slc 15)), (4, aI i30), (9, aI a0), (10, aI i30)]) (L' := [(15, .seq tI x31)]) (obs := []) rfl (by kernel_rfl) allP0 ?_
        obtain ⟨r42, h43, h⟩ := bind_of h
        refine WO_call0 (us := [none, none]) (d := 11) (p := True) (j := 3) rfl ⟨by kernel_rfl, by kernel_rfl, by kernel_rfl⟩ trivial (ref_Bit_ok h43) (by kernel_rfl) ?_
        refine WO_fin [0, 3, 4, 11] [15] (fr' := [(0, aI a0), (3, .one (.slc 15)), (4, aI i30), (11, aB r42)]) (L' := [(15, .seq tI x31)]) (by kernel_rfl) (by kernel_rfl) ?_
        refine seqQ_norm ?_
        refine W_cond (o := .tmp 11) (b := r42) (by kernel_rfl) (by kernel_rfl) (fun h44 => ?_) (fun h44 => ?_)
        · replace h := ofT h44 h
          obtain ⟨_, h45, h⟩ := bind_of h
          replace h45 := ck_some h45
          obtain rfl := Option.some.inj h
          refine W_run 5 [] [0, 3, 4] [15] (fr' := [(0, aI a0), (3, .one (.slc 15)), (4, aI i30)]) (L' := [(15, .seq tI (x31 ++ [i30]))]) (obs := [SmallLen (List.length x31 + List.length [i30])]) (by kernel_rfl) (by kernel_rfl) (by kernel_rfl) (allP1 h45) ?_
          refine blockQ_norm ?_
          exact exQ_mk (by kernel_rfl) (by kernel_rfl)
        · replace h := ofF h44 h
          obtain rfl := Option.some.inj h
          refine W_skip [0, 3, 4] [15] (fr' := [(0, aI a0), (3, .one (.slc 15)), (4, aI i30)]) (L' := [(15, .seq tI x31)]) (by kernel_rfl) (by kernel_rfl) ?_
          refine blockQ_norm ?_
          exact exQ_mk (by kernel_rfl) (by kernel_rfl)
      · intro e fr L hJ
        obtain ⟨rfl, rfl, rfl⟩ := hJ
        refine LT_keep [0, 3, 4] [15] (fr' := [(0, aI a0), (3, .one (.slc 15)), (4, aI i30)]) (L' := [(15, .seq tI v46)]) (by kernel_rfl) ?_
        refine seqQ_norm ?_
        obtain rfl := Option.some.inj h
        refine W_run 3 [] [0, 3, 4] [15] (fr' := [(0, aI a0), (3, .one (.slc 15)), (4, aI (w64 (i30 + (1 : Int))))]) (L' := [(15, .seq tI v46)]) (obs := []) (by kernel_rfl) (by kernel_rfl) (by kernel_rfl) allP0 ?_
        exact round_next' (by kernel_rfl) (by kernel_rfl)
    · obtain rfl := stepI_false h33 h
      refine W_exit (id := 0) [3] [15] (fr' := [(3, .one (.slc 15))]) (L' := [(15, .seq tI x31)]) (by kernel_rfl) (by kernel_rfl) ?_
      refine seqQ_exit ?_
      refine round_exit ?_
      exact exQ_mk (by kernel_rfl) (by kernel_rfl)
  · intro e fr L hJ
    obtain ⟨rfl, rfl, rfl⟩ := hJ
    refine LT_keep [3] [15] (fr' := [(3, .one (.slc 15))]) (L' := [(15, .seq tI v49)]) (by kernel_rfl) ?_
    refine blockQ_hit ?_
    refine seqQ_norm ?_
    refine W_seq (by kernel_rfl) ?_
    refine W_run 2 [] [2] [15] (fr' := [(2, .one (.slc 15))]) (L' := [(15, .seq tI v49)]) (obs := []) (by kernel_rfl) (by kernel_rfl) (by kernel_rfl) allP0 ?_
    refine seqQ_norm ?_
    obtain rfl := Option.some.inj h
    refine W_frz 15 (by kernel_rfl) ?_
    refine W_ret [2] [] (fr' := [(2, aD (.slice tI) v49)]) (L' := []) (by kernel_rfl) (by kernel_rfl) ?_
    exact retQ_mk (by kernel_rfl) (by kernel_rfl) (by kernel_rfl)

def ref_FoolSet_g23 (v1 : (List Bool)) (v228 : Int) (v304 : Int) (v308 : (List Bool)) (v310 : Bool) (v312 : (List Bool)) : Option Bool :=
bif v228 != v304 then
((idx v308 (Int.tmod v304 (List.length v1 : Int))).bind fun v330 =>
bif v330 == v310 then
((idx v312 (Int.tmod v228 (List.length v1 : Int))).bind fun v333 =>
some (v333 == v310))
else
(some false))
else
(some false)
@[reducible] def ref_FoolSet_s24 (a0 : (List (List Bool))) (v1 : (List Bool)) (r3 : (List Int)) (i225 : Int) (v228 : Int) (i301 : Int) (v : Bool) : Fr × LL := ([(0, aD (.slice (.slice .bool)) a0), (5, aI (List.length v1 : Int)), (6, aD (.slice tI) r3), (8, aI v228), (18, aD (.slice tI) r3), (19, aI (List.length r3 : Int)), (20, aI i225), (24, aD (.slice tI) r3), (25, aI (List.length r3 : Int)), (26, aI i301), (86, aB v)], [])
def ref_FoolSet_b25 (a0 : (List (List Bool))) (v1 : (List Bool)) (v228 : Int) (i301 : Int) (v304 : Int) (x302 : Unit) : Option (Flow Unit (Esc Bool Unit)) :=
(ck ((List.length v1 : Int) ≠ 0)).bind fun _ =>
(idx a0 (w64 (Int.tdiv v228 (List.length v1 : Int)))).bind fun v308 =>
(idx v308 (Int.tmod v228 (List.length v1 : Int))).bind fun v310 =>
(idx a0 (w64 (Int.tdiv v304 (List.length v1 : Int)))).bind fun v312 =>
(idx v312 (Int.tmod v304 (List.length v1 : Int))).bind fun v314 =>
bif !(v314 == v310) then
(some (.done (.ret false)))
else
((ref_FoolSet_g23 v1 v228 v304 v308 v310 v312).bind fun v335 =>
bif v335 then
(some (.done (.ret false)))
else
(some (.next ())))
@[reducible] def ref_FoolSet_s26 (a0 : (List (List Bool))) (v1 : (List Bool)) (r3 : (List Int)) (i225 : Int) (v228 : Int) (v : Int × Unit) : Fr × LL := ([(0, aD (.slice (.slice .bool)) a0), (5, aI (List.length v1 : Int)), (6, aD (.slice tI) r3), (8, aI v228), (18, aD (.slice tI) r3), (19, aI (List.length r3 : Int)), (20, aI i225), (24, aD (.slice tI) r3), (25, aI (List.length r3 : Int)), (26, aI v.1)], [])
@[reducible] def ref_FoolSet_s27 (v : Bool) : Fr × LL := ([(4, aB v)], [])
@[reducible] def ref_FoolSet_s28 (a0 : (List (List Bool))) (v1 : (List Bool)) (r3 : (List Int)) (i225 : Int) (v : Unit) : Fr × LL := ([(0, aD (.slice (.slice .bool)) a0), (5, aI (List.length v1 : Int)), (6, aD (.slice tI) r3), (18, aD (.slice tI) r3), (19, aI (List.length r3 : Int)), (20, aI i225)], [])
def ref_FoolSet_b29 (a0 : (List (List Bool))) (v1 : (List Bool)) (r3 : (List Int)) (i225 : Int) (v228 : Int) (x226 : Unit) : Option (Flow Unit (Esc Bool Unit)) :=
(forL (ref_FoolSet_b25 a0 v1 v228) (fun x302 => (.brk ())) r3 0 ()).bind fun v339 =>
match v339 with
| .ret v344 =>
(some (.done (.ret v344)))
| .brk v345 =>
(some (.next ()))
@[reducible] def ref_FoolSet_s30 (a0 : (List (List Bool))) (v1 : (List Bool)) (r3 : (List Int)) (v : Int × Unit) : Fr × LL := ([(0, aD (.slice (.slice .bool)) a0), (5, aI (List.length v1 : Int)), (6, aD (.slice tI) r3), (18, aD (.slice tI) r3), (19, aI (List.length r3 : Int)), (20, aI v.1)], [])
@[reducible] def ref_FoolSet_s31 (v : Bool) : Fr × LL := ([(4, aB v)], [])
@[reducible] def ref_FoolSet_s32 (v : Unit) : Fr × LL := ([], [])
def ref_FoolSet (a0 : (List (List Bool))) (a1 : Int) : Option Bool :=
(idx a0 (0 : Int)).bind fun v1 =>
(ref_ListOf a1).bind fun r3 =>
(forL (ref_FoolSet_b29 a0 v1 r3) (fun x226 => (.brk ())) r3 0 ()).bind fun v347 =>
match v347 with
| .ret v352 =>
(some v352)
| .brk v353 =>
(some true)
theorem ref_FoolSet_ok {a0 : (List (List Bool))} {a1 : Int} {r : Bool} (h : ref_FoolSet a0 a1 = some r) : FnC Try.prog 21 [aD (.slice (.slice .bool)) a0, aI a1] [] (aB r) [] := by
  refine fnC_of_W (B := bodyOf Try.f21) (n := 89) Try.func21 (by kernel_rfl) (by kernel_rfl) (by kernel_rfl) (by kernel_rfl) (by kernel_rfl) ?_
  intro K
  refine W_seq (by kernel_rfl) ?_
  refine W_run 1 [] [0, 1] [] (fr' := [(0, aD (.slice (.slice .bool)) a0), (1, aI a1)]) (L' := []) (obs := []) (by kernel_rfl) (by kernel_rfl) (by kernel_rfl) allP0 ?_
  refine seqQ_norm ?_
  refine W_seq (by kernel_rfl) ?_
  obtain ⟨v1, h2, h⟩ := bind_of h
  refine W_run 5 [(3, .val (.dat (.slice .bool) v1))] [0, 1, 5] [] (fr' := [(0, aD (.slice (.slice .bool)) a0), (1, aI a1), (5, aI (List.length v1 : Int))]) (L' := []) (obs := [Idx a0 (0 : Int) v1]) (by kernel_rfl) (by kernel_rfl) (by kernel_rfl) (allP1 (Idx.of h2)) ?_
  refine seqQ_norm ?_
  refine W_seq (by kernel_rfl) ?_
  refine W_region (by kernel_rfl) ?_
  refine WO_run (j := 1) (k := 1) (orcs := []) (kF := [0, 5, 16]) (kL := []) (fr' := [(0, aD (.slice (.slice .bool)) a0), (5, aI (List.length v1 : Int)), (16, aI a1)]) (L' := []) (obs := []) rfl (by kernel_rfl) allP0 ?_
  obtain ⟨r3, h4, h⟩ := bind_of h
  refine WO_call0 (us := [none]) (d := 17) (p := True) (j := 2) rfl ⟨by kernel_rfl, by kernel_rfl, by kernel_rfl⟩ trivial (ref_ListOf_ok h4) (by kernel_rfl) ?_
  refine WO_run (j := 3) (k := 1) (orcs := []) (kF := [0, 5, 6]) (kL := []) (fr' := [(0, aD (.slice (.slice .bool)) a0), (5, aI (List.length v1 : Int)), (6, aD (.slice tI) r3)]) (L' := []) (obs := []) rfl (by kernel_rfl) allP0 ?_
  refine WO_fin [0, 5, 6] [] (fr' := [(0, aD (.slice (.slice .bool)) a0), (5, aI (List.length v1 : Int)), (6, aD (.slice tI) r3)]) (L' := []) (by kernel_rfl) (by kernel_rfl) ?_
  refine seqQ_norm ?_
  refine W_seq (by kernel_rfl) ?_
  refine W_seq (by kernel_rfl) ?_
  refine W_run 3 [] [0, 5, 6, 18, 19, 20] [] (fr' := [(0, aD (.slice (.slice .bool)) a0), (5, aI (List.length v1 : Int)), (6, aD (.slice tI) r3), (18, aD (.slice tI) r3), (19, aI (List.length r3 : Int)), (20, aI (0 : Int))]) (L' := []) (obs := []) (by kernel_rfl) (by kernel_rfl) (by kernel_rfl) allP0 ?_
  refine seqQ_norm ?_
  refine W_block (id := 0) (by kernel_rfl) ?_
  obtain ⟨v347, h348, h⟩ := bind_of h
  refine W_len (t := 18) (u := tI) (xs := r3) (by kernel_rfl) (fun h351 => ?_)
  obtain ⟨h349, h350⟩ := forL_iter h351 h348
  refine W_weaken [0, 5, 6, 18, 19, 20] [] (fr' := ((ref_FoolSet_s30 a0 v1 r3) ((0 : Int), ())).1) (L' := ((ref_FoolSet_s30 a0 v1 r3) ((0 : Int), ())).2) (by kernel_rfl) ?_
  refine W_cutK (W_loop (S := (ref_FoolSet_s30 a0 v1 r3)) (J := (escQ (exQ .ret ref_FoolSet_s31) (exQ (.exit 0) ref_FoolSet_s32))) (by kernel_rfl) ?_ h349 _ v347 h350) ?_
  · rintro ⟨i225, x226⟩ s h
    refine W_seq (by kernel_rfl) ?_
    refine W_run 1 [] [0, 5, 6, 18, 19, 20, 21] [] (fr' := [(0, aD (.slice (.slice .bool)) a0), (5, aI (List.length v1 : Int)), (6, aD (.slice tI) r3), (18, aD (.slice tI) r3), (19, aI (List.length r3 : Int)), (20, aI i225), (21, aB (decide (i225 < (List.length r3 : Int))))]) (L' := []) (obs := []) (by kernel_rfl) (by kernel_rfl) (by kernel_rfl) allP0 ?_
    refine seqQ_norm ?_
    refine W_seq (by kernel_rfl) ?_
    refine W_cond (o := .tmp 21) (b := decide (i225 < (List.length r3 : Int))) (by kernel_rfl) (by kernel_rfl) (fun h230 => ?_) (fun h230 => ?_)
    · replace h := stepL_true h230 h
      obtain ⟨v228, _, h229, h, rfl⟩ := h
      refine W_skip [0, 5, 6, 18, 19, 20] [] (fr' := [(0, aD (.slice (.slice .bool)) a0), (5, aI (List.length v1 : Int)), (6, aD (.slice tI) r3), (18, aD (.slice tI) r3), (19, aI (List.length r3 : Int)), (20, aI i225)]) (L' := []) (by kernel_rfl) (by kernel_rfl) ?_
      refine seqQ_norm ?_
      refine W_seq (by kernel_rfl) ?_
      refine W_block (id := 1) (by kernel_rfl) ?_
      refine W_seq (by kernel_rfl) ?_
      refine W_run 3 [(1, .val (.dat tI v228))] [0, 5, 6, 8, 18, 19, 20] [] (fr' := [(0, aD (.slice (.slice .bool)) a0), (5, aI (List.length v1 : Int)), (6, aD (.slice tI) r3), (8, aI v228), (18, aD (.slice tI) r3), (19, aI (List.length r3 : Int)), (20, aI i225)]) (L' := []) (obs := [Idx r3 i225 v228]) (by kernel_rfl) (by kernel_rfl) (by kernel_rfl) (allP1 (Idx.of h229)) ?_
      refine seqQ_norm ?_
      refine W_seq (by kernel_rfl) ?_
      refine W_run 3 [] [0, 5, 6, 8, 18, 19, 20, 24, 25, 26] [] (fr' := [(0, aD (.slice (.slice .bool)) a0), (5, aI (List.length v1 : Int)), (6, aD (.slice tI) r3), (8, aI v228), (18, aD (.slice tI) r3), (19, aI (List.length r3 : Int)), (20, aI i225), (24, aD (.slice tI) r3), (25, aI (List.length r3 : Int)), (26, aI (0 : Int))]) (L' := []) (obs := []) (by kernel_rfl) (by kernel_rfl) (by kernel_rfl) allP0 ?_
      refine seqQ_norm ?_
      refine W_block (id := 2) (by kernel_rfl) ?_
      obtain ⟨v339, h340, h⟩ := bind_of h
      refine W_len (t := 24) (u := tI) (xs := r3) (by kernel_rfl) (fun h343 => ?_)
      obtain ⟨h341, h342⟩ := forL_iter h343 h340
      refine W_weaken [0, 5, 6, 8, 18, 19, 20, 24, 25, 26] [] (fr' := ((ref_FoolSet_s26 a0 v1 r3 i225 v228) ((0 : Int), ())).1) (L' := ((ref_FoolSet_s26 a0 v1 r3 i225 v228) ((0 : Int), ())).2) (by kernel_rfl) ?_
      refine W_cutK (W_loop (S := (ref_FoolSet_s26 a0 v1 r3 i225 v228)) (J := (escQ (exQ .ret ref_FoolSet_s27) (exQ (.exit 2) (ref_FoolSet_s28 a0 v1 r3 i225)))) (by kernel_rfl) ?_ h341 _ v339 h342) ?_
      · rintro ⟨i301, x302⟩ s h
        refine W_seq (by kernel_rfl) ?_
        refine W_run 1 [] [0, 5, 6, 8, 18, 19, 20, 24, 25, 26, 27] [] (fr' := [(0, aD (.slice (.slice .bool)) a0), (5, aI (List.length v1 : Int)), (6, aD (.slice tI) r3), (8, aI v228), (18, aD (.slice tI) r3), (19, aI (List.length r3 : Int)), (20, aI i225), (24, aD (.slice tI) r3), (25, aI (List.length r3 : Int)), (26, aI i301), (27, aB (decide (i301 < (List.length r3 : Int))))]) (L' := []) (obs := []) (by kernel_rfl) (by kernel_rfl) (by kernel_rfl) allP0 ?_
        refine seqQ_norm ?_
        refine W_seq (by kernel_rfl) ?_
        refine W_cond (o := .tmp 27) (b := decide (i301 < (List.length r3 : Int))) (by kernel_rfl) (by kernel_rfl) (fun h306 => ?_) (fun h306 => ?_)
        · replace h := stepL_true h306 h
          obtain ⟨v304, _, h305, h, rfl⟩ := h
          refine W_skip [0, 5, 6, 8, 18, 19, 20, 24, 25, 26] [] (fr' := [(0, aD (.slice (.slice .bool)) a0), (5, aI (List.length v1 : Int)), (6, aD (.slice tI) r3), (8, aI v228), (18, aD (.slice tI) r3), (19, aI (List.length r3 : Int)), (20, aI i225), (24, aD (.slice tI) r3), (25, aI (List.length r3 : Int)), (26, aI i301)]) (L' := []) (by kernel_rfl) (by kernel_rfl) ?_
          refine seqQ_norm ?_
          refine W_seq (by kernel_rfl) ?_
          refine W_block (id := 3) (by kernel_rfl) ?_
          refine W_seq (by kernel_rfl) ?_
          refine W_run 3 [(1, .val (.dat tI v304))] [0, 5, 6, 8, 10, 18, 19, 20, 24, 25, 26] [] (fr' := [(0, aD (.slice (.slice .bool)) a0), (5, aI (List.length v1 : Int)), (6, aD (.slice tI) r3), (8, aI v228), (10, aI v304), (18, aD (.slice tI) r3), (19, aI (List.length r3 : Int)), (20, aI i225), (24, aD (.slice tI) r3), (25, aI (List.length r3 : Int)), (26, aI i301)]) (L' := []) (obs := [Idx r3 i301 v304]) (by kernel_rfl) (by kernel_rfl) (by kernel_rfl) (allP1 (Idx.of h305)) ?_
          refine seqQ_norm ?_
          refine W_seq (by kernel_rfl) ?_
          obtain ⟨_, h307, h⟩ := bind_of h
          replace h307 := ck_some h307
          obtain ⟨v308, h309, h⟩ := bind_of h
          obtain ⟨v310, h311, h⟩ := bind_of h
          refine W_draw2 11 [(9, .val (.dat (.slice .bool) v308)), (19, .val (.dat .bool v310))] [] [0, 5, 6, 8, 10, 11, 18, 19, 20, 24, 25, 26] [] (fr' := [(0, aD (.slice (.slice .bool)) a0), (5, aI (List.length v1 : Int)), (6, aD (.slice tI) r3), (8, aI v228), (10, aI v304), (11, aB v310), (18, aD (.slice tI) r3), (19, aI (List.length r3 : Int)), (20, aI i225), (24, aD (.slice tI) r3), (25, aI (List.length r3 : Int)), (26, aI i301)]) (L' := []) (out := [(30, aD (.slice (.slice .bool)) a0), (31, aI v228), (32, aI (List.length v1 : Int)), (33, aI (w64 (Int.tdiv v228 (List.length v1 : Int)))), (34, .one (.dptr (.slice .bool) v308)), (35, aD (.slice .bool) v308), (36, aI v228), (37, aI (List.length v1 : Int)), (38, aI (Int.tmod v228 (List.length v1 : Int))), (39, .one (.dptr .bool v310)), (40, aB v310)]) (obs := [((List.length v1 : Int) ≠ 0), Idx a0 (w64 (Int.tdiv v228 (List.length v1 : Int))) v308, ((List.length v1 : Int) ≠ 0), Idx v308 (Int.tmod v228 (List.length v1 : Int)) v310]) (obs2 := []) (calls := []) (by kernel_rfl) (by kernel_rfl) (by kernel_rfl) (by kernel_rfl) (allP2 h307 (allP2 (Idx.of h309) (allP2 h307 (allP1 (Idx.of h311))))) allC0 (by kernel_rfl) allP0 ?_
          refine seqQ_norm ?_
          refine W_seq (by kernel_rfl) ?_
          refine W_seq (by kernel_rfl) ?_
          obtain ⟨v312, h313, h⟩ := bind_of h
          obtain ⟨v314, h315, h⟩ := bind_of h
          refine W_draw2 13 [(9, .val (.dat (.slice .bool) v312)), (19, .val (.dat .bool v314))] [] [0, 5, 6, 8, 10, 11, 18, 19, 20, 24, 25, 26, 53] [] (fr' := [(0, aD (.slice (.slice .bool)) a0), (5, aI (List.length v1 : Int)), (6, aD (.slice tI) r3), (8, aI v228), (10, aI v304), (11, aB v310), (18, aD (.slice tI) r3), (19, aI (List.length r3 : Int)), (20, aI i225), (24, aD (.slice tI) r3), (25, aI (List.length r3 : Int)), (26, aI i301), (53, aB (!(v314 == v310)))]) (L' := []) (out := [(41, aD (.slice (.slice .bool)) a0), (42, aI v304), (43, aI (List.length v1 : Int)), (44, aI (w64 (Int.tdiv v304 (List.length v1 : Int)))), (45, .one (.dptr (.slice .bool) v312)), (46, aD (.slice .bool) v312), (47, aI v304), (48, aI (List.length v1 : Int)), (49, aI (Int.tmod v304 (List.length v1 : Int))), (50, .one (.dptr .bool v314)), (51, aB v314), (52, aB v310), (53, aB (!(v314 == v310)))]) (obs := [((List.length v1 : Int) ≠ 0), Idx a0 (w64 (Int.tdiv v304 (List.length v1 : Int))) v312, ((List.length v1 : Int) ≠ 0), Idx v312 (Int.tmod v304 (List.length v1 : Int)) v314]) (obs2 := []) (calls := []) (by kernel_rfl) (by kernel_rfl) (by kernel_rfl) (by kernel_rfl) (allP2 h307 (allP2 (Idx.of h313) (allP2 h307 (allP1 (Idx.of h315))))) allC0 (by kernel_rfl) allP0 ?_
          refine seqQ_norm ?_
          refine W_cond (o := .tmp 53) (b := !(v314 == v310)) (by kernel_rfl) (by kernel_rfl) (fun h316 => ?_) (fun h316 => ?_)
          · replace h := ofT h316 h
            refine W_seq (by kernel_rfl) ?_
            refine W_run 1 [] [4] [] (fr' := [(4, aB false)]) (L' := []) (obs := []) (by kernel_rfl) (by kernel_rfl) (by kernel_rfl) allP0 ?_
            refine seqQ_norm ?_
            obtain rfl := Option.some.inj h
            refine W_ret [4] [] (fr' := [(4, aB false)]) (L' := []) (by kernel_rfl) (by kernel_rfl) ?_
            refine seqQ_ret ?_
            refine blockQ_ret ?_
            refine seqQ_ret ?_
            refine round_ret ?_
            refine escQ_ret ?_
            exact exQ_mk (by kernel_rfl) (by kernel_rfl)
          · replace h := ofF h316 h
            refine W_skip [0, 5, 6, 8, 10, 11, 18, 19, 20, 24, 25, 26] [] (fr' := [(0, aD (.slice (.slice .bool)) a0), (5, aI (List.length v1 : Int)), (6, aD (.slice tI) r3), (8, aI v228), (10, aI v304), (11, aB v310), (18, aD (.slice tI) r3), (19, aI (List.length r3 : Int)), (20, aI i225), (24, aD (.slice tI) r3), (25, aI (List.length r3 : Int)), (26, aI i301)]) (L' := []) (by kernel_rfl) (by kernel_rfl) ?_
            refine seqQ_norm ?_
            refine W_seq (by kernel_rfl) ?_
            obtain ⟨v335, h336, h⟩ := bind_of h
            refine W_cutK (Q' := (exQ .normal (ref_FoolSet_s24 a0 v1 r3 i225 v228 i301)) v335) ?_ ?_
            · replace h := h336
              rcases Bool.eq_false_or_eq_true (v228 != v304) with h329 | h329
              · replace h := ofT h329 h
                obtain ⟨v330, h331, h⟩ := bind_of h
                rcases Bool.eq_false_or_eq_true (v330 == v310) with h332 | h332
                · replace h := ofT h332 h
                  obtain ⟨v333, h334, h⟩ := bind_of h
                  obtain rfl := Option.some.inj h
                  refine W_draw2 33 [(8, .known true), (10, .known true), (12, .known true), (14, .known true), (16, .known true), (17, .val (.dat (.slice .bool) v308)), (18, .known true), (20, .known true), (22, .known true), (24, .known true), (26, .known true), (27, .val (.dat .bool v330)), (28, .known true), (30, .known true), (32, .known true), (35, .val (.dat .bool true)), (38, .known true), (40, .known true), (42, .known true), (44, .known true), (46, .known true), (47, .val (.dat (.slice .bool) v312)), (48, .known true), (50, .known true), (52, .known true), (54, .known true), (56, .known true), (57, .val (.dat .bool v333)), (58, .known true), (60, .known true), (62, .known true), (65, .val (.dat .bool true))] [] [0, 5, 6, 8, 18, 19, 20, 24, 25, 26, 86] [] (fr' := [(0, aD (.slice (.slice .bool)) a0), (5, aI (List.length v1 : Int)), (6, aD (.slice tI) r3), (8, aI v228), (18, aD (.slice tI) r3), (19, aI (List.length r3 : Int)), (20, aI i225), (24, aD (.slice tI) r3), (25, aI (List.length r3 : Int)), (26, aI i301), (86, aB (v333 == v310))]) (L' := []) (out := [(54, aI v228), (55, aI v304), (56, aB (v228 != v304)), (57, aB (v228 != v304)), (58, aD (.slice (.slice .bool)) a0), (59, aI v228), (60, aI (List.length v1 : Int)), (61, aI (w64 (Int.tdiv v228 (List.length v1 : Int)))), (62, .one (.dptr (.slice .bool) v308)), (63, aD (.slice .bool) v308), (64, aI v304), (65, aI (List.length v1 : Int)), (66, aI (Int.tmod v304 (List.length v1 : Int))), (67, .one (.dptr .bool v330)), (68, aB v330), (69, aB v310), (70, aB (v330 == v310)), (71, aB (v330 == v310)), (72, aB (v330 == v310)), (73, aD (.slice (.slice .bool)) a0), (74, aI v304), (75, aI (List.length v1 : Int)), (76, aI (w64 (Int.tdiv v304 (List.length v1 : Int)))), (77, .one (.dptr (.slice .bool) v312)), (78, aD (.slice .bool) v312), (79, aI v228), (80, aI (List.length v1 : Int)), (81, aI (Int.tmod v228 (List.length v1 : Int))), (82, .one (.dptr .bool v333)), (83, aB v333), (84, aB v310), (85, aB (v333 == v310)), (86, aB (v333 == v310))]) (obs := [((v228 != v304) = true), ((v228 != v304) = true), ((v228 != v304) = true), ((v228 != v304) = true), ((List.length v1 : Int) ≠ 0), ((v228 != v304) = true), Idx a0 (w64 (Int.tdiv v228 (List.length v1 : Int))) v308, ((v228 != v304) = true), ((v228 != v304) = true), ((v228 != v304) = true), ((v228 != v304) = true), ((List.length v1 : Int) ≠ 0), ((v228 != v304) = true), Idx v308 (Int.tmod v304 (List.length v1 : Int)) v330, ((v228 != v304) = true), ((v228 != v304) = true), ((v228 != v304) = true), ((v228 != v304) = true), ((v330 == v310) = true), ((v330 == v310) = true), ((v330 == v310) = true), ((v330 == v310) = true), ((List.length v1 : Int) ≠ 0), ((v330 == v310) = true), Idx a0 (w64 (Int.tdiv v304 (List.length v1 : Int))) v312, ((v330 == v310) = true), ((v330 == v310) = true), ((v330 == v310) = true), ((v330 == v310) = true), ((List.length v1 : Int) ≠ 0), ((v330 == v310) = true), Idx v312 (Int.tmod v228 (List.length v1 : Int)) v333, ((v330 == v310) = true), ((v330 == v310) = true), ((v330 == v310) = true), ((v330 == v310) = true)]) (obs2 := []) (calls := []) (by kernel_rfl) (by kernel_rfl) (by kernel_rfl) (by kernel_rfl) (allP2 h329 (allP2 h329 (allP2 h329 (allP2 h329 (allP2 h307 (allP2 h329 (allP2 (Idx.of h309) (allP2 h329 (allP2 h329 (allP2 h329 (allP2 h329 (allP2 h307 (allP2 h329 (allP2 (Idx.of h331) (allP2 h329 (allP2 h329 (allP2 h329 (allP2 h329 (allP2 h332 (allP2 h332 (allP2 h332 (allP2 h332 (allP2 h307 (allP2 h332 (allP2 (Idx.of h313) (allP2 h332 (allP2 h332 (allP2 h332 (allP2 h332 (allP2 h307 (allP2 h332 (allP2 (Idx.of h334) (allP2 h332 (allP2 h332 (allP2 h332 (allP1 h332)))))))))))))))))))))))))))))))))))) allC0 (by kernel_rfl) allP0 ?_
                  exact exQ_mk (by kernel_rfl) (by kernel_rfl)
                · replace h := ofF h332 h
                  obtain rfl := Option.some.inj h
                  refine W_draw2 33 [(8, .known true), (10, .known true), (12, .known true), (14, .known true), (16, .known true), (17, .val (.dat (.slice .bool) v308)), (18, .known true), (20, .known true), (22, .known true), (24, .known true), (26, .known true), (27, .val (.dat .bool v330)), (28, .known true), (30, .known true), (32, .known true), (35, .val (.dat .bool true)), (38, .known false), (40, .known false), (42, .known false), (44, .known false), (46, .known false), (48, .known false), (50, .known false), (52, .known false), (54, .known false), (56, .known false), (58, .known false), (60, .known false), (62, .known false), (65, .val (.dat .bool false))] [] [0, 5, 6, 8, 18, 19, 20, 24, 25, 26, 86] [] (fr' := [(0, aD (.slice (.slice .bool)) a0), (5, aI (List.length v1 : Int)), (6, aD (.slice tI) r3), (8, aI v228), (18, aD (.slice tI) r3), (19, aI (List.length r3 : Int)), (20, aI i225), (24, aD (.slice tI) r3), (25, aI (List.length r3 : Int)), (26, aI i301), (86, aB false)]) (L' := []) (out := [(54, aI v228), (55, aI v304), (56, aB (v228 != v304)), (57, aB (v228 != v304)), (58, aD (.slice (.slice .bool)) a0), (59, aI v228), (60, aI (List.length v1 : Int)), (61, aI (w64 (Int.tdiv v228 (List.length v1 : Int)))), (62, .one (.dptr (.slice .bool) v308)), (63, aD (.slice .bool) v308), (64, aI v304), (65, aI (List.length v1 : Int)), (66, aI (Int.tmod v304 (List.length v1 : Int))), (67, .one (.dptr .bool v330)), (68, aB v330), (69, aB v310), (70, aB (v330 == v310)), (71, aB (v330 == v310)), (72, aB (v330 == v310)), (73, .tup []), (74, .tup []), (75, .tup []), (76, .tup []), (77, .tup []), (78, .tup []), (79, .tup []), (80, .tup []), (81, .tup []), (82, .tup []), (83, .tup []), (84, .tup []), (85, .tup []), (86, aB false)]) (obs := [((v228 != v304) = true), ((v228 != v304) = true), ((v228 != v304) = true), ((v228 != v304) = true), ((List.length v1 : Int) ≠ 0), ((v228 != v304) = true), Idx a0 (w64 (Int.tdiv v228 (List.length v1 : Int))) v308, ((v228 != v304) = true), ((v228 != v304) = true), ((v228 != v304) = true), ((v228 != v304) = true), ((List.length v1 : Int) ≠ 0), ((v228 != v304) = true), Idx v308 (Int.tmod v304 (List.length v1 : Int)) v330, ((v228 != v304) = true), ((v228 != v304) = true), ((v228 != v304) = true), ((v228 != v304) = true), ((v330 == v310) = false), ((v330 == v310) = false), ((v330 == v310) = false), ((v330 == v310) = false), ((v330 == v310) = false), ((v330 == v310) = false), ((v330 == v310) = false), ((v330 == v310) = false), ((v330 == v310) = false), ((v330 == v310) = false), ((v330 == v310) = false), ((v330 == v310) = false), ((v330 == v310) = false), ((v330 == v310) = false)]) (obs2 := []) (calls := []) (by kernel_rfl) (by kernel_rfl) (by kernel_rfl) (by kernel_rfl) (allP2 h329 (allP2 h329 (allP2 h329 (allP2 h329 (allP2 h307 (allP2 h329 (allP2 (Idx.of h309) (allP2 h329 (allP2 h329 (allP2 h329 (allP2 h329 (allP2 h307 (allP2 h329 (allP2 (Idx.of h331) (allP2 h329 (allP2 h329 (allP2 h329 (allP2 h329 (allP2 h332 (allP2 h332 (allP2 h332 (allP2 h332 (allP2 h332 (allP2 h332 (allP2 h332 (allP2 h332 (allP2 h332 (allP2 h332 (allP2 h332 (allP2 h332 (allP2 h332 (allP1 h332)))))))))))))))))))))))))))))))) allC0 (by kernel_rfl) allP0 ?_
                  exact exQ_mk (by kernel_rfl) (by kernel_rfl)
              · replace h := ofF h329 h
                obtain rfl := Option.some.inj h
                refine W_draw2 33 [(8, .known false), (10, .known false), (12, .known false), (14, .known false), (16, .known false), (18, .known false), (20, .known false), (22, .known false), (24, .known false), (26, .known false), (28, .known false), (30, .known false), (32, .known false), (35, .val (.dat .bool false)), (38, .known false), (40, .known false), (42, .known false), (44, .known false), (46, .known false), (48, .known false), (50, .known false), (52, .known false), (54, .known false), (56, .known false), (58, .known false), (60, .known false), (62, .known false), (65, .val (.dat .bool false))] [] [0, 5, 6, 8, 18, 19, 20, 24, 25, 26, 86] [] (fr' := [(0, aD (.slice (.slice .bool)) a0), (5, aI (List.length v1 : Int)), (6, aD (.slice tI) r3), (8, aI v228), (18, aD (.slice tI) r3), (19, aI (List.length r3 : Int)), (20, aI i225), (24, aD (.slice tI) r3), (25, aI (List.length r3 : Int)), (26, aI i301), (86, aB false)]) (L' := []) (out := [(54, aI v228), (55, aI v304), (56, aB (v228 != v304)), (57, aB (v228 != v304)), (58, .tup []), (59, .tup []), (60, .tup []), (61, .tup []), (62, .tup []), (63, .tup []), (64, .tup []), (65, .tup []), (66, .tup []), (67, .tup []), (68, .tup []), (69, .tup []), (70, .tup []), (71, aB false), (72, aB false), (73, .tup []), (74, .tup []), (75, .tup []), (76, .tup []), (77, .tup []), (78, .tup []), (79, .tup []), (80, .tup []), (81, .tup []), (82, .tup []), (83, .tup []), (84, .tup []), (85, .tup []), (86, aB false)]) (obs := [((v228 != v304) = false), ((v228 != v304) = false), ((v228 != v304) = false), ((v228 != v304) = false), ((v228 != v304) = false), ((v228 != v304) = false), ((v228 != v304) = false), ((v228 != v304) = false), ((v228 != v304) = false), ((v228 != v304) = false), ((v228 != v304) = false), ((v228 != v304) = false), ((v228 != v304) = false), ((v228 != v304) = false), (false = false), (false = false), (false = false), (false = false), (false = false), (false = false), (false = false), (false = false), (false = false), (false = false), (false = false), (false = false), (false = false), (false = false)]) (obs2 := []) (calls := []) (by kernel_rfl) (by kernel_rfl) (by kernel_rfl) (by kernel_rfl) (allP2 h329 (allP2 h329 (allP2 h329 (allP2 h329 (allP2 h329 (allP2 h329 (allP2 h329 (allP2 h329 (allP2 h329 (allP2 h329 (allP2 h329 (allP2 h329 (allP2 h329 (allP2 h329 (allP2 rfl (allP2 rfl (allP2 rfl (allP2 rfl (allP2 rfl (allP2 rfl (allP2 rfl (allP2 rfl (allP2 rfl (allP2 rfl (allP2 rfl (allP2 rfl (allP2 rfl (allP1 rfl)))))))))))))))))))))))))))) allC0 (by kernel_rfl) allP0 ?_
                exact exQ_mk (by kernel_rfl) (by kernel_rfl)
            · intro e fr L hJ
              obtain ⟨rfl, rfl, rfl⟩ := hJ
              refine LT_keep [0, 5, 6, 8, 18, 19, 20, 24, 25, 26, 86] [] (fr' := [(0, aD (.slice (.slice .bool)) a0), (5, aI (List.length v1 : Int)), (6, aD (.slice tI) r3), (8, aI v228), (18, aD (.slice tI) r3), (19, aI (List.length r3 : Int)), (20, aI i225), (24, aD (.slice tI) r3), (25, aI (List.length r3 : Int)), (26, aI i301), (86, aB v335)]) (L' := []) (by kernel_rfl) ?_
              refine seqQ_norm ?_
              refine W_cond (o := .tmp 86) (b := v335) (by kernel_rfl) (by kernel_rfl) (fun h337 => ?_) (fun h337 => ?_)
              · replace h := ofT h337 h
                refine W_seq (by kernel_rfl) ?_
                refine W_run 1 [] [4] [] (fr' := [(4, aB false)]) (L' := []) (obs := []) (by kernel_rfl) (by kernel_rfl) (by kernel_rfl) allP0 ?_
                refine seqQ_norm ?_
                obtain rfl := Option.some.inj h
                refine W_ret [4] [] (fr' := [(4, aB false)]) (L' := []) (by kernel_rfl) (by kernel_rfl) ?_
                refine blockQ_ret ?_
                refine seqQ_ret ?_
                refine round_ret ?_
                refine escQ_ret ?_
                exact exQ_mk (by kernel_rfl) (by kernel_rfl)
              · replace h := ofF h337 h
                refine W_skip [0, 5, 6, 8, 18, 19, 20, 24, 25, 26] [] (fr' := [(0, aD (.slice (.slice .bool)) a0), (5, aI (List.length v1 : Int)), (6, aD (.slice tI) r3), (8, aI v228), (18, aD (.slice tI) r3), (19, aI (List.length r3 : Int)), (20, aI i225), (24, aD (.slice tI) r3), (25, aI (List.length r3 : Int)), (26, aI i301)]) (L' := []) (by kernel_rfl) (by kernel_rfl) ?_
                refine blockQ_norm ?_
                refine seqQ_norm ?_
                obtain rfl := Option.some.inj h
                refine W_run 2 [] [0, 5, 6, 8, 18, 19, 20, 24, 25, 26] [] (fr' := [(0, aD (.slice (.slice .bool)) a0), (5, aI (List.length v1 : Int)), (6, aD (.slice tI) r3), (8, aI v228), (18, aD (.slice tI) r3), (19, aI (List.length r3 : Int)), (20, aI i225), (24, aD (.slice tI) r3), (25, aI (List.length r3 : Int)), (26, aI (w64 (i301 + (1 : Int))))]) (L' := []) (obs := []) (by kernel_rfl) (by kernel_rfl) (by kernel_rfl) allP0 ?_
                exact round_next' (by kernel_rfl) (by kernel_rfl)
        · obtain rfl := stepL_false h306 h
          refine W_exit (id := 2) [0, 5, 6, 18, 19, 20] [] (fr' := [(0, aD (.slice (.slice .bool)) a0), (5, aI (List.length v1 : Int)), (6, aD (.slice tI) r3), (18, aD (.slice tI) r3), (19, aI (List.length r3 : Int)), (20, aI i225)]) (L' := []) (by kernel_rfl) (by kernel_rfl) ?_
          refine seqQ_exit ?_
          refine round_exit ?_
          refine escQ_brk ?_
          exact exQ_mk (by kernel_rfl) (by kernel_rfl)
      · intro e fr L hJ
        rcases v339 with v344 | v345
        · obtain ⟨rfl, rfl, rfl⟩ := hJ
          obtain rfl := Option.some.inj h
          refine LT_keep [4] [] (fr' := [(4, aB v344)]) (L' := []) (by kernel_rfl) ?_
          refine blockQ_ret ?_
          refine blockQ_ret ?_
          refine seqQ_ret ?_
          refine round_ret ?_
          refine escQ_ret ?_
          exact exQ_mk (by kernel_rfl) (by kernel_rfl)
        · obtain ⟨rfl, rfl, rfl⟩ := hJ
          refine LT_keep [0, 5, 6, 18, 19, 20] [] (fr' := [(0, aD (.slice (.slice .bool)) a0), (5, aI (List.length v1 : Int)), (6, aD (.slice tI) r3), (18, aD (.slice tI) r3), (19, aI (List.length r3 : Int)), (20, aI i225)]) (L' := []) (by kernel_rfl) ?_
          refine blockQ_hit ?_
          refine blockQ_norm ?_
          refine seqQ_norm ?_
          obtain rfl := Option.some.inj h
          refine W_run 2 [] [0, 5, 6, 18, 19, 20] [] (fr' := [(0, aD (.slice (.slice .bool)) a0), (5, aI (List.length v1 : Int)), (6, aD (.slice tI) r3), (18, aD (.slice tI) r3), (19, aI (List.length r3 : Int)), (20, aI (w64 (i225 + (1 : Int))))]) (L' := []) (obs := []) (by kernel_rfl) (by kernel_rfl) (by kernel_rfl) allP0 ?_
          exact round_next' (by kernel_rfl) (by kernel_rfl)
    · obtain rfl := stepL_false h230 h
      refine W_exit (id := 0) [] [] (fr' := []) (L' := []) (by kernel_rfl) (by kernel_rfl) ?_
      refine seqQ_exit ?_
      refine round_exit ?_
      refine escQ_brk ?_
      exact exQ_mk (by kernel_rfl) (by kernel_rfl)
  · intro e fr L hJ
    rcases v347 with v352 | v353
    · obtain ⟨rfl, rfl, rfl⟩ := hJ
      obtain rfl := Option.some.inj h
      refine LT_keep [4] [] (fr' := [(4, aB v352)]) (L' := []) (by kernel_rfl) ?_
      refine blockQ_ret ?_
      refine seqQ_ret ?_
      exact retQ_mk (by kernel_rfl) (by kernel_rfl) (by kernel_rfl)
    · obtain ⟨rfl, rfl, rfl⟩ := hJ
      refine LT_keep [] [] (fr' := []) (L' := []) (by kernel_rfl) ?_
      refine blockQ_hit ?_
      refine seqQ_norm ?_
      refine W_seq (by kernel_rfl) ?_
      refine W_run 1 [] [4] [] (fr' := [(4, aB true)]) (L' := []) (obs := []) (by kernel_rfl) (by kernel_rfl) (by kernel_rfl) allP0 ?_
      refine seqQ_norm ?_
      obtain rfl := Option.some.inj h
      refine W_ret [4] [] (fr' := [(4, aB true)]) (L' := []) (by kernel_rfl) (by kernel_rfl) ?_
      exact retQ_mk (by kernel_rfl) (by kernel_rfl) (by kernel_rfl)

def ref_Ahead_b1 (a0 : (List Int)) (a1 : (List Int)) (x8 : Int) : Option (Flow Int (Esc Bool Unit)) :=
bif (decide (x8 < (List.length a0 : Int))) && (decide (x8 < (List.length a1 : Int))) then
((idx a0 x8).bind fun v16 =>
(idx a1 x8).bind fun v18 =>
bif v16 != v18 then
(some (.done (.ret (decide (v16 < v18)))))
else
(some (.next (w64 (x8 + (1 : Int))))))
else
(some (.done (.brk ())))
@[reducible] def ref_Ahead_s2 (a0 : (List Int)) (a1 : (List Int)) (v : Int) : Fr × LL := ([(0, aD (.slice tI) a0), (1, aD (.slice tI) a1), (5, aI v)], [])
@[reducible] def ref_Ahead_s3 (v : Bool) : Fr × LL := ([(4, aB v)], [])
@[reducible] def ref_Ahead_s4 (a0 : (List Int)) (a1 : (List Int)) (v : Unit) : Fr × LL := ([(0, aD (.slice tI) a0), (1, aD (.slice tI) a1)], [])
def ref_Ahead (fuel : Nat) (a0 : (List Int)) (a1 : (List Int)) : Option Bool :=
(iter (ref_Ahead_b1 a0 a1) fuel (0 : Int)).bind fun v21 =>
match v21 with
| .ret v25 =>
(some v25)
| .brk v26 =>
(some (decide ((List.length a0 : Int) < (List.length a1 : Int))))
theorem ref_Ahead_ok {fuel : Nat} {a0 : (List Int)} {a1 : (List Int)} {r : Bool} (h : ref_Ahead fuel a0 a1 = some r) : FnC Try.prog 23 [aD (.slice tI) a0, aD (.slice tI) a1] [] (aB r) [] := by
  refine fnC_of_W (B := bodyOf Try.f23) (n := 41) Try.func23 (by kernel_rfl) (by kernel_rfl) (by kernel_rfl) (by kernel_rfl) (by kernel_rfl) ?_
  intro K
  refine W_seq (by kernel_rfl) ?_
  refine W_run 1 [] [0, 1] [] (fr' := [(0, aD (.slice tI) a0), (1, aD (.slice tI) a1)]) (L' := []) (obs := []) (by kernel_rfl) (by kernel_rfl) (by kernel_rfl) allP0 ?_
  refine seqQ_norm ?_
  refine W_seq (by kernel_rfl) ?_
  refine W_seq (by kernel_rfl) ?_
  refine W_run 1 [] [0, 1, 5] [] (fr' := [(0, aD (.slice tI) a0), (1, aD (.slice tI) a1), (5, aI (0 : Int))]) (L' := []) (obs := []) (by kernel_rfl) (by kernel_rfl) (by kernel_rfl) allP0 ?_
  refine seqQ_norm ?_
  refine W_block (id := 0) (by kernel_rfl) ?_
  obtain ⟨v21, h22, h⟩ := bind_of h
  refine W_weaken [0, 1, 5] [] (fr' := ((ref_Ahead_s2 a0 a1) (0 : Int)).1) (L' := ((ref_Ahead_s2 a0 a1) (0 : Int)).2) (by kernel_rfl) ?_
  refine W_cutK (W_loop (S := (ref_Ahead_s2 a0 a1)) (J := (escQ (exQ .ret ref_Ahead_s3) (exQ (.exit 0) (ref_Ahead_s4 a0 a1)))) (by kernel_rfl) ?_ fuel _ v21 h22) ?_
  · rintro x8 s h
    refine W_seq (by kernel_rfl) ?_
    refine W_seq (by kernel_rfl) ?_
    refine W_run 10 [] [0, 1, 5, 15] [] (fr' := [(0, aD (.slice tI) a0), (1, aD (.slice tI) a1), (5, aI x8), (15, aB ((decide (x8 < (List.length a0 : Int))) && (decide (x8 < (List.length a1 : Int)))))]) (L' := []) (obs := []) (by kernel_rfl) (by kernel_rfl) (by kernel_rfl) allP0 ?_
    refine seqQ_norm ?_
    refine W_cond (o := .tmp 15) (b := (decide (x8 < (List.length a0 : Int))) && (decide (x8 < (List.length a1 : Int)))) (by kernel_rfl) (by kernel_rfl) (fun h15 => ?_) (fun h15 => ?_)
    · replace h := ofT h15 h
      refine W_skip [0, 1, 5] [] (fr' := [(0, aD (.slice tI) a0), (1, aD (.slice tI) a1), (5, aI x8)]) (L' := []) (by kernel_rfl) (by kernel_rfl) ?_
      refine seqQ_norm ?_
      refine W_seq (by kernel_rfl) ?_
      refine W_block (id := 1) (by kernel_rfl) ?_
      refine W_seq (by kernel_rfl) ?_
      obtain ⟨v16, h17, h⟩ := bind_of h
      obtain ⟨v18, h19, h⟩ := bind_of h
      refine W_draw2 9 [(5, .val (.dat tI v16)), (13, .val (.dat tI v18))] [] [0, 1, 5, 26] [] (fr' := [(0, aD (.slice tI) a0), (1, aD (.slice tI) a1), (5, aI x8), (26, aB (v16 != v18))]) (L' := []) (out := [(18, aD (.slice tI) a0), (19, aI x8), (20, .one (.dptr tI v16)), (21, aI v16), (22, aD (.slice tI) a1), (23, aI x8), (24, .one (.dptr tI v18)), (25, aI v18), (26, aB (v16 != v18))]) (obs := [Idx a0 x8 v16, Idx a1 x8 v18]) (obs2 := []) (calls := []) (by kernel_rfl) (by kernel_rfl) (by kernel_rfl) (by kernel_rfl) (allP2 (Idx.of h17) (allP1 (Idx.of h19))) allC0 (by kernel_rfl) allP0 ?_
      refine seqQ_norm ?_
      refine W_cond (o := .tmp 26) (b := v16 != v18) (by kernel_rfl) (by kernel_rfl) (fun h20 => ?_) (fun h20 => ?_)
      · replace h := ofT h20 h
        refine W_seq (by kernel_rfl) ?_
        refine W_draw2 9 [(5, .val (.dat tI v16)), (13, .val (.dat tI v18))] [] [4] [] (fr' := [(4, aB (decide (v16 < v18)))]) (L' := []) (out := [(27, aD (.slice tI) a0), (28, aI x8), (29, .one (.dptr tI v16)), (30, aI v16), (31, aD (.slice tI) a1), (32, aI x8), (33, .one (.dptr tI v18)), (34, aI v18), (35, aB (decide (v16 < v18)))]) (obs := [Idx a0 x8 v16, Idx a1 x8 v18]) (obs2 := []) (calls := []) (by kernel_rfl) (by kernel_rfl) (by kernel_rfl) (by kernel_rfl) (allP2 (Idx.of h17) (allP1 (Idx.of h19))) allC0 (by kernel_rfl) allP0 ?_
        refine seqQ_norm ?_
        obtain rfl := Option.some.inj h
        refine W_ret [4] [] (fr' := [(4, aB (decide (v16 < v18)))]) (L' := []) (by kernel_rfl) (by kernel_rfl) ?_
        refine blockQ_ret ?_
        refine seqQ_ret ?_
        refine round_ret ?_
        refine escQ_ret ?_
        exact exQ_mk (by kernel_rfl) (by kernel_rfl)
      · replace h := ofF h20 h
        refine W_skip [0, 1, 5] [] (fr' := [(0, aD (.slice tI) a0), (1, aD (.slice tI) a1), (5, aI x8)]) (L' := []) (by kernel_rfl) (by kernel_rfl) ?_
        refine blockQ_norm ?_
        refine seqQ_norm ?_
        obtain rfl := Option.some.inj h
        refine W_run 3 [] [0, 1, 5] [] (fr' := [(0, aD (.slice tI) a0), (1, aD (.slice tI) a1), (5, aI (w64 (x8 + (1 : Int))))]) (L' := []) (obs := []) (by kernel_rfl) (by kernel_rfl) (by kernel_rfl) allP0 ?_
        exact round_next' (by kernel_rfl) (by kernel_rfl)
    · replace h := ofF h15 h
      obtain rfl := Option.some.inj h
      refine W_exit (id := 0) [0, 1] [] (fr' := [(0, aD (.slice tI) a0), (1, aD (.slice tI) a1)]) (L' := []) (by kernel_rfl) (by kernel_rfl) ?_
      refine seqQ_exit ?_
      refine round_exit ?_
      refine escQ_brk ?_
      exact exQ_mk (by kernel_rfl) (by kernel_rfl)
  · intro e fr L hJ
    rcases v21 with v25 | v26
    · obtain ⟨rfl, rfl, rfl⟩ := hJ
      obtain rfl := Option.some.inj h
      refine LT_keep [4] [] (fr' := [(4, aB v25)]) (L' := []) (by kernel_rfl) ?_
      refine blockQ_ret ?_
      refine seqQ_ret ?_
      exact retQ_mk (by kernel_rfl) (by kernel_rfl) (by kernel_rfl)
    · obtain ⟨rfl, rfl, rfl⟩ := hJ
      refine LT_keep [0, 1] [] (fr' := [(0, aD (.slice tI) a0), (1, aD (.slice tI) a1)]) (L' := []) (by kernel_rfl) ?_
      refine blockQ_hit ?_
      refine seqQ_norm ?_
      refine W_seq (by kernel_rfl) ?_
      refine W_run 6 [] [4] [] (fr' := [(4, aB (decide ((List.length a0 : Int) < (List.length a1 : Int))))]) (L' := []) (obs := []) (by kernel_rfl) (by kernel_rfl) (by kernel_rfl) allP0 ?_
      refine seqQ_norm ?_
      obtain rfl := Option.some.inj h
      refine W_ret [4] [] (fr' := [(4, aB (decide ((List.length a0 : Int) < (List.length a1 : Int))))]) (L' := []) (by kernel_rfl) (by kernel_rfl) ?_
      exact retQ_mk (by kernel_rfl) (by kernel_rfl) (by kernel_rfl)

def ref_Twos_b1 (a1 : (List (List Int))) (i16 : Int) (v19 : (List Int)) (x17 : Unit) : Option (Flow Unit (Esc Bool Unit)) :=
(idx a1 i16).bind fun v22 =>
bif !(deqT (.arr 2 tI) v19 v22) then
(some (.done (.ret false)))
else
(some (.next ()))
@[reducible] def ref_Twos_s2 (a0 : (List (List Int))) (a1 : (List (List Int))) (v : Int × Unit) : Fr × LL := ([(0, aD (.slice (.arr 2 tI)) a0), (1, aD (.slice (.arr 2 tI)) a1), (5, aI v.1)], [])
@[reducible] def ref_Twos_s3 (v : Bool) : Fr × LL := ([(4, aB v)], [])
@[reducible] def ref_Twos_s4 (v : Unit) : Fr × LL := ([], [])
def ref_Twos (a0 : (List (List Int))) (a1 : (List (List Int))) : Option Bool :=
bif (List.length a0 : Int) != (List.length a1 : Int) then
(some false)
else
((forL (ref_Twos_b1 a1) (fun x17 => (.brk ())) a0 0 ()).bind fun v26 =>
match v26 with
| .ret v31 =>
(some v31)
| .brk v32 =>
(some true))
theorem ref_Twos_ok {a0 : (List (List Int))} {a1 : (List (List Int))} {r : Bool} (h : ref_Twos a0 a1 = some r) : FnC Try.prog 24 [aD (.slice (.arr 2 tI)) a0, aD (.slice (.arr 2 tI)) a1] [] (aB r) [] := by
  refine fnC_of_W (B := bodyOf Try.f24) (n := 26) Try.func24 (by kernel_rfl) (by kernel_rfl) (by kernel_rfl) (by kernel_rfl) (by kernel_rfl) ?_
  intro K
  refine W_seq (by kernel_rfl) ?_
  refine W_run 1 [] [0, 1] [] (fr' := [(0, aD (.slice (.arr 2 tI)) a0), (1, aD (.slice (.arr 2 tI)) a1)]) (L' := []) (obs := []) (by kernel_rfl) (by kernel_rfl) (by kernel_rfl) allP0 ?_
  refine seqQ_norm ?_
  refine W_seq (by kernel_rfl) ?_
  refine W_seq (by kernel_rfl) ?_
  refine W_run 5 [] [0, 1, 10] [] (fr' := [(0, aD (.slice (.arr 2 tI)) a0), (1, aD (.slice (.arr 2 tI)) a1), (10, aB ((List.length a0 : Int) != (List.length a1 : Int)))]) (L' := []) (obs := []) (by kernel_rfl) (by kernel_rfl) (by kernel_rfl) allP0 ?_
  refine seqQ_norm ?_
  refine W_cond (o := .tmp 10) (b := (List.length a0 : Int) != (List.length a1 : Int)) (by kernel_rfl) (by kernel_rfl) (fun h1 => ?_) (fun h1 => ?_)
  · replace h := ofT h1 h
    refine W_seq (by kernel_rfl) ?_
    refine W_run 1 [] [4] [] (fr' := [(4, aB false)]) (L' := []) (obs := []) (by kernel_rfl) (by kernel_rfl) (by kernel_rfl) allP0 ?_
    refine seqQ_norm ?_
    obtain rfl := Option.some.inj h
    refine W_ret [4] [] (fr' := [(4, aB false)]) (L' := []) (by kernel_rfl) (by kernel_rfl) ?_
    refine seqQ_ret ?_
    exact retQ_mk (by kernel_rfl) (by kernel_rfl) (by kernel_rfl)
  · replace h := ofF h1 h
    refine W_skip [0, 1] [] (fr' := [(0, aD (.slice (.arr 2 tI)) a0), (1, aD (.slice (.arr 2 tI)) a1)]) (L' := []) (by kernel_rfl) (by kernel_rfl) ?_
    refine seqQ_norm ?_
    refine W_seq (by kernel_rfl) ?_
    refine W_seq (by kernel_rfl) ?_
    refine W_run 1 [] [0, 1, 5] [] (fr' := [(0, aD (.slice (.arr 2 tI)) a0), (1, aD (.slice (.arr 2 tI)) a1), (5, aI (0 : Int))]) (L' := []) (obs := []) (by kernel_rfl) (by kernel_rfl) (by kernel_rfl) allP0 ?_
    refine seqQ_norm ?_
    refine W_block (id := 0) (by kernel_rfl) ?_
    obtain ⟨v26, h27, h⟩ := bind_of h
    refine W_len (t := 0) (u := (.arr 2 tI)) (xs := a0) (by kernel_rfl) (fun h30 => ?_)
    obtain ⟨h28, h29⟩ := forL_iter h30 h27
    refine W_weaken [0, 1, 5] [] (fr' := ((ref_Twos_s2 a0 a1) ((0 : Int), ())).1) (L' := ((ref_Twos_s2 a0 a1) ((0 : Int), ())).2) (by kernel_rfl) ?_
    refine W_cutK (W_loop (S := (ref_Twos_s2 a0 a1)) (J := (escQ (exQ .ret ref_Twos_s3) (exQ (.exit 0) ref_Twos_s4))) (by kernel_rfl) ?_ h28 _ v26 h29) ?_
    · rintro ⟨i16, x17⟩ s h
      refine W_seq (by kernel_rfl) ?_
      refine W_seq (by kernel_rfl) ?_
      refine W_run 4 [] [0, 1, 5, 14] [] (fr' := [(0, aD (.slice (.arr 2 tI)) a0), (1, aD (.slice (.arr 2 tI)) a1), (5, aI i16), (14, aB (decide (i16 < (List.length a0 : Int))))]) (L' := []) (obs := []) (by kernel_rfl) (by kernel_rfl) (by kernel_rfl) allP0 ?_
      refine seqQ_norm ?_
      refine W_cond (o := .tmp 14) (b := decide (i16 < (List.length a0 : Int))) (by kernel_rfl) (by kernel_rfl) (fun h21 => ?_) (fun h21 => ?_)
      · replace h := stepL_true h21 h
        obtain ⟨v19, _, h20, h, rfl⟩ := h
        refine W_skip [0, 1, 5] [] (fr' := [(0, aD (.slice (.arr 2 tI)) a0), (1, aD (.slice (.arr 2 tI)) a1), (5, aI i16)]) (L' := []) (by kernel_rfl) (by kernel_rfl) ?_
        refine seqQ_norm ?_
        refine W_seq (by kernel_rfl) ?_
        refine W_block (id := 1) (by kernel_rfl) ?_
        refine W_seq (by kernel_rfl) ?_
        obtain ⟨v22, h23, h⟩ := bind_of h
        refine W_draw2 9 [(5, .val (.dat (.arr 2 tI) v19)), (13, .val (.dat (.arr 2 tI) v22))] [] [0, 1, 5, 25] [] (fr' := [(0, aD (.slice (.arr 2 tI)) a0), (1, aD (.slice (.arr 2 tI)) a1), (5, aI i16), (25, aB (!(deqT (.arr 2 tI) v19 v22)))]) (L' := []) (out := [(17, aD (.slice (.arr 2 tI)) a0), (18, aI i16), (19, .one (.dptr (.arr 2 tI) v19)), (20, aD (.arr 2 tI) v19), (21, aD (.slice (.arr 2 tI)) a1), (22, aI i16), (23, .one (.dptr (.arr 2 tI) v22)), (24, aD (.arr 2 tI) v22), (25, aB (!(deqT (.arr 2 tI) v19 v22)))]) (obs := [Idx a0 i16 v19, Idx a1 i16 v22]) (obs2 := []) (calls := []) (by kernel_rfl) (by kernel_rfl) (by kernel_rfl) (by kernel_rfl) (allP2 (Idx.of h20) (allP1 (Idx.of h23))) allC0 (by kernel_rfl) allP0 ?_
        refine seqQ_norm ?_
        refine W_cond (o := .tmp 25) (b := !(deqT (.arr 2 tI) v19 v22)) (by kernel_rfl) (by kernel_rfl) (fun h24 => ?_) (fun h24 => ?_)
        · replace h := ofT h24 h
          refine W_seq (by kernel_rfl) ?_
          refine W_run 1 [] [4] [] (fr' := [(4, aB false)]) (L' := []) (obs := []) (by kernel_rfl) (by kernel_rfl) (by kernel_rfl) allP0 ?_
          refine seqQ_norm ?_
          obtain rfl := Option.some.inj h
          refine W_ret [4] [] (fr' := [(4, aB false)]) (L' := []) (by kernel_rfl) (by kernel_rfl) ?_
          refine blockQ_ret ?_
          refine seqQ_ret ?_
          refine round_ret ?_
          refine escQ_ret ?_
          exact exQ_mk (by kernel_rfl) (by kernel_rfl)
        · replace h := ofF h24 h
          refine W_skip [0, 1, 5] [] (fr' := [(0, aD (.slice (.arr 2 tI)) a0), (1, aD (.slice (.arr 2 tI)) a1), (5, aI i16)]) (L' := []) (by kernel_rfl) (by kernel_rfl) ?_
          refine blockQ_norm ?_
          refine seqQ_norm ?_
          obtain rfl := Option.some.inj h
          refine W_run 3 [] [0, 1, 5] [] (fr' := [(0, aD (.slice (.arr 2 tI)) a0), (1, aD (.slice (.arr 2 tI)) a1), (5, aI (w64 (i16 + (1 : Int))))]) (L' := []) (obs := []) (by kernel_rfl) (by kernel_rfl) (by kernel_rfl) allP0 ?_
          exact round_next' (by kernel_rfl) (by kernel_rfl)
      · obtain rfl := stepL_false h21 h
        refine W_exit (id := 0) [] [] (fr' := []) (L' := []) (by kernel_rfl) (by kernel_rfl) ?_
        refine seqQ_exit ?_
        refine round_exit ?_
        refine escQ_brk ?_
        exact exQ_mk (by kernel_rfl) (by kernel_rfl)
    · intro e fr L hJ
      rcases v26 with v31 | v32
      · obtain ⟨rfl, rfl, rfl⟩ := hJ
        obtain rfl := Option.some.inj h
        refine LT_keep [4] [] (fr' := [(4, aB v31)]) (L' := []) (by kernel_rfl) ?_
        refine blockQ_ret ?_
        refine seqQ_ret ?_
        exact retQ_mk (by kernel_rfl) (by kernel_rfl) (by kernel_rfl)
      · obtain ⟨rfl, rfl, rfl⟩ := hJ
        refine LT_keep [] [] (fr' := []) (L' := []) (by kernel_rfl) ?_
        refine blockQ_hit ?_
        refine seqQ_norm ?_
        refine W_seq (by kernel_rfl) ?_
        refine W_run 1 [] [4] [] (fr' := [(4, aB true)]) (L' := []) (obs := []) (by kernel_rfl) (by kernel_rfl) (by kernel_rfl) allP0 ?_
        refine seqQ_norm ?_
        obtain rfl := Option.some.inj h
        refine W_ret [4] [] (fr' := [(4, aB true)]) (L' := []) (by kernel_rfl) (by kernel_rfl) ?_
        exact retQ_mk (by kernel_rfl) (by kernel_rfl) (by kernel_rfl)

@[reducible] def law_TalkFools_s21 (a0 : (List (List Bool))) (r1 : ((List (List Int)) × Int)) (v6 : (List Bool)) (x97 : ((List Int) × Int)) (r258 : (List Int)) (v : Bool) : Fr × LL := ([(0, aD (.slice (.slice .bool)) a0), (3, aD (.slice (.arr 2 tI)) r1.1), (4, aI r1.2), (6, aI (List.length v6 : Int)), (7, aD (.slice tI) x97.1), (8, aI x97.2), (10, aD (.slice tI) r258), (71, aB v)], [])
@[reducible] def law_TalkFools_s22 (a0 : (List (List Bool))) (r1 : ((List (List Int)) × Int)) (v6 : (List Bool)) (x97 : ((List Int) × Int)) (r244 : Int) (v : Bool) : Fr × LL := ([(0, aD (.slice (.slice .bool)) a0), (3, aD (.slice (.arr 2 tI)) r1.1), (4, aI r1.2), (6, aI (List.length v6 : Int)), (7, aD (.slice tI) x97.1), (8, aI x97.2), (9, aI r244), (60, aB v)], [])
def law_TalkFools_g23 (a0 : (List (List Bool))) (fuel : Nat) (x97 : ((List Int) × Int)) : Option (List Int) :=
(ref_Size x97.2).bind fun r244 =>
(bif (decide (r244 < (List.length x97.1 : Int))) || (decide (r244 > (4 : Int))) then
(some true)
else
((ref_FoolSet a0 x97.2).bind fun r253 =>
some (!r253))).bind fun v255 =>
bif v255 then
(some x97.1)
else
((ref_ListOf x97.2).bind fun r258 =>
(bif decide (r244 > (List.length x97.1 : Int)) then
(some true)
else
((ref_Ahead fuel r258 x97.1).bind fun r267 =>
some r267)).bind fun v269 =>
bif v269 then
(some r258)
else
(some x97.1))
@[reducible] def law_TalkFools_s24 (a0 : (List (List Bool))) (r1 : ((List (List Int)) × Int)) (v6 : (List Bool)) (x97 : ((List Int) × Int)) (v : (List Int)) : Fr × LL := ([(0, aD (.slice (.slice .bool)) a0), (3, aD (.slice (.arr 2 tI)) r1.1), (4, aI r1.2), (6, aI (List.length v6 : Int)), (7, aD (.slice tI) v), (8, aI x97.2)], [])
def law_TalkFools_b25 (a0 : (List (List Bool))) (fuel : Nat) (v6 : (List Bool)) (x97 : ((List Int) × Int)) : Option (Flow ((List Int) × Int) (List Int)) :=
(ck (0 ≤ IntKind.wrap .u64 (w64 ((List.length a0 : Int) * (List.length v6 : Int))))).bind fun _ =>
bif decide (x97.2 < (bShl .i64 (1 : Int) (IntKind.wrap .u64 (w64 ((List.length a0 : Int) * (List.length v6 : Int)))))) then
((law_TalkFools_g23 a0 fuel x97).bind fun v272 =>
some (.next (v272, w64 (x97.2 + (1 : Int)))))
else
(some (.done x97.1))
@[reducible] def law_TalkFools_s26 (a0 : (List (List Bool))) (r1 : ((List (List Int)) × Int)) (v6 : (List Bool)) (v : ((List Int) × Int)) : Fr × LL := ([(0, aD (.slice (.slice .bool)) a0), (3, aD (.slice (.arr 2 tI)) r1.1), (4, aI r1.2), (6, aI (List.length v6 : Int)), (7, aD (.slice tI) v.1), (8, aI v.2)], [])
@[reducible] def law_TalkFools_s27 (r1 : ((List (List Int)) × Int)) (v6 : (List Bool)) (v : (List Int)) : Fr × LL := ([(3, aD (.slice (.arr 2 tI)) r1.1), (4, aI r1.2), (6, aI (List.length v6 : Int)), (7, aD (.slice tI) v)], [])
def law_TalkFools_b28 (v6 : (List Bool)) (i289 : Int) (v292 : Int) (x290 : (List (List Int))) : Option (Flow (List (List Int)) (List (List Int))) :=
(ck ((List.length v6 : Int) ≠ 0)).bind fun _ =>
(ck ((List.length x290 : Int) + 1 ≤ 4294967296)).bind fun _ =>
some (.next (x290 ++ [[w64 (Int.tdiv v292 (List.length v6 : Int)), Int.tmod v292 (List.length v6 : Int)]]))
@[reducible] def law_TalkFools_s29 (r1 : ((List (List Int)) × Int)) (v6 : (List Bool)) (v274 : (List Int)) (v : Int × (List (List Int))) : Fr × LL := ([(3, aD (.slice (.arr 2 tI)) r1.1), (4, aI r1.2), (6, aI (List.length v6 : Int)), (11, .one (.slc 88)), (73, aD (.slice tI) v274), (74, aI (List.length v274 : Int)), (75, aI v.1)], [(88, .seq (.arr 2 tI) v.2)])
@[reducible] def law_TalkFools_s30 (r1 : ((List (List Int)) × Int)) (v : (List (List Int))) : Fr × LL := ([(3, aD (.slice (.arr 2 tI)) r1.1), (4, aI r1.2), (11, .one (.slc 88))], [(88, .seq (.arr 2 tI) v)])
@[reducible] def law_TalkFools_s31 (v : Bool) : Fr × LL := ([(2, aB v)], [])
def law_TalkFools (fuel : Nat) (a0 : (List (List Bool))) : Option Bool :=
(talk_Fool fuel a0).bind fun r1 =>
(ref_TalkCheck a0).bind fun r3 =>
bif r3 != (0 : Int) then
(some ((r1.2 == r3) && ((List.length r1.1 : Int) == (0 : Int))))
else
((idx a0 (0 : Int)).bind fun v6 =>
(iter (law_TalkFools_b25 a0 fuel v6) fuel ([], (0 : Int))).bind fun v274 =>
(forL (law_TalkFools_b28 v6) (fun x290 => x290) v274 0 []).bind fun v298 =>
(bif r1.2 == (0 : Int) then
((ref_Twos r1.1 v298).bind fun r310 =>
some r310)
else
(some false)).bind fun v312 =>
some v312)
theorem law_TalkFools_ok {fuel : Nat} {a0 : (List (List Bool))} {r : Bool} (h : law_TalkFools fuel a0 = some r) : FnC Try.prog 6 [aD (.slice (.slice .bool)) a0] [] (aB r) [] := by
  refine fnC_of_W (B := bodyOf Try.f6) (n := 97) Try.func6 (by kernel_rfl) (by kernel_rfl) (by kernel_rfl) (by kernel_rfl) (by kernel_rfl) ?_
  intro K
  refine W_seq (by kernel_rfl) ?_
  refine W_run 1 [] [0] [] (fr' := [(0, aD (.slice (.slice .bool)) a0)]) (L' := []) (obs := []) (by kernel_rfl) (by kernel_rfl) (by kernel_rfl) allP0 ?_
  refine seqQ_norm ?_
  refine W_seq (by kernel_rfl) ?_
  refine W_region (by kernel_rfl) ?_
  refine WO_run (j := 1) (k := 1) (orcs := []) (kF := [0, 15]) (kL := []) (fr' := [(0, aD (.slice (.slice .bool)) a0), (15, aD (.slice (.slice .bool)) a0)]) (L' := []) (obs := []) rfl (by kernel_rfl) allP0 ?_
  obtain ⟨r1, h2, h⟩ := bind_of h
  refine WO_call0 (us := [none]) (d := 16) (p := True) (j := 2) rfl ⟨by kernel_rfl, by kernel_rfl, by kernel_rfl⟩ trivial (talk_Fool_ok h2) (by kernel_rfl) ?_
  refine WO_run (j := 7) (k := 5) (orcs := []) (kF := [0, 3, 4]) (kL := []) (fr' := [(0, aD (.slice (.slice .bool)) a0), (3, aD (.slice (.arr 2 tI)) r1.1), (4, aI r1.2)]) (L' := []) (obs := []) rfl (by kernel_rfl) allP0 ?_
  refine WO_fin [0, 3, 4] [] (fr' := [(0, aD (.slice (.slice .bool)) a0), (3, aD (.slice (.arr 2 tI)) r1.1), (4, aI r1.2)]) (L' := []) (by kernel_rfl) (by kernel_rfl) ?_
  refine seqQ_norm ?_
  refine W_seq (by kernel_rfl) ?_
  refine W_region (by kernel_rfl) ?_
  refine WO_run (j := 1) (k := 1) (orcs := []) (kF := [0, 3, 4, 19]) (kL := []) (fr' := [(0, aD (.slice (.slice .bool)) a0), (3, aD (.slice (.arr 2 tI)) r1.1), (4, aI r1.2), (19, aD (.slice (.slice .bool)) a0)]) (L' := []) (obs := []) rfl (by kernel_rfl) allP0 ?_
  obtain ⟨r3, h4, h⟩ := bind_of h
  refine WO_call0 (us := [none]) (d := 20) (p := True) (j := 2) rfl ⟨by kernel_rfl, by kernel_rfl, by kernel_rfl⟩ trivial (ref_TalkCheck_ok h4) (by kernel_rfl) ?_
  refine WO_run (j := 3) (k := 1) (orcs := []) (kF := [0, 3, 4, 5]) (kL := []) (fr' := [(0, aD (.slice (.slice .bool)) a0), (3, aD (.slice (.arr 2 tI)) r1.1), (4, aI r1.2), (5, aI r3)]) (L' := []) (obs := []) rfl (by kernel_rfl) allP0 ?_
  refine WO_fin [0, 3, 4, 5] [] (fr' := [(0, aD (.slice (.slice .bool)) a0), (3, aD (.slice (.arr 2 tI)) r1.1), (4, aI r1.2), (5, aI r3)]) (L' := []) (by kernel_rfl) (by kernel_rfl) ?_
  refine seqQ_norm ?_
  refine W_seq (by kernel_rfl) ?_
  refine W_seq (by kernel_rfl) ?_
  refine W_run 2 [] [0, 3, 4, 5, 22] [] (fr' := [(0, aD (.slice (.slice .bool)) a0), (3, aD (.slice (.arr 2 tI)) r1.1), (4, aI r1.2), (5, aI r3), (22, aB (r3 != (0 : Int)))]) (L' := []) (obs := []) (by kernel_rfl) (by kernel_rfl) (by kernel_rfl) allP0 ?_
  refine seqQ_norm ?_
  refine W_cond (o := .tmp 22) (b := r3 != (0 : Int)) (by kernel_rfl) (by kernel_rfl) (fun h5 => ?_) (fun h5 => ?_)
  · replace h := ofT h5 h
    refine W_seq (by kernel_rfl) ?_
    refine W_run 9 [] [2] [] (fr' := [(2, aB ((r1.2 == r3) && ((List.length r1.1 : Int) == (0 : Int))))]) (L' := []) (obs := []) (by kernel_rfl) (by kernel_rfl) (by kernel_rfl) allP0 ?_
    refine seqQ_norm ?_
    obtain rfl := Option.some.inj h
    refine W_ret [2] [] (fr' := [(2, aB ((r1.2 == r3) && ((List.length r1.1 : Int) == (0 : Int))))]) (L' := []) (by kernel_rfl) (by kernel_rfl) ?_
    refine seqQ_ret ?_
    exact retQ_mk (by kernel_rfl) (by kernel_rfl) (by kernel_rfl)
  · replace h := ofF h5 h
    refine W_skip [0, 3, 4] [] (fr' := [(0, aD (.slice (.slice .bool)) a0), (3, aD (.slice (.arr 2 tI)) r1.1), (4, aI r1.2)]) (L' := []) (by kernel_rfl) (by kernel_rfl) ?_
    refine seqQ_norm ?_
    refine W_seq (by kernel_rfl) ?_
    obtain ⟨v6, h7, h⟩ := bind_of h
    refine W_run 5 [(3, .val (.dat (.slice .bool) v6))] [0, 3, 4, 6] [] (fr' := [(0, aD (.slice (.slice .bool)) a0), (3, aD (.slice (.arr 2 tI)) r1.1), (4, aI r1.2), (6, aI (List.length v6 : Int))]) (L' := []) (obs := [Idx a0 (0 : Int) v6]) (by kernel_rfl) (by kernel_rfl) (by kernel_rfl) (allP1 (Idx.of h7)) ?_
    refine seqQ_norm ?_
    refine W_seq (by kernel_rfl) ?_
    refine W_run 1 [] [0, 3, 4, 6, 7] [] (fr' := [(0, aD (.slice (.slice .bool)) a0), (3, aD (.slice (.arr 2 tI)) r1.1), (4, aI r1.2), (6, aI (List.length v6 : Int)), (7, .one (.nilS))]) (L' := []) (obs := []) (by kernel_rfl) (by kernel_rfl) (by kernel_rfl) allP0 ?_
    refine seqQ_norm ?_
    refine W_seq (by kernel_rfl) ?_
    refine W_seq (by kernel_rfl) ?_
    refine W_run 1 [] [0, 3, 4, 6, 7, 8] [] (fr' := [(0, aD (.slice (.slice .bool)) a0), (3, aD (.slice (.arr 2 tI)) r1.1), (4, aI r1.2), (6, aI (List.length v6 : Int)), (7, .one (.nilS)), (8, aI (0 : Int))]) (L' := []) (obs := []) (by kernel_rfl) (by kernel_rfl) (by kernel_rfl) allP0 ?_
    refine seqQ_norm ?_
    refine W_block (id := 0) (by kernel_rfl) ?_
    obtain ⟨v274, h275, h⟩ := bind_of h
    refine W_cnv 7 (.slice tI) (by kernel_rfl) ?_
    refine W_weaken [0, 3, 4, 6, 7, 8] [] (fr' := ((law_TalkFools_s26 a0 r1 v6) ([], (0 : Int))).1) (L' := ((law_TalkFools_s26 a0 r1 v6) ([], (0 : Int))).2) (by kernel_rfl) ?_
    refine W_cutK (W_loop (S := (law_TalkFools_s26 a0 r1 v6)) (J := (exQ (.exit 0) (law_TalkFools_s27 r1 v6))) (by kernel_rfl) ?_ fuel _ v274 h275) ?_
    · rintro x97 s h
      refine W_seq (by kernel_rfl) ?_
      refine W_seq (by kernel_rfl) ?_
      obtain ⟨_, h186, h⟩ := bind_of h
      replace h186 := ck_some h186
      refine W_run 8 [] [0, 3, 4, 6, 7, 8, 42] [] (fr' := [(0, aD (.slice (.slice .bool)) a0), (3, aD (.slice (.arr 2 tI)) r1.1), (4, aI r1.2), (6, aI (List.length v6 : Int)), (7, aD (.slice tI) x97.1), (8, aI x97.2), (42, aB (decide (x97.2 < (bShl .i64 (1 : Int) (IntKind.wrap .u64 (w64 ((List.length a0 : Int) * (List.length v6 : Int))))))))]) (L' := []) (obs := [(0 ≤ IntKind.wrap .u64 (w64 ((List.length a0 : Int) * (List.length v6 : Int))))]) (by kernel_rfl) (by kernel_rfl) (by kernel_rfl) (allP1 h186) ?_
      refine seqQ_norm ?_
      refine W_cond (o := .tmp 42) (b := decide (x97.2 < (bShl .i64 (1 : Int) (IntKind.wrap .u64 (w64 ((List.length a0 : Int) * (List.length v6 : Int))))))) (by kernel_rfl) (by kernel_rfl) (fun h187 => ?_) (fun h187 => ?_)
      · replace h := ofT h187 h
        refine W_skip [0, 3, 4, 6, 7, 8] [] (fr' := [(0, aD (.slice (.slice .bool)) a0), (3, aD (.slice (.arr 2 tI)) r1.1), (4, aI r1.2), (6, aI (List.length v6 : Int)), (7, aD (.slice tI) x97.1), (8, aI x97.2)]) (L' := []) (by kernel_rfl) (by kernel_rfl) ?_
        refine seqQ_norm ?_
        refine W_seq (by kernel_rfl) ?_
        obtain ⟨v272, h273, h⟩ := bind_of h
        refine W_cutK (Q' := (exQ .normal (law_TalkFools_s24 a0 r1 v6 x97)) v272) ?_ ?_
        · replace h := h273
          refine W_block (id := 1) (by kernel_rfl) ?_
          refine W_seq (by kernel_rfl) ?_
          refine W_region (by kernel_rfl) ?_
          refine WO_run (j := 1) (k := 1) (orcs := []) (kF := [0, 3, 4, 6, 7, 8, 45]) (kL := []) (fr' := [(0, aD (.slice (.slice .bool)) a0), (3, aD (.slice (.arr 2 tI)) r1.1), (4, aI r1.2), (6, aI (List.length v6 : Int)), (7, aD (.slice tI) x97.1), (8, aI x97.2), (45, aI x97.2)]) (L' := []) (obs := []) rfl (by kernel_rfl) allP0 ?_
          obtain ⟨r244, h245, h⟩ := bind_of h
          refine WO_call0 (us := [none]) (d := 46) (p := True) (j := 2) rfl ⟨by kernel_rfl, by kernel_rfl, by kernel_rfl⟩ trivial (ref_Size_ok h245) (by kernel_rfl) ?_
          refine WO_run (j := 3) (k := 1) (orcs := []) (kF := [0, 3, 4, 6, 7, 8, 9]) (kL := []) (fr' := [(0, aD (.slice (.slice .bool)) a0), (3, aD (.slice (.arr 2 tI)) r1.1), (4, aI r1.2), (6, aI (List.length v6 : Int)), (7, aD (.slice tI) x97.1), (8, aI x97.2), (9, aI r244)]) (L' := []) (obs := []) rfl (by kernel_rfl) allP0 ?_
          refine WO_fin [0, 3, 4, 6, 7, 8, 9] [] (fr' := [(0, aD (.slice (.slice .bool)) a0), (3, aD (.slice (.arr 2 tI)) r1.1), (4, aI r1.2), (6, aI (List.length v6 : Int)), (7, aD (.slice tI) x97.1), (8, aI x97.2), (9, aI r244)]) (L' := []) (by kernel_rfl) (by kernel_rfl) ?_
          refine seqQ_norm ?_
          refine W_seq (by kernel_rfl) ?_
          refine W_seq (by kernel_rfl) ?_
          obtain ⟨v255, h256, h⟩ := bind_of h
          refine W_cutK (Q' := (exQ .normal (law_TalkFools_s22 a0 r1 v6 x97 r244)) v255) ?_ ?_
          · replace h := h256
            refine W_region (by kernel_rfl) ?_
            refine WO_run (j := 9) (k := 9) (orcs := []) (kF := [0, 3, 4, 6, 7, 8, 9, 55]) (kL := []) (fr' := [(0, aD (.slice (.slice .bool)) a0), (3, aD (.slice (.arr 2 tI)) r1.1), (4, aI r1.2), (6, aI (List.length v6 : Int)), (7, aD (.slice tI) x97.1), (8, aI x97.2), (9, aI r244), (55, aB ((decide (r244 < (List.length x97.1 : Int))) || (decide (r244 > (4 : Int)))))]) (L' := []) (obs := []) rfl (by kernel_rfl) allP0 ?_
            rcases Bool.eq_false_or_eq_true ((decide (r244 < (List.length x97.1 : Int))) || (decide (r244 > (4 : Int)))) with h252 | h252
            · replace h := ofT h252 h
              refine WO_run (j := 14) (k := 5) (orcs := [(18, .known true), (20, .known true), (22, .known true), (24, .known true), (27, .val (.dat .bool true))]) (kF := [0, 3, 4, 6, 7, 8, 9, 60]) (kL := []) (fr' := [(0, aD (.slice (.slice .bool)) a0), (3, aD (.slice (.arr 2 tI)) r1.1), (4, aI r1.2), (6, aI (List.length v6 : Int)), (7, aD (.slice tI) x97.1), (8, aI x97.2), (9, aI r244), (60, aB true)]) (L' := []) (obs := [(((decide (r244 < (List.length x97.1 : Int))) || (decide (r244 > (4 : Int)))) = true), (((decide (r244 < (List.length x97.1 : Int))) || (decide (r244 > (4 : Int)))) = true), (((decide (r244 < (List.length x97.1 : Int))) || (decide (r244 > (4 : Int)))) = true), (((decide (r244 < (List.length x97.1 : Int))) || (decide (r244 > (4 : Int)))) = true), (((decide (r244 < (List.length x97.1 : Int))) || (decide (r244 > (4 : Int)))) = true)]) rfl (by kernel_rfl) (allP2 h252 (allP2 h252 (allP2 h252 (allP2 h252 (allP1 h252))))) ?_
              obtain rfl := Option.some.inj h
              refine WO_fin [0, 3, 4, 6, 7, 8, 9, 60] [] (fr' := [(0, aD (.slice (.slice .bool)) a0), (3, aD (.slice (.arr 2 tI)) r1.1), (4, aI r1.2), (6, aI (List.length v6 : Int)), (7, aD (.slice tI) x97.1), (8, aI x97.2), (9, aI r244), (60, aB true)]) (L' := []) (by kernel_rfl) (by kernel_rfl) ?_
              exact exQ_mk (by kernel_rfl) (by kernel_rfl)
            · replace h := ofF h252 h
              refine WO_run (j := 11) (k := 2) (orcs := [(18, .known false), (20, .known false)]) (kF := [0, 3, 4, 6, 7, 8, 9, 55, 56, 57]) (kL := []) (fr' := [(0, aD (.slice (.slice .bool)) a0), (3, aD (.slice (.arr 2 tI)) r1.1), (4, aI r1.2), (6, aI (List.length v6 : Int)), (7, aD (.slice tI) x97.1), (8, aI x97.2), (9, aI r244), (55, aB ((decide (r244 < (List.length x97.1 : Int))) || (decide (r244 > (4 : Int))))), (56, aD (.slice (.slice .bool)) a0), (57, aI x97.2)]) (L' := []) (obs := [(((decide (r244 < (List.length x97.1 : Int))) || (decide (r244 > (4 : Int)))) = false), (((decide (r244 < (List.length x97.1 : Int))) || (decide (r244 > (4 : Int)))) = false)]) rfl (by kernel_rfl) (allP2 h252 (allP1 h252)) ?_
              obtain ⟨r253, h254, h⟩ := bind_of h
              refine WO_call0 (us := [none, none]) (d := 58) (p := (((decide (r244 < (List.length x97.1 : Int))) || (decide (r244 > (4 : Int)))) = false)) (j := 12) rfl ⟨by kernel_rfl, by kernel_rfl, by kernel_rfl⟩ h252 (ref_FoolSet_ok h254) (by kernel_rfl) ?_
              refine WO_run (j := 14) (k := 2) (orcs := [(24, .known false), (27, .val (.dat .bool false))]) (kF := [0, 3, 4, 6, 7, 8, 9, 60]) (kL := []) (fr' := [(0, aD (.slice (.slice .bool)) a0), (3, aD (.slice (.arr 2 tI)) r1.1), (4, aI r1.2), (6, aI (List.length v6 : Int)), (7, aD (.slice tI) x97.1), (8, aI x97.2), (9, aI r244), (60, aB (!r253))]) (L' := []) (obs := [(((decide (r244 < (List.length x97.1 : Int))) || (decide (r244 > (4 : Int)))) = false), (((decide (r244 < (List.length x97.1 : Int))) || (decide (r244 > (4 : Int)))) = false)]) rfl (by kernel_rfl) (allP2 h252 (allP1 h252)) ?_
              obtain rfl := Option.some.inj h
              refine WO_fin [0, 3, 4, 6, 7, 8, 9, 60] [] (fr' := [(0, aD (.slice (.slice .bool)) a0), (3, aD (.slice (.arr 2 tI)) r1.1), (4, aI r1.2), (6, aI (List.length v6 : Int)), (7, aD (.slice tI) x97.1), (8, aI x97.2), (9, aI r244), (60, aB (!r253))]) (L' := []) (by kernel_rfl) (by kernel_rfl) ?_
              exact exQ_mk (by kernel_rfl) (by kernel_rfl)
          · intro e fr L hJ
            obtain ⟨rfl, rfl, rfl⟩ := hJ
            refine LT_keep [0, 3, 4, 6, 7, 8, 9, 60] [] (fr' := [(0, aD (.slice (.slice .bool)) a0), (3, aD (.slice (.arr 2 tI)) r1.1), (4, aI r1.2), (6, aI (List.length v6 : Int)), (7, aD (.slice tI) x97.1), (8, aI x97.2), (9, aI r244), (60, aB v255)]) (L' := []) (by kernel_rfl) ?_
            refine seqQ_norm ?_
            refine W_cond (o := .tmp 60) (b := v255) (by kernel_rfl) (by kernel_rfl) (fun h257 => ?_) (fun h257 => ?_)
            · replace h := ofT h257 h
              obtain rfl := Option.some.inj h
              refine W_exit (id := 1) [0, 3, 4, 6, 7, 8] [] (fr' := [(0, aD (.slice (.slice .bool)) a0), (3, aD (.slice (.arr 2 tI)) r1.1), (4, aI r1.2), (6, aI (List.length v6 : Int)), (7, aD (.slice tI) x97.1), (8, aI x97.2)]) (L' := []) (by kernel_rfl) (by kernel_rfl) ?_
              refine seqQ_exit ?_
              refine blockQ_hit ?_
              exact exQ_mk (by kernel_rfl) (by kernel_rfl)
            · replace h := ofF h257 h
              refine W_skip [0, 3, 4, 6, 7, 8, 9] [] (fr' := [(0, aD (.slice (.slice .bool)) a0), (3, aD (.slice (.arr 2 tI)) r1.1), (4, aI r1.2), (6, aI (List.length v6 : Int)), (7, aD (.slice tI) x97.1), (8, aI x97.2), (9, aI r244)]) (L' := []) (by kernel_rfl) (by kernel_rfl) ?_
              refine seqQ_norm ?_
              refine W_seq (by kernel_rfl) ?_
              refine W_region (by kernel_rfl) ?_
              refine WO_run (j := 1) (k := 1) (orcs := []) (kF := [0, 3, 4, 6, 7, 8, 9, 61]) (kL := []) (fr' := [(0, aD (.slice (.slice .bool)) a0), (3, aD (.slice (.arr 2 tI)) r1.1), (4, aI r1.2), (6, aI (List.length v6 : Int)), (7, aD (.slice tI) x97.1), (8, aI x97.2), (9, aI r244), (61, aI x97.2)]) (L' := []) (obs := []) rfl (by kernel_rfl) allP0 ?_
              obtain ⟨r258, h259, h⟩ := bind_of h
              refine WO_call0 (us := [none]) (d := 62) (p := True) (j := 2) rfl ⟨by kernel_rfl, by kernel_rfl, by kernel_rfl⟩ trivial (ref_ListOf_ok h259) (by kernel_rfl) ?_
              refine WO_run (j := 3) (k := 1) (orcs := []) (kF := [0, 3, 4, 6, 7, 8, 9, 10]) (kL := []) (fr' := [(0, aD (.slice (.slice .bool)) a0), (3, aD (.slice (.arr 2 tI)) r1.1), (4, aI r1.2), (6, aI (List.length v6 : Int)), (7, aD (.slice tI) x97.1), (8, aI x97.2), (9, aI r244), (10, aD (.slice tI) r258)]) (L' := []) (obs := []) rfl (by kernel_rfl) allP0 ?_
              refine WO_fin [0, 3, 4, 6, 7, 8, 9, 10] [] (fr' := [(0, aD (.slice (.slice .bool)) a0), (3, aD (.slice (.arr 2 tI)) r1.1), (4, aI r1.2), (6, aI (List.length v6 : Int)), (7, aD (.slice tI) x97.1), (8, aI x97.2), (9, aI r244), (10, aD (.slice tI) r258)]) (L' := []) (by kernel_rfl) (by kernel_rfl) ?_
              refine seqQ_norm ?_
              refine W_seq (by kernel_rfl) ?_
              obtain ⟨v269, h270, h⟩ := bind_of h
              refine W_cutK (Q' := (exQ .normal (law_TalkFools_s21 a0 r1 v6 x97 r258)) v269) ?_ ?_
              · replace h := h270
                refine W_region (by kernel_rfl) ?_
                refine WO_run (j := 5) (k := 5) (orcs := []) (kF := [0, 3, 4, 6, 7, 8, 10, 67]) (kL := []) (fr' := [(0, aD (.slice (.slice .bool)) a0), (3, aD (.slice (.arr 2 tI)) r1.1), (4, aI r1.2), (6, aI (List.length v6 : Int)), (7, aD (.slice tI) x97.1), (8, aI x97.2), (10, aD (.slice tI) r258), (67, aB (decide (r244 > (List.length x97.1 : Int))))]) (L' := []) (obs := []) rfl (by kernel_rfl) allP0 ?_
                rcases Bool.eq_false_or_eq_true (decide (r244 > (List.length x97.1 : Int))) with h266 | h266
                · replace h := ofT h266 h
                  refine WO_run (j := 9) (k := 4) (orcs := [(10, .known true), (12, .known true), (14, .known true), (17, .val (.dat .bool true))]) (kF := [0, 3, 4, 6, 7, 8, 10, 71]) (kL := []) (fr' := [(0, aD (.slice (.slice .bool)) a0), (3, aD (.slice (.arr 2 tI)) r1.1), (4, aI r1.2), (6, aI (List.length v6 : Int)), (7, aD (.slice tI) x97.1), (8, aI x97.2), (10, aD (.slice tI) r258), (71, aB true)]) (L' := []) (obs := [((decide (r244 > (List.length x97.1 : Int))) = true), ((decide (r244 > (List.length x97.1 : Int))) = true), ((decide (r244 > (List.length x97.1 : Int))) = true), ((decide (r244 > (List.length x97.1 : Int))) = true)]) rfl (by kernel_rfl) (allP2 h266 (allP2 h266 (allP2 h266 (allP1 h266)))) ?_
                  obtain rfl := Option.some.inj h
                  refine WO_fin [0, 3, 4, 6, 7, 8, 10, 71] [] (fr' := [(0, aD (.slice (.slice .bool)) a0), (3, aD (.slice (.arr 2 tI)) r1.1), (4, aI r1.2), (6, aI (List.length v6 : Int)), (7, aD (.slice tI) x97.1), (8, aI x97.2), (10, aD (.slice tI) r258), (71, aB true)]) (L' := []) (by kernel_rfl) (by kernel_rfl) ?_
                  exact exQ_mk (by kernel_rfl) (by kernel_rfl)
                · replace h := ofF h266 h
                  refine WO_run (j := 7) (k := 2) (orcs := [(10, .known false), (12, .known false)]) (kF := [0, 3, 4, 6, 7, 8, 10, 67, 68, 69]) (kL := []) (fr' := [(0, aD (.slice (.slice .bool)) a0), (3, aD (.slice (.arr 2 tI)) r1.1), (4, aI r1.2), (6, aI (List.length v6 : Int)), (7, aD (.slice tI) x97.1), (8, aI x97.2), (10, aD (.slice tI) r258), (67, aB (decide (r244 > (List.length x97.1 : Int)))), (68, aD (.slice tI) r258), (69, aD (.slice tI) x97.1)]) (L' := []) (obs := [((decide (r244 > (List.length x97.1 : Int))) = false), ((decide (r244 > (List.length x97.1 : Int))) = false)]) rfl (by kernel_rfl) (allP2 h266 (allP1 h266)) ?_
                  obtain ⟨r267, h268, h⟩ := bind_of h
                  refine WO_call0 (us := [none, none]) (d := 70) (p := ((decide (r244 > (List.length x97.1 : Int))) = false)) (j := 8) rfl ⟨by kernel_rfl, by kernel_rfl, by kernel_rfl⟩ h266 (ref_Ahead_ok h268) (by kernel_rfl) ?_
                  refine WO_run (j := 9) (k := 1) (orcs := [(17, .val (.dat .bool false))]) (kF := [0, 3, 4, 6, 7, 8, 10, 71]) (kL := []) (fr' := [(0, aD (.slice (.slice .bool)) a0), (3, aD (.slice (.arr 2 tI)) r1.1), (4, aI r1.2), (6, aI (List.length v6 : Int)), (7, aD (.slice tI) x97.1), (8, aI x97.2), (10, aD (.slice tI) r258), (71, aB r267)]) (L' := []) (obs := [((decide (r244 > (List.length x97.1 : Int))) = false)]) rfl (by kernel_rfl) (allP1 h266) ?_
                  obtain rfl := Option.some.inj h
                  refine WO_fin [0, 3, 4, 6, 7, 8, 10, 71] [] (fr' := [(0, aD (.slice (.slice .bool)) a0), (3, aD (.slice (.arr 2 tI)) r1.1), (4, aI r1.2), (6, aI (List.length v6 : Int)), (7, aD (.slice tI) x97.1), (8, aI x97.2), (10, aD (.slice tI) r258), (71, aB r267)]) (L' := []) (by kernel_rfl) (by kernel_rfl) ?_
                  exact exQ_mk (by kernel_rfl) (by kernel_rfl)
              · intro e fr L hJ
                obtain ⟨rfl, rfl, rfl⟩ := hJ
                refine LT_keep [0, 3, 4, 6, 7, 8, 10, 71] [] (fr' := [(0, aD (.slice (.slice .bool)) a0), (3, aD (.slice (.arr 2 tI)) r1.1), (4, aI r1.2), (6, aI (List.length v6 : Int)), (7, aD (.slice tI) x97.1), (8, aI x97.2), (10, aD (.slice tI) r258), (71, aB v269)]) (L' := []) (by kernel_rfl) ?_
                refine seqQ_norm ?_
                refine W_cond (o := .tmp 71) (b := v269) (by kernel_rfl) (by kernel_rfl) (fun h271 => ?_) (fun h271 => ?_)
                · replace h := ofT h271 h
                  obtain rfl := Option.some.inj h
                  refine W_run 2 [] [0, 3, 4, 6, 7, 8] [] (fr' := [(0, aD (.slice (.slice .bool)) a0), (3, aD (.slice (.arr 2 tI)) r1.1), (4, aI r1.2), (6, aI (List.length v6 : Int)), (7, aD (.slice tI) r258), (8, aI x97.2)]) (L' := []) (obs := []) (by kernel_rfl) (by kernel_rfl) (by kernel_rfl) allP0 ?_
                  refine blockQ_norm ?_
                  exact exQ_mk (by kernel_rfl) (by kernel_rfl)
                · replace h := ofF h271 h
                  obtain rfl := Option.some.inj h
                  refine W_skip [0, 3, 4, 6, 7, 8] [] (fr' := [(0, aD (.slice (.slice .bool)) a0), (3, aD (.slice (.arr 2 tI)) r1.1), (4, aI r1.2), (6, aI (List.length v6 : Int)), (7, aD (.slice tI) x97.1), (8, aI x97.2)]) (L' := []) (by kernel_rfl) (by kernel_rfl) ?_
                  refine blockQ_norm ?_
                  exact exQ_mk (by kernel_rfl) (by kernel_rfl)
        · intro e fr L hJ
          obtain ⟨rfl, rfl, rfl⟩ := hJ
          refine LT_keep [0, 3, 4, 6, 7, 8] [] (fr' := [(0, aD (.slice (.slice .bool)) a0), (3, aD (.slice (.arr 2 tI)) r1.1), (4, aI r1.2), (6, aI (List.length v6 : Int)), (7, aD (.slice tI) v272), (8, aI x97.2)]) (L' := []) (by kernel_rfl) ?_
          refine seqQ_norm ?_
          obtain rfl := Option.some.inj h
          refine W_run 3 [] [0, 3, 4, 6, 7, 8] [] (fr' := [(0, aD (.slice (.slice .bool)) a0), (3, aD (.slice (.arr 2 tI)) r1.1), (4, aI r1.2), (6, aI (List.length v6 : Int)), (7, aD (.slice tI) v272), (8, aI (w64 (x97.2 + (1 : Int))))]) (L' := []) (obs := []) (by kernel_rfl) (by kernel_rfl) (by kernel_rfl) allP0 ?_
          exact round_next' (by kernel_rfl) (by kernel_rfl)
      · replace h := ofF h187 h
        obtain rfl := Option.some.inj h
        refine W_exit (id := 0) [3, 4, 6, 7] [] (fr' := [(3, aD (.slice (.arr 2 tI)) r1.1), (4, aI r1.2), (6, aI (List.length v6 : Int)), (7, aD (.slice tI) x97.1)]) (L' := []) (by kernel_rfl) (by kernel_rfl) ?_
        refine seqQ_exit ?_
        refine round_exit ?_
        exact exQ_mk (by kernel_rfl) (by kernel_rfl)
    · intro e fr L hJ
      obtain ⟨rfl, rfl, rfl⟩ := hJ
      refine LT_keep [3, 4, 6, 7] [] (fr' := [(3, aD (.slice (.arr 2 tI)) r1.1), (4, aI r1.2), (6, aI (List.length v6 : Int)), (7, aD (.slice tI) v274)]) (L' := []) (by kernel_rfl) ?_
      refine blockQ_hit ?_
      refine seqQ_norm ?_
      refine W_seq (by kernel_rfl) ?_
      refine W_run 1 [] [3, 4, 6, 7, 11] [] (fr' := [(3, aD (.slice (.arr 2 tI)) r1.1), (4, aI r1.2), (6, aI (List.length v6 : Int)), (7, aD (.slice tI) v274), (11, .one (.nilS))]) (L' := []) (obs := []) (by kernel_rfl) (by kernel_rfl) (by kernel_rfl) allP0 ?_
      refine seqQ_norm ?_
      refine W_seq (by kernel_rfl) ?_
      refine W_seq (by kernel_rfl) ?_
      refine W_run 3 [] [3, 4, 6, 11, 73, 74, 75] [] (fr' := [(3, aD (.slice (.arr 2 tI)) r1.1), (4, aI r1.2), (6, aI (List.length v6 : Int)), (11, .one (.nilS)), (73, aD (.slice tI) v274), (74, aI (List.length v274 : Int)), (75, aI (0 : Int))]) (L' := []) (obs := []) (by kernel_rfl) (by kernel_rfl) (by kernel_rfl) allP0 ?_
      refine seqQ_norm ?_
      refine W_block (id := 2) (by kernel_rfl) ?_
      obtain ⟨v298, h299, h⟩ := bind_of h
      refine W_len (t := 73) (u := tI) (xs := v274) (by kernel_rfl) (fun h302 => ?_)
      obtain ⟨h300, h301⟩ := forL_iter h302 h299
      refine W_mine 11 88 (.arr 2 tI) (by kernel_rfl) ?_
      refine W_weaken [3, 4, 6, 11, 73, 74, 75] [88] (fr' := ((law_TalkFools_s29 r1 v6 v274) ((0 : Int), [])).1) (L' := ((law_TalkFools_s29 r1 v6 v274) ((0 : Int), [])).2) (by kernel_rfl) ?_
      refine W_cutK (W_loop (S := (law_TalkFools_s29 r1 v6 v274)) (J := (exQ (.exit 2) (law_TalkFools_s30 r1))) (by kernel_rfl) ?_ h300 _ v298 h301) ?_
      · rintro ⟨i289, x290⟩ s h
        refine W_seq (by kernel_rfl) ?_
        refine W_run 1 [] [3, 4, 6, 11, 73, 74, 75, 76] [88] (fr' := [(3, aD (.slice (.arr 2 tI)) r1.1), (4, aI r1.2), (6, aI (List.length v6 : Int)), (11, .one (.slc 88)), (73, aD (.slice tI) v274), (74, aI (List.length v274 : Int)), (75, aI i289), (76, aB (decide (i289 < (List.length v274 : Int))))]) (L' := [(88, .seq (.arr 2 tI) x290)]) (obs := []) (by kernel_rfl) (by kernel_rfl) (by kernel_rfl) allP0 ?_
        refine seqQ_norm ?_
        refine W_seq (by kernel_rfl) ?_
        refine W_cond (o := .tmp 76) (b := decide (i289 < (List.length v274 : Int))) (by kernel_rfl) (by kernel_rfl) (fun h294 => ?_) (fun h294 => ?_)
        · replace h := stepL_true h294 h
          obtain ⟨v292, _, h293, h, rfl⟩ := h
          refine W_skip [3, 4, 6, 11, 73, 74, 75] [88] (fr' := [(3, aD (.slice (.arr 2 tI)) r1.1), (4, aI r1.2), (6, aI (List.length v6 : Int)), (11, .one (.slc 88)), (73, aD (.slice tI) v274), (74, aI (List.length v274 : Int)), (75, aI i289)]) (L' := [(88, .seq (.arr 2 tI) x290)]) (by kernel_rfl) (by kernel_rfl) ?_
          refine seqQ_norm ?_
          refine W_seq (by kernel_rfl) ?_
          refine W_block (id := 3) (by kernel_rfl) ?_
          refine W_seq (by kernel_rfl) ?_
          refine W_run 3 [(1, .val (.dat tI v292))] [3, 4, 6, 11, 13, 73, 74, 75] [88] (fr' := [(3, aD (.slice (.arr 2 tI)) r1.1), (4, aI r1.2), (6, aI (List.length v6 : Int)), (11, .one (.slc 88)), (13, aI v292), (73, aD (.slice tI) v274), (74, aI (List.length v274 : Int)), (75, aI i289)]) (L' := [(88, .seq (.arr 2 tI) x290)]) (obs := [Idx v274 i289 v292]) (by kernel_rfl) (by kernel_rfl) (by kernel_rfl) (allP1 (Idx.of h293)) ?_
          refine seqQ_norm ?_
          obtain ⟨_, h295, h⟩ := bind_of h
          replace h295 := ck_some h295
          obtain ⟨_, h296, h⟩ := bind_of h
          replace h296 := ck_some h296
          refine W_draw3 7 [0] [] [] [3, 4, 6, 11, 73, 74, 75] [88] (fr' := [(3, aD (.slice (.arr 2 tI)) r1.1), (4, aI r1.2), (6, aI (List.length v6 : Int)), (11, .one (.slc 88)), (73, aD (.slice tI) v274), (74, aI (List.length v274 : Int)), (75, aI i289)]) (L' := [(88, .seq (.arr 2 tI) (x290 ++ [[w64 (Int.tdiv v292 (List.length v6 : Int)), Int.tmod v292 (List.length v6 : Int)]]))]) (out := [(79, .one (.slc 88)), (80, aI v292), (81, aI (List.length v6 : Int)), (82, aI (w64 (Int.tdiv v292 (List.length v6 : Int)))), (83, aI v292), (84, aI (List.length v6 : Int)), (85, aI (Int.tmod v292 (List.length v6 : Int)))]) (obs := [((List.length v6 : Int) ≠ 0), ((List.length v6 : Int) ≠ 0)]) (obs2 := [SmallLen (List.length x290 + List.length [[w64 (Int.tdiv v292 (List.length v6 : Int)), Int.tmod v292 (List.length v6 : Int)]])]) (calls := []) (by kernel_rfl) (by kernel_rfl) (by kernel_rfl) (by kernel_rfl) (allP2 h295 (allP1 h295)) allC0 (by kernel_rfl) (allP1 h296) ?_
          refine blockQ_norm ?_
          refine seqQ_norm ?_
          obtain rfl := Option.some.inj h
          refine W_run 2 [] [3, 4, 6, 11, 73, 74, 75] [88] (fr' := [(3, aD (.slice (.arr 2 tI)) r1.1), (4, aI r1.2), (6, aI (List.length v6 : Int)), (11, .one (.slc 88)), (73, aD (.slice tI) v274), (74, aI (List.length v274 : Int)), (75, aI (w64 (i289 + (1 : Int))))]) (L' := [(88, .seq (.arr 2 tI) (x290 ++ [[w64 (Int.tdiv v292 (List.length v6 : Int)), Int.tmod v292 (List.length v6 : Int)]]))]) (obs := []) (by kernel_rfl) (by kernel_rfl) (by kernel_rfl) allP0 ?_
          exact round_next' (by kernel_rfl) (by kernel_rfl)
        · obtain rfl := stepL_false h294 h
          refine W_exit (id := 2) [3, 4, 11] [88] (fr' := [(3, aD (.slice (.arr 2 tI)) r1.1), (4, aI r1.2), (11, .one (.slc 88))]) (L' := [(88, .seq (.arr 2 tI) x290)]) (by kernel_rfl) (by kernel_rfl) ?_
          refine seqQ_exit ?_
          refine round_exit ?_
          exact exQ_mk (by kernel_rfl) (by kernel_rfl)
      · intro e fr L hJ
        obtain ⟨rfl, rfl, rfl⟩ := hJ
        refine LT_keep [3, 4, 11] [88] (fr' := [(3, aD (.slice (.arr 2 tI)) r1.1), (4, aI r1.2), (11, .one (.slc 88))]) (L' := [(88, .seq (.arr 2 tI) v298)]) (by kernel_rfl) ?_
        refine blockQ_hit ?_
        refine seqQ_norm ?_
        refine W_seq (by kernel_rfl) ?_
        obtain ⟨v312, h313, h⟩ := bind_of h
        refine W_cutK (Q' := (exQ .normal law_TalkFools_s31) v312) ?_ ?_
        · replace h := h313
          refine W_region (by kernel_rfl) ?_
          refine WO_run (j := 3) (k := 3) (orcs := []) (kF := [3, 11, 92]) (kL := [88]) (fr' := [(3, aD (.slice (.arr 2 tI)) r1.1), (11, .one (.slc 88)), (92, aB (r1.2 == (0 : Int)))]) (L' := [(88, .seq (.arr 2 tI) v298)]) (obs := []) rfl (by kernel_rfl) allP0 ?_
          rcases Bool.eq_false_or_eq_true (r1.2 == (0 : Int)) with h309 | h309
          · replace h := ofT h309 h
            refine WO_run (j := 5) (k := 2) (orcs := [(6, .known true), (8, .known true)]) (kF := [92, 93, 94]) (kL := [88]) (fr' := [(92, aB (r1.2 == (0 : Int))), (93, aD (.slice (.arr 2 tI)) r1.1), (94, .one (.slc 88))]) (L' := [(88, .seq (.arr 2 tI) v298)]) (obs := [((r1.2 == (0 : Int)) = true), ((r1.2 == (0 : Int)) = true)]) rfl (by kernel_rfl) (allP2 h309 (allP1 h309)) ?_
            obtain ⟨r310, h311, h⟩ := bind_of h
            refine WO_frz 88 (by kernel_rfl) ?_
            refine WO_call0 (us := [none, none]) (d := 95) (p := ((r1.2 == (0 : Int)) = true)) (j := 6) rfl ⟨by kernel_rfl, by kernel_rfl, by kernel_rfl⟩ h309 (ref_Twos_ok h311) (by kernel_rfl) ?_
            refine WO_run (j := 8) (k := 2) (orcs := [(13, .val (.dat .bool true))]) (kF := [2]) (kL := []) (fr' := [(2, aB r310)]) (L' := []) (obs := [((r1.2 == (0 : Int)) = true)]) rfl (by kernel_rfl) (allP1 h309) ?_
            obtain rfl := Option.some.inj h
            refine WO_fin [2] [] (fr' := [(2, aB r310)]) (L' := []) (by kernel_rfl) (by kernel_rfl) ?_
            exact exQ_mk (by kernel_rfl) (by kernel_rfl)
          · replace h := ofF h309 h
            refine WO_run (j := 8) (k := 5) (orcs := [(6, .known false), (8, .known false), (10, .known false), (13, .val (.dat .bool false))]) (kF := [2]) (kL := [88]) (fr' := [(2, aB false)]) (L' := [(88, .seq (.arr 2 tI) v298)]) (obs := [((r1.2 == (0 : Int)) = false), ((r1.2 == (0 : Int)) = false), ((r1.2 == (0 : Int)) = false), ((r1.2 == (0 : Int)) = false)]) rfl (by kernel_rfl) (allP2 h309 (allP2 h309 (allP2 h309 (allP1 h309)))) ?_
            obtain rfl := Option.some.inj h
            refine WO_fin [2] [] (fr' := [(2, aB false)]) (L' := []) (by kernel_rfl) (by kernel_rfl) ?_
            exact exQ_mk (by kernel_rfl) (by kernel_rfl)
        · intro e fr L hJ
          obtain ⟨rfl, rfl, rfl⟩ := hJ
          refine LT_keep [2] [] (fr' := [(2, aB v312)]) (L' := []) (by kernel_rfl) ?_
          refine seqQ_norm ?_
          obtain rfl := Option.some.inj h
          refine W_ret [2] [] (fr' := [(2, aB v312)]) (L' := []) (by kernel_rfl) (by kernel_rfl) ?_
          exact retQ_mk (by kernel_rfl) (by kernel_rfl) (by kernel_rfl)
end Go.Proofs.Ytjghcbdfpcpahaa.talkFools
