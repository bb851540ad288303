/- What the functions that TalkRanks calls compute, as models, and that they compute it: written by a program of mine. -/
import Derived.Test.YtnblafiefaalgaaProg
import Derived.Test.YtnblafiefaalgaaSl6
set_option linter.all false
set_option maxRecDepth 100000
namespace Go.Proofs.Ytnblafiefaalgaa.talkRanks
open Go Go.Sl
def talk_wrong_1 (a0 : (List Bool)) (c0 : (List (List Bool))) : Option Bool :=
(idx c0 (0 : Int)).bind fun v1 =>
some ((List.length a0 : Int) != (List.length v1 : Int))
theorem talk_wrong_1_ok {a0 : (List Bool)} {c0 : (List (List Bool))} {r : Bool} (h : talk_wrong_1 a0 c0 = some r) : FnC Try.prog 85 [aD (.slice .bool) a0, .one (.ptr 1000 0)] [(1000, .cells [.dat (.slice (.slice .bool)) c0])] (aB r) [(1000, .cells [.dat (.slice (.slice .bool)) c0])] := by
  refine fnC_of_W (B := bodyOf Try.f85) (n := 11) Try.func85 (by kernel_rfl) (by kernel_rfl) (by kernel_rfl) (by kernel_rfl) (by kernel_rfl) ?_
  intro K
  refine W_seq (by kernel_rfl) ?_
  refine W_run 1 [] [0, 1] [1000] (fr' := [(0, aD (.slice .bool) a0), (1, .one (.ptr 1000 0))]) (L' := [(1000, .cells [.dat (.slice (.slice .bool)) c0])]) (obs := []) (by kernel_rfl) (by kernel_rfl) (by kernel_rfl) allP0 ?_
  refine seqQ_norm ?_
  refine W_seq (by kernel_rfl) ?_
  obtain ⟨v1, h2, h⟩ := bind_of h
  refine W_run 8 [(7, .val (.dat (.slice .bool) v1))] [3] [1000] (fr' := [(3, aB ((List.length a0 : Int) != (List.length v1 : Int)))]) (L' := [(1000, .cells [.dat (.slice (.slice .bool)) c0])]) (obs := [Idx c0 (0 : Int) v1]) (by kernel_rfl) (by kernel_rfl) (by kernel_rfl) (allP1 (Idx.of h2)) ?_
  refine seqQ_norm ?_
  obtain rfl := Option.some.inj h
  refine W_ret [3] [1000] (fr' := [(3, aB ((List.length a0 : Int) != (List.length v1 : Int)))]) (L' := [(1000, .cells [.dat (.slice (.slice .bool)) c0])]) (by kernel_rfl) (by kernel_rfl) ?_
  exact retQ_mk (by kernel_rfl) (by kernel_rfl) (by kernel_rfl)

def slices_IndexFunc_LLboolLbool_with_talk_wrong_1_b1 (c0 : (List (List Bool))) (i15 : Int) (v18 : (List Bool)) (x16 : Unit) : Option (Flow Unit (Esc Int Unit)) :=
(talk_wrong_1 v18 c0).bind fun r21 =>
bif r21 then
(some (.done (.ret i15)))
else
(some (.next ()))
@[reducible] def slices_IndexFunc_LLboolLbool_with_talk_wrong_1_s2 (a0 : (List (List Bool))) (c0 : (List (List Bool))) (v : Int × Unit) : Fr × LL := ([(0, aD (.slice (.slice .bool)) a0), (1, .one (.fn 85 [(1000, 0)])), (7, aI (List.length a0 : Int)), (8, aI v.1)], [(1000, .cells [.dat (.slice (.slice .bool)) c0])])
@[reducible] def slices_IndexFunc_LLboolLbool_with_talk_wrong_1_s3 (c0 : (List (List Bool))) (v : Int) : Fr × LL := ([(4, aI v)], [(1000, .cells [.dat (.slice (.slice .bool)) c0])])
@[reducible] def slices_IndexFunc_LLboolLbool_with_talk_wrong_1_s4 (c0 : (List (List Bool))) (v : Unit) : Fr × LL := ([], [(1000, .cells [.dat (.slice (.slice .bool)) c0])])
def slices_IndexFunc_LLboolLbool_with_talk_wrong_1 (a0 : (List (List Bool))) (c0 : (List (List Bool))) : Option Int :=
(forL (slices_IndexFunc_LLboolLbool_with_talk_wrong_1_b1 c0) (fun x16 => (.brk ())) a0 0 ()).bind fun v25 =>
match v25 with
| .ret v30 =>
(some v30)
| .brk v31 =>
(some (-1 : Int))
theorem slices_IndexFunc_LLboolLbool_with_talk_wrong_1_ok {a0 : (List (List Bool))} {c0 : (List (List Bool))} {r : Int} (h : slices_IndexFunc_LLboolLbool_with_talk_wrong_1 a0 c0 = some r) : FnC Try.prog 99 [aD (.slice (.slice .bool)) a0, .one (.fn 85 [(1000, 0)])] [(1000, .cells [.dat (.slice (.slice .bool)) c0])] (aI r) [(1000, .cells [.dat (.slice (.slice .bool)) c0])] := by
  refine fnC_of_W (B := bodyOf Try.f99) (n := 19) Try.func99 (by kernel_rfl) (by kernel_rfl) (by kernel_rfl) (by kernel_rfl) (by kernel_rfl) ?_
  intro K
  refine W_seq (by kernel_rfl) ?_
  refine W_run 1 [] [0, 1] [1000] (fr' := [(0, aD (.slice (.slice .bool)) a0), (1, .one (.fn 85 [(1000, 0)]))]) (L' := [(1000, .cells [.dat (.slice (.slice .bool)) c0])]) (obs := []) (by kernel_rfl) (by kernel_rfl) (by kernel_rfl) allP0 ?_
  refine seqQ_norm ?_
  refine W_seq (by kernel_rfl) ?_
  refine W_seq (by kernel_rfl) ?_
  refine W_run 3 [] [0, 1, 7, 8] [1000] (fr' := [(0, aD (.slice (.slice .bool)) a0), (1, .one (.fn 85 [(1000, 0)])), (7, aI (List.length a0 : Int)), (8, aI (0 : Int))]) (L' := [(1000, .cells [.dat (.slice (.slice .bool)) c0])]) (obs := []) (by kernel_rfl) (by kernel_rfl) (by kernel_rfl) allP0 ?_
  refine seqQ_norm ?_
  refine W_block (id := 0) (by kernel_rfl) ?_
  obtain ⟨v25, h26, h⟩ := bind_of h
  refine W_len (t := 0) (u := (.slice .bool)) (xs := a0) (by kernel_rfl) (fun h29 => ?_)
  obtain ⟨h27, h28⟩ := forL_iter h29 h26
  refine W_weaken [0, 1, 7, 8] [1000] (fr' := ((slices_IndexFunc_LLboolLbool_with_talk_wrong_1_s2 a0 c0) ((0 : Int), ())).1) (L' := ((slices_IndexFunc_LLboolLbool_with_talk_wrong_1_s2 a0 c0) ((0 : Int), ())).2) (by kernel_rfl) ?_
  refine W_cutK (W_loop (S := (slices_IndexFunc_LLboolLbool_with_talk_wrong_1_s2 a0 c0)) (J := (escQ (exQ .ret (slices_IndexFunc_LLboolLbool_with_talk_wrong_1_s3 c0)) (exQ (.exit 0) (slices_IndexFunc_LLboolLbool_with_talk_wrong_1_s4 c0)))) (by kernel_rfl) ?_ h27 _ v25 h28) ?_
  · rintro ⟨i15, x16⟩ s h
    refine W_seq (by kernel_rfl) ?_
    refine W_run 1 [] [0, 1, 7, 8, 9] [1000] (fr' := [(0, aD (.slice (.slice .bool)) a0), (1, .one (.fn 85 [(1000, 0)])), (7, aI (List.length a0 : Int)), (8, aI i15), (9, aB (decide (i15 < (List.length a0 : Int))))]) (L' := [(1000, .cells [.dat (.slice (.slice .bool)) c0])]) (obs := []) (by kernel_rfl) (by kernel_rfl) (by kernel_rfl) allP0 ?_
    refine seqQ_norm ?_
    refine W_seq (by kernel_rfl) ?_
    refine W_cond (o := .tmp 9) (b := decide (i15 < (List.length a0 : Int))) (by kernel_rfl) (by kernel_rfl) (fun h20 => ?_) (fun h20 => ?_)
    · replace h := stepL_true h20 h
      obtain ⟨v18, _, h19, h, rfl⟩ := h
      refine W_skip [0, 1, 7, 8] [1000] (fr' := [(0, aD (.slice (.slice .bool)) a0), (1, .one (.fn 85 [(1000, 0)])), (7, aI (List.length a0 : Int)), (8, aI i15)]) (L' := [(1000, .cells [.dat (.slice (.slice .bool)) c0])]) (by kernel_rfl) (by kernel_rfl) ?_
      refine seqQ_norm ?_
      refine W_seq (by kernel_rfl) ?_
      refine W_block (id := 1) (by kernel_rfl) ?_
      refine W_seq (by kernel_rfl) ?_
      refine W_run 2 [] [0, 1, 5, 7, 8] [1000] (fr' := [(0, aD (.slice (.slice .bool)) a0), (1, .one (.fn 85 [(1000, 0)])), (5, aI i15), (7, aI (List.length a0 : Int)), (8, aI i15)]) (L' := [(1000, .cells [.dat (.slice (.slice .bool)) c0])]) (obs := []) (by kernel_rfl) (by kernel_rfl) (by kernel_rfl) allP0 ?_
      refine seqQ_norm ?_
      refine W_seq (by kernel_rfl) ?_
      refine W_region (by kernel_rfl) ?_
      refine WO_run (j := 5) (k := 5) (orcs := [(7, .val (.dat (.slice .bool) v18))]) (kF := [0, 1, 5, 7, 8, 11, 15]) (kL := [1000]) (fr' := [(0, aD (.slice (.slice .bool)) a0), (1, .one (.fn 85 [(1000, 0)])), (5, aI i15), (7, aI (List.length a0 : Int)), (8, aI i15), (11, .one (.fn 85 [(1000, 0)])), (15, aD (.slice .bool) v18)]) (L' := [(1000, .cells [.dat (.slice (.slice .bool)) c0])]) (obs := [Idx a0 i15 v18]) rfl (by kernel_rfl) (allP1 (Idx.of h19)) ?_
      obtain ⟨r21, h22, h⟩ := bind_of h
      refine WO_lend [(1000, 1000)] (us := [none, none]) (d := 16) (p := True) (j := 6) rfl ⟨by kernel_rfl, by kernel_rfl, by kernel_rfl⟩ trivial (talk_wrong_1_ok h22) (by kernel_rfl) (by kernel_rfl) ?_
      refine WO_fin [0, 1, 5, 7, 8, 16] [1000] (fr' := [(0, aD (.slice (.slice .bool)) a0), (1, .one (.fn 85 [(1000, 0)])), (5, aI i15), (7, aI (List.length a0 : Int)), (8, aI i15), (16, aB r21)]) (L' := [(1000, .cells [.dat (.slice (.slice .bool)) c0])]) (by kernel_rfl) (by kernel_rfl) ?_
      refine seqQ_norm ?_
      refine W_cond (o := .tmp 16) (b := r21) (by kernel_rfl) (by kernel_rfl) (fun h23 => ?_) (fun h23 => ?_)
      · replace h := ofT h23 h
        refine W_seq (by kernel_rfl) ?_
        refine W_run 2 [] [4] [1000] (fr' := [(4, aI i15)]) (L' := [(1000, .cells [.dat (.slice (.slice .bool)) c0])]) (obs := []) (by kernel_rfl) (by kernel_rfl) (by kernel_rfl) allP0 ?_
        refine seqQ_norm ?_
        obtain rfl := Option.some.inj h
        refine W_ret [4] [1000] (fr' := [(4, aI i15)]) (L' := [(1000, .cells [.dat (.slice (.slice .bool)) c0])]) (by kernel_rfl) (by kernel_rfl) ?_
        refine blockQ_ret ?_
        refine seqQ_ret ?_
        refine round_ret ?_
        refine escQ_ret ?_
        exact exQ_mk (by kernel_rfl) (by kernel_rfl)
      · replace h := ofF h23 h
        refine W_skip [0, 1, 7, 8] [1000] (fr' := [(0, aD (.slice (.slice .bool)) a0), (1, .one (.fn 85 [(1000, 0)])), (7, aI (List.length a0 : Int)), (8, aI i15)]) (L' := [(1000, .cells [.dat (.slice (.slice .bool)) c0])]) (by kernel_rfl) (by kernel_rfl) ?_
        refine blockQ_norm ?_
        refine seqQ_norm ?_
        obtain rfl := Option.some.inj h
        refine W_run 2 [] [0, 1, 7, 8] [1000] (fr' := [(0, aD (.slice (.slice .bool)) a0), (1, .one (.fn 85 [(1000, 0)])), (7, aI (List.length a0 : Int)), (8, aI (w64 (i15 + (1 : Int))))]) (L' := [(1000, .cells [.dat (.slice (.slice .bool)) c0])]) (obs := []) (by kernel_rfl) (by kernel_rfl) (by kernel_rfl) allP0 ?_
        exact round_next' (by kernel_rfl) (by kernel_rfl)
    · obtain rfl := stepL_false h20 h
      refine W_exit (id := 0) [] [1000] (fr' := []) (L' := [(1000, .cells [.dat (.slice (.slice .bool)) c0])]) (by kernel_rfl) (by kernel_rfl) ?_
      refine seqQ_exit ?_
      refine round_exit ?_
      refine escQ_brk ?_
      exact exQ_mk (by kernel_rfl) (by kernel_rfl)
  · intro e fr L hJ
    rcases v25 with v30 | v31
    · obtain ⟨rfl, rfl, rfl⟩ := hJ
      obtain rfl := Option.some.inj h
      refine LT_keep [4] [1000] (fr' := [(4, aI v30)]) (L' := [(1000, .cells [.dat (.slice (.slice .bool)) c0])]) (by kernel_rfl) ?_
      refine blockQ_ret ?_
      refine seqQ_ret ?_
      exact retQ_mk (by kernel_rfl) (by kernel_rfl) (by kernel_rfl)
    · obtain ⟨rfl, rfl, rfl⟩ := hJ
      refine LT_keep [] [1000] (fr' := []) (L' := [(1000, .cells [.dat (.slice (.slice .bool)) c0])]) (by kernel_rfl) ?_
      refine blockQ_hit ?_
      refine seqQ_norm ?_
      refine W_seq (by kernel_rfl) ?_
      refine W_run 1 [] [4] [1000] (fr' := [(4, aI (-1 : Int))]) (L' := [(1000, .cells [.dat (.slice (.slice .bool)) c0])]) (obs := []) (by kernel_rfl) (by kernel_rfl) (by kernel_rfl) allP0 ?_
      refine seqQ_norm ?_
      obtain rfl := Option.some.inj h
      refine W_ret [4] [1000] (fr' := [(4, aI (-1 : Int))]) (L' := [(1000, .cells [.dat (.slice (.slice .bool)) c0])]) (by kernel_rfl) (by kernel_rfl) ?_
      exact retQ_mk (by kernel_rfl) (by kernel_rfl) (by kernel_rfl)

def slices_ContainsFunc_LLboolLbool_with_talk_wrong_1 (a0 : (List (List Bool))) (c0 : (List (List Bool))) : Option Bool :=
(slices_IndexFunc_LLboolLbool_with_talk_wrong_1 a0 c0).bind fun r1 =>
some (decide (r1 ≥ (0 : Int)))
theorem slices_ContainsFunc_LLboolLbool_with_talk_wrong_1_ok {a0 : (List (List Bool))} {c0 : (List (List Bool))} {r : Bool} (h : slices_ContainsFunc_LLboolLbool_with_talk_wrong_1 a0 c0 = some r) : FnC Try.prog 84 [aD (.slice (.slice .bool)) a0, .one (.fn 85 [(1000, 0)])] [(1000, .cells [.dat (.slice (.slice .bool)) c0])] (aB r) [(1000, .cells [.dat (.slice (.slice .bool)) c0])] := by
  refine fnC_of_W (B := bodyOf Try.f84) (n := 9) Try.func84 (by kernel_rfl) (by kernel_rfl) (by kernel_rfl) (by kernel_rfl) (by kernel_rfl) ?_
  intro K
  refine W_seq (by kernel_rfl) ?_
  refine W_run 1 [] [0, 1] [1000] (fr' := [(0, aD (.slice (.slice .bool)) a0), (1, .one (.fn 85 [(1000, 0)]))]) (L' := [(1000, .cells [.dat (.slice (.slice .bool)) c0])]) (obs := []) (by kernel_rfl) (by kernel_rfl) (by kernel_rfl) allP0 ?_
  refine seqQ_norm ?_
  refine W_seq (by kernel_rfl) ?_
  refine W_region (by kernel_rfl) ?_
  refine WO_run (j := 2) (k := 2) (orcs := []) (kF := [5, 6]) (kL := [1000]) (fr' := [(5, aD (.slice (.slice .bool)) a0), (6, .one (.fn 85 [(1000, 0)]))]) (L' := [(1000, .cells [.dat (.slice (.slice .bool)) c0])]) (obs := []) rfl (by kernel_rfl) allP0 ?_
  obtain ⟨r1, h2, h⟩ := bind_of h
  refine WO_lend [(1000, 1000)] (us := [none, none]) (d := 7) (p := True) (j := 3) rfl ⟨by kernel_rfl, by kernel_rfl, by kernel_rfl⟩ trivial (slices_IndexFunc_LLboolLbool_with_talk_wrong_1_ok h2) (by kernel_rfl) (by kernel_rfl) ?_
  refine WO_run (j := 5) (k := 2) (orcs := []) (kF := [4]) (kL := [1000]) (fr' := [(4, aB (decide (r1 ≥ (0 : Int))))]) (L' := [(1000, .cells [.dat (.slice (.slice .bool)) c0])]) (obs := []) rfl (by kernel_rfl) allP0 ?_
  refine WO_fin [4] [1000] (fr' := [(4, aB (decide (r1 ≥ (0 : Int))))]) (L' := [(1000, .cells [.dat (.slice (.slice .bool)) c0])]) (by kernel_rfl) (by kernel_rfl) ?_
  refine seqQ_norm ?_
  obtain rfl := Option.some.inj h
  refine W_ret [4] [1000] (fr' := [(4, aB (decide (r1 ≥ (0 : Int))))]) (L' := [(1000, .cells [.dat (.slice (.slice .bool)) c0])]) (by kernel_rfl) (by kernel_rfl) ?_
  exact retQ_mk (by kernel_rfl) (by kernel_rfl) (by kernel_rfl)

def talk_wrong_g1 (a0 : (List (List Bool))) : Option Bool :=
bif (decide ((List.length a0 : Int) < (1 : Int))) || (decide ((List.length a0 : Int) > (4 : Int))) then
(some true)
else
((idx a0 (0 : Int)).bind fun v10 =>
bif decide ((List.length v10 : Int) < (1 : Int)) then
(some true)
else
(some (decide ((List.length v10 : Int) > (4 : Int)))))
@[reducible] def talk_wrong_s2 (a0 : (List (List Bool))) (v : Bool) : Fr × LL := ([(1, .one (.ptr 1 0)), (24, aB v)], [(1, .cells [.dat (.slice (.slice .bool)) a0])])
def talk_wrong (a0 : (List (List Bool))) : Option Int :=
(talk_wrong_g1 a0).bind fun v13 =>
bif v13 then
(some (1 : Int))
else
((slices_ContainsFunc_LLboolLbool_with_talk_wrong_1 a0 a0).bind fun r16 =>
bif r16 then
(some (3 : Int))
else
(some (0 : Int)))
theorem talk_wrong_ok {a0 : (List (List Bool))} {r : Int} (h : talk_wrong a0 = some r) : FnC Try.prog 54 [aD (.slice (.slice .bool)) a0] [] (aI r) [] := by
  refine fnC_of_W (B := bodyOf Try.f54) (n := 28) Try.func54 (by kernel_rfl) (by kernel_rfl) (by kernel_rfl) (by kernel_rfl) (by kernel_rfl) ?_
  intro K
  refine W_seq (by kernel_rfl) ?_
  refine W_run 2 [] [1] [1] (fr' := [(1, .one (.ptr 1 0))]) (L' := [(1, .cells [.dat (.slice (.slice .bool)) a0])]) (obs := []) (by kernel_rfl) (by kernel_rfl) (by kernel_rfl) allP0 ?_
  refine seqQ_norm ?_
  refine W_seq (by kernel_rfl) ?_
  refine W_seq (by kernel_rfl) ?_
  obtain ⟨v13, h14, h⟩ := bind_of h
  refine W_cutK (Q' := (exQ .normal (talk_wrong_s2 a0)) v13) ?_ ?_
  · replace h := h14
    refine W_region (by kernel_rfl) ?_
    refine WO_run (j := 9) (k := 9) (orcs := []) (kF := [1, 11]) (kL := [1]) (fr' := [(1, .one (.ptr 1 0)), (11, aB ((decide ((List.length a0 : Int) < (1 : Int))) || (decide ((List.length a0 : Int) > (4 : Int)))))]) (L' := [(1, .cells [.dat (.slice (.slice .bool)) a0])]) (obs := []) rfl (by kernel_rfl) allP0 ?_
    rcases Bool.eq_false_or_eq_true ((decide ((List.length a0 : Int) < (1 : Int))) || (decide ((List.length a0 : Int) > (4 : Int)))) with h9 | h9
    · replace h := ofT h9 h
      refine WO_run (j := 22) (k := 13) (orcs := [(18, .known true), (20, .known true), (22, .known true), (24, .known true), (26, .known true), (29, .val (.dat .bool true)), (32, .known true), (34, .known true), (36, .known true), (38, .known true), (40, .known true), (43, .val (.dat .bool true))]) (kF := [1, 24]) (kL := [1]) (fr' := [(1, .one (.ptr 1 0)), (24, aB true)]) (L' := [(1, .cells [.dat (.slice (.slice .bool)) a0])]) (obs := [(((decide ((List.length a0 : Int) < (1 : Int))) || (decide ((List.length a0 : Int) > (4 : Int)))) = true), (((decide ((List.length a0 : Int) < (1 : Int))) || (decide ((List.length a0 : Int) > (4 : Int)))) = true), (((decide ((List.length a0 : Int) < (1 : Int))) || (decide ((List.length a0 : Int) > (4 : Int)))) = true), (((decide ((List.length a0 : Int) < (1 : Int))) || (decide ((List.length a0 : Int) > (4 : Int)))) = true), (((decide ((List.length a0 : Int) < (1 : Int))) || (decide ((List.length a0 : Int) > (4 : Int)))) = true), (((decide ((List.length a0 : Int) < (1 : Int))) || (decide ((List.length a0 : Int) > (4 : Int)))) = true), (true = true), (true = true), (true = true), (true = true), (true = true), (true = true)]) rfl (by kernel_rfl) (allP2 h9 (allP2 h9 (allP2 h9 (allP2 h9 (allP2 h9 (allP2 h9 (allP2 rfl (allP2 rfl (allP2 rfl (allP2 rfl (allP2 rfl (allP1 rfl)))))))))))) ?_
      obtain rfl := Option.some.inj h
      refine WO_fin [1, 24] [1] (fr' := [(1, .one (.ptr 1 0)), (24, aB true)]) (L' := [(1, .cells [.dat (.slice (.slice .bool)) a0])]) (by kernel_rfl) (by kernel_rfl) ?_
      exact exQ_mk (by kernel_rfl) (by kernel_rfl)
    · replace h := ofF h9 h
      obtain ⟨v10, h11, h⟩ := bind_of h
      refine WO_run (j := 16) (k := 7) (orcs := [(18, .known false), (20, .known false), (21, .val (.dat (.slice .bool) v10)), (22, .known false), (24, .known false), (26, .known false), (29, .val (.dat .bool false))]) (kF := [1, 18]) (kL := [1]) (fr' := [(1, .one (.ptr 1 0)), (18, aB (decide ((List.length v10 : Int) < (1 : Int))))]) (L' := [(1, .cells [.dat (.slice (.slice .bool)) a0])]) (obs := [(((decide ((List.length a0 : Int) < (1 : Int))) || (decide ((List.length a0 : Int) > (4 : Int)))) = false), (((decide ((List.length a0 : Int) < (1 : Int))) || (decide ((List.length a0 : Int) > (4 : Int)))) = false), Idx a0 (0 : Int) v10, (((decide ((List.length a0 : Int) < (1 : Int))) || (decide ((List.length a0 : Int) > (4 : Int)))) = false), (((decide ((List.length a0 : Int) < (1 : Int))) || (decide ((List.length a0 : Int) > (4 : Int)))) = false), (((decide ((List.length a0 : Int) < (1 : Int))) || (decide ((List.length a0 : Int) > (4 : Int)))) = false), (((decide ((List.length a0 : Int) < (1 : Int))) || (decide ((List.length a0 : Int) > (4 : Int)))) = false)]) rfl (by kernel_rfl) (allP2 h9 (allP2 h9 (allP2 (Idx.of h11) (allP2 h9 (allP2 h9 (allP2 h9 (allP1 h9))))))) ?_
      rcases Bool.eq_false_or_eq_true (decide ((List.length v10 : Int) < (1 : Int))) with h12 | h12
      · replace h := ofT h12 h
        refine WO_run (j := 22) (k := 6) (orcs := [(32, .known true), (34, .known true), (36, .known true), (38, .known true), (40, .known true), (43, .val (.dat .bool true))]) (kF := [1, 24]) (kL := [1]) (fr' := [(1, .one (.ptr 1 0)), (24, aB true)]) (L' := [(1, .cells [.dat (.slice (.slice .bool)) a0])]) (obs := [((decide ((List.length v10 : Int) < (1 : Int))) = true), ((decide ((List.length v10 : Int) < (1 : Int))) = true), ((decide ((List.length v10 : Int) < (1 : Int))) = true), ((decide ((List.length v10 : Int) < (1 : Int))) = true), ((decide ((List.length v10 : Int) < (1 : Int))) = true), ((decide ((List.length v10 : Int) < (1 : Int))) = true)]) rfl (by kernel_rfl) (allP2 h12 (allP2 h12 (allP2 h12 (allP2 h12 (allP2 h12 (allP1 h12)))))) ?_
        obtain rfl := Option.some.inj h
        refine WO_fin [1, 24] [1] (fr' := [(1, .one (.ptr 1 0)), (24, aB true)]) (L' := [(1, .cells [.dat (.slice (.slice .bool)) a0])]) (by kernel_rfl) (by kernel_rfl) ?_
        exact exQ_mk (by kernel_rfl) (by kernel_rfl)
      · replace h := ofF h12 h
        refine WO_run (j := 22) (k := 6) (orcs := [(32, .known false), (34, .known false), (35, .val (.dat (.slice .bool) v10)), (36, .known false), (38, .known false), (40, .known false), (43, .val (.dat .bool false))]) (kF := [1, 24]) (kL := [1]) (fr' := [(1, .one (.ptr 1 0)), (24, aB (decide ((List.length v10 : Int) > (4 : Int))))]) (L' := [(1, .cells [.dat (.slice (.slice .bool)) a0])]) (obs := [((decide ((List.length v10 : Int) < (1 : Int))) = false), ((decide ((List.length v10 : Int) < (1 : Int))) = false), Idx a0 (0 : Int) v10, ((decide ((List.length v10 : Int) < (1 : Int))) = false), ((decide ((List.length v10 : Int) < (1 : Int))) = false), ((decide ((List.length v10 : Int) < (1 : Int))) = false), ((decide ((List.length v10 : Int) < (1 : Int))) = false)]) rfl (by kernel_rfl) (allP2 h12 (allP2 h12 (allP2 (Idx.of h11) (allP2 h12 (allP2 h12 (allP2 h12 (allP1 h12))))))) ?_
        obtain rfl := Option.some.inj h
        refine WO_fin [1, 24] [1] (fr' := [(1, .one (.ptr 1 0)), (24, aB (decide ((List.length v10 : Int) > (4 : Int))))]) (L' := [(1, .cells [.dat (.slice (.slice .bool)) a0])]) (by kernel_rfl) (by kernel_rfl) ?_
        exact exQ_mk (by kernel_rfl) (by kernel_rfl)
  · intro e fr L hJ
    obtain ⟨rfl, rfl, rfl⟩ := hJ
    refine LT_keep [1, 24] [1] (fr' := [(1, .one (.ptr 1 0)), (24, aB v13)]) (L' := [(1, .cells [.dat (.slice (.slice .bool)) a0])]) (by kernel_rfl) ?_
    refine seqQ_norm ?_
    refine W_cond (o := .tmp 24) (b := v13) (by kernel_rfl) (by kernel_rfl) (fun h15 => ?_) (fun h15 => ?_)
    · replace h := ofT h15 h
      refine W_seq (by kernel_rfl) ?_
      refine W_run 1 [] [2] [] (fr' := [(2, aI (1 : Int))]) (L' := []) (obs := []) (by kernel_rfl) (by kernel_rfl) (by kernel_rfl) allP0 ?_
      refine seqQ_norm ?_
      obtain rfl := Option.some.inj h
      refine W_ret [2] [] (fr' := [(2, aI (1 : Int))]) (L' := []) (by kernel_rfl) (by kernel_rfl) ?_
      refine seqQ_ret ?_
      exact retQ_mk (by kernel_rfl) (by kernel_rfl) (by kernel_rfl)
    · replace h := ofF h15 h
      refine W_skip [1] [1] (fr' := [(1, .one (.ptr 1 0))]) (L' := [(1, .cells [.dat (.slice (.slice .bool)) a0])]) (by kernel_rfl) (by kernel_rfl) ?_
      refine seqQ_norm ?_
      refine W_seq (by kernel_rfl) ?_
      refine W_seq (by kernel_rfl) ?_
      refine W_region (by kernel_rfl) ?_
      refine WO_run (j := 2) (k := 2) (orcs := []) (kF := [25, 26]) (kL := [1]) (fr' := [(25, aD (.slice (.slice .bool)) a0), (26, .one (.fn 85 [(1, 0)]))]) (L' := [(1, .cells [.dat (.slice (.slice .bool)) a0])]) (obs := []) rfl (by kernel_rfl) allP0 ?_
      obtain ⟨r16, h17, h⟩ := bind_of h
      refine WO_lend [(1000, 1)] (us := [none, none]) (d := 27) (p := True) (j := 3) rfl ⟨by kernel_rfl, by kernel_rfl, by kernel_rfl⟩ trivial (slices_ContainsFunc_LLboolLbool_with_talk_wrong_1_ok h17) (by kernel_rfl) (by kernel_rfl) ?_
      refine WO_fin [27] [] (fr' := [(27, aB r16)]) (L' := []) (by kernel_rfl) (by kernel_rfl) ?_
      refine seqQ_norm ?_
      refine W_cond (o := .tmp 27) (b := r16) (by kernel_rfl) (by kernel_rfl) (fun h18 => ?_) (fun h18 => ?_)
      · replace h := ofT h18 h
        refine W_seq (by kernel_rfl) ?_
        refine W_run 1 [] [2] [] (fr' := [(2, aI (3 : Int))]) (L' := []) (obs := []) (by kernel_rfl) (by kernel_rfl) (by kernel_rfl) allP0 ?_
        refine seqQ_norm ?_
        obtain rfl := Option.some.inj h
        refine W_ret [2] [] (fr' := [(2, aI (3 : Int))]) (L' := []) (by kernel_rfl) (by kernel_rfl) ?_
        refine seqQ_ret ?_
        exact retQ_mk (by kernel_rfl) (by kernel_rfl) (by kernel_rfl)
      · replace h := ofF h18 h
        refine W_skip [] [] (fr' := []) (L' := []) (by kernel_rfl) (by kernel_rfl) ?_
        refine seqQ_norm ?_
        refine W_seq (by kernel_rfl) ?_
        refine W_run 1 [] [2] [] (fr' := [(2, aI (0 : Int))]) (L' := []) (obs := []) (by kernel_rfl) (by kernel_rfl) (by kernel_rfl) allP0 ?_
        refine seqQ_norm ?_
        obtain rfl := Option.some.inj h
        refine W_ret [2] [] (fr' := [(2, aI (0 : Int))]) (L' := []) (by kernel_rfl) (by kernel_rfl) ?_
        exact retQ_mk (by kernel_rfl) (by kernel_rfl) (by kernel_rfl)

def talk_Rank_1 (a0 : (List Int)) (c0 : Int) : Option Bool :=
(idx a0 c0).bind fun v1 =>
some (v1 != (0 : Int))
theorem talk_Rank_1_ok {a0 : (List Int)} {c0 : Int} {r : Bool} (h : talk_Rank_1 a0 c0 = some r) : FnC Try.prog 56 [aD (.slice tI) a0, .one (.ptr 1000 0)] [(1000, .cells [.dat tI c0])] (aB r) [(1000, .cells [.dat tI c0])] := by
  refine fnC_of_W (B := bodyOf Try.f56) (n := 9) Try.func56 (by kernel_rfl) (by kernel_rfl) (by kernel_rfl) (by kernel_rfl) (by kernel_rfl) ?_
  intro K
  refine W_seq (by kernel_rfl) ?_
  refine W_run 1 [] [0, 1] [1000] (fr' := [(0, aD (.slice tI) a0), (1, .one (.ptr 1000 0))]) (L' := [(1000, .cells [.dat tI c0])]) (obs := []) (by kernel_rfl) (by kernel_rfl) (by kernel_rfl) allP0 ?_
  refine seqQ_norm ?_
  refine W_seq (by kernel_rfl) ?_
  obtain ⟨v1, h2, h⟩ := bind_of h
  refine W_run 6 [(5, .val (.dat tI v1))] [3] [1000] (fr' := [(3, aB (v1 != (0 : Int)))]) (L' := [(1000, .cells [.dat tI c0])]) (obs := [Idx a0 c0 v1]) (by kernel_rfl) (by kernel_rfl) (by kernel_rfl) (allP1 (Idx.of h2)) ?_
  refine seqQ_norm ?_
  obtain rfl := Option.some.inj h
  refine W_ret [3] [1000] (fr' := [(3, aB (v1 != (0 : Int)))]) (L' := [(1000, .cells [.dat tI c0])]) (by kernel_rfl) (by kernel_rfl) ?_
  exact retQ_mk (by kernel_rfl) (by kernel_rfl) (by kernel_rfl)

def slices_IndexFunc_LLintLint_with_talk_Rank_1_b1 (c0 : Int) (i15 : Int) (v18 : (List Int)) (x16 : Unit) : Option (Flow Unit (Esc Int Unit)) :=
(talk_Rank_1 v18 c0).bind fun r21 =>
bif r21 then
(some (.done (.ret i15)))
else
(some (.next ()))
@[reducible] def slices_IndexFunc_LLintLint_with_talk_Rank_1_s2 (a0 : (List (List Int))) (c0 : Int) (v : Int × Unit) : Fr × LL := ([(0, aD (.slice (.slice tI)) a0), (1, .one (.fn 56 [(1000, 0)])), (7, aI (List.length a0 : Int)), (8, aI v.1)], [(1000, .cells [.dat tI c0])])
@[reducible] def slices_IndexFunc_LLintLint_with_talk_Rank_1_s3 (c0 : Int) (v : Int) : Fr × LL := ([(4, aI v)], [(1000, .cells [.dat tI c0])])
@[reducible] def slices_IndexFunc_LLintLint_with_talk_Rank_1_s4 (c0 : Int) (v : Unit) : Fr × LL := ([], [(1000, .cells [.dat tI c0])])
def slices_IndexFunc_LLintLint_with_talk_Rank_1 (a0 : (List (List Int))) (c0 : Int) : Option Int :=
(forL (slices_IndexFunc_LLintLint_with_talk_Rank_1_b1 c0) (fun x16 => (.brk ())) a0 0 ()).bind fun v25 =>
match v25 with
| .ret v30 =>
(some v30)
| .brk v31 =>
(some (-1 : Int))
theorem slices_IndexFunc_LLintLint_with_talk_Rank_1_ok {a0 : (List (List Int))} {c0 : Int} {r : Int} (h : slices_IndexFunc_LLintLint_with_talk_Rank_1 a0 c0 = some r) : FnC Try.prog 55 [aD (.slice (.slice tI)) a0, .one (.fn 56 [(1000, 0)])] [(1000, .cells [.dat tI c0])] (aI r) [(1000, .cells [.dat tI c0])] := by
  refine fnC_of_W (B := bodyOf Try.f55) (n := 19) Try.func55 (by kernel_rfl) (by kernel_rfl) (by kernel_rfl) (by kernel_rfl) (by kernel_rfl) ?_
  intro K
  refine W_seq (by kernel_rfl) ?_
  refine W_run 1 [] [0, 1] [1000] (fr' := [(0, aD (.slice (.slice tI)) a0), (1, .one (.fn 56 [(1000, 0)]))]) (L' := [(1000, .cells [.dat tI c0])]) (obs := []) (by kernel_rfl) (by kernel_rfl) (by kernel_rfl) allP0 ?_
  refine seqQ_norm ?_
  refine W_seq (by kernel_rfl) ?_
  refine W_seq (by kernel_rfl) ?_
  refine W_run 3 [] [0, 1, 7, 8] [1000] (fr' := [(0, aD (.slice (.slice tI)) a0), (1, .one (.fn 56 [(1000, 0)])), (7, aI (List.length a0 : Int)), (8, aI (0 : Int))]) (L' := [(1000, .cells [.dat tI c0])]) (obs := []) (by kernel_rfl) (by kernel_rfl) (by kernel_rfl) allP0 ?_
  refine seqQ_norm ?_
  refine W_block (id := 0) (by kernel_rfl) ?_
  obtain ⟨v25, h26, h⟩ := bind_of h
  refine W_len (t := 0) (u := (.slice tI)) (xs := a0) (by kernel_rfl) (fun h29 => ?_)
  obtain ⟨h27, h28⟩ := forL_iter h29 h26
  refine W_weaken [0, 1, 7, 8] [1000] (fr' := ((slices_IndexFunc_LLintLint_with_talk_Rank_1_s2 a0 c0) ((0 : Int), ())).1) (L' := ((slices_IndexFunc_LLintLint_with_talk_Rank_1_s2 a0 c0) ((0 : Int), ())).2) (by kernel_rfl) ?_
  refine W_cutK (W_loop (S := (slices_IndexFunc_LLintLint_with_talk_Rank_1_s2 a0 c0)) (J := (escQ (exQ .ret (slices_IndexFunc_LLintLint_with_talk_Rank_1_s3 c0)) (exQ (.exit 0) (slices_IndexFunc_LLintLint_with_talk_Rank_1_s4 c0)))) (by kernel_rfl) ?_ h27 _ v25 h28) ?_
  · rintro ⟨i15, x16⟩ s h
    refine W_seq (by kernel_rfl) ?_
    refine W_run 1 [] [0, 1, 7, 8, 9] [1000] (fr' := [(0, aD (.slice (.slice tI)) a0), (1, .one (.fn 56 [(1000, 0)])), (7, aI (List.length a0 : Int)), (8, aI i15), (9, aB (decide (i15 < (List.length a0 : Int))))]) (L' := [(1000, .cells [.dat tI c0])]) (obs := []) (by kernel_rfl) (by kernel_rfl) (by kernel_rfl) allP0 ?_
    refine seqQ_norm ?_
    refine W_seq (by kernel_rfl) ?_
    refine W_cond (o := .tmp 9) (b := decide (i15 < (List.length a0 : Int))) (by kernel_rfl) (by kernel_rfl) (fun h20 => ?_) (fun h20 => ?_)
    · replace h := stepL_true h20 h
      obtain ⟨v18, _, h19, h, rfl⟩ := h
      refine W_skip [0, 1, 7, 8] [1000] (fr' := [(0, aD (.slice (.slice tI)) a0), (1, .one (.fn 56 [(1000, 0)])), (7, aI (List.length a0 : Int)), (8, aI i15)]) (L' := [(1000, .cells [.dat tI c0])]) (by kernel_rfl) (by kernel_rfl) ?_
      refine seqQ_norm ?_
      refine W_seq (by kernel_rfl) ?_
      refine W_block (id := 1) (by kernel_rfl) ?_
      refine W_seq (by kernel_rfl) ?_
      refine W_run 2 [] [0, 1, 5, 7, 8] [1000] (fr' := [(0, aD (.slice (.slice tI)) a0), (1, .one (.fn 56 [(1000, 0)])), (5, aI i15), (7, aI (List.length a0 : Int)), (8, aI i15)]) (L' := [(1000, .cells [.dat tI c0])]) (obs := []) (by kernel_rfl) (by kernel_rfl) (by kernel_rfl) allP0 ?_
      refine seqQ_norm ?_
      refine W_seq (by kernel_rfl) ?_
      refine W_region (by kernel_rfl) ?_
      refine WO_run (j := 5) (k := 5) (orcs := [(7, .val (.dat (.slice tI) v18))]) (kF := [0, 1, 5, 7, 8, 11, 15]) (kL := [1000]) (fr' := [(0, aD (.slice (.slice tI)) a0), (1, .one (.fn 56 [(1000, 0)])), (5, aI i15), (7, aI (List.length a0 : Int)), (8, aI i15), (11, .one (.fn 56 [(1000, 0)])), (15, aD (.slice tI) v18)]) (L' := [(1000, .cells [.dat tI c0])]) (obs := [Idx a0 i15 v18]) rfl (by kernel_rfl) (allP1 (Idx.of h19)) ?_
      obtain ⟨r21, h22, h⟩ := bind_of h
      refine WO_lend [(1000, 1000)] (us := [none, none]) (d := 16) (p := True) (j := 6) rfl ⟨by kernel_rfl, by kernel_rfl, by kernel_rfl⟩ trivial (talk_Rank_1_ok h22) (by kernel_rfl) (by kernel_rfl) ?_
      refine WO_fin [0, 1, 5, 7, 8, 16] [1000] (fr' := [(0, aD (.slice (.slice tI)) a0), (1, .one (.fn 56 [(1000, 0)])), (5, aI i15), (7, aI (List.length a0 : Int)), (8, aI i15), (16, aB r21)]) (L' := [(1000, .cells [.dat tI c0])]) (by kernel_rfl) (by kernel_rfl) ?_
      refine seqQ_norm ?_
      refine W_cond (o := .tmp 16) (b := r21) (by kernel_rfl) (by kernel_rfl) (fun h23 => ?_) (fun h23 => ?_)
      · replace h := ofT h23 h
        refine W_seq (by kernel_rfl) ?_
        refine W_run 2 [] [4] [1000] (fr' := [(4, aI i15)]) (L' := [(1000, .cells [.dat tI c0])]) (obs := []) (by kernel_rfl) (by kernel_rfl) (by kernel_rfl) allP0 ?_
        refine seqQ_norm ?_
        obtain rfl := Option.some.inj h
        refine W_ret [4] [1000] (fr' := [(4, aI i15)]) (L' := [(1000, .cells [.dat tI c0])]) (by kernel_rfl) (by kernel_rfl) ?_
        refine blockQ_ret ?_
        refine seqQ_ret ?_
        refine round_ret ?_
        refine escQ_ret ?_
        exact exQ_mk (by kernel_rfl) (by kernel_rfl)
      · replace h := ofF h23 h
        refine W_skip [0, 1, 7, 8] [1000] (fr' := [(0, aD (.slice (.slice tI)) a0), (1, .one (.fn 56 [(1000, 0)])), (7, aI (List.length a0 : Int)), (8, aI i15)]) (L' := [(1000, .cells [.dat tI c0])]) (by kernel_rfl) (by kernel_rfl) ?_
        refine blockQ_norm ?_
        refine seqQ_norm ?_
        obtain rfl := Option.some.inj h
        refine W_run 2 [] [0, 1, 7, 8] [1000] (fr' := [(0, aD (.slice (.slice tI)) a0), (1, .one (.fn 56 [(1000, 0)])), (7, aI (List.length a0 : Int)), (8, aI (w64 (i15 + (1 : Int))))]) (L' := [(1000, .cells [.dat tI c0])]) (obs := []) (by kernel_rfl) (by kernel_rfl) (by kernel_rfl) allP0 ?_
        exact round_next' (by kernel_rfl) (by kernel_rfl)
    · obtain rfl := stepL_false h20 h
      refine W_exit (id := 0) [] [1000] (fr' := []) (L' := [(1000, .cells [.dat tI c0])]) (by kernel_rfl) (by kernel_rfl) ?_
      refine seqQ_exit ?_
      refine round_exit ?_
      refine escQ_brk ?_
      exact exQ_mk (by kernel_rfl) (by kernel_rfl)
  · intro e fr L hJ
    rcases v25 with v30 | v31
    · obtain ⟨rfl, rfl, rfl⟩ := hJ
      obtain rfl := Option.some.inj h
      refine LT_keep [4] [1000] (fr' := [(4, aI v30)]) (L' := [(1000, .cells [.dat tI c0])]) (by kernel_rfl) ?_
      refine blockQ_ret ?_
      refine seqQ_ret ?_
      exact retQ_mk (by kernel_rfl) (by kernel_rfl) (by kernel_rfl)
    · obtain ⟨rfl, rfl, rfl⟩ := hJ
      refine LT_keep [] [1000] (fr' := []) (L' := [(1000, .cells [.dat tI c0])]) (by kernel_rfl) ?_
      refine blockQ_hit ?_
      refine seqQ_norm ?_
      refine W_seq (by kernel_rfl) ?_
      refine W_run 1 [] [4] [1000] (fr' := [(4, aI (-1 : Int))]) (L' := [(1000, .cells [.dat tI c0])]) (obs := []) (by kernel_rfl) (by kernel_rfl) (by kernel_rfl) allP0 ?_
      refine seqQ_norm ?_
      obtain rfl := Option.some.inj h
      refine W_ret [4] [1000] (fr' := [(4, aI (-1 : Int))]) (L' := [(1000, .cells [.dat tI c0])]) (by kernel_rfl) (by kernel_rfl) ?_
      exact retQ_mk (by kernel_rfl) (by kernel_rfl) (by kernel_rfl)

@[reducible] def talk_Rank_s24 (a0 : (List (List Bool))) (i129 : Int) (x130 : (List (List Int))) (v132 : (List Bool)) (i169 : Int) (x170 : (List Int)) (v : Int) : Fr × LL := ([(5, .one (.slc 45)), (8, .one (.slc 40)), (11, aI v), (24, aD (.slice (.slice .bool)) a0), (25, aI (List.length a0 : Int)), (26, aI i129), (30, aD (.slice .bool) v132), (31, aI (List.length v132 : Int)), (32, aI i169)], [(45, .rows 0 (.slice tI) x130 []), (40, .seq tI x170)])
def talk_Rank_b25 (i169 : Int) (v172 : Bool) (x170 : (List Int)) : Option (Flow (List Int) (List Int)) :=
(bif v172 then
(some (1 : Int))
else
(some (0 : Int))).bind fun v184 =>
(ck ((List.length x170 : Int) + 1 ≤ 4294967296)).bind fun _ =>
some (.next (x170 ++ [v184]))
@[reducible] def talk_Rank_s26 (a0 : (List (List Bool))) (i129 : Int) (x130 : (List (List Int))) (v132 : (List Bool)) (v : Int × (List Int)) : Fr × LL := ([(5, .one (.slc 45)), (8, .one (.slc 40)), (24, aD (.slice (.slice .bool)) a0), (25, aI (List.length a0 : Int)), (26, aI i129), (30, aD (.slice .bool) v132), (31, aI (List.length v132 : Int)), (32, aI v.1)], [(45, .rows 0 (.slice tI) x130 []), (40, .seq tI v.2)])
@[reducible] def talk_Rank_s27 (a0 : (List (List Bool))) (i129 : Int) (x130 : (List (List Int))) (v : (List Int)) : Fr × LL := ([(5, .one (.slc 45)), (8, .one (.slc 40)), (24, aD (.slice (.slice .bool)) a0), (25, aI (List.length a0 : Int)), (26, aI i129)], [(45, .rows 0 (.slice tI) x130 []), (40, .seq tI v)])
def talk_Rank_b28 (i129 : Int) (v132 : (List Bool)) (x130 : (List (List Int))) : Option (Flow (List (List Int)) (List (List Int))) :=
(forL talk_Rank_b25 (fun x170 => x170) v132 0 []).bind fun v188 =>
(ck ((List.length x130 : Int) + 1 ≤ 4294967296)).bind fun _ =>
some (.next (List.set ((x130 : (List (List Int))) ++ [([] : List Int)]) (Int.toNat (List.length x130 : Int)) v188))
@[reducible] def talk_Rank_s29 (a0 : (List (List Bool))) (v : Int × (List (List Int))) : Fr × LL := ([(5, .one (.slc 45)), (24, aD (.slice (.slice .bool)) a0), (25, aI (List.length a0 : Int)), (26, aI v.1)], [(45, .rows 0 (.slice tI) v.2 [])])
@[reducible] def talk_Rank_s30 (v : (List (List Int))) : Fr × LL := ([(5, .one (.slc 45))], [(45, .rows 0 (.slice tI) v [])])
def talk_Rank_b139 (x1883 : (Int × (List (List Int)))) (x2590 : (Int × (List (List Int)))) (v2706 : Int) (v2708 : Int) (i2750 : Int) (x2751 : (List (List Int))) : Option (Flow (List (List Int)) (List (List Int))) :=
(idx x2751 x2590.1).bind fun v2756 =>
(idx x2751 x1883.1).bind fun v2762 =>
(idx v2756 i2750).bind fun v2772 =>
(idx v2762 i2750).bind fun v2774 =>
some (.next (List.set x2751 (Int.toNat x2590.1) (List.set v2756 (Int.toNat i2750) (w64 ((w64 (v2772 * v2706)) - (w64 (v2774 * v2708)))))))
@[reducible] def talk_Rank_s140 (v200 : (List Int)) (i1882 : Int) (x1883 : (Int × (List (List Int)))) (x2590 : (Int × (List (List Int)))) (v2695 : (List Int)) (v2706 : Int) (v2708 : Int) (v : Int × (List (List Int))) : Fr × LL := ([(5, .one (.slc 45)), (12, aI x1883.1), (13, .one (.ptr 13 0)), (15, aI x2590.1), (16, aI v2706), (17, aI v2708), (50, aI (List.length v200 : Int)), (51, aI i1882), (105, aI (List.length v2695 : Int)), (106, aI v.1)], [(13, .cells [.dat tI i1882]), (45, .rows 0 (.slice tI) v.2 [])])
@[reducible] def talk_Rank_s141 (v200 : (List Int)) (i1882 : Int) (x1883 : (Int × (List (List Int)))) (x2590 : (Int × (List (List Int)))) (v : (List (List Int))) : Fr × LL := ([(5, .one (.slc 45)), (12, aI x1883.1), (13, .one (.ptr 13 0)), (15, aI x2590.1), (50, aI (List.length v200 : Int)), (51, aI i1882)], [(13, .cells [.dat tI i1882]), (45, .rows 0 (.slice tI) v [])])
def talk_Rank_b142 (i1882 : Int) (x1883 : (Int × (List (List Int)))) (x2590 : (Int × (List (List Int)))) : Option (Flow (Int × (List (List Int))) (List (List Int))) :=
bif decide (x2590.1 < (List.length x2590.2 : Int)) then
((idx x2590.2 x1883.1).bind fun v2689 =>
(idx x2590.2 x2590.1).bind fun v2695 =>
(ck (x1883.1 ≠ x2590.1)).bind fun _ =>
(idx v2689 i1882).bind fun v2706 =>
(idx v2695 i1882).bind fun v2708 =>
(forI (0 : Int) (List.length v2695 : Int) (talk_Rank_b139 x1883 x2590 v2706 v2708) (fun x2751 => x2751) x2590.2).bind fun v2777 =>
some (.next (w64 (x2590.1 + (1 : Int)), v2777)))
else
(some (.done x2590.2))
@[reducible] def talk_Rank_s143 (v200 : (List Int)) (i1882 : Int) (x1883 : (Int × (List (List Int)))) (v : (Int × (List (List Int)))) : Fr × LL := ([(5, .one (.slc 45)), (12, aI x1883.1), (13, .one (.ptr 13 0)), (15, aI v.1), (50, aI (List.length v200 : Int)), (51, aI i1882)], [(13, .cells [.dat tI i1882]), (45, .rows 0 (.slice tI) v.2 [])])
@[reducible] def talk_Rank_s144 (v200 : (List Int)) (i1882 : Int) (x1883 : (Int × (List (List Int)))) (v : (List (List Int))) : Fr × LL := ([(5, .one (.slc 45)), (12, aI x1883.1), (50, aI (List.length v200 : Int)), (51, aI i1882)], [(45, .rows 0 (.slice tI) v [])])
def talk_Rank_g145 (fuel : Nat) (i1882 : Int) (x1883 : (Int × (List (List Int)))) : Option (Esc Unit (Int × (List (List Int)))) :=
(ck (0 ≤ x1883.1 ∧ x1883.1 ≤ (List.length x1883.2 : Int) ∧ (List.length x1883.2 : Int) ≤ (List.length x1883.2 : Int))).bind fun _ =>
(slices_IndexFunc_LLintLint_with_talk_Rank_1 (sub x1883.2 x1883.1 (List.length x1883.2 : Int)) i1882).bind fun r2487 =>
bif decide (r2487 < (0 : Int)) then
(some (.brk (x1883.1, x1883.2)))
else
((idx x1883.2 (w64 (x1883.1 + r2487))).bind fun v2490 =>
(idx x1883.2 x1883.1).bind fun v2492 =>
(iter (talk_Rank_b142 i1882 x1883) fuel (w64 (x1883.1 + (1 : Int)), List.set (List.set x1883.2 (Int.toNat x1883.1) v2490) (Int.toNat (w64 (x1883.1 + r2487))) v2492)).bind fun v2781 =>
bif (w64 (x1883.1 + (1 : Int))) == (List.length v2781 : Int) then
(some (.ret ()))
else
(some (.brk (w64 (x1883.1 + (1 : Int)), v2781))))
@[reducible] def talk_Rank_s146 (x1883 : (Int × (List (List Int)))) (v : Unit) : Fr × LL := ([(12, aI (w64 (x1883.1 + (1 : Int))))], [])
@[reducible] def talk_Rank_s147 (v200 : (List Int)) (i1882 : Int) (v : (Int × (List (List Int)))) : Fr × LL := ([(5, .one (.slc 45)), (12, aI v.1), (50, aI (List.length v200 : Int)), (51, aI i1882)], [(45, .rows 0 (.slice tI) v.2 [])])
def talk_Rank_b148 (fuel : Nat) (i1882 : Int) (x1883 : (Int × (List (List Int)))) : Option (Flow (Int × (List (List Int))) Int) :=
(talk_Rank_g145 fuel i1882 x1883).bind fun v2786 =>
match v2786 with
| .ret v2788 =>
(some (.done (w64 (x1883.1 + (1 : Int)))))
| .brk v2789 =>
(some (.next (v2789.1, v2789.2)))
@[reducible] def talk_Rank_s149 (v200 : (List Int)) (v : Int × (Int × (List (List Int)))) : Fr × LL := ([(5, .one (.slc 45)), (12, aI v.2.1), (50, aI (List.length v200 : Int)), (51, aI v.1)], [(45, .rows 0 (.slice tI) v.2.2 [])])
@[reducible] def talk_Rank_s150 (v : Int) : Fr × LL := ([(12, aI v)], [])
def talk_Rank (fuel : Nat) (a0 : (List (List Bool))) : Option (Int × Int) :=
(talk_wrong a0).bind fun r1 =>
bif r1 != (0 : Int) then
(some ((0 : Int), r1))
else
((forL talk_Rank_b28 (fun x130 => x130) a0 0 []).bind fun v195 =>
(idx v195 (0 : Int)).bind fun v200 =>
(forI (0 : Int) (List.length v200 : Int) (talk_Rank_b148 fuel) (fun x1883 => x1883.1) ((0 : Int), v195)).bind fun v2791 =>
some (v2791, (0 : Int)))
theorem talk_Rank_ok {fuel : Nat} {a0 : (List (List Bool))} {r : (Int × Int)} (h : talk_Rank fuel a0 = some r) : FnC Try.prog 20 [aD (.slice (.slice .bool)) a0] [] (.tup [.dat tI r.1, .dat tI r.2]) [] := by
  refine fnC_of_W (B := bodyOf Try.f20) (n := 143) Try.func20 (by kernel_rfl) (by kernel_rfl) (by kernel_rfl) (by kernel_rfl) (by kernel_rfl) ?_
  intro K
  refine W_seq (by kernel_rfl) ?_
  refine W_run 2 [] [0] [] (fr' := [(0, aD (.slice (.slice .bool)) a0)]) (L' := []) (obs := []) (by kernel_rfl) (by kernel_rfl) (by kernel_rfl) allP0 ?_
  refine seqQ_norm ?_
  refine W_seq (by kernel_rfl) ?_
  refine W_seq (by kernel_rfl) ?_
  refine W_region (by kernel_rfl) ?_
  refine WO_run (j := 1) (k := 1) (orcs := []) (kF := [0, 19]) (kL := []) (fr' := [(0, aD (.slice (.slice .bool)) a0), (19, aD (.slice (.slice .bool)) a0)]) (L' := []) (obs := []) rfl (by kernel_rfl) allP0 ?_
  obtain ⟨r1, h2, h⟩ := bind_of h
  refine WO_call0 (us := [none]) (d := 20) (p := True) (j := 2) rfl ⟨by kernel_rfl, by kernel_rfl, by kernel_rfl⟩ trivial (talk_wrong_ok h2) (by kernel_rfl) ?_
  refine WO_run (j := 3) (k := 1) (orcs := []) (kF := [0, 4]) (kL := []) (fr' := [(0, aD (.slice (.slice .bool)) a0), (4, aI r1)]) (L' := []) (obs := []) rfl (by kernel_rfl) allP0 ?_
  refine WO_fin [0, 4] [] (fr' := [(0, aD (.slice (.slice .bool)) a0), (4, aI r1)]) (L' := []) (by kernel_rfl) (by kernel_rfl) ?_
  refine seqQ_norm ?_
  refine W_seq (by kernel_rfl) ?_
  refine W_run 2 [] [0, 4, 22] [] (fr' := [(0, aD (.slice (.slice .bool)) a0), (4, aI r1), (22, aB (r1 != (0 : Int)))]) (L' := []) (obs := []) (by kernel_rfl) (by kernel_rfl) (by kernel_rfl) allP0 ?_
  refine seqQ_norm ?_
  refine W_cond (o := .tmp 22) (b := r1 != (0 : Int)) (by kernel_rfl) (by kernel_rfl) (fun h3 => ?_) (fun h3 => ?_)
  · replace h := ofT h3 h
    refine W_seq (by kernel_rfl) ?_
    refine W_run 3 [] [2, 3] [] (fr' := [(2, aI (0 : Int)), (3, aI r1)]) (L' := []) (obs := []) (by kernel_rfl) (by kernel_rfl) (by kernel_rfl) allP0 ?_
    refine seqQ_norm ?_
    obtain rfl := Option.some.inj h
    refine W_ret [2, 3] [] (fr' := [(2, aI (0 : Int)), (3, aI r1)]) (L' := []) (by kernel_rfl) (by kernel_rfl) ?_
    refine seqQ_ret ?_
    exact retQ_mk (by kernel_rfl) (by kernel_rfl) (by kernel_rfl)
  · replace h := ofF h3 h
    refine W_skip [0] [] (fr' := [(0, aD (.slice (.slice .bool)) a0)]) (L' := []) (by kernel_rfl) (by kernel_rfl) ?_
    refine seqQ_norm ?_
    refine W_seq (by kernel_rfl) ?_
    refine W_run 1 [] [0, 5] [] (fr' := [(0, aD (.slice (.slice .bool)) a0), (5, .one (.nilS))]) (L' := []) (obs := []) (by kernel_rfl) (by kernel_rfl) (by kernel_rfl) allP0 ?_
    refine seqQ_norm ?_
    refine W_seq (by kernel_rfl) ?_
    refine W_seq (by kernel_rfl) ?_
    refine W_run 3 [] [5, 24, 25, 26] [] (fr' := [(5, .one (.nilS)), (24, aD (.slice (.slice .bool)) a0), (25, aI (List.length a0 : Int)), (26, aI (0 : Int))]) (L' := []) (obs := []) (by kernel_rfl) (by kernel_rfl) (by kernel_rfl) allP0 ?_
    refine seqQ_norm ?_
    refine W_block (id := 0) (by kernel_rfl) ?_
    obtain ⟨v195, h196, h⟩ := bind_of h
    refine W_len (t := 24) (u := (.slice .bool)) (xs := a0) (by kernel_rfl) (fun h199 => ?_)
    obtain ⟨h197, h198⟩ := forL_iter h199 h196
    refine W_mineR 5 45 0 (.slice tI) (by kernel_rfl) ?_
    refine W_weaken [5, 24, 25, 26] [45] (fr' := ((talk_Rank_s29 a0) ((0 : Int), [])).1) (L' := ((talk_Rank_s29 a0) ((0 : Int), [])).2) (by kernel_rfl) ?_
    refine W_cutK (W_loop (S := (talk_Rank_s29 a0)) (J := (exQ (.exit 0) talk_Rank_s30)) (by kernel_rfl) ?_ h197 _ v195 h198) ?_
    · rintro ⟨i129, x130⟩ s h
      refine W_seq (by kernel_rfl) ?_
      refine W_run 1 [] [5, 24, 25, 26, 27] [45] (fr' := [(5, .one (.slc 45)), (24, aD (.slice (.slice .bool)) a0), (25, aI (List.length a0 : Int)), (26, aI i129), (27, aB (decide (i129 < (List.length a0 : Int))))]) (L' := [(45, .rows 0 (.slice tI) x130 [])]) (obs := []) (by kernel_rfl) (by kernel_rfl) (by kernel_rfl) allP0 ?_
      refine seqQ_norm ?_
      refine W_seq (by kernel_rfl) ?_
      refine W_cond (o := .tmp 27) (b := decide (i129 < (List.length a0 : Int))) (by kernel_rfl) (by kernel_rfl) (fun h134 => ?_) (fun h134 => ?_)
      · replace h := stepL_true h134 h
        obtain ⟨v132, _, h133, h, rfl⟩ := h
        refine W_skip [5, 24, 25, 26] [45] (fr' := [(5, .one (.slc 45)), (24, aD (.slice (.slice .bool)) a0), (25, aI (List.length a0 : Int)), (26, aI i129)]) (L' := [(45, .rows 0 (.slice tI) x130 [])]) (by kernel_rfl) (by kernel_rfl) ?_
        refine seqQ_norm ?_
        refine W_seq (by kernel_rfl) ?_
        refine W_block (id := 1) (by kernel_rfl) ?_
        refine W_seq (by kernel_rfl) ?_
        refine W_run 3 [(1, .val (.dat (.slice .bool) v132))] [5, 7, 24, 25, 26] [45] (fr' := [(5, .one (.slc 45)), (7, aD (.slice .bool) v132), (24, aD (.slice (.slice .bool)) a0), (25, aI (List.length a0 : Int)), (26, aI i129)]) (L' := [(45, .rows 0 (.slice tI) x130 [])]) (obs := [Idx a0 i129 v132]) (by kernel_rfl) (by kernel_rfl) (by kernel_rfl) (allP1 (Idx.of h133)) ?_
        refine seqQ_norm ?_
        refine W_seq (by kernel_rfl) ?_
        refine W_run 1 [] [5, 7, 8, 24, 25, 26] [45] (fr' := [(5, .one (.slc 45)), (7, aD (.slice .bool) v132), (8, .one (.nilS)), (24, aD (.slice (.slice .bool)) a0), (25, aI (List.length a0 : Int)), (26, aI i129)]) (L' := [(45, .rows 0 (.slice tI) x130 [])]) (obs := []) (by kernel_rfl) (by kernel_rfl) (by kernel_rfl) allP0 ?_
        refine seqQ_norm ?_
        refine W_seq (by kernel_rfl) ?_
        refine W_seq (by kernel_rfl) ?_
        refine W_run 3 [] [5, 8, 24, 25, 26, 30, 31, 32] [45] (fr' := [(5, .one (.slc 45)), (8, .one (.nilS)), (24, aD (.slice (.slice .bool)) a0), (25, aI (List.length a0 : Int)), (26, aI i129), (30, aD (.slice .bool) v132), (31, aI (List.length v132 : Int)), (32, aI (0 : Int))]) (L' := [(45, .rows 0 (.slice tI) x130 [])]) (obs := []) (by kernel_rfl) (by kernel_rfl) (by kernel_rfl) allP0 ?_
        refine seqQ_norm ?_
        refine W_block (id := 2) (by kernel_rfl) ?_
        obtain ⟨v188, h189, h⟩ := bind_of h
        refine W_len (t := 30) (u := .bool) (xs := v132) (by kernel_rfl) (fun h192 => ?_)
        obtain ⟨h190, h191⟩ := forL_iter h192 h189
        refine W_mine 8 40 tI (by kernel_rfl) ?_
        refine W_weaken [5, 8, 24, 25, 26, 30, 31, 32] [45, 40] (fr' := ((talk_Rank_s26 a0 i129 x130 v132) ((0 : Int), [])).1) (L' := ((talk_Rank_s26 a0 i129 x130 v132) ((0 : Int), [])).2) (by kernel_rfl) ?_
        refine W_cutK (W_loop (S := (talk_Rank_s26 a0 i129 x130 v132)) (J := (exQ (.exit 2) (talk_Rank_s27 a0 i129 x130))) (by kernel_rfl) ?_ h190 _ v188 h191) ?_
        · rintro ⟨i169, x170⟩ s h
          refine W_seq (by kernel_rfl) ?_
          refine W_run 1 [] [5, 8, 24, 25, 26, 30, 31, 32, 33] [45, 40] (fr' := [(5, .one (.slc 45)), (8, .one (.slc 40)), (24, aD (.slice (.slice .bool)) a0), (25, aI (List.length a0 : Int)), (26, aI i129), (30, aD (.slice .bool) v132), (31, aI (List.length v132 : Int)), (32, aI i169), (33, aB (decide (i169 < (List.length v132 : Int))))]) (L' := [(45, .rows 0 (.slice tI) x130 []), (40, .seq tI x170)]) (obs := []) (by kernel_rfl) (by kernel_rfl) (by kernel_rfl) allP0 ?_
          refine seqQ_norm ?_
          refine W_seq (by kernel_rfl) ?_
          refine W_cond (o := .tmp 33) (b := decide (i169 < (List.length v132 : Int))) (by kernel_rfl) (by kernel_rfl) (fun h174 => ?_) (fun h174 => ?_)
          · replace h := stepL_true h174 h
            obtain ⟨v172, _, h173, h, rfl⟩ := h
            refine W_skip [5, 8, 24, 25, 26, 30, 31, 32] [45, 40] (fr' := [(5, .one (.slc 45)), (8, .one (.slc 40)), (24, aD (.slice (.slice .bool)) a0), (25, aI (List.length a0 : Int)), (26, aI i129), (30, aD (.slice .bool) v132), (31, aI (List.length v132 : Int)), (32, aI i169)]) (L' := [(45, .rows 0 (.slice tI) x130 []), (40, .seq tI x170)]) (by kernel_rfl) (by kernel_rfl) ?_
            refine seqQ_norm ?_
            refine W_seq (by kernel_rfl) ?_
            refine W_block (id := 3) (by kernel_rfl) ?_
            refine W_seq (by kernel_rfl) ?_
            refine W_run 3 [(1, .val (.dat .bool v172))] [5, 8, 10, 24, 25, 26, 30, 31, 32] [45, 40] (fr' := [(5, .one (.slc 45)), (8, .one (.slc 40)), (10, aB v172), (24, aD (.slice (.slice .bool)) a0), (25, aI (List.length a0 : Int)), (26, aI i129), (30, aD (.slice .bool) v132), (31, aI (List.length v132 : Int)), (32, aI i169)]) (L' := [(45, .rows 0 (.slice tI) x130 []), (40, .seq tI x170)]) (obs := [Idx v132 i169 v172]) (by kernel_rfl) (by kernel_rfl) (by kernel_rfl) (allP1 (Idx.of h173)) ?_
            refine seqQ_norm ?_
            refine W_seq (by kernel_rfl) ?_
            refine W_run 1 [] [5, 8, 10, 11, 24, 25, 26, 30, 31, 32] [45, 40] (fr' := [(5, .one (.slc 45)), (8, .one (.slc 40)), (10, aB v172), (11, aI (0 : Int)), (24, aD (.slice (.slice .bool)) a0), (25, aI (List.length a0 : Int)), (26, aI i129), (30, aD (.slice .bool) v132), (31, aI (List.length v132 : Int)), (32, aI i169)]) (L' := [(45, .rows 0 (.slice tI) x130 []), (40, .seq tI x170)]) (obs := []) (by kernel_rfl) (by kernel_rfl) (by kernel_rfl) allP0 ?_
            refine seqQ_norm ?_
            refine W_seq (by kernel_rfl) ?_
            obtain ⟨v184, h185, h⟩ := bind_of h
            refine W_cutK (Q' := (exQ .normal (talk_Rank_s24 a0 i129 x130 v132 i169 x170)) v184) ?_ ?_
            · replace h := h185
              refine W_seq (by kernel_rfl) ?_
              refine W_run 1 [] [5, 8, 11, 24, 25, 26, 30, 31, 32, 36] [45, 40] (fr' := [(5, .one (.slc 45)), (8, .one (.slc 40)), (11, aI (0 : Int)), (24, aD (.slice (.slice .bool)) a0), (25, aI (List.length a0 : Int)), (26, aI i129), (30, aD (.slice .bool) v132), (31, aI (List.length v132 : Int)), (32, aI i169), (36, aB v172)]) (L' := [(45, .rows 0 (.slice tI) x130 []), (40, .seq tI x170)]) (obs := []) (by kernel_rfl) (by kernel_rfl) (by kernel_rfl) allP0 ?_
              refine seqQ_norm ?_
              refine W_cond (o := .tmp 36) (b := v172) (by kernel_rfl) (by kernel_rfl) (fun h183 => ?_) (fun h183 => ?_)
              · replace h := ofT h183 h
                obtain rfl := Option.some.inj h
                refine W_run 1 [] [5, 8, 11, 24, 25, 26, 30, 31, 32] [45, 40] (fr' := [(5, .one (.slc 45)), (8, .one (.slc 40)), (11, aI (1 : Int)), (24, aD (.slice (.slice .bool)) a0), (25, aI (List.length a0 : Int)), (26, aI i129), (30, aD (.slice .bool) v132), (31, aI (List.length v132 : Int)), (32, aI i169)]) (L' := [(45, .rows 0 (.slice tI) x130 []), (40, .seq tI x170)]) (obs := []) (by kernel_rfl) (by kernel_rfl) (by kernel_rfl) allP0 ?_
                exact exQ_mk (by kernel_rfl) (by kernel_rfl)
              · replace h := ofF h183 h
                obtain rfl := Option.some.inj h
                refine W_skip [5, 8, 11, 24, 25, 26, 30, 31, 32] [45, 40] (fr' := [(5, .one (.slc 45)), (8, .one (.slc 40)), (11, aI (0 : Int)), (24, aD (.slice (.slice .bool)) a0), (25, aI (List.length a0 : Int)), (26, aI i129), (30, aD (.slice .bool) v132), (31, aI (List.length v132 : Int)), (32, aI i169)]) (L' := [(45, .rows 0 (.slice tI) x130 []), (40, .seq tI x170)]) (by kernel_rfl) (by kernel_rfl) ?_
                exact exQ_mk (by kernel_rfl) (by kernel_rfl)
            · intro e fr L hJ
              obtain ⟨rfl, rfl, rfl⟩ := hJ
              refine LT_keep [5, 8, 11, 24, 25, 26, 30, 31, 32] [45, 40] (fr' := [(5, .one (.slc 45)), (8, .one (.slc 40)), (11, aI v184), (24, aD (.slice (.slice .bool)) a0), (25, aI (List.length a0 : Int)), (26, aI i129), (30, aD (.slice .bool) v132), (31, aI (List.length v132 : Int)), (32, aI i169)]) (L' := [(45, .rows 0 (.slice tI) x130 []), (40, .seq tI x170)]) (by kernel_rfl) ?_
              refine seqQ_norm ?_
              obtain ⟨_, h186, h⟩ := bind_of h
              replace h186 := ck_some h186
              refine W_run 5 [] [5, 8, 24, 25, 26, 30, 31, 32] [45, 40] (fr' := [(5, .one (.slc 45)), (8, .one (.slc 40)), (24, aD (.slice (.slice .bool)) a0), (25, aI (List.length a0 : Int)), (26, aI i129), (30, aD (.slice .bool) v132), (31, aI (List.length v132 : Int)), (32, aI i169)]) (L' := [(45, .rows 0 (.slice tI) x130 []), (40, .seq tI (x170 ++ [v184]))]) (obs := [SmallLen (List.length x170 + List.length [v184])]) (by kernel_rfl) (by kernel_rfl) (by kernel_rfl) (allP1 h186) ?_
              refine blockQ_norm ?_
              refine seqQ_norm ?_
              obtain rfl := Option.some.inj h
              refine W_run 2 [] [5, 8, 24, 25, 26, 30, 31, 32] [45, 40] (fr' := [(5, .one (.slc 45)), (8, .one (.slc 40)), (24, aD (.slice (.slice .bool)) a0), (25, aI (List.length a0 : Int)), (26, aI i129), (30, aD (.slice .bool) v132), (31, aI (List.length v132 : Int)), (32, aI (w64 (i169 + (1 : Int))))]) (L' := [(45, .rows 0 (.slice tI) x130 []), (40, .seq tI (x170 ++ [v184]))]) (obs := []) (by kernel_rfl) (by kernel_rfl) (by kernel_rfl) allP0 ?_
              exact round_next' (by kernel_rfl) (by kernel_rfl)
          · obtain rfl := stepL_false h174 h
            refine W_exit (id := 2) [5, 8, 24, 25, 26] [45, 40] (fr' := [(5, .one (.slc 45)), (8, .one (.slc 40)), (24, aD (.slice (.slice .bool)) a0), (25, aI (List.length a0 : Int)), (26, aI i129)]) (L' := [(45, .rows 0 (.slice tI) x130 []), (40, .seq tI x170)]) (by kernel_rfl) (by kernel_rfl) ?_
            refine seqQ_exit ?_
            refine round_exit ?_
            exact exQ_mk (by kernel_rfl) (by kernel_rfl)
        · intro e fr L hJ
          obtain ⟨rfl, rfl, rfl⟩ := hJ
          refine LT_keep [5, 8, 24, 25, 26] [45, 40] (fr' := [(5, .one (.slc 45)), (8, .one (.slc 40)), (24, aD (.slice (.slice .bool)) a0), (25, aI (List.length a0 : Int)), (26, aI i129)]) (L' := [(45, .rows 0 (.slice tI) x130 []), (40, .seq tI v188)]) (by kernel_rfl) ?_
          refine blockQ_hit ?_
          refine seqQ_norm ?_
          obtain ⟨_, h193, h⟩ := bind_of h
          replace h193 := ck_some h193
          refine W_region (by kernel_rfl) ?_
          refine WO_run (j := 5) (k := 5) (orcs := []) (kF := [5, 24, 25, 26]) (kL := [40, 45]) (fr' := [(5, .one (.slc 45)), (24, aD (.slice (.slice .bool)) a0), (25, aI (List.length a0 : Int)), (26, aI i129)]) (L' := [(40, .seq tI v188), (45, .rows 0 (.slice tI) ((x130 : (List (List Int))) ++ [([] : List Int)]) [((List.length x130 : Int), true, .slc 40)])]) (obs := [SmallLen (List.length x130 + 1)]) rfl (by kernel_rfl) (allP1 h193) ?_
          refine WO_give 45 (List.length x130 : Int) [true] (p := InR (List.length x130 : Int) (List.length ((x130 : (List (List Int))) ++ [([] : List Int)])) ∧ (List.length x130 : Int) = (List.length x130 : Int)) (by kernel_rfl) ⟨(InR.last x130 [([] : List Int)] (Nat.succ_pos _)), rfl⟩ ?_
          refine WO_fin [5, 24, 25, 26] [45] (fr' := [(5, .one (.slc 45)), (24, aD (.slice (.slice .bool)) a0), (25, aI (List.length a0 : Int)), (26, aI i129)]) (L' := [(45, .rows 0 (.slice tI) (List.set ((x130 : (List (List Int))) ++ [([] : List Int)]) (Int.toNat (List.length x130 : Int)) v188) [])]) (by kernel_rfl) (by kernel_rfl) ?_
          refine blockQ_norm ?_
          refine seqQ_norm ?_
          obtain rfl := Option.some.inj h
          refine W_run 2 [] [5, 24, 25, 26] [45] (fr' := [(5, .one (.slc 45)), (24, aD (.slice (.slice .bool)) a0), (25, aI (List.length a0 : Int)), (26, aI (w64 (i129 + (1 : Int))))]) (L' := [(45, .rows 0 (.slice tI) (List.set ((x130 : (List (List Int))) ++ [([] : List Int)]) (Int.toNat (List.length x130 : Int)) v188) [])]) (obs := []) (by kernel_rfl) (by kernel_rfl) (by kernel_rfl) allP0 ?_
          exact round_next' (by kernel_rfl) (by kernel_rfl)
      · obtain rfl := stepL_false h134 h
        refine W_exit (id := 0) [5] [45] (fr' := [(5, .one (.slc 45))]) (L' := [(45, .rows 0 (.slice tI) x130 [])]) (by kernel_rfl) (by kernel_rfl) ?_
        refine seqQ_exit ?_
        refine round_exit ?_
        exact exQ_mk (by kernel_rfl) (by kernel_rfl)
    · intro e fr L hJ
      obtain ⟨rfl, rfl, rfl⟩ := hJ
      refine LT_keep [5] [45] (fr' := [(5, .one (.slc 45))]) (L' := [(45, .rows 0 (.slice tI) v195 [])]) (by kernel_rfl) ?_
      refine blockQ_hit ?_
      refine seqQ_norm ?_
      refine W_seq (by kernel_rfl) ?_
      refine W_run 1 [] [5, 12] [45] (fr' := [(5, .one (.slc 45)), (12, aI (0 : Int))]) (L' := [(45, .rows 0 (.slice tI) v195 [])]) (obs := []) (by kernel_rfl) (by kernel_rfl) (by kernel_rfl) allP0 ?_
      refine seqQ_norm ?_
      refine W_seq (by kernel_rfl) ?_
      refine W_seq (by kernel_rfl) ?_
      obtain ⟨v200, h201, h⟩ := bind_of h
      refine W_region (by kernel_rfl) ?_
      refine WO_run (j := 2) (k := 2) (orcs := []) (kF := [5, 12, 48]) (kL := [45]) (fr' := [(5, .one (.slc 45)), (12, aI (0 : Int)), (48, .one (.eptr 45 1 (0 : Int) 0))]) (L' := [(45, .rows 0 (.slice tI) v195 [])]) (obs := [InR (0 : Int) (List.length v195)]) rfl (by kernel_rfl) (allP1 (InR.of h201)) ?_
      refine WO_take 45 900 (0 : Int) (.dat (.slice tI) v200) (p := Idx v195 (0 : Int) v200 ∧ True) (by kernel_rfl) ⟨Idx.of h201, trivial⟩ ?_
      refine WO_run (j := 5) (k := 3) (orcs := [(5, .val (.slc 900))]) (kF := [5, 12, 50, 51]) (kL := [45, 900]) (fr' := [(5, .one (.slc 45)), (12, aI (0 : Int)), (50, aI (List.length v200 : Int)), (51, aI (0 : Int))]) (L' := [(45, .rows 0 (.slice tI) v195 [((0 : Int), true, .slc 900)]), (900, .seq tI v200)]) (obs := [((0 : Int) = (0 : Int)) ∧ InR (0 : Int) (List.length v195)]) rfl (by kernel_rfl) (allP1 ⟨rfl, (InR.of h201)⟩) ?_
      refine WO_giveS 45 (0 : Int) [true] (.dat (.slice tI) v200) (p := (v200 = v200 ∧ Idx v195 (0 : Int) v200) ∧ (0 : Int) = (0 : Int)) (by kernel_rfl) ⟨⟨rfl, Idx.of h201⟩, rfl⟩ ?_
      refine WO_fin [5, 12, 50, 51] [45] (fr' := [(5, .one (.slc 45)), (12, aI (0 : Int)), (50, aI (List.length v200 : Int)), (51, aI (0 : Int))]) (L' := [(45, .rows 0 (.slice tI) v195 [])]) (by kernel_rfl) (by kernel_rfl) ?_
      refine seqQ_norm ?_
      refine W_block (id := 4) (by kernel_rfl) ?_
      obtain ⟨v2791, h2792, h⟩ := bind_of h
      obtain ⟨h2793, h2794⟩ := forI_iter h2792
      refine W_weaken [5, 12, 50, 51] [45] (fr' := ((talk_Rank_s149 v200) ((0 : Int), ((0 : Int), v195))).1) (L' := ((talk_Rank_s149 v200) ((0 : Int), ((0 : Int), v195))).2) (by kernel_rfl) ?_
      refine W_cutK (W_loop (S := (talk_Rank_s149 v200)) (J := (exQ (.exit 4) talk_Rank_s150)) (by kernel_rfl) ?_ h2793 _ v2791 h2794) ?_
      · rintro ⟨i1882, x1883⟩ s h
        refine W_seq (by kernel_rfl) ?_
        refine W_run 1 [] [5, 12, 50, 51, 52] [45] (fr' := [(5, .one (.slc 45)), (12, aI x1883.1), (50, aI (List.length v200 : Int)), (51, aI i1882), (52, aB (decide (i1882 < (List.length v200 : Int))))]) (L' := [(45, .rows 0 (.slice tI) x1883.2 [])]) (obs := []) (by kernel_rfl) (by kernel_rfl) (by kernel_rfl) allP0 ?_
        refine seqQ_norm ?_
        refine W_seq (by kernel_rfl) ?_
        refine W_cond (o := .tmp 52) (b := decide (i1882 < (List.length v200 : Int))) (by kernel_rfl) (by kernel_rfl) (fun h1885 => ?_) (fun h1885 => ?_)
        · replace h := stepI_true h1885 h
          obtain ⟨_, h, rfl⟩ := h
          refine W_skip [5, 12, 50, 51] [45] (fr' := [(5, .one (.slc 45)), (12, aI x1883.1), (50, aI (List.length v200 : Int)), (51, aI i1882)]) (L' := [(45, .rows 0 (.slice tI) x1883.2 [])]) (by kernel_rfl) (by kernel_rfl) ?_
          refine seqQ_norm ?_
          refine W_seq (by kernel_rfl) ?_
          obtain ⟨v2786, h2787, h⟩ := bind_of h
          refine W_cutK (Q' := (escQ (exQ (.exit 4) (talk_Rank_s146 x1883)) (exQ .normal (talk_Rank_s147 v200 i1882))) v2786) ?_ ?_
          · replace h := h2787
            refine W_block (id := 5) (by kernel_rfl) ?_
            refine W_seq (by kernel_rfl) ?_
            refine W_run 3 [] [5, 12, 13, 50, 51] [45, 13] (fr' := [(5, .one (.slc 45)), (12, aI x1883.1), (13, .one (.ptr 13 0)), (50, aI (List.length v200 : Int)), (51, aI i1882)]) (L' := [(45, .rows 0 (.slice tI) x1883.2 []), (13, .cells [.dat tI i1882])]) (obs := [True]) (by kernel_rfl) (by kernel_rfl) (by kernel_rfl) (allP1 trivial) ?_
            refine seqQ_norm ?_
            refine W_seq (by kernel_rfl) ?_
            obtain ⟨_, h2486, h⟩ := bind_of h
            replace h2486 := ck_some h2486
            refine W_region (by kernel_rfl) ?_
            refine WO_run (j := 4) (k := 4) (orcs := []) (kF := [5, 12, 13, 50, 51, 56, 57]) (kL := [13, 45]) (fr' := [(5, .one (.slc 45)), (12, aI x1883.1), (13, .one (.ptr 13 0)), (50, aI (List.length v200 : Int)), (51, aI i1882), (56, .one (.sub 45 1 x1883.1 (List.length x1883.2 : Int))), (57, .one (.fn 56 [(13, 0)]))]) (L' := [(13, .cells [.dat tI i1882]), (45, .rows 0 (.slice tI) x1883.2 [])]) (obs := [Cuts x1883.1 (List.length x1883.2 : Int) (List.length x1883.2)]) rfl (by kernel_rfl) (allP1 h2486) ?_
            obtain ⟨r2487, h2488, h⟩ := bind_of h
            refine WO_lendB [45] [(1000, 13)] [] (us := [none, none]) (d := 58) (p := True) (j := 5) rfl ⟨by kernel_rfl, by kernel_rfl, by kernel_rfl⟩ trivial (slices_IndexFunc_LLintLint_with_talk_Rank_1_ok h2488) (by kernel_rfl) (by kernel_rfl) ?_
            refine WO_run (j := 6) (k := 1) (orcs := []) (kF := [5, 12, 13, 14, 50, 51]) (kL := [13, 45]) (fr' := [(5, .one (.slc 45)), (12, aI x1883.1), (13, .one (.ptr 13 0)), (14, aI r2487), (50, aI (List.length v200 : Int)), (51, aI i1882)]) (L' := [(13, .cells [.dat tI i1882]), (45, .rows 0 (.slice tI) x1883.2 [])]) (obs := []) rfl (by kernel_rfl) allP0 ?_
            refine WO_fin [5, 12, 13, 14, 50, 51] [45, 13] (fr' := [(5, .one (.slc 45)), (12, aI x1883.1), (13, .one (.ptr 13 0)), (14, aI r2487), (50, aI (List.length v200 : Int)), (51, aI i1882)]) (L' := [(45, .rows 0 (.slice tI) x1883.2 []), (13, .cells [.dat tI i1882])]) (by kernel_rfl) (by kernel_rfl) ?_
            refine seqQ_norm ?_
            refine W_seq (by kernel_rfl) ?_
            refine W_seq (by kernel_rfl) ?_
            refine W_run 2 [] [5, 12, 13, 14, 50, 51, 60] [45, 13] (fr' := [(5, .one (.slc 45)), (12, aI x1883.1), (13, .one (.ptr 13 0)), (14, aI r2487), (50, aI (List.length v200 : Int)), (51, aI i1882), (60, aB (decide (r2487 < (0 : Int))))]) (L' := [(45, .rows 0 (.slice tI) x1883.2 []), (13, .cells [.dat tI i1882])]) (obs := []) (by kernel_rfl) (by kernel_rfl) (by kernel_rfl) allP0 ?_
            refine seqQ_norm ?_
            refine W_cond (o := .tmp 60) (b := decide (r2487 < (0 : Int))) (by kernel_rfl) (by kernel_rfl) (fun h2489 => ?_) (fun h2489 => ?_)
            · replace h := ofT h2489 h
              obtain rfl := Option.some.inj h
              refine W_exit (id := 5) [5, 12, 50, 51] [45] (fr' := [(5, .one (.slc 45)), (12, aI x1883.1), (50, aI (List.length v200 : Int)), (51, aI i1882)]) (L' := [(45, .rows 0 (.slice tI) x1883.2 [])]) (by kernel_rfl) (by kernel_rfl) ?_
              refine seqQ_exit ?_
              refine blockQ_hit ?_
              refine escQ_brk ?_
              exact exQ_mk (by kernel_rfl) (by kernel_rfl)
            · replace h := ofF h2489 h
              refine W_skip [5, 12, 13, 14, 50, 51] [45, 13] (fr' := [(5, .one (.slc 45)), (12, aI x1883.1), (13, .one (.ptr 13 0)), (14, aI r2487), (50, aI (List.length v200 : Int)), (51, aI i1882)]) (L' := [(45, .rows 0 (.slice tI) x1883.2 []), (13, .cells [.dat tI i1882])]) (by kernel_rfl) (by kernel_rfl) ?_
              refine seqQ_norm ?_
              refine W_seq (by kernel_rfl) ?_
              obtain ⟨v2490, h2491, h⟩ := bind_of h
              obtain ⟨v2492, h2493, h⟩ := bind_of h
              refine W_drawS5 20 [(17, [], [(45, .rows 0 (.slice tI) x1883.2 [(x1883.1, false, .rhd 45 (w64 (x1883.1 + r2487)))])]), (19, [], [(45, .rows 0 (.slice tI) x1883.2 [(w64 (x1883.1 + r2487), false, .rhd 45 x1883.1), (x1883.1, false, .rhd 45 (w64 (x1883.1 + r2487)))])])] [(17, .one (.any)), (19, .one (.any))] [(23, .val .any), (31, .val .any)] [] [5, 12, 13, 50, 51] [13, 45] (out := [(61, .one (.slc 45)), (62, aI x1883.1), (63, .one (.slc 45)), (64, aI x1883.1), (65, aI r2487), (66, aI (w64 (x1883.1 + r2487))), (67, .one (.slc 45)), (68, aI x1883.1), (69, aI r2487), (70, aI (w64 (x1883.1 + r2487))), (71, .one (.eptr 45 1 (w64 (x1883.1 + r2487)) 0)), (72, .one (.rhd 45 (w64 (x1883.1 + r2487)))), (73, .one (.slc 45)), (74, aI x1883.1), (75, .one (.eptr 45 1 x1883.1 0)), (76, .one (.rhd 45 x1883.1)), (77, .one (.eptr 45 1 x1883.1 0)), (1000017, .one (.any)), (78, .one (.eptr 45 1 (w64 (x1883.1 + r2487)) 0)), (1000019, .one (.any))]) (obs := [InR (w64 (x1883.1 + r2487)) (List.length x1883.2), InR (w64 (x1883.1 + r2487)) (List.length x1883.2), InR x1883.1 (List.length x1883.2), ((.one (.eptr 45 1 x1883.1 0) : AV) = .one (.eptr 45 1 x1883.1 0)), InR x1883.1 (List.length x1883.2), InR x1883.1 (List.length x1883.2), InR x1883.1 (List.length x1883.2), InR (w64 (x1883.1 + r2487)) (List.length x1883.2)]) (calls := []) (fr' := [(5, .one (.slc 45)), (12, aI x1883.1), (13, .one (.ptr 13 0)), (50, aI (List.length v200 : Int)), (51, aI i1882)]) (L' := [(13, .cells [.dat tI i1882]), (45, .rows 0 (.slice tI) x1883.2 [(w64 (x1883.1 + r2487), false, .rhd 45 x1883.1), (x1883.1, false, .rhd 45 (w64 (x1883.1 + r2487)))])]) (by kernel_rfl) (by kernel_rfl) (by kernel_rfl) (by kernel_rfl) (by kernel_rfl) (allP2 (InR.of h2491) (allP2 (InR.of h2491) (allP2 (InR.of h2493) (allP2 rfl (allP2 (InR.of h2493) (allP2 (InR.of h2493) (allP2 (InR.of h2493) (allP1 (InR.of h2491))))))))) allD0 (stDo (none) (s := 45) (o' := .rows 0 (.slice tI) x1883.2 [(x1883.1, false, .rhd 45 (w64 (x1883.1 + r2487)))]) (p := InR x1883.1 (List.length x1883.2)) (by kernel_rfl) (InR.of h2493) (stDo (none) (s := 45) (o' := .rows 0 (.slice tI) x1883.2 [(w64 (x1883.1 + r2487), false, .rhd 45 x1883.1), (x1883.1, false, .rhd 45 (w64 (x1883.1 + r2487)))]) (p := InR (w64 (x1883.1 + r2487)) (List.length x1883.2)) (by kernel_rfl) (InR.of h2491) stNil)) (by kernel_rfl) ?_
              refine WO_swap 45 x1883.1 (w64 (x1883.1 + r2487)) (.dat (.slice tI) v2492) (.dat (.slice tI) v2490) (p := ((w64 (x1883.1 + r2487)) = (w64 (x1883.1 + r2487)) ∧ x1883.1 = x1883.1 ∧ x1883.1 = x1883.1 ∧ (w64 (x1883.1 + r2487)) = (w64 (x1883.1 + r2487))) ∧ Idx x1883.2 x1883.1 v2492 ∧ Idx x1883.2 (w64 (x1883.1 + r2487)) v2490) (by kernel_rfl) ⟨⟨rfl, rfl, rfl, rfl⟩, Idx.of h2493, Idx.of h2491⟩ ?_
              refine WO_fin [5, 12, 13, 50, 51] [45, 13] (fr' := [(5, .one (.slc 45)), (12, aI x1883.1), (13, .one (.ptr 13 0)), (50, aI (List.length v200 : Int)), (51, aI i1882)]) (L' := [(45, .rows 0 (.slice tI) (List.set (List.set x1883.2 (Int.toNat x1883.1) v2490) (Int.toNat (w64 (x1883.1 + r2487))) v2492) []), (13, .cells [.dat tI i1882])]) (by kernel_rfl) (by kernel_rfl) ?_
              refine ⟨rfl, ?_⟩
              refine seqQ_norm ?_
              refine W_seq (by kernel_rfl) ?_
              refine W_seq (by kernel_rfl) ?_
              refine W_run 3 [] [5, 12, 13, 15, 50, 51] [45, 13] (fr' := [(5, .one (.slc 45)), (12, aI x1883.1), (13, .one (.ptr 13 0)), (15, aI (w64 (x1883.1 + (1 : Int)))), (50, aI (List.length v200 : Int)), (51, aI i1882)]) (L' := [(45, .rows 0 (.slice tI) (List.set (List.set x1883.2 (Int.toNat x1883.1) v2490) (Int.toNat (w64 (x1883.1 + r2487))) v2492) []), (13, .cells [.dat tI i1882])]) (obs := []) (by kernel_rfl) (by kernel_rfl) (by kernel_rfl) allP0 ?_
              refine seqQ_norm ?_
              refine W_block (id := 6) (by kernel_rfl) ?_
              obtain ⟨v2781, h2782, h⟩ := bind_of h
              refine W_weaken [5, 12, 13, 15, 50, 51] [13, 45] (fr' := ((talk_Rank_s143 v200 i1882 x1883) (w64 (x1883.1 + (1 : Int)), List.set (List.set x1883.2 (Int.toNat x1883.1) v2490) (Int.toNat (w64 (x1883.1 + r2487))) v2492)).1) (L' := ((talk_Rank_s143 v200 i1882 x1883) (w64 (x1883.1 + (1 : Int)), List.set (List.set x1883.2 (Int.toNat x1883.1) v2490) (Int.toNat (w64 (x1883.1 + r2487))) v2492)).2) (by kernel_rfl) ?_
              refine W_cutK (W_loop (S := (talk_Rank_s143 v200 i1882 x1883)) (J := (exQ (.exit 6) (talk_Rank_s144 v200 i1882 x1883))) (by kernel_rfl) ?_ fuel _ v2781 h2782) ?_
              · rintro x2590 s h
                refine W_seq (by kernel_rfl) ?_
                refine W_seq (by kernel_rfl) ?_
                refine W_run 4 [] [5, 12, 13, 15, 50, 51, 84] [45, 13] (fr' := [(5, .one (.slc 45)), (12, aI x1883.1), (13, .one (.ptr 13 0)), (15, aI x2590.1), (50, aI (List.length v200 : Int)), (51, aI i1882), (84, aB (decide (x2590.1 < (List.length x2590.2 : Int))))]) (L' := [(45, .rows 0 (.slice tI) x2590.2 []), (13, .cells [.dat tI i1882])]) (obs := []) (by kernel_rfl) (by kernel_rfl) (by kernel_rfl) allP0 ?_
                refine seqQ_norm ?_
                refine W_cond (o := .tmp 84) (b := decide (x2590.1 < (List.length x2590.2 : Int))) (by kernel_rfl) (by kernel_rfl) (fun h2686 => ?_) (fun h2686 => ?_)
                · replace h := ofT h2686 h
                  refine W_skip [5, 12, 13, 15, 50, 51] [45, 13] (fr' := [(5, .one (.slc 45)), (12, aI x1883.1), (13, .one (.ptr 13 0)), (15, aI x2590.1), (50, aI (List.length v200 : Int)), (51, aI i1882)]) (L' := [(45, .rows 0 (.slice tI) x2590.2 []), (13, .cells [.dat tI i1882])]) (by kernel_rfl) (by kernel_rfl) ?_
                  refine seqQ_norm ?_
                  refine W_seq (by kernel_rfl) ?_
                  refine W_block (id := 7) (by kernel_rfl) ?_
                  refine W_seq (by kernel_rfl) ?_
                  obtain ⟨v2689, h2690, h⟩ := bind_of h
                  refine W_take 45 900 x1883.1 (.dat (.slice tI) v2689) (p := Idx x2590.2 x1883.1 v2689 ∧ True) (by kernel_rfl) ⟨Idx.of h2690, trivial⟩ ?_
                  obtain ⟨v2695, h2696, h⟩ := bind_of h
                  obtain ⟨_, h2697, h⟩ := bind_of h
                  replace h2697 := ck_some h2697
                  refine W_take 45 901 x2590.1 (.dat (.slice tI) v2695) (p := Idx x2590.2 x2590.1 v2695 ∧ x1883.1 ≠ x2590.1) (by kernel_rfl) ⟨Idx.of h2696, h2697⟩ ?_
                  obtain ⟨v2706, h2707, h⟩ := bind_of h
                  obtain ⟨v2708, h2709, h⟩ := bind_of h
                  refine W_drawT5 15 [] [(7, .val (.slc 900)), (13, .val (.dat tI v2706)), (21, .val (.slc 901)), (27, .val (.dat tI v2708))] [] [5, 12, 13, 15, 16, 50, 51, 100] [13, 45, 900, 901] (out := [(87, .one (.slc 45)), (88, aI x1883.1), (89, .one (.eptr 45 1 x1883.1 0)), (90, .one (.slc 900)), (91, aI i1882), (92, .one (.eptr 900 1 i1882 0)), (93, aI v2706), (94, .one (.slc 45)), (95, aI x2590.1), (96, .one (.eptr 45 1 x2590.1 0)), (97, .one (.slc 901)), (98, aI i1882), (99, .one (.eptr 901 1 i1882 0)), (100, aI v2708), (16, aI v2706)]) (obs := [InR x1883.1 (List.length x2590.2), (x1883.1 ≠ x2590.1 ∧ x1883.1 = x1883.1) ∧ InR x1883.1 (List.length x2590.2), InR i1882 (List.length v2689), Idx v2689 i1882 v2706, InR x2590.1 (List.length x2590.2), (x2590.1 = x2590.1) ∧ InR x2590.1 (List.length x2590.2), InR i1882 (List.length v2695), Idx v2695 i1882 v2708]) (calls := []) (fr' := [(5, .one (.slc 45)), (12, aI x1883.1), (13, .one (.ptr 13 0)), (15, aI x2590.1), (16, aI v2706), (50, aI (List.length v200 : Int)), (51, aI i1882), (100, aI v2708)]) (L' := [(13, .cells [.dat tI i1882]), (45, .rows 0 (.slice tI) x2590.2 [(x2590.1, true, .slc 901), (x1883.1, true, .slc 900)]), (900, .seq tI v2689), (901, .seq tI v2695)]) (by kernel_rfl) (by kernel_rfl) (by kernel_rfl) (by kernel_rfl) (allP2 (InR.of h2690) (allP2 ⟨⟨h2697, rfl⟩, (InR.of h2690)⟩ (allP2 (InR.of h2707) (allP2 (Idx.of h2707) (allP2 (InR.of h2696) (allP2 ⟨rfl, (InR.of h2696)⟩ (allP2 (InR.of h2709) (allP1 (Idx.of h2709))))))))) allD0 (by kernel_rfl) ?_
                  refine WO_run (j := 16) (k := 1) (orcs := []) (kF := [5, 12, 13, 15, 16, 17, 50, 51]) (kL := [13, 45, 900, 901]) (fr' := [(5, .one (.slc 45)), (12, aI x1883.1), (13, .one (.ptr 13 0)), (15, aI x2590.1), (16, aI v2706), (17, aI v2708), (50, aI (List.length v200 : Int)), (51, aI i1882)]) (L' := [(13, .cells [.dat tI i1882]), (45, .rows 0 (.slice tI) x2590.2 [(x2590.1, true, .slc 901), (x1883.1, true, .slc 900)]), (900, .seq tI v2689), (901, .seq tI v2695)]) (obs := []) rfl (by kernel_rfl) allP0 ?_
                  refine WO_giveS 45 x2590.1 [true, false] (.dat (.slice tI) v2695) (p := (v2695 = v2695 ∧ Idx x2590.2 x2590.1 v2695) ∧ x2590.1 = x2590.1 ∧ x1883.1 ≠ x2590.1) (by kernel_rfl) ⟨⟨rfl, Idx.of h2696⟩, ⟨rfl, h2697⟩⟩ ?_
                  refine WO_giveS 45 x1883.1 [true] (.dat (.slice tI) v2689) (p := (v2689 = v2689 ∧ Idx x2590.2 x1883.1 v2689) ∧ x1883.1 = x1883.1) (by kernel_rfl) ⟨⟨rfl, Idx.of h2690⟩, rfl⟩ ?_
                  refine WO_fin [5, 12, 13, 15, 16, 17, 50, 51] [45, 13] (fr' := [(5, .one (.slc 45)), (12, aI x1883.1), (13, .one (.ptr 13 0)), (15, aI x2590.1), (16, aI v2706), (17, aI v2708), (50, aI (List.length v200 : Int)), (51, aI i1882)]) (L' := [(45, .rows 0 (.slice tI) x2590.2 []), (13, .cells [.dat tI i1882])]) (by kernel_rfl) (by kernel_rfl) ?_
                  refine ⟨rfl, ?_⟩
                  refine seqQ_norm ?_
                  refine W_seq (by kernel_rfl) ?_
                  refine W_region (by kernel_rfl) ?_
                  refine WO_run (j := 3) (k := 3) (orcs := []) (kF := [5, 12, 13, 15, 16, 17, 50, 51, 103]) (kL := [13, 45]) (fr' := [(5, .one (.slc 45)), (12, aI x1883.1), (13, .one (.ptr 13 0)), (15, aI x2590.1), (16, aI v2706), (17, aI v2708), (50, aI (List.length v200 : Int)), (51, aI i1882), (103, .one (.eptr 45 1 x2590.1 0))]) (L' := [(13, .cells [.dat tI i1882]), (45, .rows 0 (.slice tI) x2590.2 [])]) (obs := [InR x2590.1 (List.length x2590.2)]) rfl (by kernel_rfl) (allP1 (InR.of h2696)) ?_
                  refine WO_take 45 900 x2590.1 (.dat (.slice tI) v2695) (p := Idx x2590.2 x2590.1 v2695 ∧ True) (by kernel_rfl) ⟨Idx.of h2696, trivial⟩ ?_
                  refine WO_run (j := 6) (k := 3) (orcs := [(7, .val (.slc 900))]) (kF := [5, 12, 13, 15, 16, 17, 50, 51, 105, 106]) (kL := [13, 45, 900]) (fr' := [(5, .one (.slc 45)), (12, aI x1883.1), (13, .one (.ptr 13 0)), (15, aI x2590.1), (16, aI v2706), (17, aI v2708), (50, aI (List.length v200 : Int)), (51, aI i1882), (105, aI (List.length v2695 : Int)), (106, aI (0 : Int))]) (L' := [(13, .cells [.dat tI i1882]), (45, .rows 0 (.slice tI) x2590.2 [(x2590.1, true, .slc 900)]), (900, .seq tI v2695)]) (obs := [(x2590.1 = x2590.1) ∧ InR x2590.1 (List.length x2590.2)]) rfl (by kernel_rfl) (allP1 ⟨rfl, (InR.of h2696)⟩) ?_
                  refine WO_giveS 45 x2590.1 [true] (.dat (.slice tI) v2695) (p := (v2695 = v2695 ∧ Idx x2590.2 x2590.1 v2695) ∧ x2590.1 = x2590.1) (by kernel_rfl) ⟨⟨rfl, Idx.of h2696⟩, rfl⟩ ?_
                  refine WO_fin [5, 12, 13, 15, 16, 17, 50, 51, 105, 106] [45, 13] (fr' := [(5, .one (.slc 45)), (12, aI x1883.1), (13, .one (.ptr 13 0)), (15, aI x2590.1), (16, aI v2706), (17, aI v2708), (50, aI (List.length v200 : Int)), (51, aI i1882), (105, aI (List.length v2695 : Int)), (106, aI (0 : Int))]) (L' := [(45, .rows 0 (.slice tI) x2590.2 []), (13, .cells [.dat tI i1882])]) (by kernel_rfl) (by kernel_rfl) ?_
                  refine seqQ_norm ?_
                  refine W_block (id := 8) (by kernel_rfl) ?_
                  obtain ⟨v2777, h2778, h⟩ := bind_of h
                  obtain ⟨h2779, h2780⟩ := forI_iter h2778
                  refine W_weaken [5, 12, 13, 15, 16, 17, 50, 51, 105, 106] [13, 45] (fr' := ((talk_Rank_s140 v200 i1882 x1883 x2590 v2695 v2706 v2708) ((0 : Int), x2590.2)).1) (L' := ((talk_Rank_s140 v200 i1882 x1883 x2590 v2695 v2706 v2708) ((0 : Int), x2590.2)).2) (by kernel_rfl) ?_
                  refine W_cutK (W_loop (S := (talk_Rank_s140 v200 i1882 x1883 x2590 v2695 v2706 v2708)) (J := (exQ (.exit 8) (talk_Rank_s141 v200 i1882 x1883 x2590))) (by kernel_rfl) ?_ h2779 _ v2777 h2780) ?_
                  · rintro ⟨i2750, x2751⟩ s h
                    refine W_seq (by kernel_rfl) ?_
                    refine W_run 1 [] [5, 12, 13, 15, 16, 17, 50, 51, 105, 106, 107] [45, 13] (fr' := [(5, .one (.slc 45)), (12, aI x1883.1), (13, .one (.ptr 13 0)), (15, aI x2590.1), (16, aI v2706), (17, aI v2708), (50, aI (List.length v200 : Int)), (51, aI i1882), (105, aI (List.length v2695 : Int)), (106, aI i2750), (107, aB (decide (i2750 < (List.length v2695 : Int))))]) (L' := [(45, .rows 0 (.slice tI) x2751 []), (13, .cells [.dat tI i1882])]) (obs := []) (by kernel_rfl) (by kernel_rfl) (by kernel_rfl) allP0 ?_
                    refine seqQ_norm ?_
                    refine W_seq (by kernel_rfl) ?_
                    refine W_cond (o := .tmp 107) (b := decide (i2750 < (List.length v2695 : Int))) (by kernel_rfl) (by kernel_rfl) (fun h2753 => ?_) (fun h2753 => ?_)
                    · replace h := stepI_true h2753 h
                      obtain ⟨_, h, rfl⟩ := h
                      refine W_skip [5, 12, 13, 15, 16, 17, 50, 51, 105, 106] [45, 13] (fr' := [(5, .one (.slc 45)), (12, aI x1883.1), (13, .one (.ptr 13 0)), (15, aI x2590.1), (16, aI v2706), (17, aI v2708), (50, aI (List.length v200 : Int)), (51, aI i1882), (105, aI (List.length v2695 : Int)), (106, aI i2750)]) (L' := [(45, .rows 0 (.slice tI) x2751 []), (13, .cells [.dat tI i1882])]) (by kernel_rfl) (by kernel_rfl) ?_
                      refine seqQ_norm ?_
                      refine W_seq (by kernel_rfl) ?_
                      refine W_block (id := 9) (by kernel_rfl) ?_
                      refine W_seq (by kernel_rfl) ?_
                      refine W_run 2 [] [5, 12, 13, 15, 16, 17, 18, 50, 51, 105, 106] [45, 13] (fr' := [(5, .one (.slc 45)), (12, aI x1883.1), (13, .one (.ptr 13 0)), (15, aI x2590.1), (16, aI v2706), (17, aI v2708), (18, aI i2750), (50, aI (List.length v200 : Int)), (51, aI i1882), (105, aI (List.length v2695 : Int)), (106, aI i2750)]) (L' := [(45, .rows 0 (.slice tI) x2751 []), (13, .cells [.dat tI i1882])]) (obs := []) (by kernel_rfl) (by kernel_rfl) (by kernel_rfl) allP0 ?_
                      refine seqQ_norm ?_
                      obtain ⟨v2756, h2757, h⟩ := bind_of h
                      refine W_take 45 900 x2590.1 (.dat (.slice tI) v2756) (p := Idx x2751 x2590.1 v2756 ∧ True) (by kernel_rfl) ⟨Idx.of h2757, trivial⟩ ?_
                      obtain ⟨v2762, h2763, h⟩ := bind_of h
                      refine W_take 45 901 x1883.1 (.dat (.slice tI) v2762) (p := Idx x2751 x1883.1 v2762 ∧ x2590.1 ≠ x1883.1) (by kernel_rfl) ⟨Idx.of h2763, (Ne.symm h2697)⟩ ?_
                      obtain ⟨v2772, h2773, h⟩ := bind_of h
                      obtain ⟨v2774, h2775, h⟩ := bind_of h
                      refine W_drawT5 24 [] [(7, .val (.slc 900)), (17, .val (.slc 900)), (23, .val (.dat tI v2772)), (35, .val (.slc 901)), (41, .val (.dat tI v2774))] [] [5, 12, 13, 15, 16, 17, 50, 51, 105, 106, 112, 113, 132] [13, 45, 900, 901] (out := [(109, .one (.slc 45)), (110, aI x2590.1), (111, .one (.eptr 45 1 x2590.1 0)), (112, .one (.slc 900)), (113, aI i2750), (114, .one (.slc 45)), (115, aI x2590.1), (116, .one (.eptr 45 1 x2590.1 0)), (117, .one (.slc 900)), (118, aI i2750), (119, .one (.eptr 900 1 i2750 0)), (120, aI v2772), (121, aI v2706), (122, aI (w64 (v2772 * v2706))), (123, .one (.slc 45)), (124, aI x1883.1), (125, .one (.eptr 45 1 x1883.1 0)), (126, .one (.slc 901)), (127, aI i2750), (128, .one (.eptr 901 1 i2750 0)), (129, aI v2774), (130, aI v2708), (131, aI (w64 (v2774 * v2708))), (132, aI (w64 ((w64 (v2772 * v2706)) - (w64 (v2774 * v2708)))))]) (obs := [InR x2590.1 (List.length x2751), (x2590.1 ≠ x1883.1 ∧ x2590.1 = x2590.1) ∧ InR x2590.1 (List.length x2751), InR x2590.1 (List.length x2751), (x2590.1 ≠ x1883.1 ∧ x2590.1 = x2590.1) ∧ InR x2590.1 (List.length x2751), InR i2750 (List.length v2756), Idx v2756 i2750 v2772, InR x1883.1 (List.length x2751), (x1883.1 = x1883.1) ∧ InR x1883.1 (List.length x2751), InR i2750 (List.length v2762), Idx v2762 i2750 v2774]) (calls := []) (fr' := [(5, .one (.slc 45)), (12, aI x1883.1), (13, .one (.ptr 13 0)), (15, aI x2590.1), (16, aI v2706), (17, aI v2708), (50, aI (List.length v200 : Int)), (51, aI i1882), (105, aI (List.length v2695 : Int)), (106, aI i2750), (112, .one (.slc 900)), (113, aI i2750), (132, aI (w64 ((w64 (v2772 * v2706)) - (w64 (v2774 * v2708)))))]) (L' := [(13, .cells [.dat tI i1882]), (45, .rows 0 (.slice tI) x2751 [(x1883.1, true, .slc 901), (x2590.1, true, .slc 900)]), (900, .seq tI v2756), (901, .seq tI v2762)]) (by kernel_rfl) (by kernel_rfl) (by kernel_rfl) (by kernel_rfl) (allP2 (InR.of h2757) (allP2 ⟨⟨(Ne.symm h2697), rfl⟩, (InR.of h2757)⟩ (allP2 (InR.of h2757) (allP2 ⟨⟨(Ne.symm h2697), rfl⟩, (InR.of h2757)⟩ (allP2 (InR.of h2773) (allP2 (Idx.of h2773) (allP2 (InR.of h2763) (allP2 ⟨rfl, (InR.of h2763)⟩ (allP2 (InR.of h2775) (allP1 (Idx.of h2775))))))))))) allD0 (by kernel_rfl) ?_
                      refine WO_run (j := 26) (k := 2) (orcs := []) (kF := [5, 12, 13, 15, 16, 17, 50, 51, 105, 106]) (kL := [13, 45, 900, 901]) (fr' := [(5, .one (.slc 45)), (12, aI x1883.1), (13, .one (.ptr 13 0)), (15, aI x2590.1), (16, aI v2706), (17, aI v2708), (50, aI (List.length v200 : Int)), (51, aI i1882), (105, aI (List.length v2695 : Int)), (106, aI i2750)]) (L' := [(13, .cells [.dat tI i1882]), (45, .rows 0 (.slice tI) x2751 [(x1883.1, true, .slc 901), (x2590.1, true, .slc 900)]), (900, .seq tI (List.set v2756 (Int.toNat i2750) (w64 ((w64 (v2772 * v2706)) - (w64 (v2774 * v2708)))))), (901, .seq tI v2762)]) (obs := [InR i2750 (List.length v2756), InR i2750 (List.length v2756)]) rfl (by kernel_rfl) (allP2 (InR.of h2773) (allP1 (InR.of h2773))) ?_
                      refine WO_giveS 45 x1883.1 [true, false] (.dat (.slice tI) v2762) (p := (v2762 = v2762 ∧ Idx x2751 x1883.1 v2762) ∧ x1883.1 = x1883.1 ∧ x2590.1 ≠ x1883.1) (by kernel_rfl) ⟨⟨rfl, Idx.of h2763⟩, ⟨rfl, (Ne.symm h2697)⟩⟩ ?_
                      refine WO_give 45 x2590.1 [true] (p := InR x2590.1 (List.length x2751) ∧ x2590.1 = x2590.1) (by kernel_rfl) ⟨(InR.of h2757), rfl⟩ ?_
                      refine WO_fin [5, 12, 13, 15, 16, 17, 50, 51, 105, 106] [45, 13] (fr' := [(5, .one (.slc 45)), (12, aI x1883.1), (13, .one (.ptr 13 0)), (15, aI x2590.1), (16, aI v2706), (17, aI v2708), (50, aI (List.length v200 : Int)), (51, aI i1882), (105, aI (List.length v2695 : Int)), (106, aI i2750)]) (L' := [(45, .rows 0 (.slice tI) (List.set x2751 (Int.toNat x2590.1) (List.set v2756 (Int.toNat i2750) (w64 ((w64 (v2772 * v2706)) - (w64 (v2774 * v2708)))))) []), (13, .cells [.dat tI i1882])]) (by kernel_rfl) (by kernel_rfl) ?_
                      refine ⟨rfl, ?_⟩
                      refine blockQ_norm ?_
                      refine seqQ_norm ?_
                      obtain rfl := Option.some.inj h
                      refine W_run 2 [] [5, 12, 13, 15, 16, 17, 50, 51, 105, 106] [13, 45] (fr' := [(5, .one (.slc 45)), (12, aI x1883.1), (13, .one (.ptr 13 0)), (15, aI x2590.1), (16, aI v2706), (17, aI v2708), (50, aI (List.length v200 : Int)), (51, aI i1882), (105, aI (List.length v2695 : Int)), (106, aI (w64 (i2750 + (1 : Int))))]) (L' := [(13, .cells [.dat tI i1882]), (45, .rows 0 (.slice tI) (List.set x2751 (Int.toNat x2590.1) (List.set v2756 (Int.toNat i2750) (w64 ((w64 (v2772 * v2706)) - (w64 (v2774 * v2708)))))) [])]) (obs := []) (by kernel_rfl) (by kernel_rfl) (by kernel_rfl) allP0 ?_
                      exact round_next' (by kernel_rfl) (by kernel_rfl)
                    · obtain rfl := stepI_false h2753 h
                      refine W_exit (id := 8) [5, 12, 13, 15, 50, 51] [13, 45] (fr' := [(5, .one (.slc 45)), (12, aI x1883.1), (13, .one (.ptr 13 0)), (15, aI x2590.1), (50, aI (List.length v200 : Int)), (51, aI i1882)]) (L' := [(13, .cells [.dat tI i1882]), (45, .rows 0 (.slice tI) x2751 [])]) (by kernel_rfl) (by kernel_rfl) ?_
                      refine seqQ_exit ?_
                      refine round_exit ?_
                      exact exQ_mk (by kernel_rfl) (by kernel_rfl)
                  · intro e fr L hJ
                    obtain ⟨rfl, rfl, rfl⟩ := hJ
                    refine LT_keep [5, 12, 13, 15, 50, 51] [45, 13] (fr' := [(5, .one (.slc 45)), (12, aI x1883.1), (13, .one (.ptr 13 0)), (15, aI x2590.1), (50, aI (List.length v200 : Int)), (51, aI i1882)]) (L' := [(45, .rows 0 (.slice tI) v2777 []), (13, .cells [.dat tI i1882])]) (by kernel_rfl) ?_
                    refine blockQ_hit ?_
                    refine blockQ_norm ?_
                    refine seqQ_norm ?_
                    obtain rfl := Option.some.inj h
                    refine W_run 3 [] [5, 12, 13, 15, 50, 51] [13, 45] (fr' := [(5, .one (.slc 45)), (12, aI x1883.1), (13, .one (.ptr 13 0)), (15, aI (w64 (x2590.1 + (1 : Int)))), (50, aI (List.length v200 : Int)), (51, aI i1882)]) (L' := [(13, .cells [.dat tI i1882]), (45, .rows 0 (.slice tI) v2777 [])]) (obs := []) (by kernel_rfl) (by kernel_rfl) (by kernel_rfl) allP0 ?_
                    exact round_next' (by kernel_rfl) (by kernel_rfl)
                · replace h := ofF h2686 h
                  obtain rfl := Option.some.inj h
                  refine W_exit (id := 6) [5, 12, 50, 51] [45] (fr' := [(5, .one (.slc 45)), (12, aI x1883.1), (50, aI (List.length v200 : Int)), (51, aI i1882)]) (L' := [(45, .rows 0 (.slice tI) x2590.2 [])]) (by kernel_rfl) (by kernel_rfl) ?_
                  refine seqQ_exit ?_
                  refine round_exit ?_
                  exact exQ_mk (by kernel_rfl) (by kernel_rfl)
              · intro e fr L hJ
                obtain ⟨rfl, rfl, rfl⟩ := hJ
                refine LT_keep [5, 12, 50, 51] [45] (fr' := [(5, .one (.slc 45)), (12, aI x1883.1), (50, aI (List.length v200 : Int)), (51, aI i1882)]) (L' := [(45, .rows 0 (.slice tI) v2781 [])]) (by kernel_rfl) ?_
                refine blockQ_hit ?_
                refine seqQ_norm ?_
                refine W_seq (by kernel_rfl) ?_
                refine W_run 3 [] [5, 12, 50, 51] [45] (fr' := [(5, .one (.slc 45)), (12, aI (w64 (x1883.1 + (1 : Int)))), (50, aI (List.length v200 : Int)), (51, aI i1882)]) (L' := [(45, .rows 0 (.slice tI) v2781 [])]) (obs := []) (by kernel_rfl) (by kernel_rfl) (by kernel_rfl) allP0 ?_
                refine seqQ_norm ?_
                refine W_seq (by kernel_rfl) ?_
                refine W_run 4 [] [5, 12, 50, 51, 140] [45] (fr' := [(5, .one (.slc 45)), (12, aI (w64 (x1883.1 + (1 : Int)))), (50, aI (List.length v200 : Int)), (51, aI i1882), (140, aB ((w64 (x1883.1 + (1 : Int))) == (List.length v2781 : Int)))]) (L' := [(45, .rows 0 (.slice tI) v2781 [])]) (obs := []) (by kernel_rfl) (by kernel_rfl) (by kernel_rfl) allP0 ?_
                refine seqQ_norm ?_
                refine W_cond (o := .tmp 140) (b := (w64 (x1883.1 + (1 : Int))) == (List.length v2781 : Int)) (by kernel_rfl) (by kernel_rfl) (fun h2785 => ?_) (fun h2785 => ?_)
                · replace h := ofT h2785 h
                  obtain rfl := Option.some.inj h
                  refine W_exit (id := 4) [12] [] (fr' := [(12, aI (w64 (x1883.1 + (1 : Int))))]) (L' := []) (by kernel_rfl) (by kernel_rfl) ?_
                  refine blockQ_miss rfl ?_
                  refine escQ_ret ?_
                  exact exQ_mk (by kernel_rfl) (by kernel_rfl)
                · replace h := ofF h2785 h
                  obtain rfl := Option.some.inj h
                  refine W_skip [5, 12, 50, 51] [45] (fr' := [(5, .one (.slc 45)), (12, aI (w64 (x1883.1 + (1 : Int)))), (50, aI (List.length v200 : Int)), (51, aI i1882)]) (L' := [(45, .rows 0 (.slice tI) v2781 [])]) (by kernel_rfl) (by kernel_rfl) ?_
                  refine blockQ_norm ?_
                  refine escQ_brk ?_
                  exact exQ_mk (by kernel_rfl) (by kernel_rfl)
          · intro e fr L hJ
            rcases v2786 with v2788 | v2789
            · obtain ⟨rfl, rfl, rfl⟩ := hJ
              obtain rfl := Option.some.inj h
              refine LT_keep [12] [] (fr' := [(12, aI (w64 (x1883.1 + (1 : Int))))]) (L' := []) (by kernel_rfl) ?_
              refine seqQ_exit ?_
              refine round_exit ?_
              exact exQ_mk (by kernel_rfl) (by kernel_rfl)
            · obtain ⟨rfl, rfl, rfl⟩ := hJ
              refine LT_keep [5, 12, 50, 51] [45] (fr' := [(5, .one (.slc 45)), (12, aI v2789.1), (50, aI (List.length v200 : Int)), (51, aI i1882)]) (L' := [(45, .rows 0 (.slice tI) v2789.2 [])]) (by kernel_rfl) ?_
              refine seqQ_norm ?_
              obtain rfl := Option.some.inj h
              refine W_run 2 [] [5, 12, 50, 51] [45] (fr' := [(5, .one (.slc 45)), (12, aI v2789.1), (50, aI (List.length v200 : Int)), (51, aI (w64 (i1882 + (1 : Int))))]) (L' := [(45, .rows 0 (.slice tI) v2789.2 [])]) (obs := []) (by kernel_rfl) (by kernel_rfl) (by kernel_rfl) allP0 ?_
              exact round_next' (by kernel_rfl) (by kernel_rfl)
        · obtain rfl := stepI_false h1885 h
          refine W_exit (id := 4) [12] [] (fr' := [(12, aI x1883.1)]) (L' := []) (by kernel_rfl) (by kernel_rfl) ?_
          refine seqQ_exit ?_
          refine round_exit ?_
          exact exQ_mk (by kernel_rfl) (by kernel_rfl)
      · intro e fr L hJ
        obtain ⟨rfl, rfl, rfl⟩ := hJ
        refine LT_keep [12] [] (fr' := [(12, aI v2791)]) (L' := []) (by kernel_rfl) ?_
        refine blockQ_hit ?_
        refine seqQ_norm ?_
        refine W_seq (by kernel_rfl) ?_
        refine W_run 3 [] [2, 3] [] (fr' := [(2, aI v2791), (3, aI (0 : Int))]) (L' := []) (obs := []) (by kernel_rfl) (by kernel_rfl) (by kernel_rfl) allP0 ?_
        refine seqQ_norm ?_
        obtain rfl := Option.some.inj h
        refine W_ret [2, 3] [] (fr' := [(2, aI v2791), (3, aI (0 : Int))]) (L' := []) (by kernel_rfl) (by kernel_rfl) ?_
        exact retQ_mk (by kernel_rfl) (by kernel_rfl) (by kernel_rfl)

def ref_Within (a0 : Int) (a1 : Int) (a2 : Int) : Option Bool :=
some ((decide (a0 ≤ a1)) && (decide (a1 ≤ a2)))
theorem ref_Within_ok {a0 : Int} {a1 : Int} {a2 : Int} {r : Bool} (h : ref_Within a0 a1 a2 = some r) : FnC Try.prog 16 [aI a0, aI a1, aI a2] [] (aB r) [] := by
  refine fnC_of_W (B := bodyOf Try.f16) (n := 15) Try.func16 (by kernel_rfl) (by kernel_rfl) (by kernel_rfl) (by kernel_rfl) (by kernel_rfl) ?_
  intro K
  refine W_seq (by kernel_rfl) ?_
  refine W_run 1 [] [0, 1, 2] [] (fr' := [(0, aI a0), (1, aI a1), (2, aI a2)]) (L' := []) (obs := []) (by kernel_rfl) (by kernel_rfl) (by kernel_rfl) allP0 ?_
  refine seqQ_norm ?_
  refine W_seq (by kernel_rfl) ?_
  refine W_run 9 [] [6] [] (fr' := [(6, aB ((decide (a0 ≤ a1)) && (decide (a1 ≤ a2))))]) (L' := []) (obs := []) (by kernel_rfl) (by kernel_rfl) (by kernel_rfl) allP0 ?_
  refine seqQ_norm ?_
  obtain rfl := Option.some.inj h
  refine W_ret [6] [] (fr' := [(6, aB ((decide (a0 ≤ a1)) && (decide (a1 ≤ a2))))]) (L' := []) (by kernel_rfl) (by kernel_rfl) ?_
  exact retQ_mk (by kernel_rfl) (by kernel_rfl) (by kernel_rfl)

def ref_TalkCheck_g1 (a0 : (List (List Bool))) : Option Bool :=
(ref_Within (1 : Int) (List.length a0 : Int) (4 : Int)).bind fun r15 =>
bif !r15 then
(some true)
else
((idx a0 (0 : Int)).bind fun v18 =>
(ref_Within (1 : Int) (List.length v18 : Int) (4 : Int)).bind fun r20 =>
some (!r20))
def ref_TalkCheck_b2 (a0 : (List (List Bool))) (i37 : Int) (v40 : (List Bool)) (x38 : Unit) : Option (Flow Unit (Esc Int Unit)) :=
(idx a0 (0 : Int)).bind fun v43 =>
bif (List.length v40 : Int) != (List.length v43 : Int) then
(some (.done (.ret (3 : Int))))
else
(some (.next ()))
@[reducible] def ref_TalkCheck_s3 (a0 : (List (List Bool))) (v : Int × Unit) : Fr × LL := ([(0, aD (.slice (.slice .bool)) a0), (17, aD (.slice (.slice .bool)) a0), (18, aI (List.length a0 : Int)), (19, aI v.1)], [])
@[reducible] def ref_TalkCheck_s4 (v : Int) : Fr × LL := ([(2, aI v)], [])
@[reducible] def ref_TalkCheck_s5 (v : Unit) : Fr × LL := ([], [])
@[reducible] def ref_TalkCheck_s6 (a0 : (List (List Bool))) (v : Bool) : Fr × LL := ([(0, aD (.slice (.slice .bool)) a0), (16, aB v)], [])
def ref_TalkCheck (a0 : (List (List Bool))) : Option Int :=
(ref_TalkCheck_g1 a0).bind fun v22 =>
bif v22 then
(some (1 : Int))
else
((forL (ref_TalkCheck_b2 a0) (fun x38 => (.brk ())) a0 0 ()).bind fun v47 =>
match v47 with
| .ret v52 =>
(some v52)
| .brk v53 =>
(some (0 : Int)))
theorem ref_TalkCheck_ok {a0 : (List (List Bool))} {r : Int} (h : ref_TalkCheck a0 = some r) : FnC Try.prog 21 [aD (.slice (.slice .bool)) a0] [] (aI r) [] := by
  refine fnC_of_W (B := bodyOf Try.f21) (n := 31) Try.func21 (by kernel_rfl) (by kernel_rfl) (by kernel_rfl) (by kernel_rfl) (by kernel_rfl) ?_
  intro K
  refine W_seq (by kernel_rfl) ?_
  refine W_run 1 [] [0] [] (fr' := [(0, aD (.slice (.slice .bool)) a0)]) (L' := []) (obs := []) (by kernel_rfl) (by kernel_rfl) (by kernel_rfl) allP0 ?_
  refine seqQ_norm ?_
  refine W_seq (by kernel_rfl) ?_
  refine W_seq (by kernel_rfl) ?_
  obtain ⟨v22, h23, h⟩ := bind_of h
  refine W_cutK (Q' := (exQ .normal (ref_TalkCheck_s6 a0)) v22) ?_ ?_
  · replace h := h23
    refine W_region (by kernel_rfl) ?_
    refine WO_run (j := 2) (k := 2) (orcs := []) (kF := [0, 6]) (kL := []) (fr' := [(0, aD (.slice (.slice .bool)) a0), (6, aI (List.length a0 : Int))]) (L' := []) (obs := []) rfl (by kernel_rfl) allP0 ?_
    obtain ⟨r15, h16, h⟩ := bind_of h
    refine WO_call0 (us := [none, none, none]) (d := 7) (p := True) (j := 3) rfl ⟨by kernel_rfl, by kernel_rfl, by kernel_rfl⟩ trivial (ref_Within_ok h16) (by kernel_rfl) ?_
    refine WO_run (j := 5) (k := 2) (orcs := []) (kF := [0, 9]) (kL := []) (fr' := [(0, aD (.slice (.slice .bool)) a0), (9, aB (!r15))]) (L' := []) (obs := []) rfl (by kernel_rfl) allP0 ?_
    rcases Bool.eq_false_or_eq_true (!r15) with h17 | h17
    · replace h := ofT h17 h
      refine WO_run (j := 12) (k := 7) (orcs := [(10, .known true), (12, .known true), (14, .known true), (16, .known true), (18, .known true), (20, .known true), (23, .val (.dat .bool true))]) (kF := [0, 16]) (kL := []) (fr' := [(0, aD (.slice (.slice .bool)) a0), (16, aB true)]) (L' := []) (obs := [((!r15) = true), ((!r15) = true), ((!r15) = true), ((!r15) = true), ((!r15) = true), ((!r15) = true), ((!r15) = true)]) rfl (by kernel_rfl) (allP2 h17 (allP2 h17 (allP2 h17 (allP2 h17 (allP2 h17 (allP2 h17 (allP1 h17))))))) ?_
      obtain rfl := Option.some.inj h
      refine WO_fin [0, 16] [] (fr' := [(0, aD (.slice (.slice .bool)) a0), (16, aB true)]) (L' := []) (by kernel_rfl) (by kernel_rfl) ?_
      exact exQ_mk (by kernel_rfl) (by kernel_rfl)
    · replace h := ofF h17 h
      obtain ⟨v18, h19, h⟩ := bind_of h
      refine WO_run (j := 9) (k := 4) (orcs := [(10, .known false), (12, .known false), (13, .val (.dat (.slice .bool) v18)), (14, .known false), (16, .known false)]) (kF := [0, 9, 13]) (kL := []) (fr' := [(0, aD (.slice (.slice .bool)) a0), (9, aB (!r15)), (13, aI (List.length v18 : Int))]) (L' := []) (obs := [((!r15) = false), ((!r15) = false), Idx a0 (0 : Int) v18, ((!r15) = false), ((!r15) = false)]) rfl (by kernel_rfl) (allP2 h17 (allP2 h17 (allP2 (Idx.of h19) (allP2 h17 (allP1 h17))))) ?_
      obtain ⟨r20, h21, h⟩ := bind_of h
      refine WO_call0 (us := [none, none, none]) (d := 14) (p := ((!r15) = false)) (j := 10) rfl ⟨by kernel_rfl, by kernel_rfl, by kernel_rfl⟩ h17 (ref_Within_ok h21) (by kernel_rfl) ?_
      refine WO_run (j := 12) (k := 2) (orcs := [(20, .known false), (23, .val (.dat .bool false))]) (kF := [0, 16]) (kL := []) (fr' := [(0, aD (.slice (.slice .bool)) a0), (16, aB (!r20))]) (L' := []) (obs := [((!r15) = false), ((!r15) = false)]) rfl (by kernel_rfl) (allP2 h17 (allP1 h17)) ?_
      obtain rfl := Option.some.inj h
      refine WO_fin [0, 16] [] (fr' := [(0, aD (.slice (.slice .bool)) a0), (16, aB (!r20))]) (L' := []) (by kernel_rfl) (by kernel_rfl) ?_
      exact exQ_mk (by kernel_rfl) (by kernel_rfl)
  · intro e fr L hJ
    obtain ⟨rfl, rfl, rfl⟩ := hJ
    refine LT_keep [0, 16] [] (fr' := [(0, aD (.slice (.slice .bool)) a0), (16, aB v22)]) (L' := []) (by kernel_rfl) ?_
    refine seqQ_norm ?_
    refine W_cond (o := .tmp 16) (b := v22) (by kernel_rfl) (by kernel_rfl) (fun h24 => ?_) (fun h24 => ?_)
    · replace h := ofT h24 h
      refine W_seq (by kernel_rfl) ?_
      refine W_run 1 [] [2] [] (fr' := [(2, aI (1 : Int))]) (L' := []) (obs := []) (by kernel_rfl) (by kernel_rfl) (by kernel_rfl) allP0 ?_
      refine seqQ_norm ?_
      obtain rfl := Option.some.inj h
      refine W_ret [2] [] (fr' := [(2, aI (1 : Int))]) (L' := []) (by kernel_rfl) (by kernel_rfl) ?_
      refine seqQ_ret ?_
      exact retQ_mk (by kernel_rfl) (by kernel_rfl) (by kernel_rfl)
    · replace h := ofF h24 h
      refine W_skip [0] [] (fr' := [(0, aD (.slice (.slice .bool)) a0)]) (L' := []) (by kernel_rfl) (by kernel_rfl) ?_
      refine seqQ_norm ?_
      refine W_seq (by kernel_rfl) ?_
      refine W_seq (by kernel_rfl) ?_
      refine W_run 3 [] [0, 17, 18, 19] [] (fr' := [(0, aD (.slice (.slice .bool)) a0), (17, aD (.slice (.slice .bool)) a0), (18, aI (List.length a0 : Int)), (19, aI (0 : Int))]) (L' := []) (obs := []) (by kernel_rfl) (by kernel_rfl) (by kernel_rfl) allP0 ?_
      refine seqQ_norm ?_
      refine W_block (id := 0) (by kernel_rfl) ?_
      obtain ⟨v47, h48, h⟩ := bind_of h
      refine W_len (t := 17) (u := (.slice .bool)) (xs := a0) (by kernel_rfl) (fun h51 => ?_)
      obtain ⟨h49, h50⟩ := forL_iter h51 h48
      refine W_weaken [0, 17, 18, 19] [] (fr' := ((ref_TalkCheck_s3 a0) ((0 : Int), ())).1) (L' := ((ref_TalkCheck_s3 a0) ((0 : Int), ())).2) (by kernel_rfl) ?_
      refine W_cutK (W_loop (S := (ref_TalkCheck_s3 a0)) (J := (escQ (exQ .ret ref_TalkCheck_s4) (exQ (.exit 0) ref_TalkCheck_s5))) (by kernel_rfl) ?_ h49 _ v47 h50) ?_
      · rintro ⟨i37, x38⟩ s h
        refine W_seq (by kernel_rfl) ?_
        refine W_run 1 [] [0, 17, 18, 19, 20] [] (fr' := [(0, aD (.slice (.slice .bool)) a0), (17, aD (.slice (.slice .bool)) a0), (18, aI (List.length a0 : Int)), (19, aI i37), (20, aB (decide (i37 < (List.length a0 : Int))))]) (L' := []) (obs := []) (by kernel_rfl) (by kernel_rfl) (by kernel_rfl) allP0 ?_
        refine seqQ_norm ?_
        refine W_seq (by kernel_rfl) ?_
        refine W_cond (o := .tmp 20) (b := decide (i37 < (List.length a0 : Int))) (by kernel_rfl) (by kernel_rfl) (fun h42 => ?_) (fun h42 => ?_)
        · replace h := stepL_true h42 h
          obtain ⟨v40, _, h41, h, rfl⟩ := h
          refine W_skip [0, 17, 18, 19] [] (fr' := [(0, aD (.slice (.slice .bool)) a0), (17, aD (.slice (.slice .bool)) a0), (18, aI (List.length a0 : Int)), (19, aI i37)]) (L' := []) (by kernel_rfl) (by kernel_rfl) ?_
          refine seqQ_norm ?_
          refine W_seq (by kernel_rfl) ?_
          refine W_block (id := 1) (by kernel_rfl) ?_
          refine W_seq (by kernel_rfl) ?_
          refine W_run 3 [(1, .val (.dat (.slice .bool) v40))] [0, 4, 17, 18, 19] [] (fr' := [(0, aD (.slice (.slice .bool)) a0), (4, aD (.slice .bool) v40), (17, aD (.slice (.slice .bool)) a0), (18, aI (List.length a0 : Int)), (19, aI i37)]) (L' := []) (obs := [Idx a0 i37 v40]) (by kernel_rfl) (by kernel_rfl) (by kernel_rfl) (allP1 (Idx.of h41)) ?_
          refine seqQ_norm ?_
          refine W_seq (by kernel_rfl) ?_
          obtain ⟨v43, h44, h⟩ := bind_of h
          refine W_run 7 [(7, .val (.dat (.slice .bool) v43))] [0, 17, 18, 19, 29] [] (fr' := [(0, aD (.slice (.slice .bool)) a0), (17, aD (.slice (.slice .bool)) a0), (18, aI (List.length a0 : Int)), (19, aI i37), (29, aB ((List.length v40 : Int) != (List.length v43 : Int)))]) (L' := []) (obs := [Idx a0 (0 : Int) v43]) (by kernel_rfl) (by kernel_rfl) (by kernel_rfl) (allP1 (Idx.of h44)) ?_
          refine seqQ_norm ?_
          refine W_cond (o := .tmp 29) (b := (List.length v40 : Int) != (List.length v43 : Int)) (by kernel_rfl) (by kernel_rfl) (fun h45 => ?_) (fun h45 => ?_)
          · replace h := ofT h45 h
            refine W_seq (by kernel_rfl) ?_
            refine W_run 1 [] [2] [] (fr' := [(2, aI (3 : Int))]) (L' := []) (obs := []) (by kernel_rfl) (by kernel_rfl) (by kernel_rfl) allP0 ?_
            refine seqQ_norm ?_
            obtain rfl := Option.some.inj h
            refine W_ret [2] [] (fr' := [(2, aI (3 : Int))]) (L' := []) (by kernel_rfl) (by kernel_rfl) ?_
            refine blockQ_ret ?_
            refine seqQ_ret ?_
            refine round_ret ?_
            refine escQ_ret ?_
            exact exQ_mk (by kernel_rfl) (by kernel_rfl)
          · replace h := ofF h45 h
            refine W_skip [0, 17, 18, 19] [] (fr' := [(0, aD (.slice (.slice .bool)) a0), (17, aD (.slice (.slice .bool)) a0), (18, aI (List.length a0 : Int)), (19, aI i37)]) (L' := []) (by kernel_rfl) (by kernel_rfl) ?_
            refine blockQ_norm ?_
            refine seqQ_norm ?_
            obtain rfl := Option.some.inj h
            refine W_run 2 [] [0, 17, 18, 19] [] (fr' := [(0, aD (.slice (.slice .bool)) a0), (17, aD (.slice (.slice .bool)) a0), (18, aI (List.length a0 : Int)), (19, aI (w64 (i37 + (1 : Int))))]) (L' := []) (obs := []) (by kernel_rfl) (by kernel_rfl) (by kernel_rfl) allP0 ?_
            exact round_next' (by kernel_rfl) (by kernel_rfl)
        · obtain rfl := stepL_false h42 h
          refine W_exit (id := 0) [] [] (fr' := []) (L' := []) (by kernel_rfl) (by kernel_rfl) ?_
          refine seqQ_exit ?_
          refine round_exit ?_
          refine escQ_brk ?_
          exact exQ_mk (by kernel_rfl) (by kernel_rfl)
      · intro e fr L hJ
        rcases v47 with v52 | v53
        · obtain ⟨rfl, rfl, rfl⟩ := hJ
          obtain rfl := Option.some.inj h
          refine LT_keep [2] [] (fr' := [(2, aI v52)]) (L' := []) (by kernel_rfl) ?_
          refine blockQ_ret ?_
          refine seqQ_ret ?_
          exact retQ_mk (by kernel_rfl) (by kernel_rfl) (by kernel_rfl)
        · obtain ⟨rfl, rfl, rfl⟩ := hJ
          refine LT_keep [] [] (fr' := []) (L' := []) (by kernel_rfl) ?_
          refine blockQ_hit ?_
          refine seqQ_norm ?_
          refine W_seq (by kernel_rfl) ?_
          refine W_run 1 [] [2] [] (fr' := [(2, aI (0 : Int))]) (L' := []) (obs := []) (by kernel_rfl) (by kernel_rfl) (by kernel_rfl) allP0 ?_
          refine seqQ_norm ?_
          obtain rfl := Option.some.inj h
          refine W_ret [2] [] (fr' := [(2, aI (0 : Int))]) (L' := []) (by kernel_rfl) (by kernel_rfl) ?_
          exact retQ_mk (by kernel_rfl) (by kernel_rfl) (by kernel_rfl)

def ref_Bit (a0 : Int) (a1 : Int) : Option Bool :=
bif (decide (a1 ≥ (0 : Int))) && (decide (a1 < (63 : Int))) then
((ck (0 ≤ IntKind.wrap .u64 (a1))).bind fun _ =>
some ((bAnd .i64 a0 (bShl .i64 (1 : Int) (IntKind.wrap .u64 (a1)))) != (0 : Int)))
else
(some false)
theorem ref_Bit_ok {a0 : Int} {a1 : Int} {r : Bool} (h : ref_Bit a0 a1 = some r) : FnC Try.prog 61 [aI a0, aI a1] [] (aB r) [] := by
  refine fnC_of_W (B := bodyOf Try.f61) (n := 19) Try.func61 (by kernel_rfl) (by kernel_rfl) (by kernel_rfl) (by kernel_rfl) (by kernel_rfl) ?_
  intro K
  refine W_seq (by kernel_rfl) ?_
  refine W_run 1 [] [0, 1] [] (fr' := [(0, aI a0), (1, aI a1)]) (L' := []) (obs := []) (by kernel_rfl) (by kernel_rfl) (by kernel_rfl) allP0 ?_
  refine seqQ_norm ?_
  refine W_seq (by kernel_rfl) ?_
  refine W_region (by kernel_rfl) ?_
  refine WO_run (j := 7) (k := 7) (orcs := []) (kF := [0, 1, 11]) (kL := []) (fr' := [(0, aI a0), (1, aI a1), (11, aB ((decide (a1 ≥ (0 : Int))) && (decide (a1 < (63 : Int)))))]) (L' := []) (obs := []) rfl (by kernel_rfl) allP0 ?_
  rcases Bool.eq_false_or_eq_true ((decide (a1 ≥ (0 : Int))) && (decide (a1 < (63 : Int)))) with h1 | h1
  · replace h := ofT h1 h
    obtain ⟨_, h2, h⟩ := bind_of h
    replace h2 := ck_some h2
    refine WO_run (j := 15) (k := 8) (orcs := [(14, .known true), (16, .known true), (18, .known true), (20, .known true), (22, .known true), (24, .known true), (27, .val (.dat .bool true))]) (kF := [4]) (kL := []) (fr' := [(4, aB ((bAnd .i64 a0 (bShl .i64 (1 : Int) (IntKind.wrap .u64 (a1)))) != (0 : Int)))]) (L' := []) (obs := [(((decide (a1 ≥ (0 : Int))) && (decide (a1 < (63 : Int)))) = true), (((decide (a1 ≥ (0 : Int))) && (decide (a1 < (63 : Int)))) = true), (((decide (a1 ≥ (0 : Int))) && (decide (a1 < (63 : Int)))) = true), (((decide (a1 ≥ (0 : Int))) && (decide (a1 < (63 : Int)))) = true), (0 ≤ IntKind.wrap .u64 (a1)), (((decide (a1 ≥ (0 : Int))) && (decide (a1 < (63 : Int)))) = true), (((decide (a1 ≥ (0 : Int))) && (decide (a1 < (63 : Int)))) = true), (((decide (a1 ≥ (0 : Int))) && (decide (a1 < (63 : Int)))) = true)]) rfl (by kernel_rfl) (allP2 h1 (allP2 h1 (allP2 h1 (allP2 h1 (allP2 h2 (allP2 h1 (allP2 h1 (allP1 h1)))))))) ?_
    refine WO_fin [4] [] (fr' := [(4, aB ((bAnd .i64 a0 (bShl .i64 (1 : Int) (IntKind.wrap .u64 (a1)))) != (0 : Int)))]) (L' := []) (by kernel_rfl) (by kernel_rfl) ?_
    refine seqQ_norm ?_
    obtain rfl := Option.some.inj h
    refine W_ret [4] [] (fr' := [(4, aB ((bAnd .i64 a0 (bShl .i64 (1 : Int) (IntKind.wrap .u64 (a1)))) != (0 : Int)))]) (L' := []) (by kernel_rfl) (by kernel_rfl) ?_
    exact retQ_mk (by kernel_rfl) (by kernel_rfl) (by kernel_rfl)
  · replace h := ofF h1 h
    refine WO_run (j := 15) (k := 8) (orcs := [(14, .known false), (16, .known false), (18, .known false), (20, .known false), (22, .known false), (24, .known false), (27, .val (.dat .bool false))]) (kF := [4]) (kL := []) (fr' := [(4, aB false)]) (L' := []) (obs := [(((decide (a1 ≥ (0 : Int))) && (decide (a1 < (63 : Int)))) = false), (((decide (a1 ≥ (0 : Int))) && (decide (a1 < (63 : Int)))) = false), (((decide (a1 ≥ (0 : Int))) && (decide (a1 < (63 : Int)))) = false), (((decide (a1 ≥ (0 : Int))) && (decide (a1 < (63 : Int)))) = false), (((decide (a1 ≥ (0 : Int))) && (decide (a1 < (63 : Int)))) = false), (((decide (a1 ≥ (0 : Int))) && (decide (a1 < (63 : Int)))) = false), (((decide (a1 ≥ (0 : Int))) && (decide (a1 < (63 : Int)))) = false)]) rfl (by kernel_rfl) (allP2 h1 (allP2 h1 (allP2 h1 (allP2 h1 (allP2 h1 (allP2 h1 (allP1 h1))))))) ?_
    refine WO_fin [4] [] (fr' := [(4, aB false)]) (L' := []) (by kernel_rfl) (by kernel_rfl) ?_
    refine seqQ_norm ?_
    obtain rfl := Option.some.inj h
    refine W_ret [4] [] (fr' := [(4, aB false)]) (L' := []) (by kernel_rfl) (by kernel_rfl) ?_
    exact retQ_mk (by kernel_rfl) (by kernel_rfl) (by kernel_rfl)

@[reducible] def ref_Size_s3 (a0 : Int) (i27 : Int) (v : Int) : Fr × LL := ([(0, aI a0), (3, aI v), (4, aI i27)], [])
def ref_Size_b4 (a0 : Int) (i27 : Int) (x28 : Int) : Option (Flow Int Int) :=
((ref_Bit a0 i27).bind fun r37 =>
bif r37 then
(some (w64 (x28 + (1 : Int))))
else
(some x28)).bind fun v40 =>
some (.next v40)
@[reducible] def ref_Size_s5 (a0 : Int) (v : Int × Int) : Fr × LL := ([(0, aI a0), (3, aI v.2), (4, aI v.1)], [])
@[reducible] def ref_Size_s6 (v : Int) : Fr × LL := ([(3, aI v)], [])
def ref_Size (a0 : Int) : Option Int :=
(forI (0 : Int) (63 : Int) (ref_Size_b4 a0) (fun x28 => x28) (0 : Int)).bind fun v43 =>
some v43
theorem ref_Size_ok {a0 : Int} {r : Int} (h : ref_Size a0 = some r) : FnC Try.prog 57 [aI a0] [] (aI r) [] := by
  refine fnC_of_W (B := bodyOf Try.f57) (n := 15) Try.func57 (by kernel_rfl) (by kernel_rfl) (by kernel_rfl) (by kernel_rfl) (by kernel_rfl) ?_
  intro K
  refine W_seq (by kernel_rfl) ?_
  refine W_run 1 [] [0] [] (fr' := [(0, aI a0)]) (L' := []) (obs := []) (by kernel_rfl) (by kernel_rfl) (by kernel_rfl) allP0 ?_
  refine seqQ_norm ?_
  refine W_seq (by kernel_rfl) ?_
  refine W_run 1 [] [0, 3] [] (fr' := [(0, aI a0), (3, aI (0 : Int))]) (L' := []) (obs := []) (by kernel_rfl) (by kernel_rfl) (by kernel_rfl) allP0 ?_
  refine seqQ_norm ?_
  refine W_seq (by kernel_rfl) ?_
  refine W_seq (by kernel_rfl) ?_
  refine W_run 1 [] [0, 3, 4] [] (fr' := [(0, aI a0), (3, aI (0 : Int)), (4, aI (0 : Int))]) (L' := []) (obs := []) (by kernel_rfl) (by kernel_rfl) (by kernel_rfl) allP0 ?_
  refine seqQ_norm ?_
  refine W_block (id := 0) (by kernel_rfl) ?_
  obtain ⟨v43, h44, h⟩ := bind_of h
  obtain ⟨h45, h46⟩ := forI_iter h44
  refine W_weaken [0, 3, 4] [] (fr' := ((ref_Size_s5 a0) ((0 : Int), (0 : Int))).1) (L' := ((ref_Size_s5 a0) ((0 : Int), (0 : Int))).2) (by kernel_rfl) ?_
  refine W_cutK (W_loop (S := (ref_Size_s5 a0)) (J := (exQ (.exit 0) ref_Size_s6)) (by kernel_rfl) ?_ h45 _ v43 h46) ?_
  · rintro ⟨i27, x28⟩ s h
    refine W_seq (by kernel_rfl) ?_
    refine W_seq (by kernel_rfl) ?_
    refine W_run 2 [] [0, 3, 4, 6] [] (fr' := [(0, aI a0), (3, aI x28), (4, aI i27), (6, aB (decide (i27 < (63 : Int))))]) (L' := []) (obs := []) (by kernel_rfl) (by kernel_rfl) (by kernel_rfl) allP0 ?_
    refine seqQ_norm ?_
    refine W_cond (o := .tmp 6) (b := decide (i27 < (63 : Int))) (by kernel_rfl) (by kernel_rfl) (fun h30 => ?_) (fun h30 => ?_)
    · replace h := stepI_true h30 h
      obtain ⟨_, h, rfl⟩ := h
      refine W_skip [0, 3, 4] [] (fr' := [(0, aI a0), (3, aI x28), (4, aI i27)]) (L' := []) (by kernel_rfl) (by kernel_rfl) ?_
      refine seqQ_norm ?_
      refine W_seq (by kernel_rfl) ?_
      obtain ⟨v40, h41, h⟩ := bind_of h
      refine W_cutK (Q' := (exQ .normal (ref_Size_s3 a0 i27)) v40) ?_ ?_
      · replace h := h41
        refine W_block (id := 1) (by kernel_rfl) ?_
        refine W_seq (by kernel_rfl) ?_
        refine W_region (by kernel_rfl) ?_
        refine WO_run (j := 2) (k := 2) (orcs := []) (kF := [0, 3, 4, 9, 10]) (kL := []) (fr' := [(0, aI a0), (3, aI x28), (4, aI i27), (9, aI a0), (10, aI i27)]) (L' := []) (obs := []) rfl (by kernel_rfl) allP0 ?_
        obtain ⟨r37, h38, h⟩ := bind_of h
        refine WO_call0 (us := [none, none]) (d := 11) (p := True) (j := 3) rfl ⟨by kernel_rfl, by kernel_rfl, by kernel_rfl⟩ trivial (ref_Bit_ok h38) (by kernel_rfl) ?_
        refine WO_fin [0, 3, 4, 11] [] (fr' := [(0, aI a0), (3, aI x28), (4, aI i27), (11, aB r37)]) (L' := []) (by kernel_rfl) (by kernel_rfl) ?_
        refine seqQ_norm ?_
        refine W_cond (o := .tmp 11) (b := r37) (by kernel_rfl) (by kernel_rfl) (fun h39 => ?_) (fun h39 => ?_)
        · replace h := ofT h39 h
          obtain rfl := Option.some.inj h
          refine W_run 3 [] [0, 3, 4] [] (fr' := [(0, aI a0), (3, aI (w64 (x28 + (1 : Int)))), (4, aI i27)]) (L' := []) (obs := []) (by kernel_rfl) (by kernel_rfl) (by kernel_rfl) allP0 ?_
          refine blockQ_norm ?_
          exact exQ_mk (by kernel_rfl) (by kernel_rfl)
        · replace h := ofF h39 h
          obtain rfl := Option.some.inj h
          refine W_skip [0, 3, 4] [] (fr' := [(0, aI a0), (3, aI x28), (4, aI i27)]) (L' := []) (by kernel_rfl) (by kernel_rfl) ?_
          refine blockQ_norm ?_
          exact exQ_mk (by kernel_rfl) (by kernel_rfl)
      · intro e fr L hJ
        obtain ⟨rfl, rfl, rfl⟩ := hJ
        refine LT_keep [0, 3, 4] [] (fr' := [(0, aI a0), (3, aI v40), (4, aI i27)]) (L' := []) (by kernel_rfl) ?_
        refine seqQ_norm ?_
        obtain rfl := Option.some.inj h
        refine W_run 3 [] [0, 3, 4] [] (fr' := [(0, aI a0), (3, aI v40), (4, aI (w64 (i27 + (1 : Int))))]) (L' := []) (obs := []) (by kernel_rfl) (by kernel_rfl) (by kernel_rfl) allP0 ?_
        exact round_next' (by kernel_rfl) (by kernel_rfl)
    · obtain rfl := stepI_false h30 h
      refine W_exit (id := 0) [3] [] (fr' := [(3, aI x28)]) (L' := []) (by kernel_rfl) (by kernel_rfl) ?_
      refine seqQ_exit ?_
      refine round_exit ?_
      exact exQ_mk (by kernel_rfl) (by kernel_rfl)
  · intro e fr L hJ
    obtain ⟨rfl, rfl, rfl⟩ := hJ
    refine LT_keep [3] [] (fr' := [(3, aI v43)]) (L' := []) (by kernel_rfl) ?_
    refine blockQ_hit ?_
    refine seqQ_norm ?_
    refine W_seq (by kernel_rfl) ?_
    refine W_run 2 [] [2] [] (fr' := [(2, aI v43)]) (L' := []) (obs := []) (by kernel_rfl) (by kernel_rfl) (by kernel_rfl) allP0 ?_
    refine seqQ_norm ?_
    obtain rfl := Option.some.inj h
    refine W_ret [2] [] (fr' := [(2, aI v43)]) (L' := []) (by kernel_rfl) (by kernel_rfl) ?_
    exact retQ_mk (by kernel_rfl) (by kernel_rfl) (by kernel_rfl)

@[reducible] def ref_ListOf_s3 (a0 : Int) (i30 : Int) (v : (List Int)) : Fr × LL := ([(0, aI a0), (3, .one (.slc 15)), (4, aI i30)], [(15, .seq tI v)])
def ref_ListOf_b4 (a0 : Int) (i30 : Int) (x31 : (List Int)) : Option (Flow (List Int) (List Int)) :=
((ref_Bit a0 i30).bind fun r42 =>
bif r42 then
((ck ((List.length x31 : Int) + 1 ≤ 4294967296)).bind fun _ =>
some (x31 ++ [i30]))
else
(some x31)).bind fun v46 =>
some (.next v46)
@[reducible] def ref_ListOf_s5 (a0 : Int) (v : Int × (List Int)) : Fr × LL := ([(0, aI a0), (3, .one (.slc 15)), (4, aI v.1)], [(15, .seq tI v.2)])
@[reducible] def ref_ListOf_s6 (v : (List Int)) : Fr × LL := ([(3, .one (.slc 15))], [(15, .seq tI v)])
def ref_ListOf (a0 : Int) : Option (List Int) :=
(forI (0 : Int) (63 : Int) (ref_ListOf_b4 a0) (fun x31 => x31) []).bind fun v49 =>
some v49
theorem ref_ListOf_ok {a0 : Int} {r : (List Int)} (h : ref_ListOf a0 = some r) : FnC Try.prog 58 [aI a0] [] (aD (.slice tI) r) [] := by
  refine fnC_of_W (B := bodyOf Try.f58) (n := 17) Try.func58 (by kernel_rfl) (by kernel_rfl) (by kernel_rfl) (by kernel_rfl) (by kernel_rfl) ?_
  intro K
  refine W_seq (by kernel_rfl) ?_
  refine W_run 1 [] [0] [] (fr' := [(0, aI a0)]) (L' := []) (obs := []) (by kernel_rfl) (by kernel_rfl) (by kernel_rfl) allP0 ?_
  refine seqQ_norm ?_
  refine W_seq (by kernel_rfl) ?_
  refine W_run 1 [] [0, 3] [] (fr' := [(0, aI a0), (3, .one (.nilS))]) (L' := []) (obs := []) (by kernel_rfl) (by kernel_rfl) (by kernel_rfl) allP0 ?_
  refine seqQ_norm ?_
  refine W_seq (by kernel_rfl) ?_
  refine W_seq (by kernel_rfl) ?_
  refine W_run 1 [] [0, 3, 4] [] (fr' := [(0, aI a0), (3, .one (.nilS)), (4, aI (0 : Int))]) (L' := []) (obs := []) (by kernel_rfl) (by kernel_rfl) (by kernel_rfl) allP0 ?_
  refine seqQ_norm ?_
  refine W_block (id := 0) (by kernel_rfl) ?_
  obtain ⟨v49, h50, h⟩ := bind_of h
  obtain ⟨h51, h52⟩ := forI_iter h50
  refine W_mine 3 15 tI (by kernel_rfl) ?_
  refine W_weaken [0, 3, 4] [15] (fr' := ((ref_ListOf_s5 a0) ((0 : Int), [])).1) (L' := ((ref_ListOf_s5 a0) ((0 : Int), [])).2) (by kernel_rfl) ?_
  refine W_cutK (W_loop (S := (ref_ListOf_s5 a0)) (J := (exQ (.exit 0) ref_ListOf_s6)) (by kernel_rfl) ?_ h51 _ v49 h52) ?_
  · rintro ⟨i30, x31⟩ s h
    refine W_seq (by kernel_rfl) ?_
    refine W_seq (by kernel_rfl) ?_
    refine W_run 2 [] [0, 3, 4, 6] [15] (fr' := [(0, aI a0), (3, .one (.slc 15)), (4, aI i30), (6, aB (decide (i30 < (63 : Int))))]) (L' := [(15, .seq tI x31)]) (obs := []) (by kernel_rfl) (by kernel_rfl) (by kernel_rfl) allP0 ?_
    refine seqQ_norm ?_
    refine W_cond (o := .tmp 6) (b := decide (i30 < (63 : Int))) (by kernel_rfl) (by kernel_rfl) (fun h33 => ?_) (fun h33 => ?_)
    · replace h := stepI_true h33 h
      obtain ⟨_, h, rfl⟩ := h
      refine W_skip [0, 3, 4] [15] (fr' := [(0, aI a0), (3, .one (.slc 15)), (4, aI i30)]) (L' := [(15, .seq tI x31)]) (by kernel_rfl) (by kernel_rfl) ?_
      refine seqQ_norm ?_
      refine W_seq (by kernel_rfl) ?_
      obtain ⟨v46, h47, h⟩ := bind_of h
      refine W_cutK (Q' := (exQ .normal (ref_ListOf_s3 a0 i30)) v46) ?_ ?_
      · replace h := h47
        refine W_block (id := 1) (by kernel_rfl) ?_
        refine W_seq (by kernel_rfl) ?_
        refine W_region (by kernel_rfl) ?_
        refine WO_run (j := 2) (k := 2) (orcs := []) (kF := [0, 3, 4, 9, 10]) (kL := [15]) (fr' := [(0, aI a0), (3, .one (.slc 15)), (4, aI i30), (9, aI a0), (10, aI i30)]) (L' := [(15, .seq tI x31)]) (obs := []) rfl (by kernel_rfl) allP0 ?_
        obtain ⟨r42, h43, h⟩ := bind_of h
        refine WO_call0 (us := [none, none]) (d := 11) (p := True) (j := 3) rfl ⟨by kernel_rfl, by kernel_rfl, by kernel_rfl⟩ trivial (ref_Bit_ok h43) (by kernel_rfl) ?_
        refine WO_fin [0, 3, 4, 11] [15] (fr' := [(0, aI a0), (3, .one (.slc 15)), (4, aI i30), (11, aB r42)]) (L' := [(15, .seq tI x31)]) (by kernel_rfl) (by kernel_rfl) ?_
        refine seqQ_norm ?_
        refine W_cond (o := .tmp 11) (b := r42) (by kernel_rfl) (by kernel_rfl) (fun h44 => ?_) (fun h44 => ?_)
        · replace h := ofT h44 h
          obtain ⟨_, h45, h⟩ := bind_of h
          replace h45 := ck_some h45
          obtain rfl := Option.some.inj h
          refine W_run 5 [] [0, 3, 4] [15] (fr' := [(0, aI a0), (3, .one (.slc 15)), (4, aI i30)]) (L' := [(15, .seq tI (x31 ++ [i30]))]) (obs := [SmallLen (List.length x31 + List.length [i30])]) (by kernel_rfl) (by kernel_rfl) (by kernel_rfl) (allP1 h45) ?_
          refine blockQ_norm ?_
          exact exQ_mk (by kernel_rfl) (by kernel_rfl)
        · replace h := ofF h44 h
          obtain rfl := Option.some.inj h
          refine W_skip [0, 3, 4] [15] (fr' := [(0, aI a0), (3, .one (.slc 15)), (4, aI i30)]) (L' := [(15, .seq tI x31)]) (by kernel_rfl) (by kernel_rfl) ?_
          refine blockQ_norm ?_
          exact exQ_mk (by kernel_rfl) (by kernel_rfl)
      · intro e fr L hJ
        obtain ⟨rfl, rfl, rfl⟩ := hJ
        refine LT_keep [0, 3, 4] [15] (fr' := [(0, aI a0), (3, .one (.slc 15)), (4, aI i30)]) (L' := [(15, .seq tI v46)]) (by kernel_rfl) ?_
        refine seqQ_norm ?_
        obtain rfl := Option.some.inj h
        refine W_run 3 [] [0, 3, 4] [15] (fr' := [(0, aI a0), (3, .one (.slc 15)), (4, aI (w64 (i30 + (1 : Int))))]) (L' := [(15, .seq tI v46)]) (obs := []) (by kernel_rfl) (by kernel_rfl) (by kernel_rfl) allP0 ?_
        exact round_next' (by kernel_rfl) (by kernel_rfl)
    · obtain rfl := stepI_false h33 h
      refine W_exit (id := 0) [3] [15] (fr' := [(3, .one (.slc 15))]) (L' := [(15, .seq tI x31)]) (by kernel_rfl) (by kernel_rfl) ?_
      refine seqQ_exit ?_
      refine round_exit ?_
      exact exQ_mk (by kernel_rfl) (by kernel_rfl)
  · intro e fr L hJ
    obtain ⟨rfl, rfl, rfl⟩ := hJ
    refine LT_keep [3] [15] (fr' := [(3, .one (.slc 15))]) (L' := [(15, .seq tI v49)]) (by kernel_rfl) ?_
    refine blockQ_hit ?_
    refine seqQ_norm ?_
    refine W_seq (by kernel_rfl) ?_
    refine W_run 2 [] [2] [15] (fr' := [(2, .one (.slc 15))]) (L' := [(15, .seq tI v49)]) (obs := []) (by kernel_rfl) (by kernel_rfl) (by kernel_rfl) allP0 ?_
    refine seqQ_norm ?_
    obtain rfl := Option.some.inj h
    refine W_frz 15 (by kernel_rfl) ?_
    refine W_ret [2] [] (fr' := [(2, aD (.slice tI) v49)]) (L' := []) (by kernel_rfl) (by kernel_rfl) ?_
    exact retQ_mk (by kernel_rfl) (by kernel_rfl) (by kernel_rfl)

def ref_without_b1 (a1 : Int) (i23 : Int) (v26 : (List Int)) (x24 : (List (List Int))) : Option (Flow (List (List Int)) (List (List Int))) :=
(ck (0 ≤ (0 : Int) ∧ (0 : Int) ≤ a1 ∧ a1 ≤ (List.length v26 : Int))).bind fun _ =>
(ck ((0 : Int) + (List.length (sub v26 (0 : Int) a1) : Int) ≤ 4294967296)).bind fun _ =>
(ck (0 ≤ w64 (a1 + (1 : Int)) ∧ w64 (a1 + (1 : Int)) ≤ (List.length v26 : Int) ∧ (List.length v26 : Int) ≤ (List.length v26 : Int))).bind fun _ =>
(ck ((List.length ([] ++ (sub v26 (0 : Int) a1)) : Int) + (List.length (sub v26 (w64 (a1 + (1 : Int))) (List.length v26 : Int)) : Int) ≤ 4294967296)).bind fun _ =>
(ck ((List.length x24 : Int) + 1 ≤ 4294967296)).bind fun _ =>
some (.next (x24 ++ [([] ++ (sub v26 (0 : Int) a1)) ++ (sub v26 (w64 (a1 + (1 : Int))) (List.length v26 : Int))]))
@[reducible] def ref_without_s2 (a0 : (List (List Int))) (a1 : Int) (v : Int × (List (List Int))) : Fr × LL := ([(1, aI a1), (5, .one (.slc 27)), (9, aD (.slice (.slice tI)) (sub a0 (1 : Int) (List.length a0 : Int))), (10, aI (List.length (sub a0 (1 : Int) (List.length a0 : Int)) : Int)), (11, aI v.1)], [(27, .seq (.slice tI) v.2)])
@[reducible] def ref_without_s3 (v : (List (List Int))) : Fr × LL := ([(5, .one (.slc 27))], [(27, .seq (.slice tI) v)])
def ref_without (a0 : (List (List Int))) (a1 : Int) : Option (List (List Int)) :=
(ck (0 ≤ (1 : Int) ∧ (1 : Int) ≤ (List.length a0 : Int) ∧ (List.length a0 : Int) ≤ (List.length a0 : Int))).bind fun _ =>
(forL (ref_without_b1 a1) (fun x24 => x24) (sub a0 (1 : Int) (List.length a0 : Int)) 0 []).bind fun v37 =>
some v37
theorem ref_without_ok {a0 : (List (List Int))} {a1 : Int} {r : (List (List Int))} (h : ref_without a0 a1 = some r) : FnC Try.prog 71 [aD (.slice (.slice tI)) a0, aI a1] [] (aD (.slice (.slice tI)) r) [] := by
  refine fnC_of_W (B := bodyOf Try.f71) (n := 30) Try.func71 (by kernel_rfl) (by kernel_rfl) (by kernel_rfl) (by kernel_rfl) (by kernel_rfl) ?_
  intro K
  refine W_seq (by kernel_rfl) ?_
  refine W_run 1 [] [0, 1] [] (fr' := [(0, aD (.slice (.slice tI)) a0), (1, aI a1)]) (L' := []) (obs := []) (by kernel_rfl) (by kernel_rfl) (by kernel_rfl) allP0 ?_
  refine seqQ_norm ?_
  refine W_seq (by kernel_rfl) ?_
  refine W_run 1 [] [0, 1, 5] [] (fr' := [(0, aD (.slice (.slice tI)) a0), (1, aI a1), (5, .one (.nilS))]) (L' := []) (obs := []) (by kernel_rfl) (by kernel_rfl) (by kernel_rfl) allP0 ?_
  refine seqQ_norm ?_
  refine W_seq (by kernel_rfl) ?_
  refine W_seq (by kernel_rfl) ?_
  obtain ⟨_, h1, h⟩ := bind_of h
  replace h1 := ck_some h1
  refine W_run 4 [] [1, 5, 9, 10, 11] [] (fr' := [(1, aI a1), (5, .one (.nilS)), (9, aD (.slice (.slice tI)) (sub a0 (1 : Int) (List.length a0 : Int))), (10, aI (List.length (sub a0 (1 : Int) (List.length a0 : Int)) : Int)), (11, aI (0 : Int))]) (L' := []) (obs := [Cuts (1 : Int) (List.length a0 : Int) (List.length a0)]) (by kernel_rfl) (by kernel_rfl) (by kernel_rfl) (allP1 h1) ?_
  refine seqQ_norm ?_
  refine W_block (id := 0) (by kernel_rfl) ?_
  obtain ⟨v37, h38, h⟩ := bind_of h
  refine W_len (t := 9) (u := (.slice tI)) (xs := sub a0 (1 : Int) (List.length a0 : Int)) (by kernel_rfl) (fun h41 => ?_)
  obtain ⟨h39, h40⟩ := forL_iter h41 h38
  refine W_mine 5 27 (.slice tI) (by kernel_rfl) ?_
  refine W_weaken [1, 5, 9, 10, 11] [27] (fr' := ((ref_without_s2 a0 a1) ((0 : Int), [])).1) (L' := ((ref_without_s2 a0 a1) ((0 : Int), [])).2) (by kernel_rfl) ?_
  refine W_cutK (W_loop (S := (ref_without_s2 a0 a1)) (J := (exQ (.exit 0) ref_without_s3)) (by kernel_rfl) ?_ h39 _ v37 h40) ?_
  · rintro ⟨i23, x24⟩ s h
    refine W_seq (by kernel_rfl) ?_
    refine W_run 1 [] [1, 5, 9, 10, 11, 12] [27] (fr' := [(1, aI a1), (5, .one (.slc 27)), (9, aD (.slice (.slice tI)) (sub a0 (1 : Int) (List.length a0 : Int))), (10, aI (List.length (sub a0 (1 : Int) (List.length a0 : Int)) : Int)), (11, aI i23), (12, aB (decide (i23 < (List.length (sub a0 (1 : Int) (List.length a0 : Int)) : Int))))]) (L' := [(27, .seq (.slice tI) x24)]) (obs := []) (by kernel_rfl) (by kernel_rfl) (by kernel_rfl) allP0 ?_
    refine seqQ_norm ?_
    refine W_seq (by kernel_rfl) ?_
    refine W_cond (o := .tmp 12) (b := decide (i23 < (List.length (sub a0 (1 : Int) (List.length a0 : Int)) : Int))) (by kernel_rfl) (by kernel_rfl) (fun h28 => ?_) (fun h28 => ?_)
    · replace h := stepL_true h28 h
      obtain ⟨v26, _, h27, h, rfl⟩ := h
      refine W_skip [1, 5, 9, 10, 11] [27] (fr' := [(1, aI a1), (5, .one (.slc 27)), (9, aD (.slice (.slice tI)) (sub a0 (1 : Int) (List.length a0 : Int))), (10, aI (List.length (sub a0 (1 : Int) (List.length a0 : Int)) : Int)), (11, aI i23)]) (L' := [(27, .seq (.slice tI) x24)]) (by kernel_rfl) (by kernel_rfl) ?_
      refine seqQ_norm ?_
      refine W_seq (by kernel_rfl) ?_
      refine W_block (id := 1) (by kernel_rfl) ?_
      refine W_seq (by kernel_rfl) ?_
      refine W_run 3 [(1, .val (.dat (.slice tI) v26))] [1, 5, 7, 9, 10, 11] [27] (fr' := [(1, aI a1), (5, .one (.slc 27)), (7, aD (.slice tI) v26), (9, aD (.slice (.slice tI)) (sub a0 (1 : Int) (List.length a0 : Int))), (10, aI (List.length (sub a0 (1 : Int) (List.length a0 : Int)) : Int)), (11, aI i23)]) (L' := [(27, .seq (.slice tI) x24)]) (obs := [Idx (sub a0 (1 : Int) (List.length a0 : Int)) i23 v26]) (by kernel_rfl) (by kernel_rfl) (by kernel_rfl) (allP1 (Idx.of h27)) ?_
      refine seqQ_norm ?_
      obtain ⟨_, h31, h⟩ := bind_of h
      replace h31 := ck_some h31
      obtain ⟨_, h32, h⟩ := bind_of h
      replace h32 := ck_some h32
      obtain ⟨_, h33, h⟩ := bind_of h
      replace h33 := ck_some h33
      obtain ⟨_, h34, h⟩ := bind_of h
      replace h34 := ck_some h34
      refine W_drawC5 12 [(1, [16], [(16, .seq tI [])]), (5, [16], [(16, .seq tI ([] ++ (sub v26 (0 : Int) a1)))]), (10, [16], [])] [] [(1, .one (.slc 16)), (5, .one (.slc 16)), (10, aD (.slice tI) (([] ++ (sub v26 (0 : Int) a1)) ++ (sub v26 (w64 (a1 + (1 : Int))) (List.length v26 : Int))))] [] [] [1, 5, 9, 10, 11, 15, 26] [27] (out := [(15, .one (.slc 27)), (16, .one (.slc 16)), (17, aD (.slice tI) v26), (18, aI a1), (19, aD (.slice tI) (sub v26 (0 : Int) a1)), (20, .one (.slc 16)), (21, aD (.slice tI) v26), (22, aI a1), (23, aI (w64 (a1 + (1 : Int)))), (24, aD (.slice tI) (sub v26 (w64 (a1 + (1 : Int))) (List.length v26 : Int))), (25, aD (.slice tI) (([] ++ (sub v26 (0 : Int) a1)) ++ (sub v26 (w64 (a1 + (1 : Int))) (List.length v26 : Int)))), (26, aD (.slice (.slice tI)) [([] ++ (sub v26 (0 : Int) a1)) ++ (sub v26 (w64 (a1 + (1 : Int))) (List.length v26 : Int))])]) (obs := [Cuts (0 : Int) a1 (List.length v26), Cuts (w64 (a1 + (1 : Int))) (List.length v26 : Int) (List.length v26), True]) (calls := []) (fr' := [(1, aI a1), (5, .one (.slc 27)), (9, aD (.slice (.slice tI)) (sub a0 (1 : Int) (List.length a0 : Int))), (10, aI (List.length (sub a0 (1 : Int) (List.length a0 : Int)) : Int)), (11, aI i23), (15, .one (.slc 27)), (26, aD (.slice (.slice tI)) [([] ++ (sub v26 (0 : Int) a1)) ++ (sub v26 (w64 (a1 + (1 : Int))) (List.length v26 : Int))])]) (L' := [(27, .seq (.slice tI) x24)]) (by kernel_rfl) (by kernel_rfl) (by kernel_rfl) (by kernel_rfl) (by kernel_rfl) (allP2 h31 (allP2 h33 (allP1 trivial))) allD0 (chDo (ty := false) (d := 16) (nm := 16) (ob := .seq tI []) (av := .one (.slc 16)) (p := True) (by kernel_rfl) trivial (by kernel_rfl) (chDo (ty := false) (d := 20) (nm := 16) (ob := .seq tI ([] ++ (sub v26 (0 : Int) a1))) (av := .one (.slc 16)) (p := SmallLen (List.length ([] : (List Int)) + List.length (sub v26 (0 : Int) a1))) (by kernel_rfl) h32 (by kernel_rfl) (chFz (ty := false) (d := 25) (u := tI) (xs := ([] ++ (sub v26 (0 : Int) a1)) ++ (sub v26 (w64 (a1 + (1 : Int))) (List.length v26 : Int))) (p := SmallLen (List.length ([] ++ (sub v26 (0 : Int) a1) : (List Int)) + List.length (sub v26 (w64 (a1 + (1 : Int))) (List.length v26 : Int)))) (by kernel_rfl) h34 (by kernel_rfl) (by kernel_rfl) chNil))) mkNil (by kernel_rfl) ?_
      obtain ⟨_, h35, h⟩ := bind_of h
      replace h35 := ck_some h35
      refine WO_run (j := 14) (k := 2) (orcs := []) (kF := [1, 5, 9, 10, 11]) (kL := [27]) (fr' := [(1, aI a1), (5, .one (.slc 27)), (9, aD (.slice (.slice tI)) (sub a0 (1 : Int) (List.length a0 : Int))), (10, aI (List.length (sub a0 (1 : Int) (List.length a0 : Int)) : Int)), (11, aI i23)]) (L' := [(27, .seq (.slice tI) (x24 ++ [([] ++ (sub v26 (0 : Int) a1)) ++ (sub v26 (w64 (a1 + (1 : Int))) (List.length v26 : Int))]))]) (obs := [SmallLen (List.length x24 + List.length ([([] ++ (sub v26 (0 : Int) a1)) ++ (sub v26 (w64 (a1 + (1 : Int))) (List.length v26 : Int))] : (List (List Int))))]) rfl (by kernel_rfl) (allP1 h35) ?_
      refine WO_fin [1, 5, 9, 10, 11] [27] (fr' := [(1, aI a1), (5, .one (.slc 27)), (9, aD (.slice (.slice tI)) (sub a0 (1 : Int) (List.length a0 : Int))), (10, aI (List.length (sub a0 (1 : Int) (List.length a0 : Int)) : Int)), (11, aI i23)]) (L' := [(27, .seq (.slice tI) (x24 ++ [([] ++ (sub v26 (0 : Int) a1)) ++ (sub v26 (w64 (a1 + (1 : Int))) (List.length v26 : Int))]))]) (by kernel_rfl) (by kernel_rfl) ?_
      refine ⟨rfl, ?_⟩
      refine blockQ_norm ?_
      refine seqQ_norm ?_
      obtain rfl := Option.some.inj h
      refine W_run 2 [] [1, 5, 9, 10, 11] [27] (fr' := [(1, aI a1), (5, .one (.slc 27)), (9, aD (.slice (.slice tI)) (sub a0 (1 : Int) (List.length a0 : Int))), (10, aI (List.length (sub a0 (1 : Int) (List.length a0 : Int)) : Int)), (11, aI (w64 (i23 + (1 : Int))))]) (L' := [(27, .seq (.slice tI) (x24 ++ [([] ++ (sub v26 (0 : Int) a1)) ++ (sub v26 (w64 (a1 + (1 : Int))) (List.length v26 : Int))]))]) (obs := []) (by kernel_rfl) (by kernel_rfl) (by kernel_rfl) allP0 ?_
      exact round_next' (by kernel_rfl) (by kernel_rfl)
    · obtain rfl := stepL_false h28 h
      refine W_exit (id := 0) [5] [27] (fr' := [(5, .one (.slc 27))]) (L' := [(27, .seq (.slice tI) x24)]) (by kernel_rfl) (by kernel_rfl) ?_
      refine seqQ_exit ?_
      refine round_exit ?_
      exact exQ_mk (by kernel_rfl) (by kernel_rfl)
  · intro e fr L hJ
    obtain ⟨rfl, rfl, rfl⟩ := hJ
    refine LT_keep [5] [27] (fr' := [(5, .one (.slc 27))]) (L' := [(27, .seq (.slice tI) v37)]) (by kernel_rfl) ?_
    refine blockQ_hit ?_
    refine seqQ_norm ?_
    refine W_seq (by kernel_rfl) ?_
    refine W_run 2 [] [4] [27] (fr' := [(4, .one (.slc 27))]) (L' := [(27, .seq (.slice tI) v37)]) (obs := []) (by kernel_rfl) (by kernel_rfl) (by kernel_rfl) allP0 ?_
    refine seqQ_norm ?_
    obtain rfl := Option.some.inj h
    refine W_frz 27 (by kernel_rfl) ?_
    refine W_ret [4] [] (fr' := [(4, aD (.slice (.slice tI)) v37)]) (L' := []) (by kernel_rfl) (by kernel_rfl) ?_
    exact retQ_mk (by kernel_rfl) (by kernel_rfl) (by kernel_rfl)

def ref_Signed_b1 (a0 : (List (List Int))) (rf_ref_Signed : (List (List Int)) → Option Int) (i22 : Int) (v25 : (List Int)) (x23 : (Int × Int)) : Option (Flow (Int × Int) Int) :=
(idx a0 (0 : Int)).bind fun v28 =>
(idx v28 i22).bind fun v30 =>
(ref_without a0 i22).bind fun r32 =>
(rf_ref_Signed r32).bind fun r34 =>
some (.next (w64 (x23.1 + (w64 ((w64 (x23.2 * v30)) * r34))), w64 (0 - x23.2)))
@[reducible] def ref_Signed_s2 (a0 : (List (List Int))) (v : Int × (Int × Int)) : Fr × LL := ([(0, aD (.slice (.slice tI)) a0), (3, aI v.2.1), (4, aI v.2.2), (5, aI v.1)], [])
@[reducible] def ref_Signed_s3 (v : Int) : Fr × LL := ([(3, aI v)], [])
def ref_Signed_step (rf_ref_Signed : (List (List Int)) → Option Int) (fuel : Nat) (a0 : (List (List Int))) : Option Int :=
bif (List.length a0 : Int) == (0 : Int) then
(some (1 : Int))
else
((forL (ref_Signed_b1 a0 rf_ref_Signed) (fun x23 => x23.1) a0 0 ((0 : Int), (1 : Int))).bind fun v37 =>
some v37)
def ref_Signed : Nat → (List (List Int)) → Option Int
  | 0 => fun _ => none
  | fuel + 1 => fun a0 => ref_Signed_step (ref_Signed fuel) fuel a0
theorem ref_Signed_step_ok {rf_ref_Signed : (List (List Int)) → Option Int} (ih_ref_Signed : ∀ {a0 : (List (List Int))} {r : Int}, rf_ref_Signed a0 = some r → FnC Try.prog 35 [aD (.slice (.slice tI)) a0] [] (aI r) []) {fuel : Nat} {a0 : (List (List Int))} {r : Int} (h : ref_Signed_step rf_ref_Signed fuel a0 = some r) : FnC Try.prog 35 [aD (.slice (.slice tI)) a0] [] (aI r) [] := by
  refine fnC_of_W (B := bodyOf Try.f35) (n := 33) Try.func35 (by kernel_rfl) (by kernel_rfl) (by kernel_rfl) (by kernel_rfl) (by kernel_rfl) ?_
  intro K
  refine W_seq (by kernel_rfl) ?_
  refine W_run 1 [] [0] [] (fr' := [(0, aD (.slice (.slice tI)) a0)]) (L' := []) (obs := []) (by kernel_rfl) (by kernel_rfl) (by kernel_rfl) allP0 ?_
  refine seqQ_norm ?_
  refine W_seq (by kernel_rfl) ?_
  refine W_seq (by kernel_rfl) ?_
  refine W_run 3 [] [0, 8] [] (fr' := [(0, aD (.slice (.slice tI)) a0), (8, aB ((List.length a0 : Int) == (0 : Int)))]) (L' := []) (obs := []) (by kernel_rfl) (by kernel_rfl) (by kernel_rfl) allP0 ?_
  refine seqQ_norm ?_
  refine W_cond (o := .tmp 8) (b := (List.length a0 : Int) == (0 : Int)) (by kernel_rfl) (by kernel_rfl) (fun h1 => ?_) (fun h1 => ?_)
  · replace h := ofT h1 h
    refine W_seq (by kernel_rfl) ?_
    refine W_run 1 [] [2] [] (fr' := [(2, aI (1 : Int))]) (L' := []) (obs := []) (by kernel_rfl) (by kernel_rfl) (by kernel_rfl) allP0 ?_
    refine seqQ_norm ?_
    obtain rfl := Option.some.inj h
    refine W_ret [2] [] (fr' := [(2, aI (1 : Int))]) (L' := []) (by kernel_rfl) (by kernel_rfl) ?_
    refine seqQ_ret ?_
    exact retQ_mk (by kernel_rfl) (by kernel_rfl) (by kernel_rfl)
  · replace h := ofF h1 h
    refine W_skip [0] [] (fr' := [(0, aD (.slice (.slice tI)) a0)]) (L' := []) (by kernel_rfl) (by kernel_rfl) ?_
    refine seqQ_norm ?_
    refine W_seq (by kernel_rfl) ?_
    refine W_run 1 [] [0, 3] [] (fr' := [(0, aD (.slice (.slice tI)) a0), (3, aI (0 : Int))]) (L' := []) (obs := []) (by kernel_rfl) (by kernel_rfl) (by kernel_rfl) allP0 ?_
    refine seqQ_norm ?_
    refine W_seq (by kernel_rfl) ?_
    refine W_run 1 [] [0, 3, 4] [] (fr' := [(0, aD (.slice (.slice tI)) a0), (3, aI (0 : Int)), (4, aI (1 : Int))]) (L' := []) (obs := []) (by kernel_rfl) (by kernel_rfl) (by kernel_rfl) allP0 ?_
    refine seqQ_norm ?_
    refine W_seq (by kernel_rfl) ?_
    refine W_seq (by kernel_rfl) ?_
    refine W_run 1 [] [0, 3, 4, 5] [] (fr' := [(0, aD (.slice (.slice tI)) a0), (3, aI (0 : Int)), (4, aI (1 : Int)), (5, aI (0 : Int))]) (L' := []) (obs := []) (by kernel_rfl) (by kernel_rfl) (by kernel_rfl) allP0 ?_
    refine seqQ_norm ?_
    refine W_block (id := 0) (by kernel_rfl) ?_
    obtain ⟨v37, h38, h⟩ := bind_of h
    refine W_len (t := 0) (u := (.slice tI)) (xs := a0) (by kernel_rfl) (fun h41 => ?_)
    obtain ⟨h39, h40⟩ := forL_iter h41 h38
    refine W_weaken [0, 3, 4, 5] [] (fr' := ((ref_Signed_s2 a0) ((0 : Int), ((0 : Int), (1 : Int)))).1) (L' := ((ref_Signed_s2 a0) ((0 : Int), ((0 : Int), (1 : Int)))).2) (by kernel_rfl) ?_
    refine W_cutK (W_loop (S := (ref_Signed_s2 a0)) (J := (exQ (.exit 0) ref_Signed_s3)) (by kernel_rfl) ?_ h39 _ v37 h40) ?_
    · rintro ⟨i22, x23⟩ s h
      refine W_seq (by kernel_rfl) ?_
      refine W_seq (by kernel_rfl) ?_
      refine W_run 4 [] [0, 3, 4, 5, 12] [] (fr' := [(0, aD (.slice (.slice tI)) a0), (3, aI x23.1), (4, aI x23.2), (5, aI i22), (12, aB (decide (i22 < (List.length a0 : Int))))]) (L' := []) (obs := []) (by kernel_rfl) (by kernel_rfl) (by kernel_rfl) allP0 ?_
      refine seqQ_norm ?_
      refine W_cond (o := .tmp 12) (b := decide (i22 < (List.length a0 : Int))) (by kernel_rfl) (by kernel_rfl) (fun h27 => ?_) (fun h27 => ?_)
      · replace h := stepL_true h27 h
        obtain ⟨v25, _, h26, h, rfl⟩ := h
        refine W_skip [0, 3, 4, 5] [] (fr' := [(0, aD (.slice (.slice tI)) a0), (3, aI x23.1), (4, aI x23.2), (5, aI i22)]) (L' := []) (by kernel_rfl) (by kernel_rfl) ?_
        refine seqQ_norm ?_
        refine W_seq (by kernel_rfl) ?_
        refine W_block (id := 1) (by kernel_rfl) ?_
        refine W_seq (by kernel_rfl) ?_
        obtain ⟨v28, h29, h⟩ := bind_of h
        obtain ⟨v30, h31, h⟩ := bind_of h
        obtain ⟨r32, h33, h⟩ := bind_of h
        obtain ⟨r34, h35, h⟩ := bind_of h
        refine W_draw2 15 [(7, .val (.dat (.slice tI) v28)), (13, .val (.dat tI v30))] [(11, [none, none], aD (.slice (.slice tI)) r32), (12, [none], aI r34)] [0, 3, 4, 5] [] (fr' := [(0, aD (.slice (.slice tI)) a0), (3, aI (w64 (x23.1 + (w64 ((w64 (x23.2 * v30)) * r34))))), (4, aI x23.2), (5, aI i22)]) (L' := []) (out := [(15, aI x23.1), (16, aI x23.2), (17, aD (.slice (.slice tI)) a0), (18, .one (.dptr (.slice tI) v28)), (19, aD (.slice tI) v28), (20, aI i22), (21, .one (.dptr tI v30)), (22, aI v30), (23, aI (w64 (x23.2 * v30))), (24, aD (.slice (.slice tI)) a0), (25, aI i22), (26, aD (.slice (.slice tI)) r32), (27, aI r34), (28, aI (w64 ((w64 (x23.2 * v30)) * r34))), (29, aI (w64 (x23.1 + (w64 ((w64 (x23.2 * v30)) * r34)))))]) (obs := [Idx a0 (0 : Int) v28, Idx v28 i22 v30, True, True]) (obs2 := []) (calls := [(71, [aD (.slice (.slice tI)) a0, aI i22], aD (.slice (.slice tI)) r32), (35, [aD (.slice (.slice tI)) r32], aI r34)]) (by kernel_rfl) (by kernel_rfl) (by kernel_rfl) (by kernel_rfl) (allP2 (Idx.of h29) (allP2 (Idx.of h31) (allP2 trivial (allP1 trivial)))) (allC1 (by kernel_rfl) (ref_without_ok h33) (by kernel_rfl) (allC1 (by kernel_rfl) (ih_ref_Signed h35) (by kernel_rfl) allC0)) (by kernel_rfl) allP0 ?_
        refine seqQ_norm ?_
        refine W_run 3 [] [0, 3, 4, 5] [] (fr' := [(0, aD (.slice (.slice tI)) a0), (3, aI (w64 (x23.1 + (w64 ((w64 (x23.2 * v30)) * r34))))), (4, aI (w64 (0 - x23.2))), (5, aI i22)]) (L' := []) (obs := []) (by kernel_rfl) (by kernel_rfl) (by kernel_rfl) allP0 ?_
        refine blockQ_norm ?_
        refine seqQ_norm ?_
        obtain rfl := Option.some.inj h
        refine W_run 3 [] [0, 3, 4, 5] [] (fr' := [(0, aD (.slice (.slice tI)) a0), (3, aI (w64 (x23.1 + (w64 ((w64 (x23.2 * v30)) * r34))))), (4, aI (w64 (0 - x23.2))), (5, aI (w64 (i22 + (1 : Int))))]) (L' := []) (obs := []) (by kernel_rfl) (by kernel_rfl) (by kernel_rfl) allP0 ?_
        exact round_next' (by kernel_rfl) (by kernel_rfl)
      · obtain rfl := stepL_false h27 h
        refine W_exit (id := 0) [3] [] (fr' := [(3, aI x23.1)]) (L' := []) (by kernel_rfl) (by kernel_rfl) ?_
        refine seqQ_exit ?_
        refine round_exit ?_
        exact exQ_mk (by kernel_rfl) (by kernel_rfl)
    · intro e fr L hJ
      obtain ⟨rfl, rfl, rfl⟩ := hJ
      refine LT_keep [3] [] (fr' := [(3, aI v37)]) (L' := []) (by kernel_rfl) ?_
      refine blockQ_hit ?_
      refine seqQ_norm ?_
      refine W_seq (by kernel_rfl) ?_
      refine W_run 2 [] [2] [] (fr' := [(2, aI v37)]) (L' := []) (obs := []) (by kernel_rfl) (by kernel_rfl) (by kernel_rfl) allP0 ?_
      refine seqQ_norm ?_
      obtain rfl := Option.some.inj h
      refine W_ret [2] [] (fr' := [(2, aI v37)]) (L' := []) (by kernel_rfl) (by kernel_rfl) ?_
      exact retQ_mk (by kernel_rfl) (by kernel_rfl) (by kernel_rfl)
theorem ref_Signed_ok : ∀ {fuel : Nat} {a0 : (List (List Int))} {r : Int}, ref_Signed fuel a0 = some r → FnC Try.prog 35 [aD (.slice (.slice tI)) a0] [] (aI r) [] := by
  intro fuel
  induction fuel with
  | zero => intros a0 r h; cases h
  | succ fuel ih => intros a0 r h; exact ref_Signed_step_ok (fun h => ih h) (show ref_Signed_step (ref_Signed fuel) fuel a0 = some r from h)

def ref_TalkRank_g855 (x4069 : (Int × Int)) (x9493 : (Int × Int)) : Option Bool :=
(ref_Size x4069.2).bind fun r11763 =>
(ref_Size x9493.2).bind fun r11765 =>
bif r11763 != r11765 then
(some true)
else
((ref_Size x4069.2).bind fun r11768 =>
some (decide (r11768 ≤ x9493.1)))
@[reducible] def ref_TalkRank_s879 (a0 : (List (List Bool))) (x4069 : (Int × Int)) (x9493 : (Int × Int)) (r11773 : (List Int)) (i12048 : Int) (x12049 : (List (List Int))) (v12051 : Int) (r12054 : (List Int)) (i12138 : Int) (x12139 : (List Int)) (v : Int) : Fr × LL := ([(0, aD (.slice (.slice .bool)) a0), (3, aI x9493.1), (4, aI x4069.2), (5, aI x9493.2), (6, .one (.slc 71)), (8, aI v12051), (9, .one (.slc 66)), (12, aI v), (43, aD (.slice tI) r11773), (44, aI (List.length r11773 : Int)), (45, aI i12048), (50, aD (.slice tI) r12054), (51, aI (List.length r12054 : Int)), (52, aI i12138)], [(71, .seq (.slice tI) x12049), (66, .seq tI x12139)])
def ref_TalkRank_b880 (a0 : (List (List Bool))) (v12051 : Int) (i12138 : Int) (v12141 : Int) (x12139 : (List Int)) : Option (Flow (List Int) (List Int)) :=
((idx a0 v12051).bind fun v12172 =>
(idx v12172 v12141).bind fun v12174 =>
bif v12174 then
(some (1 : Int))
else
(some (0 : Int))).bind fun v12177 =>
(ck ((List.length x12139 : Int) + 1 ≤ 4294967296)).bind fun _ =>
some (.next (x12139 ++ [v12177]))
@[reducible] def ref_TalkRank_s881 (a0 : (List (List Bool))) (x4069 : (Int × Int)) (x9493 : (Int × Int)) (r11773 : (List Int)) (i12048 : Int) (x12049 : (List (List Int))) (v12051 : Int) (r12054 : (List Int)) (v : Int × (List Int)) : Fr × LL := ([(0, aD (.slice (.slice .bool)) a0), (3, aI x9493.1), (4, aI x4069.2), (5, aI x9493.2), (6, .one (.slc 71)), (8, aI v12051), (9, .one (.slc 66)), (43, aD (.slice tI) r11773), (44, aI (List.length r11773 : Int)), (45, aI i12048), (50, aD (.slice tI) r12054), (51, aI (List.length r12054 : Int)), (52, aI v.1)], [(71, .seq (.slice tI) x12049), (66, .seq tI v.2)])
@[reducible] def ref_TalkRank_s882 (a0 : (List (List Bool))) (x4069 : (Int × Int)) (x9493 : (Int × Int)) (r11773 : (List Int)) (i12048 : Int) (x12049 : (List (List Int))) (v : (List Int)) : Fr × LL := ([(0, aD (.slice (.slice .bool)) a0), (3, aI x9493.1), (4, aI x4069.2), (5, aI x9493.2), (6, .one (.slc 71)), (9, .one (.slc 66)), (43, aD (.slice tI) r11773), (44, aI (List.length r11773 : Int)), (45, aI i12048)], [(71, .seq (.slice tI) x12049), (66, .seq tI v)])
def ref_TalkRank_b883 (a0 : (List (List Bool))) (x9493 : (Int × Int)) (i12048 : Int) (v12051 : Int) (x12049 : (List (List Int))) : Option (Flow (List (List Int)) (List (List Int))) :=
(ref_ListOf x9493.2).bind fun r12054 =>
(forL (ref_TalkRank_b880 a0 v12051) (fun x12139 => x12139) r12054 0 []).bind fun v12181 =>
(ck ((List.length x12049 : Int) + 1 ≤ 4294967296)).bind fun _ =>
some (.next (x12049 ++ [v12181]))
@[reducible] def ref_TalkRank_s884 (a0 : (List (List Bool))) (x4069 : (Int × Int)) (x9493 : (Int × Int)) (r11773 : (List Int)) (v : Int × (List (List Int))) : Fr × LL := ([(0, aD (.slice (.slice .bool)) a0), (3, aI x9493.1), (4, aI x4069.2), (5, aI x9493.2), (6, .one (.slc 71)), (43, aD (.slice tI) r11773), (44, aI (List.length r11773 : Int)), (45, aI v.1)], [(71, .seq (.slice tI) v.2)])
@[reducible] def ref_TalkRank_s885 (a0 : (List (List Bool))) (x4069 : (Int × Int)) (x9493 : (Int × Int)) (v : (List (List Int))) : Fr × LL := ([(0, aD (.slice (.slice .bool)) a0), (3, aI x9493.1), (4, aI x4069.2), (5, aI x9493.2), (6, .one (.slc 71))], [(71, .seq (.slice tI) v)])
@[reducible] def ref_TalkRank_s886 (a0 : (List (List Bool))) (x4069 : (Int × Int)) (x9493 : (Int × Int)) (v : Bool) : Fr × LL := ([(0, aD (.slice (.slice .bool)) a0), (3, aI x9493.1), (4, aI x4069.2), (5, aI x9493.2), (41, aB v)], [])
def ref_TalkRank_g887 (a0 : (List (List Bool))) (fuel : Nat) (x4069 : (Int × Int)) (x9493 : (Int × Int)) : Option Int :=
(ref_TalkRank_g855 x4069 x9493).bind fun v11770 =>
bif v11770 then
(some x9493.1)
else
((ref_ListOf x4069.2).bind fun r11773 =>
(forL (ref_TalkRank_b883 a0 x9493) (fun x12049 => x12049) r11773 0 []).bind fun v12188 =>
(ref_Signed fuel v12188).bind fun r12193 =>
bif r12193 != (0 : Int) then
((ref_Size x4069.2).bind fun r12196 =>
some r12196)
else
(some x9493.1))
@[reducible] def ref_TalkRank_s888 (a0 : (List (List Bool))) (x4069 : (Int × Int)) (x9493 : (Int × Int)) (v : Int) : Fr × LL := ([(0, aD (.slice (.slice .bool)) a0), (3, aI v), (4, aI x4069.2), (5, aI x9493.2)], [])
def ref_TalkRank_b889 (a0 : (List (List Bool))) (fuel : Nat) (x4069 : (Int × Int)) (x9493 : (Int × Int)) : Option (Flow (Int × Int) Int) :=
(idx a0 (0 : Int)).bind fun v10847 =>
(ck (0 ≤ IntKind.wrap .u64 ((List.length v10847 : Int)))).bind fun _ =>
bif decide (x9493.2 < (bShl .i64 (1 : Int) (IntKind.wrap .u64 ((List.length v10847 : Int))))) then
((ref_TalkRank_g887 a0 fuel x4069 x9493).bind fun v12198 =>
some (.next (v12198, w64 (x9493.2 + (1 : Int)))))
else
(some (.done x9493.1))
@[reducible] def ref_TalkRank_s890 (a0 : (List (List Bool))) (x4069 : (Int × Int)) (v : (Int × Int)) : Fr × LL := ([(0, aD (.slice (.slice .bool)) a0), (3, aI v.1), (4, aI x4069.2), (5, aI v.2)], [])
@[reducible] def ref_TalkRank_s891 (a0 : (List (List Bool))) (x4069 : (Int × Int)) (v : Int) : Fr × LL := ([(0, aD (.slice (.slice .bool)) a0), (3, aI v), (4, aI x4069.2)], [])
def ref_TalkRank_b892 (a0 : (List (List Bool))) (fuel : Nat) (x4069 : (Int × Int)) : Option (Flow (Int × Int) Int) :=
(ck (0 ≤ IntKind.wrap .u64 ((List.length a0 : Int)))).bind fun _ =>
bif decide (x4069.2 < (bShl .i64 (1 : Int) (IntKind.wrap .u64 ((List.length a0 : Int))))) then
((iter (ref_TalkRank_b889 a0 fuel x4069) fuel (x4069.1, (0 : Int))).bind fun v12200 =>
some (.next (v12200, w64 (x4069.2 + (1 : Int)))))
else
(some (.done x4069.1))
@[reducible] def ref_TalkRank_s893 (a0 : (List (List Bool))) (v : (Int × Int)) : Fr × LL := ([(0, aD (.slice (.slice .bool)) a0), (3, aI v.1), (4, aI v.2)], [])
@[reducible] def ref_TalkRank_s894 (v : Int) : Fr × LL := ([(3, aI v)], [])
def ref_TalkRank (fuel : Nat) (a0 : (List (List Bool))) : Option Int :=
(iter (ref_TalkRank_b892 a0 fuel) fuel ((0 : Int), (0 : Int))).bind fun v12204 =>
some v12204
theorem ref_TalkRank_ok {fuel : Nat} {a0 : (List (List Bool))} {r : Int} (h : ref_TalkRank fuel a0 = some r) : FnC Try.prog 22 [aD (.slice (.slice .bool)) a0] [] (aI r) [] := by
  refine fnC_of_W (B := bodyOf Try.f22) (n := 79) Try.func22 (by kernel_rfl) (by kernel_rfl) (by kernel_rfl) (by kernel_rfl) (by kernel_rfl) ?_
  intro K
  refine W_seq (by kernel_rfl) ?_
  refine W_run 1 [] [0] [] (fr' := [(0, aD (.slice (.slice .bool)) a0)]) (L' := []) (obs := []) (by kernel_rfl) (by kernel_rfl) (by kernel_rfl) allP0 ?_
  refine seqQ_norm ?_
  refine W_seq (by kernel_rfl) ?_
  refine W_run 1 [] [0, 3] [] (fr' := [(0, aD (.slice (.slice .bool)) a0), (3, aI (0 : Int))]) (L' := []) (obs := []) (by kernel_rfl) (by kernel_rfl) (by kernel_rfl) allP0 ?_
  refine seqQ_norm ?_
  refine W_seq (by kernel_rfl) ?_
  refine W_seq (by kernel_rfl) ?_
  refine W_run 1 [] [0, 3, 4] [] (fr' := [(0, aD (.slice (.slice .bool)) a0), (3, aI (0 : Int)), (4, aI (0 : Int))]) (L' := []) (obs := []) (by kernel_rfl) (by kernel_rfl) (by kernel_rfl) allP0 ?_
  refine seqQ_norm ?_
  refine W_block (id := 0) (by kernel_rfl) ?_
  obtain ⟨v12204, h12205, h⟩ := bind_of h
  refine W_weaken [0, 3, 4] [] (fr' := ((ref_TalkRank_s893 a0) ((0 : Int), (0 : Int))).1) (L' := ((ref_TalkRank_s893 a0) ((0 : Int), (0 : Int))).2) (by kernel_rfl) ?_
  refine W_cutK (W_loop (S := (ref_TalkRank_s893 a0)) (J := (exQ (.exit 0) ref_TalkRank_s894)) (by kernel_rfl) ?_ fuel _ v12204 h12205) ?_
  · rintro x4069 s h
    refine W_seq (by kernel_rfl) ?_
    refine W_seq (by kernel_rfl) ?_
    obtain ⟨_, h8137, h⟩ := bind_of h
    replace h8137 := ck_some h8137
    refine W_run 6 [] [0, 3, 4, 18] [] (fr' := [(0, aD (.slice (.slice .bool)) a0), (3, aI x4069.1), (4, aI x4069.2), (18, aB (decide (x4069.2 < (bShl .i64 (1 : Int) (IntKind.wrap .u64 ((List.length a0 : Int)))))))]) (L' := []) (obs := [(0 ≤ IntKind.wrap .u64 ((List.length a0 : Int)))]) (by kernel_rfl) (by kernel_rfl) (by kernel_rfl) (allP1 h8137) ?_
    refine seqQ_norm ?_
    refine W_cond (o := .tmp 18) (b := decide (x4069.2 < (bShl .i64 (1 : Int) (IntKind.wrap .u64 ((List.length a0 : Int)))))) (by kernel_rfl) (by kernel_rfl) (fun h8138 => ?_) (fun h8138 => ?_)
    · replace h := ofT h8138 h
      refine W_skip [0, 3, 4] [] (fr' := [(0, aD (.slice (.slice .bool)) a0), (3, aI x4069.1), (4, aI x4069.2)]) (L' := []) (by kernel_rfl) (by kernel_rfl) ?_
      refine seqQ_norm ?_
      refine W_seq (by kernel_rfl) ?_
      refine W_block (id := 1) (by kernel_rfl) ?_
      refine W_seq (by kernel_rfl) ?_
      refine W_run 1 [] [0, 3, 4, 5] [] (fr' := [(0, aD (.slice (.slice .bool)) a0), (3, aI x4069.1), (4, aI x4069.2), (5, aI (0 : Int))]) (L' := []) (obs := []) (by kernel_rfl) (by kernel_rfl) (by kernel_rfl) allP0 ?_
      refine seqQ_norm ?_
      refine W_block (id := 2) (by kernel_rfl) ?_
      obtain ⟨v12200, h12201, h⟩ := bind_of h
      refine W_weaken [0, 3, 4, 5] [] (fr' := ((ref_TalkRank_s890 a0 x4069) (x4069.1, (0 : Int))).1) (L' := ((ref_TalkRank_s890 a0 x4069) (x4069.1, (0 : Int))).2) (by kernel_rfl) ?_
      refine W_cutK (W_loop (S := (ref_TalkRank_s890 a0 x4069)) (J := (exQ (.exit 2) (ref_TalkRank_s891 a0 x4069))) (by kernel_rfl) ?_ fuel _ v12200 h12201) ?_
      · rintro x9493 s h
        refine W_seq (by kernel_rfl) ?_
        refine W_seq (by kernel_rfl) ?_
        obtain ⟨v10847, h10848, h⟩ := bind_of h
        obtain ⟨_, h10849, h⟩ := bind_of h
        replace h10849 := ck_some h10849
        refine W_run 8 [(5, .val (.dat (.slice .bool) v10847))] [0, 3, 4, 5, 28] [] (fr' := [(0, aD (.slice (.slice .bool)) a0), (3, aI x9493.1), (4, aI x4069.2), (5, aI x9493.2), (28, aB (decide (x9493.2 < (bShl .i64 (1 : Int) (IntKind.wrap .u64 ((List.length v10847 : Int)))))))]) (L' := []) (obs := [Idx a0 (0 : Int) v10847, (0 ≤ IntKind.wrap .u64 ((List.length v10847 : Int)))]) (by kernel_rfl) (by kernel_rfl) (by kernel_rfl) (allP2 (Idx.of h10848) (allP1 h10849)) ?_
        refine seqQ_norm ?_
        refine W_cond (o := .tmp 28) (b := decide (x9493.2 < (bShl .i64 (1 : Int) (IntKind.wrap .u64 ((List.length v10847 : Int)))))) (by kernel_rfl) (by kernel_rfl) (fun h10850 => ?_) (fun h10850 => ?_)
        · replace h := ofT h10850 h
          refine W_skip [0, 3, 4, 5] [] (fr' := [(0, aD (.slice (.slice .bool)) a0), (3, aI x9493.1), (4, aI x4069.2), (5, aI x9493.2)]) (L' := []) (by kernel_rfl) (by kernel_rfl) ?_
          refine seqQ_norm ?_
          refine W_seq (by kernel_rfl) ?_
          obtain ⟨v12198, h12199, h⟩ := bind_of h
          refine W_cutK (Q' := (exQ .normal (ref_TalkRank_s888 a0 x4069 x9493)) v12198) ?_ ?_
          · replace h := h12199
            refine W_block (id := 3) (by kernel_rfl) ?_
            refine W_seq (by kernel_rfl) ?_
            refine W_seq (by kernel_rfl) ?_
            obtain ⟨v11770, h11771, h⟩ := bind_of h
            refine W_cutK (Q' := (exQ .normal (ref_TalkRank_s886 a0 x4069 x9493)) v11770) ?_ ?_
            · replace h := h11771
              refine W_region (by kernel_rfl) ?_
              refine WO_run (j := 1) (k := 1) (orcs := []) (kF := [0, 3, 4, 5, 31]) (kL := []) (fr' := [(0, aD (.slice (.slice .bool)) a0), (3, aI x9493.1), (4, aI x4069.2), (5, aI x9493.2), (31, aI x4069.2)]) (L' := []) (obs := []) rfl (by kernel_rfl) allP0 ?_
              obtain ⟨r11763, h11764, h⟩ := bind_of h
              refine WO_call0 (us := [none]) (d := 32) (p := True) (j := 2) rfl ⟨by kernel_rfl, by kernel_rfl, by kernel_rfl⟩ trivial (ref_Size_ok h11764) (by kernel_rfl) ?_
              refine WO_run (j := 3) (k := 1) (orcs := []) (kF := [0, 3, 4, 5, 32, 33]) (kL := []) (fr' := [(0, aD (.slice (.slice .bool)) a0), (3, aI x9493.1), (4, aI x4069.2), (5, aI x9493.2), (32, aI r11763), (33, aI x9493.2)]) (L' := []) (obs := []) rfl (by kernel_rfl) allP0 ?_
              obtain ⟨r11765, h11766, h⟩ := bind_of h
              refine WO_call0 (us := [none]) (d := 34) (p := True) (j := 4) rfl ⟨by kernel_rfl, by kernel_rfl, by kernel_rfl⟩ trivial (ref_Size_ok h11766) (by kernel_rfl) ?_
              refine WO_run (j := 6) (k := 2) (orcs := []) (kF := [0, 3, 4, 5, 36]) (kL := []) (fr' := [(0, aD (.slice (.slice .bool)) a0), (3, aI x9493.1), (4, aI x4069.2), (5, aI x9493.2), (36, aB (r11763 != r11765))]) (L' := []) (obs := []) rfl (by kernel_rfl) allP0 ?_
              rcases Bool.eq_false_or_eq_true (r11763 != r11765) with h11767 | h11767
              · replace h := ofT h11767 h
                refine WO_run (j := 11) (k := 5) (orcs := [(12, .known true), (14, .known true), (16, .known true), (18, .known true), (21, .val (.dat .bool true))]) (kF := [0, 3, 4, 5, 41]) (kL := []) (fr' := [(0, aD (.slice (.slice .bool)) a0), (3, aI x9493.1), (4, aI x4069.2), (5, aI x9493.2), (41, aB true)]) (L' := []) (obs := [((r11763 != r11765) = true), ((r11763 != r11765) = true), ((r11763 != r11765) = true), ((r11763 != r11765) = true), ((r11763 != r11765) = true)]) rfl (by kernel_rfl) (allP2 h11767 (allP2 h11767 (allP2 h11767 (allP2 h11767 (allP1 h11767))))) ?_
                obtain rfl := Option.some.inj h
                refine WO_fin [0, 3, 4, 5, 41] [] (fr' := [(0, aD (.slice (.slice .bool)) a0), (3, aI x9493.1), (4, aI x4069.2), (5, aI x9493.2), (41, aB true)]) (L' := []) (by kernel_rfl) (by kernel_rfl) ?_
                exact exQ_mk (by kernel_rfl) (by kernel_rfl)
              · replace h := ofF h11767 h
                refine WO_run (j := 7) (k := 1) (orcs := [(12, .known false)]) (kF := [0, 3, 4, 5, 36, 37]) (kL := []) (fr' := [(0, aD (.slice (.slice .bool)) a0), (3, aI x9493.1), (4, aI x4069.2), (5, aI x9493.2), (36, aB (r11763 != r11765)), (37, aI x4069.2)]) (L' := []) (obs := [((r11763 != r11765) = false)]) rfl (by kernel_rfl) (allP1 h11767) ?_
                obtain ⟨r11768, h11769, h⟩ := bind_of h
                refine WO_call0 (us := [none]) (d := 38) (p := ((r11763 != r11765) = false)) (j := 8) rfl ⟨by kernel_rfl, by kernel_rfl, by kernel_rfl⟩ h11767 (ref_Size_ok h11769) (by kernel_rfl) ?_
                refine WO_run (j := 11) (k := 3) (orcs := [(16, .known false), (18, .known false), (21, .val (.dat .bool false))]) (kF := [0, 3, 4, 5, 41]) (kL := []) (fr' := [(0, aD (.slice (.slice .bool)) a0), (3, aI x9493.1), (4, aI x4069.2), (5, aI x9493.2), (41, aB (decide (r11768 ≤ x9493.1)))]) (L' := []) (obs := [((r11763 != r11765) = false), ((r11763 != r11765) = false), ((r11763 != r11765) = false)]) rfl (by kernel_rfl) (allP2 h11767 (allP2 h11767 (allP1 h11767))) ?_
                obtain rfl := Option.some.inj h
                refine WO_fin [0, 3, 4, 5, 41] [] (fr' := [(0, aD (.slice (.slice .bool)) a0), (3, aI x9493.1), (4, aI x4069.2), (5, aI x9493.2), (41, aB (decide (r11768 ≤ x9493.1)))]) (L' := []) (by kernel_rfl) (by kernel_rfl) ?_
                exact exQ_mk (by kernel_rfl) (by kernel_rfl)
            · intro e fr L hJ
              obtain ⟨rfl, rfl, rfl⟩ := hJ
              refine LT_keep [0, 3, 4, 5, 41] [] (fr' := [(0, aD (.slice (.slice .bool)) a0), (3, aI x9493.1), (4, aI x4069.2), (5, aI x9493.2), (41, aB v11770)]) (L' := []) (by kernel_rfl) ?_
              refine seqQ_norm ?_
              refine W_cond (o := .tmp 41) (b := v11770) (by kernel_rfl) (by kernel_rfl) (fun h11772 => ?_) (fun h11772 => ?_)
              · replace h := ofT h11772 h
                obtain rfl := Option.some.inj h
                refine W_exit (id := 3) [0, 3, 4, 5] [] (fr' := [(0, aD (.slice (.slice .bool)) a0), (3, aI x9493.1), (4, aI x4069.2), (5, aI x9493.2)]) (L' := []) (by kernel_rfl) (by kernel_rfl) ?_
                refine seqQ_exit ?_
                refine blockQ_hit ?_
                exact exQ_mk (by kernel_rfl) (by kernel_rfl)
              · replace h := ofF h11772 h
                refine W_skip [0, 3, 4, 5] [] (fr' := [(0, aD (.slice (.slice .bool)) a0), (3, aI x9493.1), (4, aI x4069.2), (5, aI x9493.2)]) (L' := []) (by kernel_rfl) (by kernel_rfl) ?_
                refine seqQ_norm ?_
                refine W_seq (by kernel_rfl) ?_
                refine W_run 1 [] [0, 3, 4, 5, 6] [] (fr' := [(0, aD (.slice (.slice .bool)) a0), (3, aI x9493.1), (4, aI x4069.2), (5, aI x9493.2), (6, .one (.nilS))]) (L' := []) (obs := []) (by kernel_rfl) (by kernel_rfl) (by kernel_rfl) allP0 ?_
                refine seqQ_norm ?_
                refine W_seq (by kernel_rfl) ?_
                refine W_seq (by kernel_rfl) ?_
                refine W_region (by kernel_rfl) ?_
                refine WO_run (j := 1) (k := 1) (orcs := []) (kF := [0, 3, 4, 5, 6, 42]) (kL := []) (fr' := [(0, aD (.slice (.slice .bool)) a0), (3, aI x9493.1), (4, aI x4069.2), (5, aI x9493.2), (6, .one (.nilS)), (42, aI x4069.2)]) (L' := []) (obs := []) rfl (by kernel_rfl) allP0 ?_
                obtain ⟨r11773, h11774, h⟩ := bind_of h
                refine WO_call0 (us := [none]) (d := 43) (p := True) (j := 2) rfl ⟨by kernel_rfl, by kernel_rfl, by kernel_rfl⟩ trivial (ref_ListOf_ok h11774) (by kernel_rfl) ?_
                refine WO_run (j := 4) (k := 2) (orcs := []) (kF := [0, 3, 4, 5, 6, 43, 44, 45]) (kL := []) (fr' := [(0, aD (.slice (.slice .bool)) a0), (3, aI x9493.1), (4, aI x4069.2), (5, aI x9493.2), (6, .one (.nilS)), (43, aD (.slice tI) r11773), (44, aI (List.length r11773 : Int)), (45, aI (0 : Int))]) (L' := []) (obs := []) rfl (by kernel_rfl) allP0 ?_
                refine WO_fin [0, 3, 4, 5, 6, 43, 44, 45] [] (fr' := [(0, aD (.slice (.slice .bool)) a0), (3, aI x9493.1), (4, aI x4069.2), (5, aI x9493.2), (6, .one (.nilS)), (43, aD (.slice tI) r11773), (44, aI (List.length r11773 : Int)), (45, aI (0 : Int))]) (L' := []) (by kernel_rfl) (by kernel_rfl) ?_
                refine seqQ_norm ?_
                refine W_block (id := 4) (by kernel_rfl) ?_
                obtain ⟨v12188, h12189, h⟩ := bind_of h
                refine W_len (t := 43) (u := tI) (xs := r11773) (by kernel_rfl) (fun h12192 => ?_)
                obtain ⟨h12190, h12191⟩ := forL_iter h12192 h12189
                refine W_mine 6 71 (.slice tI) (by kernel_rfl) ?_
                refine W_weaken [0, 3, 4, 5, 6, 43, 44, 45] [71] (fr' := ((ref_TalkRank_s884 a0 x4069 x9493 r11773) ((0 : Int), [])).1) (L' := ((ref_TalkRank_s884 a0 x4069 x9493 r11773) ((0 : Int), [])).2) (by kernel_rfl) ?_
                refine W_cutK (W_loop (S := (ref_TalkRank_s884 a0 x4069 x9493 r11773)) (J := (exQ (.exit 4) (ref_TalkRank_s885 a0 x4069 x9493))) (by kernel_rfl) ?_ h12190 _ v12188 h12191) ?_
                · rintro ⟨i12048, x12049⟩ s h
                  refine W_seq (by kernel_rfl) ?_
                  refine W_run 1 [] [0, 3, 4, 5, 6, 43, 44, 45, 46] [71] (fr' := [(0, aD (.slice (.slice .bool)) a0), (3, aI x9493.1), (4, aI x4069.2), (5, aI x9493.2), (6, .one (.slc 71)), (43, aD (.slice tI) r11773), (44, aI (List.length r11773 : Int)), (45, aI i12048), (46, aB (decide (i12048 < (List.length r11773 : Int))))]) (L' := [(71, .seq (.slice tI) x12049)]) (obs := []) (by kernel_rfl) (by kernel_rfl) (by kernel_rfl) allP0 ?_
                  refine seqQ_norm ?_
                  refine W_seq (by kernel_rfl) ?_
                  refine W_cond (o := .tmp 46) (b := decide (i12048 < (List.length r11773 : Int))) (by kernel_rfl) (by kernel_rfl) (fun h12053 => ?_) (fun h12053 => ?_)
                  · replace h := stepL_true h12053 h
                    obtain ⟨v12051, _, h12052, h, rfl⟩ := h
                    refine W_skip [0, 3, 4, 5, 6, 43, 44, 45] [71] (fr' := [(0, aD (.slice (.slice .bool)) a0), (3, aI x9493.1), (4, aI x4069.2), (5, aI x9493.2), (6, .one (.slc 71)), (43, aD (.slice tI) r11773), (44, aI (List.length r11773 : Int)), (45, aI i12048)]) (L' := [(71, .seq (.slice tI) x12049)]) (by kernel_rfl) (by kernel_rfl) ?_
                    refine seqQ_norm ?_
                    refine W_seq (by kernel_rfl) ?_
                    refine W_block (id := 5) (by kernel_rfl) ?_
                    refine W_seq (by kernel_rfl) ?_
                    refine W_run 3 [(1, .val (.dat tI v12051))] [0, 3, 4, 5, 6, 8, 43, 44, 45] [71] (fr' := [(0, aD (.slice (.slice .bool)) a0), (3, aI x9493.1), (4, aI x4069.2), (5, aI x9493.2), (6, .one (.slc 71)), (8, aI v12051), (43, aD (.slice tI) r11773), (44, aI (List.length r11773 : Int)), (45, aI i12048)]) (L' := [(71, .seq (.slice tI) x12049)]) (obs := [Idx r11773 i12048 v12051]) (by kernel_rfl) (by kernel_rfl) (by kernel_rfl) (allP1 (Idx.of h12052)) ?_
                    refine seqQ_norm ?_
                    refine W_seq (by kernel_rfl) ?_
                    refine W_run 1 [] [0, 3, 4, 5, 6, 8, 9, 43, 44, 45] [71] (fr' := [(0, aD (.slice (.slice .bool)) a0), (3, aI x9493.1), (4, aI x4069.2), (5, aI x9493.2), (6, .one (.slc 71)), (8, aI v12051), (9, .one (.nilS)), (43, aD (.slice tI) r11773), (44, aI (List.length r11773 : Int)), (45, aI i12048)]) (L' := [(71, .seq (.slice tI) x12049)]) (obs := []) (by kernel_rfl) (by kernel_rfl) (by kernel_rfl) allP0 ?_
                    refine seqQ_norm ?_
                    refine W_seq (by kernel_rfl) ?_
                    refine W_seq (by kernel_rfl) ?_
                    refine W_region (by kernel_rfl) ?_
                    refine WO_run (j := 1) (k := 1) (orcs := []) (kF := [0, 3, 4, 5, 6, 8, 9, 43, 44, 45, 49]) (kL := [71]) (fr' := [(0, aD (.slice (.slice .bool)) a0), (3, aI x9493.1), (4, aI x4069.2), (5, aI x9493.2), (6, .one (.slc 71)), (8, aI v12051), (9, .one (.nilS)), (43, aD (.slice tI) r11773), (44, aI (List.length r11773 : Int)), (45, aI i12048), (49, aI x9493.2)]) (L' := [(71, .seq (.slice tI) x12049)]) (obs := []) rfl (by kernel_rfl) allP0 ?_
                    obtain ⟨r12054, h12055, h⟩ := bind_of h
                    refine WO_call0 (us := [none]) (d := 50) (p := True) (j := 2) rfl ⟨by kernel_rfl, by kernel_rfl, by kernel_rfl⟩ trivial (ref_ListOf_ok h12055) (by kernel_rfl) ?_
                    refine WO_run (j := 4) (k := 2) (orcs := []) (kF := [0, 3, 4, 5, 6, 8, 9, 43, 44, 45, 50, 51, 52]) (kL := [71]) (fr' := [(0, aD (.slice (.slice .bool)) a0), (3, aI x9493.1), (4, aI x4069.2), (5, aI x9493.2), (6, .one (.slc 71)), (8, aI v12051), (9, .one (.nilS)), (43, aD (.slice tI) r11773), (44, aI (List.length r11773 : Int)), (45, aI i12048), (50, aD (.slice tI) r12054), (51, aI (List.length r12054 : Int)), (52, aI (0 : Int))]) (L' := [(71, .seq (.slice tI) x12049)]) (obs := []) rfl (by kernel_rfl) allP0 ?_
                    refine WO_fin [0, 3, 4, 5, 6, 8, 9, 43, 44, 45, 50, 51, 52] [71] (fr' := [(0, aD (.slice (.slice .bool)) a0), (3, aI x9493.1), (4, aI x4069.2), (5, aI x9493.2), (6, .one (.slc 71)), (8, aI v12051), (9, .one (.nilS)), (43, aD (.slice tI) r11773), (44, aI (List.length r11773 : Int)), (45, aI i12048), (50, aD (.slice tI) r12054), (51, aI (List.length r12054 : Int)), (52, aI (0 : Int))]) (L' := [(71, .seq (.slice tI) x12049)]) (by kernel_rfl) (by kernel_rfl) ?_
                    refine seqQ_norm ?_
                    refine W_block (id := 6) (by kernel_rfl) ?_
                    obtain ⟨v12181, h12182, h⟩ := bind_of h
                    refine W_len (t := 50) (u := tI) (xs := r12054) (by kernel_rfl) (fun h12185 => ?_)
                    obtain ⟨h12183, h12184⟩ := forL_iter h12185 h12182
                    refine W_mine 9 66 tI (by kernel_rfl) ?_
                    refine W_weaken [0, 3, 4, 5, 6, 8, 9, 43, 44, 45, 50, 51, 52] [71, 66] (fr' := ((ref_TalkRank_s881 a0 x4069 x9493 r11773 i12048 x12049 v12051 r12054) ((0 : Int), [])).1) (L' := ((ref_TalkRank_s881 a0 x4069 x9493 r11773 i12048 x12049 v12051 r12054) ((0 : Int), [])).2) (by kernel_rfl) ?_
                    refine W_cutK (W_loop (S := (ref_TalkRank_s881 a0 x4069 x9493 r11773 i12048 x12049 v12051 r12054)) (J := (exQ (.exit 6) (ref_TalkRank_s882 a0 x4069 x9493 r11773 i12048 x12049))) (by kernel_rfl) ?_ h12183 _ v12181 h12184) ?_
                    · rintro ⟨i12138, x12139⟩ s h
                      refine W_seq (by kernel_rfl) ?_
                      refine W_run 1 [] [0, 3, 4, 5, 6, 8, 9, 43, 44, 45, 50, 51, 52, 53] [71, 66] (fr' := [(0, aD (.slice (.slice .bool)) a0), (3, aI x9493.1), (4, aI x4069.2), (5, aI x9493.2), (6, .one (.slc 71)), (8, aI v12051), (9, .one (.slc 66)), (43, aD (.slice tI) r11773), (44, aI (List.length r11773 : Int)), (45, aI i12048), (50, aD (.slice tI) r12054), (51, aI (List.length r12054 : Int)), (52, aI i12138), (53, aB (decide (i12138 < (List.length r12054 : Int))))]) (L' := [(71, .seq (.slice tI) x12049), (66, .seq tI x12139)]) (obs := []) (by kernel_rfl) (by kernel_rfl) (by kernel_rfl) allP0 ?_
                      refine seqQ_norm ?_
                      refine W_seq (by kernel_rfl) ?_
                      refine W_cond (o := .tmp 53) (b := decide (i12138 < (List.length r12054 : Int))) (by kernel_rfl) (by kernel_rfl) (fun h12143 => ?_) (fun h12143 => ?_)
                      · replace h := stepL_true h12143 h
                        obtain ⟨v12141, _, h12142, h, rfl⟩ := h
                        refine W_skip [0, 3, 4, 5, 6, 8, 9, 43, 44, 45, 50, 51, 52] [71, 66] (fr' := [(0, aD (.slice (.slice .bool)) a0), (3, aI x9493.1), (4, aI x4069.2), (5, aI x9493.2), (6, .one (.slc 71)), (8, aI v12051), (9, .one (.slc 66)), (43, aD (.slice tI) r11773), (44, aI (List.length r11773 : Int)), (45, aI i12048), (50, aD (.slice tI) r12054), (51, aI (List.length r12054 : Int)), (52, aI i12138)]) (L' := [(71, .seq (.slice tI) x12049), (66, .seq tI x12139)]) (by kernel_rfl) (by kernel_rfl) ?_
                        refine seqQ_norm ?_
                        refine W_seq (by kernel_rfl) ?_
                        refine W_block (id := 7) (by kernel_rfl) ?_
                        refine W_seq (by kernel_rfl) ?_
                        refine W_run 3 [(1, .val (.dat tI v12141))] [0, 3, 4, 5, 6, 8, 9, 11, 43, 44, 45, 50, 51, 52] [71, 66] (fr' := [(0, aD (.slice (.slice .bool)) a0), (3, aI x9493.1), (4, aI x4069.2), (5, aI x9493.2), (6, .one (.slc 71)), (8, aI v12051), (9, .one (.slc 66)), (11, aI v12141), (43, aD (.slice tI) r11773), (44, aI (List.length r11773 : Int)), (45, aI i12048), (50, aD (.slice tI) r12054), (51, aI (List.length r12054 : Int)), (52, aI i12138)]) (L' := [(71, .seq (.slice tI) x12049), (66, .seq tI x12139)]) (obs := [Idx r12054 i12138 v12141]) (by kernel_rfl) (by kernel_rfl) (by kernel_rfl) (allP1 (Idx.of h12142)) ?_
                        refine seqQ_norm ?_
                        refine W_seq (by kernel_rfl) ?_
                        refine W_run 1 [] [0, 3, 4, 5, 6, 8, 9, 11, 12, 43, 44, 45, 50, 51, 52] [71, 66] (fr' := [(0, aD (.slice (.slice .bool)) a0), (3, aI x9493.1), (4, aI x4069.2), (5, aI x9493.2), (6, .one (.slc 71)), (8, aI v12051), (9, .one (.slc 66)), (11, aI v12141), (12, aI (0 : Int)), (43, aD (.slice tI) r11773), (44, aI (List.length r11773 : Int)), (45, aI i12048), (50, aD (.slice tI) r12054), (51, aI (List.length r12054 : Int)), (52, aI i12138)]) (L' := [(71, .seq (.slice tI) x12049), (66, .seq tI x12139)]) (obs := []) (by kernel_rfl) (by kernel_rfl) (by kernel_rfl) allP0 ?_
                        refine seqQ_norm ?_
                        refine W_seq (by kernel_rfl) ?_
                        obtain ⟨v12177, h12178, h⟩ := bind_of h
                        refine W_cutK (Q' := (exQ .normal (ref_TalkRank_s879 a0 x4069 x9493 r11773 i12048 x12049 v12051 r12054 i12138 x12139)) v12177) ?_ ?_
                        · replace h := h12178
                          refine W_seq (by kernel_rfl) ?_
                          obtain ⟨v12172, h12173, h⟩ := bind_of h
                          obtain ⟨v12174, h12175, h⟩ := bind_of h
                          refine W_run 7 [(5, .val (.dat (.slice .bool) v12172)), (11, .val (.dat .bool v12174))] [0, 3, 4, 5, 6, 8, 9, 12, 43, 44, 45, 50, 51, 52, 62] [71, 66] (fr' := [(0, aD (.slice (.slice .bool)) a0), (3, aI x9493.1), (4, aI x4069.2), (5, aI x9493.2), (6, .one (.slc 71)), (8, aI v12051), (9, .one (.slc 66)), (12, aI (0 : Int)), (43, aD (.slice tI) r11773), (44, aI (List.length r11773 : Int)), (45, aI i12048), (50, aD (.slice tI) r12054), (51, aI (List.length r12054 : Int)), (52, aI i12138), (62, aB v12174)]) (L' := [(71, .seq (.slice tI) x12049), (66, .seq tI x12139)]) (obs := [Idx a0 v12051 v12172, Idx v12172 v12141 v12174]) (by kernel_rfl) (by kernel_rfl) (by kernel_rfl) (allP2 (Idx.of h12173) (allP1 (Idx.of h12175))) ?_
                          refine seqQ_norm ?_
                          refine W_cond (o := .tmp 62) (b := v12174) (by kernel_rfl) (by kernel_rfl) (fun h12176 => ?_) (fun h12176 => ?_)
                          · replace h := ofT h12176 h
                            obtain rfl := Option.some.inj h
                            refine W_run 1 [] [0, 3, 4, 5, 6, 8, 9, 12, 43, 44, 45, 50, 51, 52] [71, 66] (fr' := [(0, aD (.slice (.slice .bool)) a0), (3, aI x9493.1), (4, aI x4069.2), (5, aI x9493.2), (6, .one (.slc 71)), (8, aI v12051), (9, .one (.slc 66)), (12, aI (1 : Int)), (43, aD (.slice tI) r11773), (44, aI (List.length r11773 : Int)), (45, aI i12048), (50, aD (.slice tI) r12054), (51, aI (List.length r12054 : Int)), (52, aI i12138)]) (L' := [(71, .seq (.slice tI) x12049), (66, .seq tI x12139)]) (obs := []) (by kernel_rfl) (by kernel_rfl) (by kernel_rfl) allP0 ?_
                            exact exQ_mk (by kernel_rfl) (by kernel_rfl)
                          · replace h := ofF h12176 h
                            obtain rfl := Option.some.inj h
                            refine W_skip [0, 3, 4, 5, 6, 8, 9, 12, 43, 44, 45, 50, 51, 52] [71, 66] (fr' := [(0, aD (.slice (.slice .bool)) a0), (3, aI x9493.1), (4, aI x4069.2), (5, aI x9493.2), (6, .one (.slc 71)), (8, aI v12051), (9, .one (.slc 66)), (12, aI (0 : Int)), (43, aD (.slice tI) r11773), (44, aI (List.length r11773 : Int)), (45, aI i12048), (50, aD (.slice tI) r12054), (51, aI (List.length r12054 : Int)), (52, aI i12138)]) (L' := [(71, .seq (.slice tI) x12049), (66, .seq tI x12139)]) (by kernel_rfl) (by kernel_rfl) ?_
                            exact exQ_mk (by kernel_rfl) (by kernel_rfl)
                        · intro e fr L hJ
                          obtain ⟨rfl, rfl, rfl⟩ := hJ
                          refine LT_keep [0, 3, 4, 5, 6, 8, 9, 12, 43, 44, 45, 50, 51, 52] [71, 66] (fr' := [(0, aD (.slice (.slice .bool)) a0), (3, aI x9493.1), (4, aI x4069.2), (5, aI x9493.2), (6, .one (.slc 71)), (8, aI v12051), (9, .one (.slc 66)), (12, aI v12177), (43, aD (.slice tI) r11773), (44, aI (List.length r11773 : Int)), (45, aI i12048), (50, aD (.slice tI) r12054), (51, aI (List.length r12054 : Int)), (52, aI i12138)]) (L' := [(71, .seq (.slice tI) x12049), (66, .seq tI x12139)]) (by kernel_rfl) ?_
                          refine seqQ_norm ?_
                          obtain ⟨_, h12179, h⟩ := bind_of h
                          replace h12179 := ck_some h12179
                          refine W_run 5 [] [0, 3, 4, 5, 6, 8, 9, 43, 44, 45, 50, 51, 52] [71, 66] (fr' := [(0, aD (.slice (.slice .bool)) a0), (3, aI x9493.1), (4, aI x4069.2), (5, aI x9493.2), (6, .one (.slc 71)), (8, aI v12051), (9, .one (.slc 66)), (43, aD (.slice tI) r11773), (44, aI (List.length r11773 : Int)), (45, aI i12048), (50, aD (.slice tI) r12054), (51, aI (List.length r12054 : Int)), (52, aI i12138)]) (L' := [(71, .seq (.slice tI) x12049), (66, .seq tI (x12139 ++ [v12177]))]) (obs := [SmallLen (List.length x12139 + List.length [v12177])]) (by kernel_rfl) (by kernel_rfl) (by kernel_rfl) (allP1 h12179) ?_
                          refine blockQ_norm ?_
                          refine seqQ_norm ?_
                          obtain rfl := Option.some.inj h
                          refine W_run 2 [] [0, 3, 4, 5, 6, 8, 9, 43, 44, 45, 50, 51, 52] [71, 66] (fr' := [(0, aD (.slice (.slice .bool)) a0), (3, aI x9493.1), (4, aI x4069.2), (5, aI x9493.2), (6, .one (.slc 71)), (8, aI v12051), (9, .one (.slc 66)), (43, aD (.slice tI) r11773), (44, aI (List.length r11773 : Int)), (45, aI i12048), (50, aD (.slice tI) r12054), (51, aI (List.length r12054 : Int)), (52, aI (w64 (i12138 + (1 : Int))))]) (L' := [(71, .seq (.slice tI) x12049), (66, .seq tI (x12139 ++ [v12177]))]) (obs := []) (by kernel_rfl) (by kernel_rfl) (by kernel_rfl) allP0 ?_
                          exact round_next' (by kernel_rfl) (by kernel_rfl)
                      · obtain rfl := stepL_false h12143 h
                        refine W_exit (id := 6) [0, 3, 4, 5, 6, 9, 43, 44, 45] [71, 66] (fr' := [(0, aD (.slice (.slice .bool)) a0), (3, aI x9493.1), (4, aI x4069.2), (5, aI x9493.2), (6, .one (.slc 71)), (9, .one (.slc 66)), (43, aD (.slice tI) r11773), (44, aI (List.length r11773 : Int)), (45, aI i12048)]) (L' := [(71, .seq (.slice tI) x12049), (66, .seq tI x12139)]) (by kernel_rfl) (by kernel_rfl) ?_
                        refine seqQ_exit ?_
                        refine round_exit ?_
                        exact exQ_mk (by kernel_rfl) (by kernel_rfl)
                    · intro e fr L hJ
                      obtain ⟨rfl, rfl, rfl⟩ := hJ
                      refine LT_keep [0, 3, 4, 5, 6, 9, 43, 44, 45] [71, 66] (fr' := [(0, aD (.slice (.slice .bool)) a0), (3, aI x9493.1), (4, aI x4069.2), (5, aI x9493.2), (6, .one (.slc 71)), (9, .one (.slc 66)), (43, aD (.slice tI) r11773), (44, aI (List.length r11773 : Int)), (45, aI i12048)]) (L' := [(71, .seq (.slice tI) x12049), (66, .seq tI v12181)]) (by kernel_rfl) ?_
                      refine blockQ_hit ?_
                      refine seqQ_norm ?_
                      refine W_region (by kernel_rfl) ?_
                      refine WO_run (j := 2) (k := 2) (orcs := []) (kF := [0, 3, 4, 5, 6, 43, 44, 45, 68, 69]) (kL := [66, 71]) (fr' := [(0, aD (.slice (.slice .bool)) a0), (3, aI x9493.1), (4, aI x4069.2), (5, aI x9493.2), (6, .one (.slc 71)), (43, aD (.slice tI) r11773), (44, aI (List.length r11773 : Int)), (45, aI i12048), (68, .one (.slc 71)), (69, .one (.slc 66))]) (L' := [(66, .seq tI v12181), (71, .seq (.slice tI) x12049)]) (obs := []) rfl (by kernel_rfl) allP0 ?_
                      refine WO_frz 66 (by kernel_rfl) ?_
                      obtain ⟨_, h12186, h⟩ := bind_of h
                      replace h12186 := ck_some h12186
                      refine WO_run (j := 5) (k := 3) (orcs := []) (kF := [0, 3, 4, 5, 6, 43, 44, 45]) (kL := [70, 71]) (fr' := [(0, aD (.slice (.slice .bool)) a0), (3, aI x9493.1), (4, aI x4069.2), (5, aI x9493.2), (6, .one (.slc 71)), (43, aD (.slice tI) r11773), (44, aI (List.length r11773 : Int)), (45, aI i12048)]) (L' := [(70, .seq (.slice tI) [v12181]), (71, .seq (.slice tI) (x12049 ++ [v12181]))]) (obs := [SmallLen (List.length x12049 + List.length [v12181])]) rfl (by kernel_rfl) (allP1 h12186) ?_
                      refine WO_fin [0, 3, 4, 5, 6, 43, 44, 45] [71] (fr' := [(0, aD (.slice (.slice .bool)) a0), (3, aI x9493.1), (4, aI x4069.2), (5, aI x9493.2), (6, .one (.slc 71)), (43, aD (.slice tI) r11773), (44, aI (List.length r11773 : Int)), (45, aI i12048)]) (L' := [(71, .seq (.slice tI) (x12049 ++ [v12181]))]) (by kernel_rfl) (by kernel_rfl) ?_
                      refine blockQ_norm ?_
                      refine seqQ_norm ?_
                      obtain rfl := Option.some.inj h
                      refine W_run 2 [] [0, 3, 4, 5, 6, 43, 44, 45] [71] (fr' := [(0, aD (.slice (.slice .bool)) a0), (3, aI x9493.1), (4, aI x4069.2), (5, aI x9493.2), (6, .one (.slc 71)), (43, aD (.slice tI) r11773), (44, aI (List.length r11773 : Int)), (45, aI (w64 (i12048 + (1 : Int))))]) (L' := [(71, .seq (.slice tI) (x12049 ++ [v12181]))]) (obs := []) (by kernel_rfl) (by kernel_rfl) (by kernel_rfl) allP0 ?_
                      exact round_next' (by kernel_rfl) (by kernel_rfl)
                  · obtain rfl := stepL_false h12053 h
                    refine W_exit (id := 4) [0, 3, 4, 5, 6] [71] (fr' := [(0, aD (.slice (.slice .bool)) a0), (3, aI x9493.1), (4, aI x4069.2), (5, aI x9493.2), (6, .one (.slc 71))]) (L' := [(71, .seq (.slice tI) x12049)]) (by kernel_rfl) (by kernel_rfl) ?_
                    refine seqQ_exit ?_
                    refine round_exit ?_
                    exact exQ_mk (by kernel_rfl) (by kernel_rfl)
                · intro e fr L hJ
                  obtain ⟨rfl, rfl, rfl⟩ := hJ
                  refine LT_keep [0, 3, 4, 5, 6] [71] (fr' := [(0, aD (.slice (.slice .bool)) a0), (3, aI x9493.1), (4, aI x4069.2), (5, aI x9493.2), (6, .one (.slc 71))]) (L' := [(71, .seq (.slice tI) v12188)]) (by kernel_rfl) ?_
                  refine blockQ_hit ?_
                  refine seqQ_norm ?_
                  refine W_seq (by kernel_rfl) ?_
                  refine W_region (by kernel_rfl) ?_
                  refine WO_run (j := 1) (k := 1) (orcs := []) (kF := [0, 3, 4, 5, 73]) (kL := [71]) (fr' := [(0, aD (.slice (.slice .bool)) a0), (3, aI x9493.1), (4, aI x4069.2), (5, aI x9493.2), (73, .one (.slc 71))]) (L' := [(71, .seq (.slice tI) v12188)]) (obs := []) rfl (by kernel_rfl) allP0 ?_
                  obtain ⟨r12193, h12194, h⟩ := bind_of h
                  refine WO_frz 71 (by kernel_rfl) ?_
                  refine WO_call0 (us := [none]) (d := 74) (p := True) (j := 2) rfl ⟨by kernel_rfl, by kernel_rfl, by kernel_rfl⟩ trivial (ref_Signed_ok h12194) (by kernel_rfl) ?_
                  refine WO_run (j := 3) (k := 1) (orcs := []) (kF := [0, 3, 4, 5, 75]) (kL := []) (fr' := [(0, aD (.slice (.slice .bool)) a0), (3, aI x9493.1), (4, aI x4069.2), (5, aI x9493.2), (75, aB (r12193 != (0 : Int)))]) (L' := []) (obs := []) rfl (by kernel_rfl) allP0 ?_
                  refine WO_fin [0, 3, 4, 5, 75] [] (fr' := [(0, aD (.slice (.slice .bool)) a0), (3, aI x9493.1), (4, aI x4069.2), (5, aI x9493.2), (75, aB (r12193 != (0 : Int)))]) (L' := []) (by kernel_rfl) (by kernel_rfl) ?_
                  refine seqQ_norm ?_
                  refine W_cond (o := .tmp 75) (b := r12193 != (0 : Int)) (by kernel_rfl) (by kernel_rfl) (fun h12195 => ?_) (fun h12195 => ?_)
                  · replace h := ofT h12195 h
                    refine W_region (by kernel_rfl) ?_
                    refine WO_run (j := 1) (k := 1) (orcs := []) (kF := [0, 3, 4, 5, 76]) (kL := []) (fr' := [(0, aD (.slice (.slice .bool)) a0), (3, aI x9493.1), (4, aI x4069.2), (5, aI x9493.2), (76, aI x4069.2)]) (L' := []) (obs := []) rfl (by kernel_rfl) allP0 ?_
                    obtain ⟨r12196, h12197, h⟩ := bind_of h
                    refine WO_call0 (us := [none]) (d := 77) (p := True) (j := 2) rfl ⟨by kernel_rfl, by kernel_rfl, by kernel_rfl⟩ trivial (ref_Size_ok h12197) (by kernel_rfl) ?_
                    refine WO_run (j := 3) (k := 1) (orcs := []) (kF := [0, 3, 4, 5]) (kL := []) (fr' := [(0, aD (.slice (.slice .bool)) a0), (3, aI r12196), (4, aI x4069.2), (5, aI x9493.2)]) (L' := []) (obs := []) rfl (by kernel_rfl) allP0 ?_
                    obtain rfl := Option.some.inj h
                    refine WO_fin [0, 3, 4, 5] [] (fr' := [(0, aD (.slice (.slice .bool)) a0), (3, aI r12196), (4, aI x4069.2), (5, aI x9493.2)]) (L' := []) (by kernel_rfl) (by kernel_rfl) ?_
                    refine blockQ_norm ?_
                    exact exQ_mk (by kernel_rfl) (by kernel_rfl)
                  · replace h := ofF h12195 h
                    obtain rfl := Option.some.inj h
                    refine W_skip [0, 3, 4, 5] [] (fr' := [(0, aD (.slice (.slice .bool)) a0), (3, aI x9493.1), (4, aI x4069.2), (5, aI x9493.2)]) (L' := []) (by kernel_rfl) (by kernel_rfl) ?_
                    refine blockQ_norm ?_
                    exact exQ_mk (by kernel_rfl) (by kernel_rfl)
          · intro e fr L hJ
            obtain ⟨rfl, rfl, rfl⟩ := hJ
            refine LT_keep [0, 3, 4, 5] [] (fr' := [(0, aD (.slice (.slice .bool)) a0), (3, aI v12198), (4, aI x4069.2), (5, aI x9493.2)]) (L' := []) (by kernel_rfl) ?_
            refine seqQ_norm ?_
            obtain rfl := Option.some.inj h
            refine W_run 3 [] [0, 3, 4, 5] [] (fr' := [(0, aD (.slice (.slice .bool)) a0), (3, aI v12198), (4, aI x4069.2), (5, aI (w64 (x9493.2 + (1 : Int))))]) (L' := []) (obs := []) (by kernel_rfl) (by kernel_rfl) (by kernel_rfl) allP0 ?_
            exact round_next' (by kernel_rfl) (by kernel_rfl)
        · replace h := ofF h10850 h
          obtain rfl := Option.some.inj h
          refine W_exit (id := 2) [0, 3, 4] [] (fr' := [(0, aD (.slice (.slice .bool)) a0), (3, aI x9493.1), (4, aI x4069.2)]) (L' := []) (by kernel_rfl) (by kernel_rfl) ?_
          refine seqQ_exit ?_
          refine round_exit ?_
          exact exQ_mk (by kernel_rfl) (by kernel_rfl)
      · intro e fr L hJ
        obtain ⟨rfl, rfl, rfl⟩ := hJ
        refine LT_keep [0, 3, 4] [] (fr' := [(0, aD (.slice (.slice .bool)) a0), (3, aI v12200), (4, aI x4069.2)]) (L' := []) (by kernel_rfl) ?_
        refine blockQ_hit ?_
        refine blockQ_norm ?_
        refine seqQ_norm ?_
        obtain rfl := Option.some.inj h
        refine W_run 3 [] [0, 3, 4] [] (fr' := [(0, aD (.slice (.slice .bool)) a0), (3, aI v12200), (4, aI (w64 (x4069.2 + (1 : Int))))]) (L' := []) (obs := []) (by kernel_rfl) (by kernel_rfl) (by kernel_rfl) allP0 ?_
        exact round_next' (by kernel_rfl) (by kernel_rfl)
    · replace h := ofF h8138 h
      obtain rfl := Option.some.inj h
      refine W_exit (id := 0) [3] [] (fr' := [(3, aI x4069.1)]) (L' := []) (by kernel_rfl) (by kernel_rfl) ?_
      refine seqQ_exit ?_
      refine round_exit ?_
      exact exQ_mk (by kernel_rfl) (by kernel_rfl)
  · intro e fr L hJ
    obtain ⟨rfl, rfl, rfl⟩ := hJ
    refine LT_keep [3] [] (fr' := [(3, aI v12204)]) (L' := []) (by kernel_rfl) ?_
    refine blockQ_hit ?_
    refine seqQ_norm ?_
    refine W_seq (by kernel_rfl) ?_
    refine W_run 2 [] [2] [] (fr' := [(2, aI v12204)]) (L' := []) (obs := []) (by kernel_rfl) (by kernel_rfl) (by kernel_rfl) allP0 ?_
    refine seqQ_norm ?_
    obtain rfl := Option.some.inj h
    refine W_ret [2] [] (fr' := [(2, aI v12204)]) (L' := []) (by kernel_rfl) (by kernel_rfl) ?_
    exact retQ_mk (by kernel_rfl) (by kernel_rfl) (by kernel_rfl)

@[reducible] def law_TalkRanks_s1 (v : Bool) : Fr × LL := ([(2, aB v)], [])
def law_TalkRanks (fuel : Nat) (a0 : (List (List Bool))) : Option Bool :=
(talk_Rank fuel a0).bind fun r1 =>
(ref_TalkCheck a0).bind fun r3 =>
bif r3 != (0 : Int) then
(some ((r1.2 == r3) && (r1.1 == (0 : Int))))
else
((bif r1.2 == (0 : Int) then
((ref_TalkRank fuel a0).bind fun r13 =>
some (r1.1 == r13))
else
(some false)).bind fun v15 =>
some v15)
theorem law_TalkRanks_ok {fuel : Nat} {a0 : (List (List Bool))} {r : Bool} (h : law_TalkRanks fuel a0 = some r) : FnC Try.prog 4 [aD (.slice (.slice .bool)) a0] [] (aB r) [] := by
  refine fnC_of_W (B := bodyOf Try.f4) (n := 30) Try.func4 (by kernel_rfl) (by kernel_rfl) (by kernel_rfl) (by kernel_rfl) (by kernel_rfl) ?_
  intro K
  refine W_seq (by kernel_rfl) ?_
  refine W_run 1 [] [0] [] (fr' := [(0, aD (.slice (.slice .bool)) a0)]) (L' := []) (obs := []) (by kernel_rfl) (by kernel_rfl) (by kernel_rfl) allP0 ?_
  refine seqQ_norm ?_
  refine W_seq (by kernel_rfl) ?_
  refine W_region (by kernel_rfl) ?_
  refine WO_run (j := 1) (k := 1) (orcs := []) (kF := [0, 7]) (kL := []) (fr' := [(0, aD (.slice (.slice .bool)) a0), (7, aD (.slice (.slice .bool)) a0)]) (L' := []) (obs := []) rfl (by kernel_rfl) allP0 ?_
  obtain ⟨r1, h2, h⟩ := bind_of h
  refine WO_call0 (us := [none]) (d := 8) (p := True) (j := 2) rfl ⟨by kernel_rfl, by kernel_rfl, by kernel_rfl⟩ trivial (talk_Rank_ok h2) (by kernel_rfl) ?_
  refine WO_run (j := 7) (k := 5) (orcs := []) (kF := [0, 3, 4]) (kL := []) (fr' := [(0, aD (.slice (.slice .bool)) a0), (3, aI r1.1), (4, aI r1.2)]) (L' := []) (obs := []) rfl (by kernel_rfl) allP0 ?_
  refine WO_fin [0, 3, 4] [] (fr' := [(0, aD (.slice (.slice .bool)) a0), (3, aI r1.1), (4, aI r1.2)]) (L' := []) (by kernel_rfl) (by kernel_rfl) ?_
  refine seqQ_norm ?_
  refine W_seq (by kernel_rfl) ?_
  refine W_region (by kernel_rfl) ?_
  refine WO_run (j := 1) (k := 1) (orcs := []) (kF := [0, 3, 4, 11]) (kL := []) (fr' := [(0, aD (.slice (.slice .bool)) a0), (3, aI r1.1), (4, aI r1.2), (11, aD (.slice (.slice .bool)) a0)]) (L' := []) (obs := []) rfl (by kernel_rfl) allP0 ?_
  obtain ⟨r3, h4, h⟩ := bind_of h
  refine WO_call0 (us := [none]) (d := 12) (p := True) (j := 2) rfl ⟨by kernel_rfl, by kernel_rfl, by kernel_rfl⟩ trivial (ref_TalkCheck_ok h4) (by kernel_rfl) ?_
  refine WO_run (j := 3) (k := 1) (orcs := []) (kF := [0, 3, 4, 5]) (kL := []) (fr' := [(0, aD (.slice (.slice .bool)) a0), (3, aI r1.1), (4, aI r1.2), (5, aI r3)]) (L' := []) (obs := []) rfl (by kernel_rfl) allP0 ?_
  refine WO_fin [0, 3, 4, 5] [] (fr' := [(0, aD (.slice (.slice .bool)) a0), (3, aI r1.1), (4, aI r1.2), (5, aI r3)]) (L' := []) (by kernel_rfl) (by kernel_rfl) ?_
  refine seqQ_norm ?_
  refine W_seq (by kernel_rfl) ?_
  refine W_seq (by kernel_rfl) ?_
  refine W_run 2 [] [0, 3, 4, 5, 14] [] (fr' := [(0, aD (.slice (.slice .bool)) a0), (3, aI r1.1), (4, aI r1.2), (5, aI r3), (14, aB (r3 != (0 : Int)))]) (L' := []) (obs := []) (by kernel_rfl) (by kernel_rfl) (by kernel_rfl) allP0 ?_
  refine seqQ_norm ?_
  refine W_cond (o := .tmp 14) (b := r3 != (0 : Int)) (by kernel_rfl) (by kernel_rfl) (fun h5 => ?_) (fun h5 => ?_)
  · replace h := ofT h5 h
    refine W_seq (by kernel_rfl) ?_
    refine W_run 8 [] [2] [] (fr' := [(2, aB ((r1.2 == r3) && (r1.1 == (0 : Int))))]) (L' := []) (obs := []) (by kernel_rfl) (by kernel_rfl) (by kernel_rfl) allP0 ?_
    refine seqQ_norm ?_
    obtain rfl := Option.some.inj h
    refine W_ret [2] [] (fr' := [(2, aB ((r1.2 == r3) && (r1.1 == (0 : Int))))]) (L' := []) (by kernel_rfl) (by kernel_rfl) ?_
    refine seqQ_ret ?_
    exact retQ_mk (by kernel_rfl) (by kernel_rfl) (by kernel_rfl)
  · replace h := ofF h5 h
    refine W_skip [0, 3, 4] [] (fr' := [(0, aD (.slice (.slice .bool)) a0), (3, aI r1.1), (4, aI r1.2)]) (L' := []) (by kernel_rfl) (by kernel_rfl) ?_
    refine seqQ_norm ?_
    refine W_seq (by kernel_rfl) ?_
    obtain ⟨v15, h16, h⟩ := bind_of h
    refine W_cutK (Q' := (exQ .normal law_TalkRanks_s1) v15) ?_ ?_
    · replace h := h16
      refine W_region (by kernel_rfl) ?_
      refine WO_run (j := 3) (k := 3) (orcs := []) (kF := [0, 3, 24]) (kL := []) (fr' := [(0, aD (.slice (.slice .bool)) a0), (3, aI r1.1), (24, aB (r1.2 == (0 : Int)))]) (L' := []) (obs := []) rfl (by kernel_rfl) allP0 ?_
      rcases Bool.eq_false_or_eq_true (r1.2 == (0 : Int)) with h12 | h12
      · replace h := ofT h12 h
        refine WO_run (j := 5) (k := 2) (orcs := [(6, .known true), (8, .known true)]) (kF := [24, 25, 26]) (kL := []) (fr' := [(24, aB (r1.2 == (0 : Int))), (25, aI r1.1), (26, aD (.slice (.slice .bool)) a0)]) (L' := []) (obs := [((r1.2 == (0 : Int)) = true), ((r1.2 == (0 : Int)) = true)]) rfl (by kernel_rfl) (allP2 h12 (allP1 h12)) ?_
        obtain ⟨r13, h14, h⟩ := bind_of h
        refine WO_call0 (us := [none]) (d := 27) (p := ((r1.2 == (0 : Int)) = true)) (j := 6) rfl ⟨by kernel_rfl, by kernel_rfl, by kernel_rfl⟩ h12 (ref_TalkRank_ok h14) (by kernel_rfl) ?_
        refine WO_run (j := 9) (k := 3) (orcs := [(12, .known true), (15, .val (.dat .bool true))]) (kF := [2]) (kL := []) (fr' := [(2, aB (r1.1 == r13))]) (L' := []) (obs := [((r1.2 == (0 : Int)) = true), ((r1.2 == (0 : Int)) = true)]) rfl (by kernel_rfl) (allP2 h12 (allP1 h12)) ?_
        obtain rfl := Option.some.inj h
        refine WO_fin [2] [] (fr' := [(2, aB (r1.1 == r13))]) (L' := []) (by kernel_rfl) (by kernel_rfl) ?_
        exact exQ_mk (by kernel_rfl) (by kernel_rfl)
      · replace h := ofF h12 h
        refine WO_run (j := 9) (k := 6) (orcs := [(6, .known false), (8, .known false), (10, .known false), (12, .known false), (15, .val (.dat .bool false))]) (kF := [2]) (kL := []) (fr' := [(2, aB false)]) (L' := []) (obs := [((r1.2 == (0 : Int)) = false), ((r1.2 == (0 : Int)) = false), ((r1.2 == (0 : Int)) = false), ((r1.2 == (0 : Int)) = false), ((r1.2 == (0 : Int)) = false)]) rfl (by kernel_rfl) (allP2 h12 (allP2 h12 (allP2 h12 (allP2 h12 (allP1 h12))))) ?_
        obtain rfl := Option.some.inj h
        refine WO_fin [2] [] (fr' := [(2, aB false)]) (L' := []) (by kernel_rfl) (by kernel_rfl) ?_
        exact exQ_mk (by kernel_rfl) (by kernel_rfl)
    · intro e fr L hJ
      obtain ⟨rfl, rfl, rfl⟩ := hJ
      refine LT_keep [2] [] (fr' := [(2, aB v15)]) (L' := []) (by kernel_rfl) ?_
      refine seqQ_norm ?_
      obtain rfl := Option.some.inj h
      refine W_ret [2] [] (fr' := [(2, aB v15)]) (L' := []) (by kernel_rfl) (by kernel_rfl) ?_
      exact retQ_mk (by kernel_rfl) (by kernel_rfl) (by kernel_rfl)
end Go.Proofs.Ytnblafiefaalgaa.talkRanks
