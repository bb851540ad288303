/- What the functions that TalkRects calls compute, as models, and that they compute it: written by a program of mine. -/
import Derived.Test.YtjghcbdfpcpahaaProg
import Derived.Test.YtjghcbdfpcpahaaTalkRectsM1
set_option linter.all false
set_option maxRecDepth 100000
namespace Go.Proofs.Ytjghcbdfpcpahaa.talkRects
open Go Go.Sl
def law_TalkRects_g23 (a1 : Bool) (v6 : (List Bool)) (i140 : Int) (v143 : (List Bool)) (i178 : Int) (x179 : Int) : Option Int :=
(idx v143 i178).bind fun v190 =>
bif v190 == a1 then
((ck (0 ≤ IntKind.wrap .u64 (w64 ((w64 ((List.length v6 : Int) * i140)) + i178)))).bind fun _ =>
some (w64 (x179 + (bShl .i64 (1 : Int) (IntKind.wrap .u64 (w64 ((w64 ((List.length v6 : Int) * i140)) + i178)))))))
else
(some x179)
@[reducible] def law_TalkRects_s24 (a0 : (List (List Bool))) (a1 : Bool) (r1 : (Int × Int)) (v6 : (List Bool)) (i140 : Int) (i178 : Int) (v : Int) : Fr × LL := ([(0, aD (.slice (.slice .bool)) a0), (1, aB a1), (5, aI r1.1), (6, aI r1.2), (8, aI (List.length v6 : Int)), (9, aI v), (10, aI i140), (11, aI i178)], [])
def law_TalkRects_b25 (a1 : Bool) (v6 : (List Bool)) (i140 : Int) (v143 : (List Bool)) (i178 : Int) (x179 : Int) : Option (Flow Int Int) :=
(law_TalkRects_g23 a1 v6 i140 v143 i178 x179).bind fun v194 =>
some (.next v194)
@[reducible] def law_TalkRects_s26 (a0 : (List (List Bool))) (a1 : Bool) (r1 : (Int × Int)) (v6 : (List Bool)) (i140 : Int) (v : Int × Int) : Fr × LL := ([(0, aD (.slice (.slice .bool)) a0), (1, aB a1), (5, aI r1.1), (6, aI r1.2), (8, aI (List.length v6 : Int)), (9, aI v.2), (10, aI i140), (11, aI v.1)], [])
@[reducible] def law_TalkRects_s27 (a0 : (List (List Bool))) (a1 : Bool) (r1 : (Int × Int)) (v6 : (List Bool)) (i140 : Int) (v : Int) : Fr × LL := ([(0, aD (.slice (.slice .bool)) a0), (1, aB a1), (5, aI r1.1), (6, aI r1.2), (8, aI (List.length v6 : Int)), (9, aI v), (10, aI i140)], [])
def law_TalkRects_b28 (a1 : Bool) (v6 : (List Bool)) (i140 : Int) (v143 : (List Bool)) (x141 : Int) : Option (Flow Int Int) :=
(forI (0 : Int) (List.length v6 : Int) (law_TalkRects_b25 a1 v6 i140 v143) (fun x179 => x179) x141).bind fun v197 =>
some (.next v197)
@[reducible] def law_TalkRects_s29 (a0 : (List (List Bool))) (a1 : Bool) (r1 : (Int × Int)) (v6 : (List Bool)) (v : Int × Int) : Fr × LL := ([(0, aD (.slice (.slice .bool)) a0), (1, aB a1), (5, aI r1.1), (6, aI r1.2), (8, aI (List.length v6 : Int)), (9, aI v.2), (10, aI v.1)], [])
@[reducible] def law_TalkRects_s30 (a0 : (List (List Bool))) (a1 : Bool) (r1 : (Int × Int)) (v : Int) : Fr × LL := ([(0, aD (.slice (.slice .bool)) a0), (1, aB a1), (5, aI r1.1), (6, aI r1.2), (9, aI v)], [])
@[reducible] def law_TalkRects_s31 (v : Bool) : Fr × LL := ([(4, aB v)], [])
def law_TalkRects (fuel : Nat) (a0 : (List (List Bool))) (a1 : Bool) : Option Bool :=
(talk_Rects fuel a0 a1).bind fun r1 =>
(ref_TalkCheck a0).bind fun r3 =>
bif r3 != (0 : Int) then
(some ((r1.2 == r3) && (r1.1 == (0 : Int))))
else
((idx a0 (0 : Int)).bind fun v6 =>
(forL (law_TalkRects_b28 a1 v6) (fun x141 => x141) a0 0 (0 : Int)).bind fun v202 =>
(bif r1.2 == (0 : Int) then
((ref_Rects fuel a0 a1 v202).bind fun r214 =>
some (r1.1 == r214))
else
(some false)).bind fun v216 =>
some v216)
theorem law_TalkRects_ok {fuel : Nat} {a0 : (List (List Bool))} {a1 : Bool} {r : Bool} (h : law_TalkRects fuel a0 a1 = some r) : FnC Try.prog 7 [aD (.slice (.slice .bool)) a0, aB a1] [] (aB r) [] := by
  refine fnC_of_W (B := bodyOf Try.f7) (n := 72) Try.func7 (by kernel_rfl) (by kernel_rfl) (by kernel_rfl) (by kernel_rfl) (by kernel_rfl) ?_
  intro K
  refine W_seq (by kernel_rfl) ?_
  refine W_run 1 [] [0, 1] [] (fr' := [(0, aD (.slice (.slice .bool)) a0), (1, aB a1)]) (L' := []) (obs := []) (by kernel_rfl) (by kernel_rfl) (by kernel_rfl) allP0 ?_
  refine seqQ_norm ?_
  refine W_seq (by kernel_rfl) ?_
  refine W_region (by kernel_rfl) ?_
  refine WO_run (j := 2) (k := 2) (orcs := []) (kF := [0, 1, 13, 14]) (kL := []) (fr' := [(0, aD (.slice (.slice .bool)) a0), (1, aB a1), (13, aD (.slice (.slice .bool)) a0), (14, aB a1)]) (L' := []) (obs := []) rfl (by kernel_rfl) allP0 ?_
  obtain ⟨r1, h2, h⟩ := bind_of h
  refine WO_call0 (us := [none, none]) (d := 15) (p := True) (j := 3) rfl ⟨by kernel_rfl, by kernel_rfl, by kernel_rfl⟩ trivial (talk_Rects_ok h2) (by kernel_rfl) ?_
  refine WO_run (j := 8) (k := 5) (orcs := []) (kF := [0, 1, 5, 6]) (kL := []) (fr' := [(0, aD (.slice (.slice .bool)) a0), (1, aB a1), (5, aI r1.1), (6, aI r1.2)]) (L' := []) (obs := []) rfl (by kernel_rfl) allP0 ?_
  refine WO_fin [0, 1, 5, 6] [] (fr' := [(0, aD (.slice (.slice .bool)) a0), (1, aB a1), (5, aI r1.1), (6, aI r1.2)]) (L' := []) (by kernel_rfl) (by kernel_rfl) ?_
  refine seqQ_norm ?_
  refine W_seq (by kernel_rfl) ?_
  refine W_region (by kernel_rfl) ?_
  refine WO_run (j := 1) (k := 1) (orcs := []) (kF := [0, 1, 5, 6, 18]) (kL := []) (fr' := [(0, aD (.slice (.slice .bool)) a0), (1, aB a1), (5, aI r1.1), (6, aI r1.2), (18, aD (.slice (.slice .bool)) a0)]) (L' := []) (obs := []) rfl (by kernel_rfl) allP0 ?_
  obtain ⟨r3, h4, h⟩ := bind_of h
  refine WO_call0 (us := [none]) (d := 19) (p := True) (j := 2) rfl ⟨by kernel_rfl, by kernel_rfl, by kernel_rfl⟩ trivial (ref_TalkCheck_ok h4) (by kernel_rfl) ?_
  refine WO_run (j := 3) (k := 1) (orcs := []) (kF := [0, 1, 5, 6, 7]) (kL := []) (fr' := [(0, aD (.slice (.slice .bool)) a0), (1, aB a1), (5, aI r1.1), (6, aI r1.2), (7, aI r3)]) (L' := []) (obs := []) rfl (by kernel_rfl) allP0 ?_
  refine WO_fin [0, 1, 5, 6, 7] [] (fr' := [(0, aD (.slice (.slice .bool)) a0), (1, aB a1), (5, aI r1.1), (6, aI r1.2), (7, aI r3)]) (L' := []) (by kernel_rfl) (by kernel_rfl) ?_
  refine seqQ_norm ?_
  refine W_seq (by kernel_rfl) ?_
  refine W_seq (by kernel_rfl) ?_
  refine W_run 2 [] [0, 1, 5, 6, 7, 21] [] (fr' := [(0, aD (.slice (.slice .bool)) a0), (1, aB a1), (5, aI r1.1), (6, aI r1.2), (7, aI r3), (21, aB (r3 != (0 : Int)))]) (L' := []) (obs := []) (by kernel_rfl) (by kernel_rfl) (by kernel_rfl) allP0 ?_
  refine seqQ_norm ?_
  refine W_cond (o := .tmp 21) (b := r3 != (0 : Int)) (by kernel_rfl) (by kernel_rfl) (fun h5 => ?_) (fun h5 => ?_)
  · replace h := ofT h5 h
    refine W_seq (by kernel_rfl) ?_
    refine W_run 8 [] [4] [] (fr' := [(4, aB ((r1.2 == r3) && (r1.1 == (0 : Int))))]) (L' := []) (obs := []) (by kernel_rfl) (by kernel_rfl) (by kernel_rfl) allP0 ?_
    refine seqQ_norm ?_
    obtain rfl := Option.some.inj h
    refine W_ret [4] [] (fr' := [(4, aB ((r1.2 == r3) && (r1.1 == (0 : Int))))]) (L' := []) (by kernel_rfl) (by kernel_rfl) ?_
    refine seqQ_ret ?_
    exact retQ_mk (by kernel_rfl) (by kernel_rfl) (by kernel_rfl)
  · replace h := ofF h5 h
    refine W_skip [0, 1, 5, 6] [] (fr' := [(0, aD (.slice (.slice .bool)) a0), (1, aB a1), (5, aI r1.1), (6, aI r1.2)]) (L' := []) (by kernel_rfl) (by kernel_rfl) ?_
    refine seqQ_norm ?_
    refine W_seq (by kernel_rfl) ?_
    obtain ⟨v6, h7, h⟩ := bind_of h
    refine W_run 5 [(3, .val (.dat (.slice .bool) v6))] [0, 1, 5, 6, 8] [] (fr' := [(0, aD (.slice (.slice .bool)) a0), (1, aB a1), (5, aI r1.1), (6, aI r1.2), (8, aI (List.length v6 : Int))]) (L' := []) (obs := [Idx a0 (0 : Int) v6]) (by kernel_rfl) (by kernel_rfl) (by kernel_rfl) (allP1 (Idx.of h7)) ?_
    refine seqQ_norm ?_
    refine W_seq (by kernel_rfl) ?_
    refine W_run 1 [] [0, 1, 5, 6, 8, 9] [] (fr' := [(0, aD (.slice (.slice .bool)) a0), (1, aB a1), (5, aI r1.1), (6, aI r1.2), (8, aI (List.length v6 : Int)), (9, aI (0 : Int))]) (L' := []) (obs := []) (by kernel_rfl) (by kernel_rfl) (by kernel_rfl) allP0 ?_
    refine seqQ_norm ?_
    refine W_seq (by kernel_rfl) ?_
    refine W_seq (by kernel_rfl) ?_
    refine W_run 1 [] [0, 1, 5, 6, 8, 9, 10] [] (fr' := [(0, aD (.slice (.slice .bool)) a0), (1, aB a1), (5, aI r1.1), (6, aI r1.2), (8, aI (List.length v6 : Int)), (9, aI (0 : Int)), (10, aI (0 : Int))]) (L' := []) (obs := []) (by kernel_rfl) (by kernel_rfl) (by kernel_rfl) allP0 ?_
    refine seqQ_norm ?_
    refine W_block (id := 0) (by kernel_rfl) ?_
    obtain ⟨v202, h203, h⟩ := bind_of h
    refine W_len (t := 0) (u := (.slice .bool)) (xs := a0) (by kernel_rfl) (fun h206 => ?_)
    obtain ⟨h204, h205⟩ := forL_iter h206 h203
    refine W_weaken [0, 1, 5, 6, 8, 9, 10] [] (fr' := ((law_TalkRects_s29 a0 a1 r1 v6) ((0 : Int), (0 : Int))).1) (L' := ((law_TalkRects_s29 a0 a1 r1 v6) ((0 : Int), (0 : Int))).2) (by kernel_rfl) ?_
    refine W_cutK (W_loop (S := (law_TalkRects_s29 a0 a1 r1 v6)) (J := (exQ (.exit 0) (law_TalkRects_s30 a0 a1 r1))) (by kernel_rfl) ?_ h204 _ v202 h205) ?_
    · rintro ⟨i140, x141⟩ s h
      refine W_seq (by kernel_rfl) ?_
      refine W_seq (by kernel_rfl) ?_
      refine W_run 4 [] [0, 1, 5, 6, 8, 9, 10, 36] [] (fr' := [(0, aD (.slice (.slice .bool)) a0), (1, aB a1), (5, aI r1.1), (6, aI r1.2), (8, aI (List.length v6 : Int)), (9, aI x141), (10, aI i140), (36, aB (decide (i140 < (List.length a0 : Int))))]) (L' := []) (obs := []) (by kernel_rfl) (by kernel_rfl) (by kernel_rfl) allP0 ?_
      refine seqQ_norm ?_
      refine W_cond (o := .tmp 36) (b := decide (i140 < (List.length a0 : Int))) (by kernel_rfl) (by kernel_rfl) (fun h145 => ?_) (fun h145 => ?_)
      · replace h := stepL_true h145 h
        obtain ⟨v143, _, h144, h, rfl⟩ := h
        refine W_skip [0, 1, 5, 6, 8, 9, 10] [] (fr' := [(0, aD (.slice (.slice .bool)) a0), (1, aB a1), (5, aI r1.1), (6, aI r1.2), (8, aI (List.length v6 : Int)), (9, aI x141), (10, aI i140)]) (L' := []) (by kernel_rfl) (by kernel_rfl) ?_
        refine seqQ_norm ?_
        refine W_seq (by kernel_rfl) ?_
        refine W_block (id := 1) (by kernel_rfl) ?_
        refine W_seq (by kernel_rfl) ?_
        refine W_run 1 [] [0, 1, 5, 6, 8, 9, 10, 11] [] (fr' := [(0, aD (.slice (.slice .bool)) a0), (1, aB a1), (5, aI r1.1), (6, aI r1.2), (8, aI (List.length v6 : Int)), (9, aI x141), (10, aI i140), (11, aI (0 : Int))]) (L' := []) (obs := []) (by kernel_rfl) (by kernel_rfl) (by kernel_rfl) allP0 ?_
        refine seqQ_norm ?_
        refine W_block (id := 2) (by kernel_rfl) ?_
        obtain ⟨v197, h198, h⟩ := bind_of h
        obtain ⟨h199, h200⟩ := forI_iter h198
        refine W_weaken [0, 1, 5, 6, 8, 9, 10, 11] [] (fr' := ((law_TalkRects_s26 a0 a1 r1 v6 i140) ((0 : Int), x141)).1) (L' := ((law_TalkRects_s26 a0 a1 r1 v6 i140) ((0 : Int), x141)).2) (by kernel_rfl) ?_
        refine W_cutK (W_loop (S := (law_TalkRects_s26 a0 a1 r1 v6 i140)) (J := (exQ (.exit 2) (law_TalkRects_s27 a0 a1 r1 v6 i140))) (by kernel_rfl) ?_ h199 _ v197 h200) ?_
        · rintro ⟨i178, x179⟩ s h
          refine W_seq (by kernel_rfl) ?_
          refine W_seq (by kernel_rfl) ?_
          refine W_run 3 [] [0, 1, 5, 6, 8, 9, 10, 11, 41] [] (fr' := [(0, aD (.slice (.slice .bool)) a0), (1, aB a1), (5, aI r1.1), (6, aI r1.2), (8, aI (List.length v6 : Int)), (9, aI x179), (10, aI i140), (11, aI i178), (41, aB (decide (i178 < (List.length v6 : Int))))]) (L' := []) (obs := []) (by kernel_rfl) (by kernel_rfl) (by kernel_rfl) allP0 ?_
          refine seqQ_norm ?_
          refine W_cond (o := .tmp 41) (b := decide (i178 < (List.length v6 : Int))) (by kernel_rfl) (by kernel_rfl) (fun h181 => ?_) (fun h181 => ?_)
          · replace h := stepI_true h181 h
            obtain ⟨_, h, rfl⟩ := h
            refine W_skip [0, 1, 5, 6, 8, 9, 10, 11] [] (fr' := [(0, aD (.slice (.slice .bool)) a0), (1, aB a1), (5, aI r1.1), (6, aI r1.2), (8, aI (List.length v6 : Int)), (9, aI x179), (10, aI i140), (11, aI i178)]) (L' := []) (by kernel_rfl) (by kernel_rfl) ?_
            refine seqQ_norm ?_
            refine W_seq (by kernel_rfl) ?_
            obtain ⟨v194, h195, h⟩ := bind_of h
            refine W_cutK (Q' := (exQ .normal (law_TalkRects_s24 a0 a1 r1 v6 i140 i178)) v194) ?_ ?_
            · replace h := h195
              refine W_block (id := 3) (by kernel_rfl) ?_
              refine W_seq (by kernel_rfl) ?_
              obtain ⟨v190, h191, h⟩ := bind_of h
              refine W_run 9 [(5, .val (.dat (.slice .bool) v143)), (11, .val (.dat .bool v190))] [0, 1, 5, 6, 8, 9, 10, 11, 52] [] (fr' := [(0, aD (.slice (.slice .bool)) a0), (1, aB a1), (5, aI r1.1), (6, aI r1.2), (8, aI (List.length v6 : Int)), (9, aI x179), (10, aI i140), (11, aI i178), (52, aB (v190 == a1))]) (L' := []) (obs := [Idx a0 i140 v143, Idx v143 i178 v190]) (by kernel_rfl) (by kernel_rfl) (by kernel_rfl) (allP2 (Idx.of h144) (allP1 (Idx.of h191))) ?_
              refine seqQ_norm ?_
              refine W_cond (o := .tmp 52) (b := v190 == a1) (by kernel_rfl) (by kernel_rfl) (fun h192 => ?_) (fun h192 => ?_)
              · replace h := ofT h192 h
                obtain ⟨_, h193, h⟩ := bind_of h
                replace h193 := ck_some h193
                obtain rfl := Option.some.inj h
                refine W_run 10 [] [0, 1, 5, 6, 8, 9, 10, 11] [] (fr' := [(0, aD (.slice (.slice .bool)) a0), (1, aB a1), (5, aI r1.1), (6, aI r1.2), (8, aI (List.length v6 : Int)), (9, aI (w64 (x179 + (bShl .i64 (1 : Int) (IntKind.wrap .u64 (w64 ((w64 ((List.length v6 : Int) * i140)) + i178))))))), (10, aI i140), (11, aI i178)]) (L' := []) (obs := [(0 ≤ IntKind.wrap .u64 (w64 ((w64 ((List.length v6 : Int) * i140)) + i178)))]) (by kernel_rfl) (by kernel_rfl) (by kernel_rfl) (allP1 h193) ?_
                refine blockQ_norm ?_
                exact exQ_mk (by kernel_rfl) (by kernel_rfl)
              · replace h := ofF h192 h
                obtain rfl := Option.some.inj h
                refine W_skip [0, 1, 5, 6, 8, 9, 10, 11] [] (fr' := [(0, aD (.slice (.slice .bool)) a0), (1, aB a1), (5, aI r1.1), (6, aI r1.2), (8, aI (List.length v6 : Int)), (9, aI x179), (10, aI i140), (11, aI i178)]) (L' := []) (by kernel_rfl) (by kernel_rfl) ?_
                refine blockQ_norm ?_
                exact exQ_mk (by kernel_rfl) (by kernel_rfl)
            · intro e fr L hJ
              obtain ⟨rfl, rfl, rfl⟩ := hJ
              refine LT_keep [0, 1, 5, 6, 8, 9, 10, 11] [] (fr' := [(0, aD (.slice (.slice .bool)) a0), (1, aB a1), (5, aI r1.1), (6, aI r1.2), (8, aI (List.length v6 : Int)), (9, aI v194), (10, aI i140), (11, aI i178)]) (L' := []) (by kernel_rfl) ?_
              refine seqQ_norm ?_
              obtain rfl := Option.some.inj h
              refine W_run 3 [] [0, 1, 5, 6, 8, 9, 10, 11] [] (fr' := [(0, aD (.slice (.slice .bool)) a0), (1, aB a1), (5, aI r1.1), (6, aI r1.2), (8, aI (List.length v6 : Int)), (9, aI v194), (10, aI i140), (11, aI (w64 (i178 + (1 : Int))))]) (L' := []) (obs := []) (by kernel_rfl) (by kernel_rfl) (by kernel_rfl) allP0 ?_
              exact round_next' (by kernel_rfl) (by kernel_rfl)
          · obtain rfl := stepI_false h181 h
            refine W_exit (id := 2) [0, 1, 5, 6, 8, 9, 10] [] (fr' := [(0, aD (.slice (.slice .bool)) a0), (1, aB a1), (5, aI r1.1), (6, aI r1.2), (8, aI (List.length v6 : Int)), (9, aI x179), (10, aI i140)]) (L' := []) (by kernel_rfl) (by kernel_rfl) ?_
            refine seqQ_exit ?_
            refine round_exit ?_
            exact exQ_mk (by kernel_rfl) (by kernel_rfl)
        · intro e fr L hJ
          obtain ⟨rfl, rfl, rfl⟩ := hJ
          refine LT_keep [0, 1, 5, 6, 8, 9, 10] [] (fr' := [(0, aD (.slice (.slice .bool)) a0), (1, aB a1), (5, aI r1.1), (6, aI r1.2), (8, aI (List.length v6 : Int)), (9, aI v197), (10, aI i140)]) (L' := []) (by kernel_rfl) ?_
          refine blockQ_hit ?_
          refine blockQ_norm ?_
          refine seqQ_norm ?_
          obtain rfl := Option.some.inj h
          refine W_run 3 [] [0, 1, 5, 6, 8, 9, 10] [] (fr' := [(0, aD (.slice (.slice .bool)) a0), (1, aB a1), (5, aI r1.1), (6, aI r1.2), (8, aI (List.length v6 : Int)), (9, aI v197), (10, aI (w64 (i140 + (1 : Int))))]) (L' := []) (obs := []) (by kernel_rfl) (by kernel_rfl) (by kernel_rfl) allP0 ?_
          exact round_next' (by kernel_rfl) (by kernel_rfl)
      · obtain rfl := stepL_false h145 h
        refine W_exit (id := 0) [0, 1, 5, 6, 9] [] (fr' := [(0, aD (.slice (.slice .bool)) a0), (1, aB a1), (5, aI r1.1), (6, aI r1.2), (9, aI x141)]) (L' := []) (by kernel_rfl) (by kernel_rfl) ?_
        refine seqQ_exit ?_
        refine round_exit ?_
        exact exQ_mk (by kernel_rfl) (by kernel_rfl)
    · intro e fr L hJ
      obtain ⟨rfl, rfl, rfl⟩ := hJ
      refine LT_keep [0, 1, 5, 6, 9] [] (fr' := [(0, aD (.slice (.slice .bool)) a0), (1, aB a1), (5, aI r1.1), (6, aI r1.2), (9, aI v202)]) (L' := []) (by kernel_rfl) ?_
      refine blockQ_hit ?_
      refine seqQ_norm ?_
      refine W_seq (by kernel_rfl) ?_
      obtain ⟨v216, h217, h⟩ := bind_of h
      refine W_cutK (Q' := (exQ .normal law_TalkRects_s31) v216) ?_ ?_
      · replace h := h217
        refine W_region (by kernel_rfl) ?_
        refine WO_run (j := 3) (k := 3) (orcs := []) (kF := [0, 1, 5, 9, 64]) (kL := []) (fr' := [(0, aD (.slice (.slice .bool)) a0), (1, aB a1), (5, aI r1.1), (9, aI v202), (64, aB (r1.2 == (0 : Int)))]) (L' := []) (obs := []) rfl (by kernel_rfl) allP0 ?_
        rcases Bool.eq_false_or_eq_true (r1.2 == (0 : Int)) with h213 | h213
        · replace h := ofT h213 h
          refine WO_run (j := 7) (k := 4) (orcs := [(6, .known true), (8, .known true), (10, .known true), (12, .known true)]) (kF := [64, 65, 66, 67, 68]) (kL := []) (fr' := [(64, aB (r1.2 == (0 : Int))), (65, aI r1.1), (66, aD (.slice (.slice .bool)) a0), (67, aB a1), (68, aI v202)]) (L' := []) (obs := [((r1.2 == (0 : Int)) = true), ((r1.2 == (0 : Int)) = true), ((r1.2 == (0 : Int)) = true), ((r1.2 == (0 : Int)) = true)]) rfl (by kernel_rfl) (allP2 h213 (allP2 h213 (allP2 h213 (allP1 h213)))) ?_
          obtain ⟨r214, h215, h⟩ := bind_of h
          refine WO_call0 (us := [none, none, none]) (d := 69) (p := ((r1.2 == (0 : Int)) = true)) (j := 8) rfl ⟨by kernel_rfl, by kernel_rfl, by kernel_rfl⟩ h213 (ref_Rects_ok h215) (by kernel_rfl) ?_
          refine WO_run (j := 11) (k := 3) (orcs := [(16, .known true), (19, .val (.dat .bool true))]) (kF := [4]) (kL := []) (fr' := [(4, aB (r1.1 == r214))]) (L' := []) (obs := [((r1.2 == (0 : Int)) = true), ((r1.2 == (0 : Int)) = true)]) rfl (by kernel_rfl) (allP2 h213 (allP1 h213)) ?_
          obtain rfl := Option.some.inj h
          refine WO_fin [4] [] (fr' := [(4, aB (r1.1 == r214))]) (L' := []) (by kernel_rfl) (by kernel_rfl) ?_
          exact exQ_mk (by kernel_rfl) (by kernel_rfl)
        · replace h := ofF h213 h
          refine WO_run (j := 11) (k := 8) (orcs := [(6, .known false), (8, .known false), (10, .known false), (12, .known false), (14, .known false), (16, .known false), (19, .val (.dat .bool false))]) (kF := [4]) (kL := []) (fr' := [(4, aB false)]) (L' := []) (obs := [((r1.2 == (0 : Int)) = false), ((r1.2 == (0 : Int)) = false), ((r1.2 == (0 : Int)) = false), ((r1.2 == (0 : Int)) = false), ((r1.2 == (0 : Int)) = false), ((r1.2 == (0 : Int)) = false), ((r1.2 == (0 : Int)) = false)]) rfl (by kernel_rfl) (allP2 h213 (allP2 h213 (allP2 h213 (allP2 h213 (allP2 h213 (allP2 h213 (allP1 h213))))))) ?_
          obtain rfl := Option.some.inj h
          refine WO_fin [4] [] (fr' := [(4, aB false)]) (L' := []) (by kernel_rfl) (by kernel_rfl) ?_
          exact exQ_mk (by kernel_rfl) (by kernel_rfl)
      · intro e fr L hJ
        obtain ⟨rfl, rfl, rfl⟩ := hJ
        refine LT_keep [4] [] (fr' := [(4, aB v216)]) (L' := []) (by kernel_rfl) ?_
        refine seqQ_norm ?_
        obtain rfl := Option.some.inj h
        refine W_ret [4] [] (fr' := [(4, aB v216)]) (L' := []) (by kernel_rfl) (by kernel_rfl) ?_
        exact retQ_mk (by kernel_rfl) (by kernel_rfl) (by kernel_rfl)
end Go.Proofs.Ytjghcbdfpcpahaa.talkRects
