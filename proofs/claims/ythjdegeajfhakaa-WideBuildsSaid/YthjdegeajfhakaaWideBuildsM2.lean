/- What the functions that WideBuilds calls compute, as models, and that they compute it: written by a program of mine. -/
import Derived.Test.YthjdegeajfhakaaProg
import Derived.Test.YthjdegeajfhakaaWideBuildsM1
set_option linter.all false
set_option maxRecDepth 100000
namespace Go.Proofs.Ythjdegeajfhakaa.wideBuilds
open Go Go.Sl
@[reducible] def ref_Wide_s21 (a0 : (List (Int × ((List Int) × (List Int))))) (a1 : Int) (i202 : Int) (x203 : (List Int)) (i268 : Int) (v : Int) : Fr × LL := ([(0, aD (.slice (.pair tI (.pair (.arr 5 tI) (.arr 5 tI)))) a0), (1, aI a1), (4, .one (.ptr 4 0)), (5, .one (.ptr 5 0)), (6, aI i202), (7, aI v), (15, aD (.slice (.pair tI (.pair (.arr 5 tI) (.arr 5 tI)))) a0), (16, aI (List.length a0 : Int)), (17, aI i268)], [(4, .one (.arr 5 tI) [(0 : Int), (0 : Int), (0 : Int), (0 : Int), (0 : Int)]), (5, .one (.arr 5 tI) x203)])
def ref_Wide_b22 (a1 : Int) (i268 : Int) (v271 : (Int × ((List Int) × (List Int)))) (x269 : Int) : Option (Flow Int Int) :=
((ref_Bit a1 v271.1).bind fun r288 =>
bif r288 then
((idx v271.2.2 x269).bind fun v291 =>
some v291)
else
((idx v271.2.1 x269).bind fun v293 =>
some v293)).bind fun v295 =>
some (.next v295)
@[reducible] def ref_Wide_s23 (a0 : (List (Int × ((List Int) × (List Int))))) (a1 : Int) (i202 : Int) (x203 : (List Int)) (v : Int × Int) : Fr × LL := ([(0, aD (.slice (.pair tI (.pair (.arr 5 tI) (.arr 5 tI)))) a0), (1, aI a1), (4, .one (.ptr 4 0)), (5, .one (.ptr 5 0)), (6, aI i202), (7, aI v.2), (15, aD (.slice (.pair tI (.pair (.arr 5 tI) (.arr 5 tI)))) a0), (16, aI (List.length a0 : Int)), (17, aI v.1)], [(4, .one (.arr 5 tI) [(0 : Int), (0 : Int), (0 : Int), (0 : Int), (0 : Int)]), (5, .one (.arr 5 tI) x203)])
@[reducible] def ref_Wide_s24 (a0 : (List (Int × ((List Int) × (List Int))))) (a1 : Int) (i202 : Int) (x203 : (List Int)) (v : Int) : Fr × LL := ([(0, aD (.slice (.pair tI (.pair (.arr 5 tI) (.arr 5 tI)))) a0), (1, aI a1), (4, .one (.ptr 4 0)), (5, .one (.ptr 5 0)), (6, aI i202), (7, aI v)], [(4, .one (.arr 5 tI) [(0 : Int), (0 : Int), (0 : Int), (0 : Int), (0 : Int)]), (5, .one (.arr 5 tI) x203)])
def ref_Wide_b25 (a0 : (List (Int × ((List Int) × (List Int))))) (a1 : Int) (i202 : Int) (x203 : (List Int)) : Option (Flow (List Int) (List Int)) :=
(forL (ref_Wide_b22 a1) (fun x269 => x269) a0 0 i202).bind fun v298 =>
(ck (0 ≤ i202 ∧ i202 < 5)).bind fun _ =>
(idx x203 i202).bind fun v304 =>
some (.next (List.set x203 (Int.toNat i202) v298))
@[reducible] def ref_Wide_s26 (a0 : (List (Int × ((List Int) × (List Int))))) (a1 : Int) (v : Int × (List Int)) : Fr × LL := ([(0, aD (.slice (.pair tI (.pair (.arr 5 tI) (.arr 5 tI)))) a0), (1, aI a1), (4, .one (.ptr 4 0)), (5, .one (.ptr 5 0)), (6, aI v.1)], [(4, .one (.arr 5 tI) [(0 : Int), (0 : Int), (0 : Int), (0 : Int), (0 : Int)]), (5, .one (.arr 5 tI) v.2)])
@[reducible] def ref_Wide_s27 (v : (List Int)) : Fr × LL := ([(4, .one (.ptr 4 0)), (5, .one (.ptr 5 0))], [(4, .one (.arr 5 tI) [(0 : Int), (0 : Int), (0 : Int), (0 : Int), (0 : Int)]), (5, .one (.arr 5 tI) v)])
def ref_Wide (a0 : (List (Int × ((List Int) × (List Int))))) (a1 : Int) : Option (List Int) :=
(forI (0 : Int) (5 : Int) (ref_Wide_b25 a0 a1) (fun x203 => x203) [(0 : Int), (0 : Int), (0 : Int), (0 : Int), (0 : Int)]).bind fun v307 =>
some v307
theorem ref_Wide_ok {a0 : (List (Int × ((List Int) × (List Int))))} {a1 : Int} {r : (List Int)} (h : ref_Wide a0 a1 = some r) : FnC Try.prog 21 [aD (.slice (.pair tI (.pair (.arr 5 tI) (.arr 5 tI)))) a0, aI a1] [] (aD (.arr 5 tI) r) [] := by
  refine fnC_of_W (B := bodyOf Try.f21) (n := 38) Try.func21 (by kernel_rfl) (by kernel_rfl) (by kernel_rfl) (by kernel_rfl) (by kernel_rfl) ?_
  intro K
  refine W_seq (by kernel_rfl) ?_
  refine W_run 1 [(1, .typed)] [0, 1, 4] [4] (fr' := [(0, aD (.slice (.pair tI (.pair (.arr 5 tI) (.arr 5 tI)))) a0), (1, aI a1), (4, .one (.ptr 4 0))]) (L' := [(4, .one (.arr 5 tI) [(0 : Int), (0 : Int), (0 : Int), (0 : Int), (0 : Int)])]) (obs := []) (by kernel_rfl) (by kernel_rfl) (by kernel_rfl) allP0 ?_
  refine seqQ_norm ?_
  refine W_seq (by kernel_rfl) ?_
  refine W_run 1 [(1, .typed)] [0, 1, 4, 5] [4, 5] (fr' := [(0, aD (.slice (.pair tI (.pair (.arr 5 tI) (.arr 5 tI)))) a0), (1, aI a1), (4, .one (.ptr 4 0)), (5, .one (.ptr 5 0))]) (L' := [(4, .one (.arr 5 tI) [(0 : Int), (0 : Int), (0 : Int), (0 : Int), (0 : Int)]), (5, .one (.arr 5 tI) [(0 : Int), (0 : Int), (0 : Int), (0 : Int), (0 : Int)])]) (obs := []) (by kernel_rfl) (by kernel_rfl) (by kernel_rfl) allP0 ?_
  refine seqQ_norm ?_
  refine W_seq (by kernel_rfl) ?_
  refine W_seq (by kernel_rfl) ?_
  refine W_run 1 [] [0, 1, 4, 5, 6] [4, 5] (fr' := [(0, aD (.slice (.pair tI (.pair (.arr 5 tI) (.arr 5 tI)))) a0), (1, aI a1), (4, .one (.ptr 4 0)), (5, .one (.ptr 5 0)), (6, aI (0 : Int))]) (L' := [(4, .one (.arr 5 tI) [(0 : Int), (0 : Int), (0 : Int), (0 : Int), (0 : Int)]), (5, .one (.arr 5 tI) [(0 : Int), (0 : Int), (0 : Int), (0 : Int), (0 : Int)])]) (obs := []) (by kernel_rfl) (by kernel_rfl) (by kernel_rfl) allP0 ?_
  refine seqQ_norm ?_
  refine W_block (id := 0) (by kernel_rfl) ?_
  obtain ⟨v307, h308, h⟩ := bind_of h
  obtain ⟨h309, h310⟩ := forI_iter h308
  refine W_weaken [0, 1, 4, 5, 6] [4, 5] (fr' := ((ref_Wide_s26 a0 a1) ((0 : Int), [(0 : Int), (0 : Int), (0 : Int), (0 : Int), (0 : Int)])).1) (L' := ((ref_Wide_s26 a0 a1) ((0 : Int), [(0 : Int), (0 : Int), (0 : Int), (0 : Int), (0 : Int)])).2) (by kernel_rfl) ?_
  refine W_cutK (W_loop (S := (ref_Wide_s26 a0 a1)) (J := (exQ (.exit 0) ref_Wide_s27)) (by kernel_rfl) ?_ h309 _ v307 h310) ?_
  · rintro ⟨i202, x203⟩ s h
    refine W_seq (by kernel_rfl) ?_
    refine W_seq (by kernel_rfl) ?_
    refine W_run 2 [] [0, 1, 4, 5, 6, 11] [4, 5] (fr' := [(0, aD (.slice (.pair tI (.pair (.arr 5 tI) (.arr 5 tI)))) a0), (1, aI a1), (4, .one (.ptr 4 0)), (5, .one (.ptr 5 0)), (6, aI i202), (11, aB (decide (i202 < (5 : Int))))]) (L' := [(4, .one (.arr 5 tI) [(0 : Int), (0 : Int), (0 : Int), (0 : Int), (0 : Int)]), (5, .one (.arr 5 tI) x203)]) (obs := []) (by kernel_rfl) (by kernel_rfl) (by kernel_rfl) allP0 ?_
    refine seqQ_norm ?_
    refine W_cond (o := .tmp 11) (b := decide (i202 < (5 : Int))) (by kernel_rfl) (by kernel_rfl) (fun h205 => ?_) (fun h205 => ?_)
    · replace h := stepI_true h205 h
      obtain ⟨_, h, rfl⟩ := h
      refine W_skip [0, 1, 4, 5, 6] [4, 5] (fr' := [(0, aD (.slice (.pair tI (.pair (.arr 5 tI) (.arr 5 tI)))) a0), (1, aI a1), (4, .one (.ptr 4 0)), (5, .one (.ptr 5 0)), (6, aI i202)]) (L' := [(4, .one (.arr 5 tI) [(0 : Int), (0 : Int), (0 : Int), (0 : Int), (0 : Int)]), (5, .one (.arr 5 tI) x203)]) (by kernel_rfl) (by kernel_rfl) ?_
      refine seqQ_norm ?_
      refine W_seq (by kernel_rfl) ?_
      refine W_block (id := 1) (by kernel_rfl) ?_
      refine W_seq (by kernel_rfl) ?_
      refine W_run 2 [] [0, 1, 4, 5, 6, 7] [4, 5] (fr' := [(0, aD (.slice (.pair tI (.pair (.arr 5 tI) (.arr 5 tI)))) a0), (1, aI a1), (4, .one (.ptr 4 0)), (5, .one (.ptr 5 0)), (6, aI i202), (7, aI i202)]) (L' := [(4, .one (.arr 5 tI) [(0 : Int), (0 : Int), (0 : Int), (0 : Int), (0 : Int)]), (5, .one (.arr 5 tI) x203)]) (obs := []) (by kernel_rfl) (by kernel_rfl) (by kernel_rfl) allP0 ?_
      refine seqQ_norm ?_
      refine W_seq (by kernel_rfl) ?_
      refine W_seq (by kernel_rfl) ?_
      refine W_run 3 [] [0, 1, 4, 5, 6, 7, 15, 16, 17] [4, 5] (fr' := [(0, aD (.slice (.pair tI (.pair (.arr 5 tI) (.arr 5 tI)))) a0), (1, aI a1), (4, .one (.ptr 4 0)), (5, .one (.ptr 5 0)), (6, aI i202), (7, aI i202), (15, aD (.slice (.pair tI (.pair (.arr 5 tI) (.arr 5 tI)))) a0), (16, aI (List.length a0 : Int)), (17, aI (0 : Int))]) (L' := [(4, .one (.arr 5 tI) [(0 : Int), (0 : Int), (0 : Int), (0 : Int), (0 : Int)]), (5, .one (.arr 5 tI) x203)]) (obs := []) (by kernel_rfl) (by kernel_rfl) (by kernel_rfl) allP0 ?_
      refine seqQ_norm ?_
      refine W_block (id := 2) (by kernel_rfl) ?_
      obtain ⟨v298, h299, h⟩ := bind_of h
      refine W_len (t := 15) (u := (.pair tI (.pair (.arr 5 tI) (.arr 5 tI)))) (xs := a0) (by kernel_rfl) (fun h302 => ?_)
      obtain ⟨h300, h301⟩ := forL_iter h302 h299
      refine W_weaken [0, 1, 4, 5, 6, 7, 15, 16, 17] [4, 5] (fr' := ((ref_Wide_s23 a0 a1 i202 x203) ((0 : Int), i202)).1) (L' := ((ref_Wide_s23 a0 a1 i202 x203) ((0 : Int), i202)).2) (by kernel_rfl) ?_
      refine W_cutK (W_loop (S := (ref_Wide_s23 a0 a1 i202 x203)) (J := (exQ (.exit 2) (ref_Wide_s24 a0 a1 i202 x203))) (by kernel_rfl) ?_ h300 _ v298 h301) ?_
      · rintro ⟨i268, x269⟩ s h
        refine W_seq (by kernel_rfl) ?_
        refine W_run 1 [] [0, 1, 4, 5, 6, 7, 15, 16, 17, 18] [4, 5] (fr' := [(0, aD (.slice (.pair tI (.pair (.arr 5 tI) (.arr 5 tI)))) a0), (1, aI a1), (4, .one (.ptr 4 0)), (5, .one (.ptr 5 0)), (6, aI i202), (7, aI x269), (15, aD (.slice (.pair tI (.pair (.arr 5 tI) (.arr 5 tI)))) a0), (16, aI (List.length a0 : Int)), (17, aI i268), (18, aB (decide (i268 < (List.length a0 : Int))))]) (L' := [(4, .one (.arr 5 tI) [(0 : Int), (0 : Int), (0 : Int), (0 : Int), (0 : Int)]), (5, .one (.arr 5 tI) x203)]) (obs := []) (by kernel_rfl) (by kernel_rfl) (by kernel_rfl) allP0 ?_
        refine seqQ_norm ?_
        refine W_seq (by kernel_rfl) ?_
        refine W_cond (o := .tmp 18) (b := decide (i268 < (List.length a0 : Int))) (by kernel_rfl) (by kernel_rfl) (fun h273 => ?_) (fun h273 => ?_)
        · replace h := stepL_true h273 h
          obtain ⟨v271, _, h272, h, rfl⟩ := h
          refine W_skip [0, 1, 4, 5, 6, 7, 15, 16, 17] [4, 5] (fr' := [(0, aD (.slice (.pair tI (.pair (.arr 5 tI) (.arr 5 tI)))) a0), (1, aI a1), (4, .one (.ptr 4 0)), (5, .one (.ptr 5 0)), (6, aI i202), (7, aI x269), (15, aD (.slice (.pair tI (.pair (.arr 5 tI) (.arr 5 tI)))) a0), (16, aI (List.length a0 : Int)), (17, aI i268)]) (L' := [(4, .one (.arr 5 tI) [(0 : Int), (0 : Int), (0 : Int), (0 : Int), (0 : Int)]), (5, .one (.arr 5 tI) x203)]) (by kernel_rfl) (by kernel_rfl) ?_
          refine seqQ_norm ?_
          refine W_seq (by kernel_rfl) ?_
          obtain ⟨v295, h296, h⟩ := bind_of h
          refine W_cutK (Q' := (exQ .normal (ref_Wide_s21 a0 a1 i202 x203 i268)) v295) ?_ ?_
          · replace h := h296
            refine W_block (id := 3) (by kernel_rfl) ?_
            refine W_seq (by kernel_rfl) ?_
            refine W_run 4 [(1, .val (.dat (.pair tI (.pair (.arr 5 tI) (.arr 5 tI))) v271)), (5, .typed)] [0, 1, 4, 5, 6, 7, 9, 15, 16, 17] [4, 5, 9] (fr' := [(0, aD (.slice (.pair tI (.pair (.arr 5 tI) (.arr 5 tI)))) a0), (1, aI a1), (4, .one (.ptr 4 0)), (5, .one (.ptr 5 0)), (6, aI i202), (7, aI x269), (9, .one (.ptr 9 0)), (15, aD (.slice (.pair tI (.pair (.arr 5 tI) (.arr 5 tI)))) a0), (16, aI (List.length a0 : Int)), (17, aI i268)]) (L' := [(4, .one (.arr 5 tI) [(0 : Int), (0 : Int), (0 : Int), (0 : Int), (0 : Int)]), (5, .one (.arr 5 tI) x203), (9, .one (.pair tI (.pair (.arr 5 tI) (.arr 5 tI))) v271)]) (obs := [Idx a0 i268 v271, True]) (by kernel_rfl) (by kernel_rfl) (by kernel_rfl) (allP2 (Idx.of h272) (allP1 trivial)) ?_
            refine seqQ_norm ?_
            refine W_seq (by kernel_rfl) ?_
            refine W_region (by kernel_rfl) ?_
            refine WO_run (j := 3) (k := 3) (orcs := []) (kF := [0, 1, 4, 5, 6, 7, 9, 15, 16, 17, 21, 23]) (kL := [4, 5, 9]) (fr' := [(0, aD (.slice (.pair tI (.pair (.arr 5 tI) (.arr 5 tI)))) a0), (1, aI a1), (4, .one (.ptr 4 0)), (5, .one (.ptr 5 0)), (6, aI i202), (7, aI x269), (9, .one (.ptr 9 0)), (15, aD (.slice (.pair tI (.pair (.arr 5 tI) (.arr 5 tI)))) a0), (16, aI (List.length a0 : Int)), (17, aI i268), (21, aI a1), (23, aI v271.1)]) (L' := [(4, .one (.arr 5 tI) [(0 : Int), (0 : Int), (0 : Int), (0 : Int), (0 : Int)]), (5, .one (.arr 5 tI) x203), (9, .one (.pair tI (.pair (.arr 5 tI) (.arr 5 tI))) v271)]) (obs := []) rfl (by kernel_rfl) allP0 ?_
            obtain ⟨r288, h289, h⟩ := bind_of h
            refine WO_call0 (us := [none, none]) (d := 24) (p := True) (j := 4) rfl ⟨by kernel_rfl, by kernel_rfl, by kernel_rfl⟩ trivial (ref_Bit_ok h289) (by kernel_rfl) ?_
            refine WO_fin [0, 1, 4, 5, 6, 7, 9, 15, 16, 17, 24] [4, 5, 9] (fr' := [(0, aD (.slice (.pair tI (.pair (.arr 5 tI) (.arr 5 tI)))) a0), (1, aI a1), (4, .one (.ptr 4 0)), (5, .one (.ptr 5 0)), (6, aI i202), (7, aI x269), (9, .one (.ptr 9 0)), (15, aD (.slice (.pair tI (.pair (.arr 5 tI) (.arr 5 tI)))) a0), (16, aI (List.length a0 : Int)), (17, aI i268), (24, aB r288)]) (L' := [(4, .one (.arr 5 tI) [(0 : Int), (0 : Int), (0 : Int), (0 : Int), (0 : Int)]), (5, .one (.arr 5 tI) x203), (9, .one (.pair tI (.pair (.arr 5 tI) (.arr 5 tI))) v271)]) (by kernel_rfl) (by kernel_rfl) ?_
            refine seqQ_norm ?_
            refine W_cond (o := .tmp 24) (b := r288) (by kernel_rfl) (by kernel_rfl) (fun h290 => ?_) (fun h290 => ?_)
            · replace h := ofT h290 h
              refine W_fz 9 (by kernel_rfl) ?_
              obtain ⟨v291, h292, h⟩ := bind_of h
              obtain rfl := Option.some.inj h
              refine W_run 5 [(5, .val (.dat tI v291))] [0, 1, 4, 5, 6, 7, 15, 16, 17] [4, 5] (fr' := [(0, aD (.slice (.pair tI (.pair (.arr 5 tI) (.arr 5 tI)))) a0), (1, aI a1), (4, .one (.ptr 4 0)), (5, .one (.ptr 5 0)), (6, aI i202), (7, aI v291), (15, aD (.slice (.pair tI (.pair (.arr 5 tI) (.arr 5 tI)))) a0), (16, aI (List.length a0 : Int)), (17, aI i268)]) (L' := [(4, .one (.arr 5 tI) [(0 : Int), (0 : Int), (0 : Int), (0 : Int), (0 : Int)]), (5, .one (.arr 5 tI) x203)]) (obs := [Idx v271.2.2 x269 v291]) (by kernel_rfl) (by kernel_rfl) (by kernel_rfl) (allP1 (Idx.of h292)) ?_
              refine blockQ_norm ?_
              exact exQ_mk (by kernel_rfl) (by kernel_rfl)
            · replace h := ofF h290 h
              refine W_fz 9 (by kernel_rfl) ?_
              obtain ⟨v293, h294, h⟩ := bind_of h
              obtain rfl := Option.some.inj h
              refine W_run 5 [(5, .val (.dat tI v293))] [0, 1, 4, 5, 6, 7, 15, 16, 17] [4, 5] (fr' := [(0, aD (.slice (.pair tI (.pair (.arr 5 tI) (.arr 5 tI)))) a0), (1, aI a1), (4, .one (.ptr 4 0)), (5, .one (.ptr 5 0)), (6, aI i202), (7, aI v293), (15, aD (.slice (.pair tI (.pair (.arr 5 tI) (.arr 5 tI)))) a0), (16, aI (List.length a0 : Int)), (17, aI i268)]) (L' := [(4, .one (.arr 5 tI) [(0 : Int), (0 : Int), (0 : Int), (0 : Int), (0 : Int)]), (5, .one (.arr 5 tI) x203)]) (obs := [Idx v271.2.1 x269 v293]) (by kernel_rfl) (by kernel_rfl) (by kernel_rfl) (allP1 (Idx.of h294)) ?_
              refine blockQ_norm ?_
              exact exQ_mk (by kernel_rfl) (by kernel_rfl)
          · intro e fr L hJ
            obtain ⟨rfl, rfl, rfl⟩ := hJ
            refine LT_keep [0, 1, 4, 5, 6, 7, 15, 16, 17] [4, 5] (fr' := [(0, aD (.slice (.pair tI (.pair (.arr 5 tI) (.arr 5 tI)))) a0), (1, aI a1), (4, .one (.ptr 4 0)), (5, .one (.ptr 5 0)), (6, aI i202), (7, aI v295), (15, aD (.slice (.pair tI (.pair (.arr 5 tI) (.arr 5 tI)))) a0), (16, aI (List.length a0 : Int)), (17, aI i268)]) (L' := [(4, .one (.arr 5 tI) [(0 : Int), (0 : Int), (0 : Int), (0 : Int), (0 : Int)]), (5, .one (.arr 5 tI) x203)]) (by kernel_rfl) ?_
            refine seqQ_norm ?_
            obtain rfl := Option.some.inj h
            refine W_run 2 [] [0, 1, 4, 5, 6, 7, 15, 16, 17] [4, 5] (fr' := [(0, aD (.slice (.pair tI (.pair (.arr 5 tI) (.arr 5 tI)))) a0), (1, aI a1), (4, .one (.ptr 4 0)), (5, .one (.ptr 5 0)), (6, aI i202), (7, aI v295), (15, aD (.slice (.pair tI (.pair (.arr 5 tI) (.arr 5 tI)))) a0), (16, aI (List.length a0 : Int)), (17, aI (w64 (i268 + (1 : Int))))]) (L' := [(4, .one (.arr 5 tI) [(0 : Int), (0 : Int), (0 : Int), (0 : Int), (0 : Int)]), (5, .one (.arr 5 tI) x203)]) (obs := []) (by kernel_rfl) (by kernel_rfl) (by kernel_rfl) allP0 ?_
            exact round_next' (by kernel_rfl) (by kernel_rfl)
        · obtain rfl := stepL_false h273 h
          refine W_exit (id := 2) [0, 1, 4, 5, 6, 7] [4, 5] (fr' := [(0, aD (.slice (.pair tI (.pair (.arr 5 tI) (.arr 5 tI)))) a0), (1, aI a1), (4, .one (.ptr 4 0)), (5, .one (.ptr 5 0)), (6, aI i202), (7, aI x269)]) (L' := [(4, .one (.arr 5 tI) [(0 : Int), (0 : Int), (0 : Int), (0 : Int), (0 : Int)]), (5, .one (.arr 5 tI) x203)]) (by kernel_rfl) (by kernel_rfl) ?_
          refine seqQ_exit ?_
          refine round_exit ?_
          exact exQ_mk (by kernel_rfl) (by kernel_rfl)
      · intro e fr L hJ
        obtain ⟨rfl, rfl, rfl⟩ := hJ
        refine LT_keep [0, 1, 4, 5, 6, 7] [4, 5] (fr' := [(0, aD (.slice (.pair tI (.pair (.arr 5 tI) (.arr 5 tI)))) a0), (1, aI a1), (4, .one (.ptr 4 0)), (5, .one (.ptr 5 0)), (6, aI i202), (7, aI v298)]) (L' := [(4, .one (.arr 5 tI) [(0 : Int), (0 : Int), (0 : Int), (0 : Int), (0 : Int)]), (5, .one (.arr 5 tI) x203)]) (by kernel_rfl) ?_
        refine blockQ_hit ?_
        refine seqQ_norm ?_
        obtain ⟨_, h303, h⟩ := bind_of h
        replace h303 := ck_some h303
        obtain ⟨v304, h305, h⟩ := bind_of h
        refine W_run 4 [] [0, 1, 4, 5, 6] [4, 5] (fr' := [(0, aD (.slice (.pair tI (.pair (.arr 5 tI) (.arr 5 tI)))) a0), (1, aI a1), (4, .one (.ptr 4 0)), (5, .one (.ptr 5 0)), (6, aI i202)]) (L' := [(4, .one (.arr 5 tI) [(0 : Int), (0 : Int), (0 : Int), (0 : Int), (0 : Int)]), (5, .one (.arr 5 tI) (List.set x203 (Int.toNat i202) v298))]) (obs := [InR i202 5, InR i202 (List.length x203)]) (by kernel_rfl) (by kernel_rfl) (by kernel_rfl) (allP2 h303 (allP1 (InR.of h305))) ?_
        refine blockQ_norm ?_
        refine seqQ_norm ?_
        obtain rfl := Option.some.inj h
        refine W_run 3 [] [0, 1, 4, 5, 6] [4, 5] (fr' := [(0, aD (.slice (.pair tI (.pair (.arr 5 tI) (.arr 5 tI)))) a0), (1, aI a1), (4, .one (.ptr 4 0)), (5, .one (.ptr 5 0)), (6, aI (w64 (i202 + (1 : Int))))]) (L' := [(4, .one (.arr 5 tI) [(0 : Int), (0 : Int), (0 : Int), (0 : Int), (0 : Int)]), (5, .one (.arr 5 tI) (List.set x203 (Int.toNat i202) v298))]) (obs := []) (by kernel_rfl) (by kernel_rfl) (by kernel_rfl) allP0 ?_
        exact round_next' (by kernel_rfl) (by kernel_rfl)
    · obtain rfl := stepI_false h205 h
      refine W_exit (id := 0) [4, 5] [4, 5] (fr' := [(4, .one (.ptr 4 0)), (5, .one (.ptr 5 0))]) (L' := [(4, .one (.arr 5 tI) [(0 : Int), (0 : Int), (0 : Int), (0 : Int), (0 : Int)]), (5, .one (.arr 5 tI) x203)]) (by kernel_rfl) (by kernel_rfl) ?_
      refine seqQ_exit ?_
      refine round_exit ?_
      exact exQ_mk (by kernel_rfl) (by kernel_rfl)
  · intro e fr L hJ
    obtain ⟨rfl, rfl, rfl⟩ := hJ
    refine LT_keep [4, 5] [4, 5] (fr' := [(4, .one (.ptr 4 0)), (5, .one (.ptr 5 0))]) (L' := [(4, .one (.arr 5 tI) [(0 : Int), (0 : Int), (0 : Int), (0 : Int), (0 : Int)]), (5, .one (.arr 5 tI) v307)]) (by kernel_rfl) ?_
    refine blockQ_hit ?_
    refine seqQ_norm ?_
    refine W_seq (by kernel_rfl) ?_
    refine W_run 2 [] [4] [4] (fr' := [(4, .one (.ptr 4 0))]) (L' := [(4, .one (.arr 5 tI) v307)]) (obs := [True]) (by kernel_rfl) (by kernel_rfl) (by kernel_rfl) (allP1 trivial) ?_
    refine seqQ_norm ?_
    obtain rfl := Option.some.inj h
    refine W_ret [4] [4] (fr' := [(4, .one (.ptr 4 0))]) (L' := [(4, .one (.arr 5 tI) v307)]) (by kernel_rfl) (by kernel_rfl) ?_
    exact retQ_mk (by kernel_rfl) (by kernel_rfl) (by kernel_rfl)

def law_WideBuilds_g5 (a1 : (List (Int × (Int × Int)))) (r3 : Int) : Option Bool :=
bif r3 == (0 : Int) then
((ref_Deep a1).bind fun r52 =>
(idx r52 (w64 ((List.length a1 : Int) - (1 : Int)))).bind fun v54 =>
some (decide (v54 > (4 : Int))))
else
(some false)
@[reducible] def law_WideBuilds_s6 (a0 : Int) (a1 : (List (Int × (Int × Int)))) (r1 : ((List (Int × ((List Int) × (List Int)))) × Int)) (r3 : Int) (v : Bool) : Fr × LL := ([(0, aI a0), (1, aD (.slice (.pair tI (.pair tI tI))) a1), (5, aD (.slice (.pair tI (.pair (.arr 5 tI) (.arr 5 tI)))) r1.1), (6, aI r1.2), (7, aI r3), (30, aB v)], [])
def law_WideBuilds_g7 (a0 : Int) (a1 : (List (Int × (Int × Int)))) (r1 : ((List (Int × ((List Int) × (List Int)))) × Int)) : Option Bool :=
bif r1.2 != (0 : Int) then
(some true)
else
((ref_WideCheck a0 r1.1).bind fun r83 =>
bif r83 != (0 : Int) then
(some true)
else
((ref_Deep a1).bind fun r86 =>
(idx r86 (w64 ((List.length a1 : Int) - (1 : Int)))).bind fun v88 =>
(ref_Power (4 : Int) v88).bind fun r90 =>
some (decide ((List.length r1.1 : Int) > r90))))
def law_WideBuilds_g18 (a1 : (List (Int × (Int × Int)))) (x142 : Int) (r213 : (List Int)) : Option (List Int) :=
(ref_Gates a1 x142).bind fun r225 =>
(idx r225 (w64 ((List.length a1 : Int) - (1 : Int)))).bind fun v227 =>
bif v227 then
(some [(1 : Int), (2 : Int), (3 : Int), (4 : Int), (0 : Int)])
else
(some r213)
@[reducible] def law_WideBuilds_s19 (a0 : Int) (a1 : (List (Int × (Int × Int)))) (r1 : ((List (Int × ((List Int) × (List Int)))) × Int)) (x142 : Int) (v : (List Int)) : Fr × LL := ([(0, aI a0), (1, aD (.slice (.pair tI (.pair tI tI))) a1), (5, aD (.slice (.pair tI (.pair (.arr 5 tI) (.arr 5 tI)))) r1.1), (8, aI x142), (9, .one (.ptr 9 0))], [(9, .one (.arr 5 tI) v)])
def law_WideBuilds_b20 (a0 : Int) (a1 : (List (Int × (Int × Int)))) (r1 : ((List (Int × ((List Int) × (List Int)))) × Int)) (x142 : Int) : Option (Flow Int (Esc Bool Unit)) :=
(ck (0 ≤ IntKind.wrap .u64 (a0))).bind fun _ =>
bif decide (x142 < (bShl .i64 (1 : Int) (IntKind.wrap .u64 (a0)))) then
((ref_Same).bind fun r213 =>
(law_WideBuilds_g18 a1 x142 r213).bind fun v230 =>
(ref_Wide r1.1 x142).bind fun r232 =>
bif !(deqT (.arr 5 tI) r232 v230) then
(some (.done (.ret false)))
else
(some (.next (w64 (x142 + (1 : Int))))))
else
(some (.done (.brk ())))
@[reducible] def law_WideBuilds_s21 (a0 : Int) (a1 : (List (Int × (Int × Int)))) (r1 : ((List (Int × ((List Int) × (List Int)))) × Int)) (v : Int) : Fr × LL := ([(0, aI a0), (1, aD (.slice (.pair tI (.pair tI tI))) a1), (5, aD (.slice (.pair tI (.pair (.arr 5 tI) (.arr 5 tI)))) r1.1), (8, aI v)], [])
@[reducible] def law_WideBuilds_s22 (v : Bool) : Fr × LL := ([(4, aB v)], [])
@[reducible] def law_WideBuilds_s23 (v : Unit) : Fr × LL := ([], [])
@[reducible] def law_WideBuilds_s24 (a0 : Int) (a1 : (List (Int × (Int × Int)))) (r1 : ((List (Int × ((List Int) × (List Int)))) × Int)) (v : Bool) : Fr × LL := ([(0, aI a0), (1, aD (.slice (.pair tI (.pair tI tI))) a1), (5, aD (.slice (.pair tI (.pair (.arr 5 tI) (.arr 5 tI)))) r1.1), (61, aB v)], [])
@[reducible] def law_WideBuilds_s25 (a0 : Int) (a1 : (List (Int × (Int × Int)))) (r1 : ((List (Int × ((List Int) × (List Int)))) × Int)) (v : Int) : Fr × LL := ([(0, aI a0), (1, aD (.slice (.pair tI (.pair tI tI))) a1), (5, aD (.slice (.pair tI (.pair (.arr 5 tI) (.arr 5 tI)))) r1.1), (6, aI r1.2), (7, aI v)], [])
def law_WideBuilds (fuel : Nat) (a0 : Int) (a1 : (List (Int × (Int × Int)))) : Option Bool :=
(wide_Build fuel a0 a1).bind fun r1 =>
(ref_GateCheck a0 a1).bind fun r3 =>
((law_WideBuilds_g5 a1 r3).bind fun v56 =>
bif v56 then
(some (7 : Int))
else
(some r3)).bind fun v59 =>
bif v59 != (0 : Int) then
(some ((r1.2 == v59) && ((List.length r1.1 : Int) == (0 : Int))))
else
((law_WideBuilds_g7 a0 a1 r1).bind fun v92 =>
bif v92 then
(some false)
else
((iter (law_WideBuilds_b20 a0 a1 r1) fuel (0 : Int)).bind fun v235 =>
match v235 with
| .ret v239 =>
(some v239)
| .brk v240 =>
(some true)))
theorem law_WideBuilds_ok {fuel : Nat} {a0 : Int} {a1 : (List (Int × (Int × Int)))} {r : Bool} (h : law_WideBuilds fuel a0 a1 = some r) : FnC Try.prog 7 [aI a0, aD (.slice (.pair tI (.pair tI tI))) a1] [] (aB r) [] := by
  refine fnC_of_W (B := bodyOf Try.f7) (n := 84) Try.func7 (by kernel_rfl) (by kernel_rfl) (by kernel_rfl) (by kernel_rfl) (by kernel_rfl) ?_
  intro K
  refine W_seq (by kernel_rfl) ?_
  refine W_run 1 [] [0, 1] [] (fr' := [(0, aI a0), (1, aD (.slice (.pair tI (.pair tI tI))) a1)]) (L' := []) (obs := []) (by kernel_rfl) (by kernel_rfl) (by kernel_rfl) allP0 ?_
  refine seqQ_norm ?_
  refine W_seq (by kernel_rfl) ?_
  refine W_region (by kernel_rfl) ?_
  refine WO_run (j := 2) (k := 2) (orcs := []) (kF := [0, 1, 11, 12]) (kL := []) (fr' := [(0, aI a0), (1, aD (.slice (.pair tI (.pair tI tI))) a1), (11, aI a0), (12, aD (.slice (.pair tI (.pair tI tI))) a1)]) (L' := []) (obs := []) rfl (by kernel_rfl) allP0 ?_
  obtain ⟨r1, h2, h⟩ := bind_of h
  refine WO_call0 (us := [none, none]) (d := 13) (p := True) (j := 3) rfl ⟨by kernel_rfl, by kernel_rfl, by kernel_rfl⟩ trivial (wide_Build_ok h2) (by kernel_rfl) ?_
  refine WO_run (j := 8) (k := 5) (orcs := []) (kF := [0, 1, 5, 6]) (kL := []) (fr' := [(0, aI a0), (1, aD (.slice (.pair tI (.pair tI tI))) a1), (5, aD (.slice (.pair tI (.pair (.arr 5 tI) (.arr 5 tI)))) r1.1), (6, aI r1.2)]) (L' := []) (obs := []) rfl (by kernel_rfl) allP0 ?_
  refine WO_fin [0, 1, 5, 6] [] (fr' := [(0, aI a0), (1, aD (.slice (.pair tI (.pair tI tI))) a1), (5, aD (.slice (.pair tI (.pair (.arr 5 tI) (.arr 5 tI)))) r1.1), (6, aI r1.2)]) (L' := []) (by kernel_rfl) (by kernel_rfl) ?_
  refine seqQ_norm ?_
  refine W_seq (by kernel_rfl) ?_
  refine W_region (by kernel_rfl) ?_
  refine WO_run (j := 2) (k := 2) (orcs := []) (kF := [0, 1, 5, 6, 16, 17]) (kL := []) (fr' := [(0, aI a0), (1, aD (.slice (.pair tI (.pair tI tI))) a1), (5, aD (.slice (.pair tI (.pair (.arr 5 tI) (.arr 5 tI)))) r1.1), (6, aI r1.2), (16, aI a0), (17, aD (.slice (.pair tI (.pair tI tI))) a1)]) (L' := []) (obs := []) rfl (by kernel_rfl) allP0 ?_
  obtain ⟨r3, h4, h⟩ := bind_of h
  refine WO_call0 (us := [none, none]) (d := 18) (p := True) (j := 3) rfl ⟨by kernel_rfl, by kernel_rfl, by kernel_rfl⟩ trivial (ref_GateCheck_ok h4) (by kernel_rfl) ?_
  refine WO_run (j := 4) (k := 1) (orcs := []) (kF := [0, 1, 5, 6, 7]) (kL := []) (fr' := [(0, aI a0), (1, aD (.slice (.pair tI (.pair tI tI))) a1), (5, aD (.slice (.pair tI (.pair (.arr 5 tI) (.arr 5 tI)))) r1.1), (6, aI r1.2), (7, aI r3)]) (L' := []) (obs := []) rfl (by kernel_rfl) allP0 ?_
  refine WO_fin [0, 1, 5, 6, 7] [] (fr' := [(0, aI a0), (1, aD (.slice (.pair tI (.pair tI tI))) a1), (5, aD (.slice (.pair tI (.pair (.arr 5 tI) (.arr 5 tI)))) r1.1), (6, aI r1.2), (7, aI r3)]) (L' := []) (by kernel_rfl) (by kernel_rfl) ?_
  refine seqQ_norm ?_
  refine W_seq (by kernel_rfl) ?_
  obtain ⟨v59, h60, h⟩ := bind_of h
  refine W_cutK (Q' := (exQ .normal (law_WideBuilds_s25 a0 a1 r1)) v59) ?_ ?_
  · replace h := h60
    refine W_seq (by kernel_rfl) ?_
    obtain ⟨v56, h57, h⟩ := bind_of h
    refine W_cutK (Q' := (exQ .normal (law_WideBuilds_s6 a0 a1 r1 r3)) v56) ?_ ?_
    · replace h := h57
      refine W_region (by kernel_rfl) ?_
      refine WO_run (j := 3) (k := 3) (orcs := []) (kF := [0, 1, 5, 6, 7, 21]) (kL := []) (fr' := [(0, aI a0), (1, aD (.slice (.pair tI (.pair tI tI))) a1), (5, aD (.slice (.pair tI (.pair (.arr 5 tI) (.arr 5 tI)))) r1.1), (6, aI r1.2), (7, aI r3), (21, aB (r3 == (0 : Int)))]) (L' := []) (obs := []) rfl (by kernel_rfl) allP0 ?_
      rcases Bool.eq_false_or_eq_true (r3 == (0 : Int)) with h51 | h51
      · replace h := ofT h51 h
        refine WO_run (j := 4) (k := 1) (orcs := [(6, .known true)]) (kF := [0, 1, 5, 6, 7, 21, 22]) (kL := []) (fr' := [(0, aI a0), (1, aD (.slice (.pair tI (.pair tI tI))) a1), (5, aD (.slice (.pair tI (.pair (.arr 5 tI) (.arr 5 tI)))) r1.1), (6, aI r1.2), (7, aI r3), (21, aB (r3 == (0 : Int))), (22, aD (.slice (.pair tI (.pair tI tI))) a1)]) (L' := []) (obs := [((r3 == (0 : Int)) = true)]) rfl (by kernel_rfl) (allP1 h51) ?_
        obtain ⟨r52, h53, h⟩ := bind_of h
        refine WO_call0 (us := [none]) (d := 23) (p := ((r3 == (0 : Int)) = true)) (j := 5) rfl ⟨by kernel_rfl, by kernel_rfl, by kernel_rfl⟩ h51 (ref_Deep_ok h53) (by kernel_rfl) ?_
        obtain ⟨v54, h55, h⟩ := bind_of h
        refine WO_run (j := 12) (k := 7) (orcs := [(10, .known true), (12, .known true), (14, .known true), (16, .known true), (17, .val (.dat tI v54)), (18, .known true), (20, .known true), (23, .val (.dat .bool true))]) (kF := [0, 1, 5, 6, 7, 30]) (kL := []) (fr' := [(0, aI a0), (1, aD (.slice (.pair tI (.pair tI tI))) a1), (5, aD (.slice (.pair tI (.pair (.arr 5 tI) (.arr 5 tI)))) r1.1), (6, aI r1.2), (7, aI r3), (30, aB (decide (v54 > (4 : Int))))]) (L' := []) (obs := [((r3 == (0 : Int)) = true), ((r3 == (0 : Int)) = true), ((r3 == (0 : Int)) = true), ((r3 == (0 : Int)) = true), Idx r52 (w64 ((List.length a1 : Int) - (1 : Int))) v54, ((r3 == (0 : Int)) = true), ((r3 == (0 : Int)) = true), ((r3 == (0 : Int)) = true)]) rfl (by kernel_rfl) (allP2 h51 (allP2 h51 (allP2 h51 (allP2 h51 (allP2 (Idx.of h55) (allP2 h51 (allP2 h51 (allP1 h51)))))))) ?_
        obtain rfl := Option.some.inj h
        refine WO_fin [0, 1, 5, 6, 7, 30] [] (fr' := [(0, aI a0), (1, aD (.slice (.pair tI (.pair tI tI))) a1), (5, aD (.slice (.pair tI (.pair (.arr 5 tI) (.arr 5 tI)))) r1.1), (6, aI r1.2), (7, aI r3), (30, aB (decide (v54 > (4 : Int))))]) (L' := []) (by kernel_rfl) (by kernel_rfl) ?_
        exact exQ_mk (by kernel_rfl) (by kernel_rfl)
      · replace h := ofF h51 h
        refine WO_run (j := 12) (k := 9) (orcs := [(6, .known false), (8, .known false), (10, .known false), (12, .known false), (14, .known false), (16, .known false), (18, .known false), (20, .known false), (23, .val (.dat .bool false))]) (kF := [0, 1, 5, 6, 7, 30]) (kL := []) (fr' := [(0, aI a0), (1, aD (.slice (.pair tI (.pair tI tI))) a1), (5, aD (.slice (.pair tI (.pair (.arr 5 tI) (.arr 5 tI)))) r1.1), (6, aI r1.2), (7, aI r3), (30, aB false)]) (L' := []) (obs := [((r3 == (0 : Int)) = false), ((r3 == (0 : Int)) = false), ((r3 == (0 : Int)) = false), ((r3 == (0 : Int)) = false), ((r3 == (0 : Int)) = false), ((r3 == (0 : Int)) = false), ((r3 == (0 : Int)) = false), ((r3 == (0 : Int)) = false), ((r3 == (0 : Int)) = false)]) rfl (by kernel_rfl) (allP2 h51 (allP2 h51 (allP2 h51 (allP2 h51 (allP2 h51 (allP2 h51 (allP2 h51 (allP2 h51 (allP1 h51))))))))) ?_
        obtain rfl := Option.some.inj h
        refine WO_fin [0, 1, 5, 6, 7, 30] [] (fr' := [(0, aI a0), (1, aD (.slice (.pair tI (.pair tI tI))) a1), (5, aD (.slice (.pair tI (.pair (.arr 5 tI) (.arr 5 tI)))) r1.1), (6, aI r1.2), (7, aI r3), (30, aB false)]) (L' := []) (by kernel_rfl) (by kernel_rfl) ?_
        exact exQ_mk (by kernel_rfl) (by kernel_rfl)
    · intro e fr L hJ
      obtain ⟨rfl, rfl, rfl⟩ := hJ
      refine LT_keep [0, 1, 5, 6, 7, 30] [] (fr' := [(0, aI a0), (1, aD (.slice (.pair tI (.pair tI tI))) a1), (5, aD (.slice (.pair tI (.pair (.arr 5 tI) (.arr 5 tI)))) r1.1), (6, aI r1.2), (7, aI r3), (30, aB v56)]) (L' := []) (by kernel_rfl) ?_
      refine seqQ_norm ?_
      refine W_cond (o := .tmp 30) (b := v56) (by kernel_rfl) (by kernel_rfl) (fun h58 => ?_) (fun h58 => ?_)
      · replace h := ofT h58 h
        obtain rfl := Option.some.inj h
        refine W_run 1 [] [0, 1, 5, 6, 7] [] (fr' := [(0, aI a0), (1, aD (.slice (.pair tI (.pair tI tI))) a1), (5, aD (.slice (.pair tI (.pair (.arr 5 tI) (.arr 5 tI)))) r1.1), (6, aI r1.2), (7, aI (7 : Int))]) (L' := []) (obs := []) (by kernel_rfl) (by kernel_rfl) (by kernel_rfl) allP0 ?_
        exact exQ_mk (by kernel_rfl) (by kernel_rfl)
      · replace h := ofF h58 h
        obtain rfl := Option.some.inj h
        refine W_skip [0, 1, 5, 6, 7] [] (fr' := [(0, aI a0), (1, aD (.slice (.pair tI (.pair tI tI))) a1), (5, aD (.slice (.pair tI (.pair (.arr 5 tI) (.arr 5 tI)))) r1.1), (6, aI r1.2), (7, aI r3)]) (L' := []) (by kernel_rfl) (by kernel_rfl) ?_
        exact exQ_mk (by kernel_rfl) (by kernel_rfl)
  · intro e fr L hJ
    obtain ⟨rfl, rfl, rfl⟩ := hJ
    refine LT_keep [0, 1, 5, 6, 7] [] (fr' := [(0, aI a0), (1, aD (.slice (.pair tI (.pair tI tI))) a1), (5, aD (.slice (.pair tI (.pair (.arr 5 tI) (.arr 5 tI)))) r1.1), (6, aI r1.2), (7, aI v59)]) (L' := []) (by kernel_rfl) ?_
    refine seqQ_norm ?_
    refine W_seq (by kernel_rfl) ?_
    refine W_seq (by kernel_rfl) ?_
    refine W_run 2 [] [0, 1, 5, 6, 7, 32] [] (fr' := [(0, aI a0), (1, aD (.slice (.pair tI (.pair tI tI))) a1), (5, aD (.slice (.pair tI (.pair (.arr 5 tI) (.arr 5 tI)))) r1.1), (6, aI r1.2), (7, aI v59), (32, aB (v59 != (0 : Int)))]) (L' := []) (obs := []) (by kernel_rfl) (by kernel_rfl) (by kernel_rfl) allP0 ?_
    refine seqQ_norm ?_
    refine W_cond (o := .tmp 32) (b := v59 != (0 : Int)) (by kernel_rfl) (by kernel_rfl) (fun h61 => ?_) (fun h61 => ?_)
    · replace h := ofT h61 h
      refine W_seq (by kernel_rfl) ?_
      refine W_run 9 [] [4] [] (fr' := [(4, aB ((r1.2 == v59) && ((List.length r1.1 : Int) == (0 : Int))))]) (L' := []) (obs := []) (by kernel_rfl) (by kernel_rfl) (by kernel_rfl) allP0 ?_
      refine seqQ_norm ?_
      obtain rfl := Option.some.inj h
      refine W_ret [4] [] (fr' := [(4, aB ((r1.2 == v59) && ((List.length r1.1 : Int) == (0 : Int))))]) (L' := []) (by kernel_rfl) (by kernel_rfl) ?_
      refine seqQ_ret ?_
      exact retQ_mk (by kernel_rfl) (by kernel_rfl) (by kernel_rfl)
    · replace h := ofF h61 h
      refine W_skip [0, 1, 5, 6] [] (fr' := [(0, aI a0), (1, aD (.slice (.pair tI (.pair tI tI))) a1), (5, aD (.slice (.pair tI (.pair (.arr 5 tI) (.arr 5 tI)))) r1.1), (6, aI r1.2)]) (L' := []) (by kernel_rfl) (by kernel_rfl) ?_
      refine seqQ_norm ?_
      refine W_seq (by kernel_rfl) ?_
      refine W_seq (by kernel_rfl) ?_
      obtain ⟨v92, h93, h⟩ := bind_of h
      refine W_cutK (Q' := (exQ .normal (law_WideBuilds_s24 a0 a1 r1)) v92) ?_ ?_
      · replace h := h93
        refine W_region (by kernel_rfl) ?_
        refine WO_run (j := 3) (k := 3) (orcs := []) (kF := [0, 1, 5, 43]) (kL := []) (fr' := [(0, aI a0), (1, aD (.slice (.pair tI (.pair tI tI))) a1), (5, aD (.slice (.pair tI (.pair (.arr 5 tI) (.arr 5 tI)))) r1.1), (43, aB (r1.2 != (0 : Int)))]) (L' := []) (obs := []) rfl (by kernel_rfl) allP0 ?_
        rcases Bool.eq_false_or_eq_true (r1.2 != (0 : Int)) with h82 | h82
        · replace h := ofT h82 h
          refine WO_run (j := 21) (k := 18) (orcs := [(6, .known true), (8, .known true), (10, .known true), (12, .known true), (15, .val (.dat .bool true)), (18, .known true), (20, .known true), (22, .known true), (24, .known true), (26, .known true), (28, .known true), (30, .known true), (32, .known true), (34, .known true), (36, .known true), (38, .known true), (41, .val (.dat .bool true))]) (kF := [0, 1, 5, 61]) (kL := []) (fr' := [(0, aI a0), (1, aD (.slice (.pair tI (.pair tI tI))) a1), (5, aD (.slice (.pair tI (.pair (.arr 5 tI) (.arr 5 tI)))) r1.1), (61, aB true)]) (L' := []) (obs := [((r1.2 != (0 : Int)) = true), ((r1.2 != (0 : Int)) = true), ((r1.2 != (0 : Int)) = true), ((r1.2 != (0 : Int)) = true), ((r1.2 != (0 : Int)) = true), (true = true), (true = true), (true = true), (true = true), (true = true), (true = true), (true = true), (true = true), (true = true), (true = true), (true = true), (true = true)]) rfl (by kernel_rfl) (allP2 h82 (allP2 h82 (allP2 h82 (allP2 h82 (allP2 h82 (allP2 rfl (allP2 rfl (allP2 rfl (allP2 rfl (allP2 rfl (allP2 rfl (allP2 rfl (allP2 rfl (allP2 rfl (allP2 rfl (allP2 rfl (allP1 rfl))))))))))))))))) ?_
          obtain rfl := Option.some.inj h
          refine WO_fin [0, 1, 5, 61] [] (fr' := [(0, aI a0), (1, aD (.slice (.pair tI (.pair tI tI))) a1), (5, aD (.slice (.pair tI (.pair (.arr 5 tI) (.arr 5 tI)))) r1.1), (61, aB true)]) (L' := []) (by kernel_rfl) (by kernel_rfl) ?_
          exact exQ_mk (by kernel_rfl) (by kernel_rfl)
        · replace h := ofF h82 h
          refine WO_run (j := 5) (k := 2) (orcs := [(6, .known false), (8, .known false)]) (kF := [0, 1, 5, 43, 44, 45]) (kL := []) (fr' := [(0, aI a0), (1, aD (.slice (.pair tI (.pair tI tI))) a1), (5, aD (.slice (.pair tI (.pair (.arr 5 tI) (.arr 5 tI)))) r1.1), (43, aB (r1.2 != (0 : Int))), (44, aI a0), (45, aD (.slice (.pair tI (.pair (.arr 5 tI) (.arr 5 tI)))) r1.1)]) (L' := []) (obs := [((r1.2 != (0 : Int)) = false), ((r1.2 != (0 : Int)) = false)]) rfl (by kernel_rfl) (allP2 h82 (allP1 h82)) ?_
          obtain ⟨r83, h84, h⟩ := bind_of h
          refine WO_call0 (us := [none, none]) (d := 46) (p := ((r1.2 != (0 : Int)) = false)) (j := 6) rfl ⟨by kernel_rfl, by kernel_rfl, by kernel_rfl⟩ h82 (ref_WideCheck_ok h84) (by kernel_rfl) ?_
          refine WO_run (j := 9) (k := 3) (orcs := [(12, .known false), (15, .val (.dat .bool false))]) (kF := [0, 1, 5, 49]) (kL := []) (fr' := [(0, aI a0), (1, aD (.slice (.pair tI (.pair tI tI))) a1), (5, aD (.slice (.pair tI (.pair (.arr 5 tI) (.arr 5 tI)))) r1.1), (49, aB (r83 != (0 : Int)))]) (L' := []) (obs := [((r1.2 != (0 : Int)) = false), ((r1.2 != (0 : Int)) = false)]) rfl (by kernel_rfl) (allP2 h82 (allP1 h82)) ?_
          rcases Bool.eq_false_or_eq_true (r83 != (0 : Int)) with h85 | h85
          · replace h := ofT h85 h
            refine WO_run (j := 21) (k := 12) (orcs := [(18, .known true), (20, .known true), (22, .known true), (24, .known true), (26, .known true), (28, .known true), (30, .known true), (32, .known true), (34, .known true), (36, .known true), (38, .known true), (41, .val (.dat .bool true))]) (kF := [0, 1, 5, 61]) (kL := []) (fr' := [(0, aI a0), (1, aD (.slice (.pair tI (.pair tI tI))) a1), (5, aD (.slice (.pair tI (.pair (.arr 5 tI) (.arr 5 tI)))) r1.1), (61, aB true)]) (L' := []) (obs := [((r83 != (0 : Int)) = true), ((r83 != (0 : Int)) = true), ((r83 != (0 : Int)) = true), ((r83 != (0 : Int)) = true), ((r83 != (0 : Int)) = true), ((r83 != (0 : Int)) = true), ((r83 != (0 : Int)) = true), ((r83 != (0 : Int)) = true), ((r83 != (0 : Int)) = true), ((r83 != (0 : Int)) = true), ((r83 != (0 : Int)) = true), ((r83 != (0 : Int)) = true)]) rfl (by kernel_rfl) (allP2 h85 (allP2 h85 (allP2 h85 (allP2 h85 (allP2 h85 (allP2 h85 (allP2 h85 (allP2 h85 (allP2 h85 (allP2 h85 (allP2 h85 (allP1 h85)))))))))))) ?_
            obtain rfl := Option.some.inj h
            refine WO_fin [0, 1, 5, 61] [] (fr' := [(0, aI a0), (1, aD (.slice (.pair tI (.pair tI tI))) a1), (5, aD (.slice (.pair tI (.pair (.arr 5 tI) (.arr 5 tI)))) r1.1), (61, aB true)]) (L' := []) (by kernel_rfl) (by kernel_rfl) ?_
            exact exQ_mk (by kernel_rfl) (by kernel_rfl)
          · replace h := ofF h85 h
            refine WO_run (j := 12) (k := 3) (orcs := [(18, .known false), (20, .known false), (22, .known false)]) (kF := [0, 1, 5, 49, 51, 52]) (kL := []) (fr' := [(0, aI a0), (1, aD (.slice (.pair tI (.pair tI tI))) a1), (5, aD (.slice (.pair tI (.pair (.arr 5 tI) (.arr 5 tI)))) r1.1), (49, aB (r83 != (0 : Int))), (51, aI (List.length r1.1 : Int)), (52, aD (.slice (.pair tI (.pair tI tI))) a1)]) (L' := []) (obs := [((r83 != (0 : Int)) = false), ((r83 != (0 : Int)) = false), ((r83 != (0 : Int)) = false)]) rfl (by kernel_rfl) (allP2 h85 (allP2 h85 (allP1 h85))) ?_
            obtain ⟨r86, h87, h⟩ := bind_of h
            refine WO_call0 (us := [none]) (d := 53) (p := ((r83 != (0 : Int)) = false)) (j := 13) rfl ⟨by kernel_rfl, by kernel_rfl, by kernel_rfl⟩ h85 (ref_Deep_ok h87) (by kernel_rfl) ?_
            obtain ⟨v88, h89, h⟩ := bind_of h
            refine WO_run (j := 18) (k := 5) (orcs := [(26, .known false), (28, .known false), (30, .known false), (32, .known false), (33, .val (.dat tI v88)), (34, .known false)]) (kF := [0, 1, 5, 49, 51, 58]) (kL := []) (fr' := [(0, aI a0), (1, aD (.slice (.pair tI (.pair tI tI))) a1), (5, aD (.slice (.pair tI (.pair (.arr 5 tI) (.arr 5 tI)))) r1.1), (49, aB (r83 != (0 : Int))), (51, aI (List.length r1.1 : Int)), (58, aI v88)]) (L' := []) (obs := [((r83 != (0 : Int)) = false), ((r83 != (0 : Int)) = false), ((r83 != (0 : Int)) = false), ((r83 != (0 : Int)) = false), Idx r86 (w64 ((List.length a1 : Int) - (1 : Int))) v88, ((r83 != (0 : Int)) = false)]) rfl (by kernel_rfl) (allP2 h85 (allP2 h85 (allP2 h85 (allP2 h85 (allP2 (Idx.of h89) (allP1 h85)))))) ?_
            obtain ⟨r90, h91, h⟩ := bind_of h
            refine WO_call0 (us := [none, none]) (d := 59) (p := ((r83 != (0 : Int)) = false)) (j := 19) rfl ⟨by kernel_rfl, by kernel_rfl, by kernel_rfl⟩ h85 (ref_Power_ok h91) (by kernel_rfl) ?_
            refine WO_run (j := 21) (k := 2) (orcs := [(38, .known false), (41, .val (.dat .bool false))]) (kF := [0, 1, 5, 61]) (kL := []) (fr' := [(0, aI a0), (1, aD (.slice (.pair tI (.pair tI tI))) a1), (5, aD (.slice (.pair tI (.pair (.arr 5 tI) (.arr 5 tI)))) r1.1), (61, aB (decide ((List.length r1.1 : Int) > r90)))]) (L' := []) (obs := [((r83 != (0 : Int)) = false), ((r83 != (0 : Int)) = false)]) rfl (by kernel_rfl) (allP2 h85 (allP1 h85)) ?_
            obtain rfl := Option.some.inj h
            refine WO_fin [0, 1, 5, 61] [] (fr' := [(0, aI a0), (1, aD (.slice (.pair tI (.pair tI tI))) a1), (5, aD (.slice (.pair tI (.pair (.arr 5 tI) (.arr 5 tI)))) r1.1), (61, aB (decide ((List.length r1.1 : Int) > r90)))]) (L' := []) (by kernel_rfl) (by kernel_rfl) ?_
            exact exQ_mk (by kernel_rfl) (by kernel_rfl)
      · intro e fr L hJ
        obtain ⟨rfl, rfl, rfl⟩ := hJ
        refine LT_keep [0, 1, 5, 61] [] (fr' := [(0, aI a0), (1, aD (.slice (.pair tI (.pair tI tI))) a1), (5, aD (.slice (.pair tI (.pair (.arr 5 tI) (.arr 5 tI)))) r1.1), (61, aB v92)]) (L' := []) (by kernel_rfl) ?_
        refine seqQ_norm ?_
        refine W_cond (o := .tmp 61) (b := v92) (by kernel_rfl) (by kernel_rfl) (fun h94 => ?_) (fun h94 => ?_)
        · replace h := ofT h94 h
          refine W_seq (by kernel_rfl) ?_
          refine W_run 1 [] [4] [] (fr' := [(4, aB false)]) (L' := []) (obs := []) (by kernel_rfl) (by kernel_rfl) (by kernel_rfl) allP0 ?_
          refine seqQ_norm ?_
          obtain rfl := Option.some.inj h
          refine W_ret [4] [] (fr' := [(4, aB false)]) (L' := []) (by kernel_rfl) (by kernel_rfl) ?_
          refine seqQ_ret ?_
          exact retQ_mk (by kernel_rfl) (by kernel_rfl) (by kernel_rfl)
        · replace h := ofF h94 h
          refine W_skip [0, 1, 5] [] (fr' := [(0, aI a0), (1, aD (.slice (.pair tI (.pair tI tI))) a1), (5, aD (.slice (.pair tI (.pair (.arr 5 tI) (.arr 5 tI)))) r1.1)]) (L' := []) (by kernel_rfl) (by kernel_rfl) ?_
          refine seqQ_norm ?_
          refine W_seq (by kernel_rfl) ?_
          refine W_seq (by kernel_rfl) ?_
          refine W_run 1 [] [0, 1, 5, 8] [] (fr' := [(0, aI a0), (1, aD (.slice (.pair tI (.pair tI tI))) a1), (5, aD (.slice (.pair tI (.pair (.arr 5 tI) (.arr 5 tI)))) r1.1), (8, aI (0 : Int))]) (L' := []) (obs := []) (by kernel_rfl) (by kernel_rfl) (by kernel_rfl) allP0 ?_
          refine seqQ_norm ?_
          refine W_block (id := 0) (by kernel_rfl) ?_
          obtain ⟨v235, h236, h⟩ := bind_of h
          refine W_weaken [0, 1, 5, 8] [] (fr' := ((law_WideBuilds_s21 a0 a1 r1) (0 : Int)).1) (L' := ((law_WideBuilds_s21 a0 a1 r1) (0 : Int)).2) (by kernel_rfl) ?_
          refine W_cutK (W_loop (S := (law_WideBuilds_s21 a0 a1 r1)) (J := (escQ (exQ .ret law_WideBuilds_s22) (exQ (.exit 0) law_WideBuilds_s23))) (by kernel_rfl) ?_ fuel _ v235 h236) ?_
          · rintro x142 s h
            refine W_seq (by kernel_rfl) ?_
            refine W_seq (by kernel_rfl) ?_
            obtain ⟨_, h189, h⟩ := bind_of h
            replace h189 := ck_some h189
            refine W_run 5 [] [0, 1, 5, 8, 66] [] (fr' := [(0, aI a0), (1, aD (.slice (.pair tI (.pair tI tI))) a1), (5, aD (.slice (.pair tI (.pair (.arr 5 tI) (.arr 5 tI)))) r1.1), (8, aI x142), (66, aB (decide (x142 < (bShl .i64 (1 : Int) (IntKind.wrap .u64 (a0))))))]) (L' := []) (obs := [(0 ≤ IntKind.wrap .u64 (a0))]) (by kernel_rfl) (by kernel_rfl) (by kernel_rfl) (allP1 h189) ?_
            refine seqQ_norm ?_
            refine W_cond (o := .tmp 66) (b := decide (x142 < (bShl .i64 (1 : Int) (IntKind.wrap .u64 (a0))))) (by kernel_rfl) (by kernel_rfl) (fun h190 => ?_) (fun h190 => ?_)
            · replace h := ofT h190 h
              refine W_skip [0, 1, 5, 8] [] (fr' := [(0, aI a0), (1, aD (.slice (.pair tI (.pair tI tI))) a1), (5, aD (.slice (.pair tI (.pair (.arr 5 tI) (.arr 5 tI)))) r1.1), (8, aI x142)]) (L' := []) (by kernel_rfl) (by kernel_rfl) ?_
              refine seqQ_norm ?_
              refine W_seq (by kernel_rfl) ?_
              refine W_block (id := 1) (by kernel_rfl) ?_
              refine W_seq (by kernel_rfl) ?_
              refine W_region (by kernel_rfl) ?_
              obtain ⟨r213, h214, h⟩ := bind_of h
              refine WO_call0 (us := []) (d := 69) (p := True) (j := 1) rfl ⟨by kernel_rfl, by kernel_rfl, by kernel_rfl⟩ trivial (ref_Same_ok h214) (by kernel_rfl) ?_
              refine WO_run (j := 3) (k := 2) (orcs := [(3, .typed)]) (kF := [0, 1, 5, 8, 9]) (kL := [9]) (fr' := [(0, aI a0), (1, aD (.slice (.pair tI (.pair tI tI))) a1), (5, aD (.slice (.pair tI (.pair (.arr 5 tI) (.arr 5 tI)))) r1.1), (8, aI x142), (9, .one (.ptr 9 0))]) (L' := [(9, .one (.arr 5 tI) r213)]) (obs := [True]) rfl (by kernel_rfl) (allP1 trivial) ?_
              refine WO_fin [0, 1, 5, 8, 9] [9] (fr' := [(0, aI a0), (1, aD (.slice (.pair tI (.pair tI tI))) a1), (5, aD (.slice (.pair tI (.pair (.arr 5 tI) (.arr 5 tI)))) r1.1), (8, aI x142), (9, .one (.ptr 9 0))]) (L' := [(9, .one (.arr 5 tI) r213)]) (by kernel_rfl) (by kernel_rfl) ?_
              refine seqQ_norm ?_
              refine W_seq (by kernel_rfl) ?_
              obtain ⟨v230, h231, h⟩ := bind_of h
              refine W_cutK (Q' := (exQ .normal (law_WideBuilds_s19 a0 a1 r1 x142)) v230) ?_ ?_
              · replace h := h231
                refine W_seq (by kernel_rfl) ?_
                refine W_region (by kernel_rfl) ?_
                refine WO_run (j := 2) (k := 2) (orcs := []) (kF := [0, 1, 5, 8, 9, 70, 71]) (kL := [9]) (fr' := [(0, aI a0), (1, aD (.slice (.pair tI (.pair tI tI))) a1), (5, aD (.slice (.pair tI (.pair (.arr 5 tI) (.arr 5 tI)))) r1.1), (8, aI x142), (9, .one (.ptr 9 0)), (70, aD (.slice (.pair tI (.pair tI tI))) a1), (71, aI x142)]) (L' := [(9, .one (.arr 5 tI) r213)]) (obs := []) rfl (by kernel_rfl) allP0 ?_
                obtain ⟨r225, h226, h⟩ := bind_of h
                refine WO_call0 (us := [none, none]) (d := 72) (p := True) (j := 3) rfl ⟨by kernel_rfl, by kernel_rfl, by kernel_rfl⟩ trivial (ref_Gates_ok h226) (by kernel_rfl) ?_
                obtain ⟨v227, h228, h⟩ := bind_of h
                refine WO_run (j := 8) (k := 5) (orcs := [(13, .val (.dat .bool v227))]) (kF := [0, 1, 5, 8, 9, 77]) (kL := [9]) (fr' := [(0, aI a0), (1, aD (.slice (.pair tI (.pair tI tI))) a1), (5, aD (.slice (.pair tI (.pair (.arr 5 tI) (.arr 5 tI)))) r1.1), (8, aI x142), (9, .one (.ptr 9 0)), (77, aB v227)]) (L' := [(9, .one (.arr 5 tI) r213)]) (obs := [Idx r225 (w64 ((List.length a1 : Int) - (1 : Int))) v227]) rfl (by kernel_rfl) (allP1 (Idx.of h228)) ?_
                refine WO_fin [0, 1, 5, 8, 9, 77] [9] (fr' := [(0, aI a0), (1, aD (.slice (.pair tI (.pair tI tI))) a1), (5, aD (.slice (.pair tI (.pair (.arr 5 tI) (.arr 5 tI)))) r1.1), (8, aI x142), (9, .one (.ptr 9 0)), (77, aB v227)]) (L' := [(9, .one (.arr 5 tI) r213)]) (by kernel_rfl) (by kernel_rfl) ?_
                refine seqQ_norm ?_
                refine W_cond (o := .tmp 77) (b := v227) (by kernel_rfl) (by kernel_rfl) (fun h229 => ?_) (fun h229 => ?_)
                · replace h := ofT h229 h
                  obtain rfl := Option.some.inj h
                  refine W_run 2 [] [0, 1, 5, 8, 9] [9] (fr' := [(0, aI a0), (1, aD (.slice (.pair tI (.pair tI tI))) a1), (5, aD (.slice (.pair tI (.pair (.arr 5 tI) (.arr 5 tI)))) r1.1), (8, aI x142), (9, .one (.ptr 9 0))]) (L' := [(9, .one (.arr 5 tI) [(1 : Int), (2 : Int), (3 : Int), (4 : Int), (0 : Int)])]) (obs := [True]) (by kernel_rfl) (by kernel_rfl) (by kernel_rfl) (allP1 trivial) ?_
                  exact exQ_mk (by kernel_rfl) (by kernel_rfl)
                · replace h := ofF h229 h
                  obtain rfl := Option.some.inj h
                  refine W_skip [0, 1, 5, 8, 9] [9] (fr' := [(0, aI a0), (1, aD (.slice (.pair tI (.pair tI tI))) a1), (5, aD (.slice (.pair tI (.pair (.arr 5 tI) (.arr 5 tI)))) r1.1), (8, aI x142), (9, .one (.ptr 9 0))]) (L' := [(9, .one (.arr 5 tI) r213)]) (by kernel_rfl) (by kernel_rfl) ?_
                  exact exQ_mk (by kernel_rfl) (by kernel_rfl)
              · intro e fr L hJ
                obtain ⟨rfl, rfl, rfl⟩ := hJ
                refine LT_keep [0, 1, 5, 8, 9] [9] (fr' := [(0, aI a0), (1, aD (.slice (.pair tI (.pair tI tI))) a1), (5, aD (.slice (.pair tI (.pair (.arr 5 tI) (.arr 5 tI)))) r1.1), (8, aI x142), (9, .one (.ptr 9 0))]) (L' := [(9, .one (.arr 5 tI) v230)]) (by kernel_rfl) ?_
                refine seqQ_norm ?_
                refine W_seq (by kernel_rfl) ?_
                obtain ⟨r232, h233, h⟩ := bind_of h
                refine W_draw2 5 [] [(2, [none, none], aD (.arr 5 tI) r232)] [0, 1, 5, 8, 83] [] (fr' := [(0, aI a0), (1, aD (.slice (.pair tI (.pair tI tI))) a1), (5, aD (.slice (.pair tI (.pair (.arr 5 tI) (.arr 5 tI)))) r1.1), (8, aI x142), (83, aB (!(deqT (.arr 5 tI) r232 v230)))]) (L' := []) (out := [(79, aD (.slice (.pair tI (.pair (.arr 5 tI) (.arr 5 tI)))) r1.1), (80, aI x142), (81, aD (.arr 5 tI) r232), (82, aD (.arr 5 tI) v230), (83, aB (!(deqT (.arr 5 tI) r232 v230)))]) (obs := [True]) (obs2 := []) (calls := [(21, [aD (.slice (.pair tI (.pair (.arr 5 tI) (.arr 5 tI)))) r1.1, aI x142], aD (.arr 5 tI) r232)]) (by kernel_rfl) (by kernel_rfl) (by kernel_rfl) (by kernel_rfl) (allP1 trivial) (allC1 (by kernel_rfl) (ref_Wide_ok h233) (by kernel_rfl) allC0) (by kernel_rfl) allP0 ?_
                refine seqQ_norm ?_
                refine W_cond (o := .tmp 83) (b := !(deqT (.arr 5 tI) r232 v230)) (by kernel_rfl) (by kernel_rfl) (fun h234 => ?_) (fun h234 => ?_)
                · replace h := ofT h234 h
                  refine W_seq (by kernel_rfl) ?_
                  refine W_run 1 [] [4] [] (fr' := [(4, aB false)]) (L' := []) (obs := []) (by kernel_rfl) (by kernel_rfl) (by kernel_rfl) allP0 ?_
                  refine seqQ_norm ?_
                  obtain rfl := Option.some.inj h
                  refine W_ret [4] [] (fr' := [(4, aB false)]) (L' := []) (by kernel_rfl) (by kernel_rfl) ?_
                  refine blockQ_ret ?_
                  refine seqQ_ret ?_
                  refine round_ret ?_
                  refine escQ_ret ?_
                  exact exQ_mk (by kernel_rfl) (by kernel_rfl)
                · replace h := ofF h234 h
                  refine W_skip [0, 1, 5, 8] [] (fr' := [(0, aI a0), (1, aD (.slice (.pair tI (.pair tI tI))) a1), (5, aD (.slice (.pair tI (.pair (.arr 5 tI) (.arr 5 tI)))) r1.1), (8, aI x142)]) (L' := []) (by kernel_rfl) (by kernel_rfl) ?_
                  refine blockQ_norm ?_
                  refine seqQ_norm ?_
                  obtain rfl := Option.some.inj h
                  refine W_run 3 [] [0, 1, 5, 8] [] (fr' := [(0, aI a0), (1, aD (.slice (.pair tI (.pair tI tI))) a1), (5, aD (.slice (.pair tI (.pair (.arr 5 tI) (.arr 5 tI)))) r1.1), (8, aI (w64 (x142 + (1 : Int))))]) (L' := []) (obs := []) (by kernel_rfl) (by kernel_rfl) (by kernel_rfl) allP0 ?_
                  exact round_next' (by kernel_rfl) (by kernel_rfl)
            · replace h := ofF h190 h
              obtain rfl := Option.some.inj h
              refine W_exit (id := 0) [] [] (fr' := []) (L' := []) (by kernel_rfl) (by kernel_rfl) ?_
              refine seqQ_exit ?_
              refine round_exit ?_
              refine escQ_brk ?_
              exact exQ_mk (by kernel_rfl) (by kernel_rfl)
          · intro e fr L hJ
            rcases v235 with v239 | v240
            · obtain ⟨rfl, rfl, rfl⟩ := hJ
              obtain rfl := Option.some.inj h
              refine LT_keep [4] [] (fr' := [(4, aB v239)]) (L' := []) (by kernel_rfl) ?_
              refine blockQ_ret ?_
              refine seqQ_ret ?_
              exact retQ_mk (by kernel_rfl) (by kernel_rfl) (by kernel_rfl)
            · obtain ⟨rfl, rfl, rfl⟩ := hJ
              refine LT_keep [] [] (fr' := []) (L' := []) (by kernel_rfl) ?_
              refine blockQ_hit ?_
              refine seqQ_norm ?_
              refine W_seq (by kernel_rfl) ?_
              refine W_run 1 [] [4] [] (fr' := [(4, aB true)]) (L' := []) (obs := []) (by kernel_rfl) (by kernel_rfl) (by kernel_rfl) allP0 ?_
              refine seqQ_norm ?_
              obtain rfl := Option.some.inj h
              refine W_ret [4] [] (fr' := [(4, aB true)]) (L' := []) (by kernel_rfl) (by kernel_rfl) ?_
              exact retQ_mk (by kernel_rfl) (by kernel_rfl) (by kernel_rfl)
end Go.Proofs.Ythjdegeajfhakaa.wideBuilds
