/- What the functions that CombChecks calls compute, as models, and that they compute it: written by a program of mine. -/
import Derived.Test.YtkkmiclmbhbmjaaProg
import Derived.Test.YtkkmiclmbhbmjaaSl4
set_option linter.all false
set_option maxRecDepth 100000
namespace Go.Proofs.Ytkkmiclmbhbmjaa.combChecks
open Go Go.Sl
def comb_sizes_g7 (x54 : (List Int)) (v56 : (Int × (Int × (Int × Int)))) : Option Int :=
bif v56.1 == (4 : Int) then
((idx x54 v56.2.1).bind fun v88 =>
(idx x54 v56.2.2.1).bind fun v90 =>
some (imin (w64 ((w64 ((1 : Int) + v88)) + v90)) (301 : Int)))
else
(some (1 : Int))
@[reducible] def comb_sizes_s8 (a0 : (List (Int × (Int × (Int × Int))))) (i53 : Int) (x54 : (List Int)) (v : Int) : Fr × LL := ([(3, .one (.slc 32)), (6, aI v), (7, aD (.slice (.pair tI (.pair tI (.pair tI tI)))) a0), (8, aI (List.length a0 : Int)), (9, aI i53)], [(32, .seq tI x54)])
def comb_sizes_b9 (i53 : Int) (v56 : (Int × (Int × (Int × Int)))) (x54 : (List Int)) : Option (Flow (List Int) (List Int)) :=
(comb_sizes_g7 x54 v56).bind fun v92 =>
(ck ((List.length x54 : Int) + 1 ≤ 4294967296)).bind fun _ =>
some (.next (x54 ++ [v92]))
@[reducible] def comb_sizes_s10 (a0 : (List (Int × (Int × (Int × Int))))) (v : Int × (List Int)) : Fr × LL := ([(3, .one (.slc 32)), (7, aD (.slice (.pair tI (.pair tI (.pair tI tI)))) a0), (8, aI (List.length a0 : Int)), (9, aI v.1)], [(32, .seq tI v.2)])
@[reducible] def comb_sizes_s11 (v : (List Int)) : Fr × LL := ([(3, .one (.slc 32))], [(32, .seq tI v)])
def comb_sizes (a0 : (List (Int × (Int × (Int × Int))))) : Option (List Int) :=
(forL comb_sizes_b9 (fun x54 => x54) a0 0 []).bind fun v96 =>
some v96
theorem comb_sizes_ok {a0 : (List (Int × (Int × (Int × Int))))} {r : (List Int)} (h : comb_sizes a0 = some r) : FnC Try.prog 59 [aD (.slice (.pair tI (.pair tI (.pair tI tI)))) a0] [] (aD (.slice tI) r) [] := by
  refine fnC_of_W (B := bodyOf Try.f59) (n := 35) Try.func59 (by kernel_rfl) (by kernel_rfl) (by kernel_rfl) (by kernel_rfl) (by kernel_rfl) ?_
  intro K
  refine W_seq (by kernel_rfl) ?_
  refine W_run 1 [] [0] [] (fr' := [(0, aD (.slice (.pair tI (.pair tI (.pair tI tI)))) a0)]) (L' := []) (obs := []) (by kernel_rfl) (by kernel_rfl) (by kernel_rfl) allP0 ?_
  refine seqQ_norm ?_
  refine W_seq (by kernel_rfl) ?_
  refine W_run 1 [] [0, 3] [] (fr' := [(0, aD (.slice (.pair tI (.pair tI (.pair tI tI)))) a0), (3, .one (.nilS))]) (L' := []) (obs := []) (by kernel_rfl) (by kernel_rfl) (by kernel_rfl) allP0 ?_
  refine seqQ_norm ?_
  refine W_seq (by kernel_rfl) ?_
  refine W_seq (by kernel_rfl) ?_
  refine W_run 3 [] [3, 7, 8, 9] [] (fr' := [(3, .one (.nilS)), (7, aD (.slice (.pair tI (.pair tI (.pair tI tI)))) a0), (8, aI (List.length a0 : Int)), (9, aI (0 : Int))]) (L' := []) (obs := []) (by kernel_rfl) (by kernel_rfl) (by kernel_rfl) allP0 ?_
  refine seqQ_norm ?_
  refine W_block (id := 0) (by kernel_rfl) ?_
  obtain ⟨v96, h97, h⟩ := bind_of h
  refine W_len (t := 7) (u := (.pair tI (.pair tI (.pair tI tI)))) (xs := a0) (by kernel_rfl) (fun h100 => ?_)
  obtain ⟨h98, h99⟩ := forL_iter h100 h97
  refine W_mine 3 32 tI (by kernel_rfl) ?_
  refine W_weaken [3, 7, 8, 9] [32] (fr' := ((comb_sizes_s10 a0) ((0 : Int), [])).1) (L' := ((comb_sizes_s10 a0) ((0 : Int), [])).2) (by kernel_rfl) ?_
  refine W_cutK (W_loop (S := (comb_sizes_s10 a0)) (J := (exQ (.exit 0) comb_sizes_s11)) (by kernel_rfl) ?_ h98 _ v96 h99) ?_
  · rintro ⟨i53, x54⟩ s h
    refine W_seq (by kernel_rfl) ?_
    refine W_run 1 [] [3, 7, 8, 9, 10] [32] (fr' := [(3, .one (.slc 32)), (7, aD (.slice (.pair tI (.pair tI (.pair tI tI)))) a0), (8, aI (List.length a0 : Int)), (9, aI i53), (10, aB (decide (i53 < (List.length a0 : Int))))]) (L' := [(32, .seq tI x54)]) (obs := []) (by kernel_rfl) (by kernel_rfl) (by kernel_rfl) allP0 ?_
    refine seqQ_norm ?_
    refine W_seq (by kernel_rfl) ?_
    refine W_cond (o := .tmp 10) (b := decide (i53 < (List.length a0 : Int))) (by kernel_rfl) (by kernel_rfl) (fun h58 => ?_) (fun h58 => ?_)
    · replace h := stepL_true h58 h
      obtain ⟨v56, _, h57, h, rfl⟩ := h
      refine W_skip [3, 7, 8, 9] [32] (fr' := [(3, .one (.slc 32)), (7, aD (.slice (.pair tI (.pair tI (.pair tI tI)))) a0), (8, aI (List.length a0 : Int)), (9, aI i53)]) (L' := [(32, .seq tI x54)]) (by kernel_rfl) (by kernel_rfl) ?_
      refine seqQ_norm ?_
      refine W_seq (by kernel_rfl) ?_
      refine W_block (id := 1) (by kernel_rfl) ?_
      refine W_seq (by kernel_rfl) ?_
      refine W_run 4 [(1, .val (.dat (.pair tI (.pair tI (.pair tI tI))) v56)), (5, .typed)] [3, 5, 7, 8, 9] [32, 5] (fr' := [(3, .one (.slc 32)), (5, .one (.ptr 5 0)), (7, aD (.slice (.pair tI (.pair tI (.pair tI tI)))) a0), (8, aI (List.length a0 : Int)), (9, aI i53)]) (L' := [(32, .seq tI x54), (5, .one (.pair tI (.pair tI (.pair tI tI))) v56)]) (obs := [Idx a0 i53 v56, True]) (by kernel_rfl) (by kernel_rfl) (by kernel_rfl) (allP2 (Idx.of h57) (allP1 trivial)) ?_
      refine seqQ_norm ?_
      refine W_seq (by kernel_rfl) ?_
      refine W_run 1 [] [3, 5, 6, 7, 8, 9] [32, 5] (fr' := [(3, .one (.slc 32)), (5, .one (.ptr 5 0)), (6, aI (1 : Int)), (7, aD (.slice (.pair tI (.pair tI (.pair tI tI)))) a0), (8, aI (List.length a0 : Int)), (9, aI i53)]) (L' := [(32, .seq tI x54), (5, .one (.pair tI (.pair tI (.pair tI tI))) v56)]) (obs := []) (by kernel_rfl) (by kernel_rfl) (by kernel_rfl) allP0 ?_
      refine seqQ_norm ?_
      refine W_seq (by kernel_rfl) ?_
      obtain ⟨v92, h93, h⟩ := bind_of h
      refine W_cutK (Q' := (exQ .normal (comb_sizes_s8 a0 i53 x54)) v92) ?_ ?_
      · replace h := h93
        refine W_seq (by kernel_rfl) ?_
        refine W_run 3 [] [3, 5, 6, 7, 8, 9, 15] [32, 5] (fr' := [(3, .one (.slc 32)), (5, .one (.ptr 5 0)), (6, aI (1 : Int)), (7, aD (.slice (.pair tI (.pair tI (.pair tI tI)))) a0), (8, aI (List.length a0 : Int)), (9, aI i53), (15, aB (v56.1 == (4 : Int)))]) (L' := [(32, .seq tI x54), (5, .one (.pair tI (.pair tI (.pair tI tI))) v56)]) (obs := []) (by kernel_rfl) (by kernel_rfl) (by kernel_rfl) allP0 ?_
        refine seqQ_norm ?_
        refine W_cond (o := .tmp 15) (b := v56.1 == (4 : Int)) (by kernel_rfl) (by kernel_rfl) (fun h87 => ?_) (fun h87 => ?_)
        · replace h := ofT h87 h
          obtain ⟨v88, h89, h⟩ := bind_of h
          obtain ⟨v90, h91, h⟩ := bind_of h
          obtain rfl := Option.some.inj h
          refine W_draw2 13 [(9, .val (.dat tI v88)), (21, .val (.dat tI v90))] [] [3, 6, 7, 8, 9] [32] (fr' := [(3, .one (.slc 32)), (6, aI (imin (w64 ((w64 ((1 : Int) + v88)) + v90)) (301 : Int))), (7, aD (.slice (.pair tI (.pair tI (.pair tI tI)))) a0), (8, aI (List.length a0 : Int)), (9, aI i53)]) (L' := [(32, .seq tI x54)]) (out := [(16, .one (.slc 32)), (17, .one (.ptr 5 1)), (18, aI v56.2.1), (19, .one (.eptr 32 1 v56.2.1 0)), (20, aI v88), (21, aI (w64 ((1 : Int) + v88))), (22, .one (.slc 32)), (23, .one (.ptr 5 2)), (24, aI v56.2.2.1), (25, .one (.eptr 32 1 v56.2.2.1 0)), (26, aI v90), (27, aI (w64 ((w64 ((1 : Int) + v88)) + v90))), (28, aI (imin (w64 ((w64 ((1 : Int) + v88)) + v90)) (301 : Int)))]) (obs := [InR v56.2.1 (List.length x54), Idx x54 v56.2.1 v88, InR v56.2.2.1 (List.length x54), Idx x54 v56.2.2.1 v90]) (obs2 := []) (calls := []) (by kernel_rfl) (by kernel_rfl) (by kernel_rfl) (by kernel_rfl) (allP2 (InR.of h89) (allP2 (Idx.of h89) (allP2 (InR.of h91) (allP1 (Idx.of h91))))) allC0 (by kernel_rfl) allP0 ?_
          exact exQ_mk (by kernel_rfl) (by kernel_rfl)
        · replace h := ofF h87 h
          obtain rfl := Option.some.inj h
          refine W_skip [3, 6, 7, 8, 9] [32] (fr' := [(3, .one (.slc 32)), (6, aI (1 : Int)), (7, aD (.slice (.pair tI (.pair tI (.pair tI tI)))) a0), (8, aI (List.length a0 : Int)), (9, aI i53)]) (L' := [(32, .seq tI x54)]) (by kernel_rfl) (by kernel_rfl) ?_
          exact exQ_mk (by kernel_rfl) (by kernel_rfl)
      · intro e fr L hJ
        obtain ⟨rfl, rfl, rfl⟩ := hJ
        refine LT_keep [3, 6, 7, 8, 9] [32] (fr' := [(3, .one (.slc 32)), (6, aI v92), (7, aD (.slice (.pair tI (.pair tI (.pair tI tI)))) a0), (8, aI (List.length a0 : Int)), (9, aI i53)]) (L' := [(32, .seq tI x54)]) (by kernel_rfl) ?_
        refine seqQ_norm ?_
        obtain ⟨_, h94, h⟩ := bind_of h
        replace h94 := ck_some h94
        refine W_run 5 [] [3, 7, 8, 9] [32] (fr' := [(3, .one (.slc 32)), (7, aD (.slice (.pair tI (.pair tI (.pair tI tI)))) a0), (8, aI (List.length a0 : Int)), (9, aI i53)]) (L' := [(32, .seq tI (x54 ++ [v92]))]) (obs := [SmallLen (List.length x54 + List.length [v92])]) (by kernel_rfl) (by kernel_rfl) (by kernel_rfl) (allP1 h94) ?_
        refine blockQ_norm ?_
        refine seqQ_norm ?_
        obtain rfl := Option.some.inj h
        refine W_run 2 [] [3, 7, 8, 9] [32] (fr' := [(3, .one (.slc 32)), (7, aD (.slice (.pair tI (.pair tI (.pair tI tI)))) a0), (8, aI (List.length a0 : Int)), (9, aI (w64 (i53 + (1 : Int))))]) (L' := [(32, .seq tI (x54 ++ [v92]))]) (obs := []) (by kernel_rfl) (by kernel_rfl) (by kernel_rfl) allP0 ?_
        exact round_next' (by kernel_rfl) (by kernel_rfl)
    · obtain rfl := stepL_false h58 h
      refine W_exit (id := 0) [3] [32] (fr' := [(3, .one (.slc 32))]) (L' := [(32, .seq tI x54)]) (by kernel_rfl) (by kernel_rfl) ?_
      refine seqQ_exit ?_
      refine round_exit ?_
      exact exQ_mk (by kernel_rfl) (by kernel_rfl)
  · intro e fr L hJ
    obtain ⟨rfl, rfl, rfl⟩ := hJ
    refine LT_keep [3] [32] (fr' := [(3, .one (.slc 32))]) (L' := [(32, .seq tI v96)]) (by kernel_rfl) ?_
    refine blockQ_hit ?_
    refine seqQ_norm ?_
    refine W_seq (by kernel_rfl) ?_
    refine W_run 2 [] [2] [32] (fr' := [(2, .one (.slc 32))]) (L' := [(32, .seq tI v96)]) (obs := []) (by kernel_rfl) (by kernel_rfl) (by kernel_rfl) allP0 ?_
    refine seqQ_norm ?_
    obtain rfl := Option.some.inj h
    refine W_frz 32 (by kernel_rfl) ?_
    refine W_ret [2] [] (fr' := [(2, aD (.slice tI) v96)]) (L' := []) (by kernel_rfl) (by kernel_rfl) ?_
    exact retQ_mk (by kernel_rfl) (by kernel_rfl) (by kernel_rfl)

def comb_Check_g9 (i58 : Int) (v61 : (Int × (Int × (Int × Int)))) : Option Bool :=
bif v61.1 == (4 : Int) then
(bif decide ((imin v61.2.1 v61.2.2.1) < (0 : Int)) then
(some true)
else
(some (decide ((imax v61.2.1 v61.2.2.1) ≥ i58))))
else
(some false)
@[reducible] def comb_Check_s10 (a0 : (List (Int × (Int × (Int × Int))))) (i58 : Int) (v : Bool) : Fr × LL := ([(0, aD (.slice (.pair tI (.pair tI (.pair tI tI)))) a0), (13, aD (.slice (.pair tI (.pair tI (.pair tI tI)))) a0), (14, aI (List.length a0 : Int)), (15, aI i58), (43, aB v)], [])
@[reducible] def comb_Check_s11 (a0 : (List (Int × (Int × (Int × Int))))) (i58 : Int) (v61 : (Int × (Int × (Int × Int)))) (v : Bool) : Fr × LL := ([(0, aD (.slice (.pair tI (.pair tI (.pair tI tI)))) a0), (3, aI i58), (4, .one (.ptr 4 0)), (13, aD (.slice (.pair tI (.pair tI (.pair tI tI)))) a0), (14, aI (List.length a0 : Int)), (15, aI i58), (29, aB v)], [(4, .one (.pair tI (.pair tI (.pair tI tI))) v61)])
@[reducible] def comb_Check_s12 (a0 : (List (Int × (Int × (Int × Int))))) (i58 : Int) (v61 : (Int × (Int × (Int × Int)))) (v : Bool) : Fr × LL := ([(0, aD (.slice (.pair tI (.pair tI (.pair tI tI)))) a0), (3, aI i58), (4, .one (.ptr 4 0)), (13, aD (.slice (.pair tI (.pair tI (.pair tI tI)))) a0), (14, aI (List.length a0 : Int)), (15, aI i58), (20, aB v)], [(4, .one (.pair tI (.pair tI (.pair tI tI))) v61)])
def comb_Check_b13 (i58 : Int) (v61 : (Int × (Int × (Int × Int)))) (x59 : Unit) : Option (Flow Unit (Esc Int Unit)) :=
(bif decide (v61.1 < (1 : Int)) then
(some true)
else
(some (decide (v61.1 > (4 : Int))))).bind fun v67 =>
bif v67 then
(some (.done (.ret (6 : Int))))
else
((bif v61.1 == (3 : Int) then
(bif decide (v61.2.2.2 < (0 : Int)) then
(some true)
else
(some (decide (v61.2.2.2 > (1000 : Int)))))
else
(some false)).bind fun v76 =>
bif v76 then
(some (.done (.ret (4 : Int))))
else
((comb_Check_g9 i58 v61).bind fun v85 =>
bif v85 then
(some (.done (.ret (2 : Int))))
else
(some (.next ()))))
@[reducible] def comb_Check_s14 (a0 : (List (Int × (Int × (Int × Int))))) (v : Int × Unit) : Fr × LL := ([(0, aD (.slice (.pair tI (.pair tI (.pair tI tI)))) a0), (13, aD (.slice (.pair tI (.pair tI (.pair tI tI)))) a0), (14, aI (List.length a0 : Int)), (15, aI v.1)], [])
@[reducible] def comb_Check_s15 (v : Int) : Fr × LL := ([(2, aI v)], [])
@[reducible] def comb_Check_s16 (a0 : (List (Int × (Int × (Int × Int))))) (v : Unit) : Fr × LL := ([(0, aD (.slice (.pair tI (.pair tI (.pair tI tI)))) a0)], [])
def comb_Check (a0 : (List (Int × (Int × (Int × Int))))) : Option Int :=
bif (decide ((List.length a0 : Int) < (1 : Int))) || (decide ((List.length a0 : Int) > (40 : Int))) then
(some (1 : Int))
else
((forL comb_Check_b13 (fun x59 => (.brk ())) a0 0 ()).bind fun v89 =>
match v89 with
| .ret v94 =>
(some v94)
| .brk v95 =>
((comb_sizes a0).bind fun r96 =>
(idx r96 (w64 ((List.length a0 : Int) - (1 : Int)))).bind fun v98 =>
bif decide (v98 > (300 : Int)) then
(some (1 : Int))
else
(some (0 : Int))))
theorem comb_Check_ok {a0 : (List (Int × (Int × (Int × Int))))} {r : Int} (h : comb_Check a0 = some r) : FnC Try.prog 26 [aD (.slice (.pair tI (.pair tI (.pair tI tI)))) a0] [] (aI r) [] := by
  refine fnC_of_W (B := bodyOf Try.f26) (n := 73) Try.func26 (by kernel_rfl) (by kernel_rfl) (by kernel_rfl) (by kernel_rfl) (by kernel_rfl) ?_
  intro K
  refine W_seq (by kernel_rfl) ?_
  refine W_run 1 [] [0] [] (fr' := [(0, aD (.slice (.pair tI (.pair tI (.pair tI tI)))) a0)]) (L' := []) (obs := []) (by kernel_rfl) (by kernel_rfl) (by kernel_rfl) allP0 ?_
  refine seqQ_norm ?_
  refine W_seq (by kernel_rfl) ?_
  refine W_seq (by kernel_rfl) ?_
  refine W_run 8 [] [0, 12] [] (fr' := [(0, aD (.slice (.pair tI (.pair tI (.pair tI tI)))) a0), (12, aB ((decide ((List.length a0 : Int) < (1 : Int))) || (decide ((List.length a0 : Int) > (40 : Int)))))]) (L' := []) (obs := []) (by kernel_rfl) (by kernel_rfl) (by kernel_rfl) allP0 ?_
  refine seqQ_norm ?_
  refine W_cond (o := .tmp 12) (b := (decide ((List.length a0 : Int) < (1 : Int))) || (decide ((List.length a0 : Int) > (40 : Int)))) (by kernel_rfl) (by kernel_rfl) (fun h1 => ?_) (fun h1 => ?_)
  · replace h := ofT h1 h
    refine W_seq (by kernel_rfl) ?_
    refine W_run 1 [] [2] [] (fr' := [(2, aI (1 : Int))]) (L' := []) (obs := []) (by kernel_rfl) (by kernel_rfl) (by kernel_rfl) allP0 ?_
    refine seqQ_norm ?_
    obtain rfl := Option.some.inj h
    refine W_ret [2] [] (fr' := [(2, aI (1 : Int))]) (L' := []) (by kernel_rfl) (by kernel_rfl) ?_
    refine seqQ_ret ?_
    exact retQ_mk (by kernel_rfl) (by kernel_rfl) (by kernel_rfl)
  · replace h := ofF h1 h
    refine W_skip [0] [] (fr' := [(0, aD (.slice (.pair tI (.pair tI (.pair tI tI)))) a0)]) (L' := []) (by kernel_rfl) (by kernel_rfl) ?_
    refine seqQ_norm ?_
    refine W_seq (by kernel_rfl) ?_
    refine W_seq (by kernel_rfl) ?_
    refine W_run 3 [] [0, 13, 14, 15] [] (fr' := [(0, aD (.slice (.pair tI (.pair tI (.pair tI tI)))) a0), (13, aD (.slice (.pair tI (.pair tI (.pair tI tI)))) a0), (14, aI (List.length a0 : Int)), (15, aI (0 : Int))]) (L' := []) (obs := []) (by kernel_rfl) (by kernel_rfl) (by kernel_rfl) allP0 ?_
    refine seqQ_norm ?_
    refine W_block (id := 0) (by kernel_rfl) ?_
    obtain ⟨v89, h90, h⟩ := bind_of h
    refine W_len (t := 13) (u := (.pair tI (.pair tI (.pair tI tI)))) (xs := a0) (by kernel_rfl) (fun h93 => ?_)
    obtain ⟨h91, h92⟩ := forL_iter h93 h90
    refine W_weaken [0, 13, 14, 15] [] (fr' := ((comb_Check_s14 a0) ((0 : Int), ())).1) (L' := ((comb_Check_s14 a0) ((0 : Int), ())).2) (by kernel_rfl) ?_
    refine W_cutK (W_loop (S := (comb_Check_s14 a0)) (J := (escQ (exQ .ret comb_Check_s15) (exQ (.exit 0) (comb_Check_s16 a0)))) (by kernel_rfl) ?_ h91 _ v89 h92) ?_
    · rintro ⟨i58, x59⟩ s h
      refine W_seq (by kernel_rfl) ?_
      refine W_run 1 [] [0, 13, 14, 15, 16] [] (fr' := [(0, aD (.slice (.pair tI (.pair tI (.pair tI tI)))) a0), (13, aD (.slice (.pair tI (.pair tI (.pair tI tI)))) a0), (14, aI (List.length a0 : Int)), (15, aI i58), (16, aB (decide (i58 < (List.length a0 : Int))))]) (L' := []) (obs := []) (by kernel_rfl) (by kernel_rfl) (by kernel_rfl) allP0 ?_
      refine seqQ_norm ?_
      refine W_seq (by kernel_rfl) ?_
      refine W_cond (o := .tmp 16) (b := decide (i58 < (List.length a0 : Int))) (by kernel_rfl) (by kernel_rfl) (fun h63 => ?_) (fun h63 => ?_)
      · replace h := stepL_true h63 h
        obtain ⟨v61, _, h62, h, rfl⟩ := h
        refine W_skip [0, 13, 14, 15] [] (fr' := [(0, aD (.slice (.pair tI (.pair tI (.pair tI tI)))) a0), (13, aD (.slice (.pair tI (.pair tI (.pair tI tI)))) a0), (14, aI (List.length a0 : Int)), (15, aI i58)]) (L' := []) (by kernel_rfl) (by kernel_rfl) ?_
        refine seqQ_norm ?_
        refine W_seq (by kernel_rfl) ?_
        refine W_block (id := 1) (by kernel_rfl) ?_
        refine W_seq (by kernel_rfl) ?_
        refine W_run 6 [(3, .val (.dat (.pair tI (.pair tI (.pair tI tI))) v61)), (7, .typed)] [0, 3, 4, 13, 14, 15] [4] (fr' := [(0, aD (.slice (.pair tI (.pair tI (.pair tI tI)))) a0), (3, aI i58), (4, .one (.ptr 4 0)), (13, aD (.slice (.pair tI (.pair tI (.pair tI tI)))) a0), (14, aI (List.length a0 : Int)), (15, aI i58)]) (L' := [(4, .one (.pair tI (.pair tI (.pair tI tI))) v61)]) (obs := [Idx a0 i58 v61, True]) (by kernel_rfl) (by kernel_rfl) (by kernel_rfl) (allP2 (Idx.of h62) (allP1 trivial)) ?_
        refine seqQ_norm ?_
        refine W_block (id := 2) (by kernel_rfl) ?_
        refine W_seq (by kernel_rfl) ?_
        obtain ⟨v67, h68, h⟩ := bind_of h
        refine W_cutK (Q' := (exQ .normal (comb_Check_s12 a0 i58 v61)) v67) ?_ ?_
        · replace h := h68
          refine W_region (by kernel_rfl) ?_
          refine WO_run (j := 4) (k := 4) (orcs := []) (kF := [0, 3, 4, 13, 14, 15, 24]) (kL := [4]) (fr' := [(0, aD (.slice (.pair tI (.pair tI (.pair tI tI)))) a0), (3, aI i58), (4, .one (.ptr 4 0)), (13, aD (.slice (.pair tI (.pair tI (.pair tI tI)))) a0), (14, aI (List.length a0 : Int)), (15, aI i58), (24, aB (decide (v61.1 < (1 : Int))))]) (L' := [(4, .one (.pair tI (.pair tI (.pair tI tI))) v61)]) (obs := []) rfl (by kernel_rfl) allP0 ?_
          rcases Bool.eq_false_or_eq_true (decide (v61.1 < (1 : Int))) with h66 | h66
          · replace h := ofT h66 h
            refine WO_run (j := 9) (k := 5) (orcs := [(8, .known true), (10, .known true), (12, .known true), (15, .val (.dat .bool true))]) (kF := [0, 3, 4, 13, 14, 15, 20]) (kL := [4]) (fr' := [(0, aD (.slice (.pair tI (.pair tI (.pair tI tI)))) a0), (3, aI i58), (4, .one (.ptr 4 0)), (13, aD (.slice (.pair tI (.pair tI (.pair tI tI)))) a0), (14, aI (List.length a0 : Int)), (15, aI i58), (20, aB true)]) (L' := [(4, .one (.pair tI (.pair tI (.pair tI tI))) v61)]) (obs := [((decide (v61.1 < (1 : Int))) = true), ((decide (v61.1 < (1 : Int))) = true), ((decide (v61.1 < (1 : Int))) = true), ((decide (v61.1 < (1 : Int))) = true)]) rfl (by kernel_rfl) (allP2 h66 (allP2 h66 (allP2 h66 (allP1 h66)))) ?_
            obtain rfl := Option.some.inj h
            refine WO_fin [0, 3, 4, 13, 14, 15, 20] [4] (fr' := [(0, aD (.slice (.pair tI (.pair tI (.pair tI tI)))) a0), (3, aI i58), (4, .one (.ptr 4 0)), (13, aD (.slice (.pair tI (.pair tI (.pair tI tI)))) a0), (14, aI (List.length a0 : Int)), (15, aI i58), (20, aB true)]) (L' := [(4, .one (.pair tI (.pair tI (.pair tI tI))) v61)]) (by kernel_rfl) (by kernel_rfl) ?_
            exact exQ_mk (by kernel_rfl) (by kernel_rfl)
          · replace h := ofF h66 h
            refine WO_run (j := 9) (k := 5) (orcs := [(8, .known false), (10, .known false), (12, .known false), (15, .val (.dat .bool false))]) (kF := [0, 3, 4, 13, 14, 15, 20]) (kL := [4]) (fr' := [(0, aD (.slice (.pair tI (.pair tI (.pair tI tI)))) a0), (3, aI i58), (4, .one (.ptr 4 0)), (13, aD (.slice (.pair tI (.pair tI (.pair tI tI)))) a0), (14, aI (List.length a0 : Int)), (15, aI i58), (20, aB (decide (v61.1 > (4 : Int))))]) (L' := [(4, .one (.pair tI (.pair tI (.pair tI tI))) v61)]) (obs := [((decide (v61.1 < (1 : Int))) = false), ((decide (v61.1 < (1 : Int))) = false), ((decide (v61.1 < (1 : Int))) = false), ((decide (v61.1 < (1 : Int))) = false)]) rfl (by kernel_rfl) (allP2 h66 (allP2 h66 (allP2 h66 (allP1 h66)))) ?_
            obtain rfl := Option.some.inj h
            refine WO_fin [0, 3, 4, 13, 14, 15, 20] [4] (fr' := [(0, aD (.slice (.pair tI (.pair tI (.pair tI tI)))) a0), (3, aI i58), (4, .one (.ptr 4 0)), (13, aD (.slice (.pair tI (.pair tI (.pair tI tI)))) a0), (14, aI (List.length a0 : Int)), (15, aI i58), (20, aB (decide (v61.1 > (4 : Int))))]) (L' := [(4, .one (.pair tI (.pair tI (.pair tI tI))) v61)]) (by kernel_rfl) (by kernel_rfl) ?_
            exact exQ_mk (by kernel_rfl) (by kernel_rfl)
        · intro e fr L hJ
          obtain ⟨rfl, rfl, rfl⟩ := hJ
          refine LT_keep [0, 3, 4, 13, 14, 15, 20] [4] (fr' := [(0, aD (.slice (.pair tI (.pair tI (.pair tI tI)))) a0), (3, aI i58), (4, .one (.ptr 4 0)), (13, aD (.slice (.pair tI (.pair tI (.pair tI tI)))) a0), (14, aI (List.length a0 : Int)), (15, aI i58), (20, aB v67)]) (L' := [(4, .one (.pair tI (.pair tI (.pair tI tI))) v61)]) (by kernel_rfl) ?_
          refine seqQ_norm ?_
          refine W_cond (o := .tmp 20) (b := v67) (by kernel_rfl) (by kernel_rfl) (fun h69 => ?_) (fun h69 => ?_)
          · replace h := ofT h69 h
            refine W_seq (by kernel_rfl) ?_
            refine W_run 1 [] [2] [] (fr' := [(2, aI (6 : Int))]) (L' := []) (obs := []) (by kernel_rfl) (by kernel_rfl) (by kernel_rfl) allP0 ?_
            refine seqQ_norm ?_
            obtain rfl := Option.some.inj h
            refine W_ret [2] [] (fr' := [(2, aI (6 : Int))]) (L' := []) (by kernel_rfl) (by kernel_rfl) ?_
            refine blockQ_ret ?_
            refine blockQ_ret ?_
            refine seqQ_ret ?_
            refine round_ret ?_
            refine escQ_ret ?_
            exact exQ_mk (by kernel_rfl) (by kernel_rfl)
          · replace h := ofF h69 h
            refine W_seq (by kernel_rfl) ?_
            obtain ⟨v76, h77, h⟩ := bind_of h
            refine W_cutK (Q' := (exQ .normal (comb_Check_s11 a0 i58 v61)) v76) ?_ ?_
            · replace h := h77
              refine W_region (by kernel_rfl) ?_
              refine WO_run (j := 4) (k := 4) (orcs := []) (kF := [0, 3, 4, 13, 14, 15, 33]) (kL := [4]) (fr' := [(0, aD (.slice (.pair tI (.pair tI (.pair tI tI)))) a0), (3, aI i58), (4, .one (.ptr 4 0)), (13, aD (.slice (.pair tI (.pair tI (.pair tI tI)))) a0), (14, aI (List.length a0 : Int)), (15, aI i58), (33, aB (v61.1 == (3 : Int)))]) (L' := [(4, .one (.pair tI (.pair tI (.pair tI tI))) v61)]) (obs := []) rfl (by kernel_rfl) allP0 ?_
              rcases Bool.eq_false_or_eq_true (v61.1 == (3 : Int)) with h74 | h74
              · replace h := ofT h74 h
                refine WO_run (j := 8) (k := 4) (orcs := [(8, .known true), (10, .known true), (12, .known true), (14, .known true)]) (kF := [0, 3, 4, 13, 14, 15, 33, 37]) (kL := [4]) (fr' := [(0, aD (.slice (.pair tI (.pair tI (.pair tI tI)))) a0), (3, aI i58), (4, .one (.ptr 4 0)), (13, aD (.slice (.pair tI (.pair tI (.pair tI tI)))) a0), (14, aI (List.length a0 : Int)), (15, aI i58), (33, aB (v61.1 == (3 : Int))), (37, aB (decide (v61.2.2.2 < (0 : Int))))]) (L' := [(4, .one (.pair tI (.pair tI (.pair tI tI))) v61)]) (obs := [((v61.1 == (3 : Int)) = true), ((v61.1 == (3 : Int)) = true), ((v61.1 == (3 : Int)) = true), ((v61.1 == (3 : Int)) = true)]) rfl (by kernel_rfl) (allP2 h74 (allP2 h74 (allP2 h74 (allP1 h74)))) ?_
                rcases Bool.eq_false_or_eq_true (decide (v61.2.2.2 < (0 : Int))) with h75 | h75
                · replace h := ofT h75 h
                  refine WO_run (j := 14) (k := 6) (orcs := [(16, .known true), (18, .known true), (20, .known true), (22, .known true), (23, .val (.dat .bool true)), (25, .val (.dat .bool true))]) (kF := [0, 3, 4, 13, 14, 15, 29]) (kL := [4]) (fr' := [(0, aD (.slice (.pair tI (.pair tI (.pair tI tI)))) a0), (3, aI i58), (4, .one (.ptr 4 0)), (13, aD (.slice (.pair tI (.pair tI (.pair tI tI)))) a0), (14, aI (List.length a0 : Int)), (15, aI i58), (29, aB true)]) (L' := [(4, .one (.pair tI (.pair tI (.pair tI tI))) v61)]) (obs := [((decide (v61.2.2.2 < (0 : Int))) = true), ((decide (v61.2.2.2 < (0 : Int))) = true), ((decide (v61.2.2.2 < (0 : Int))) = true), ((v61.1 == (3 : Int)) = true), ((decide (v61.2.2.2 < (0 : Int))) = true), ((v61.1 == (3 : Int)) = true)]) rfl (by kernel_rfl) (allP2 h75 (allP2 h75 (allP2 h75 (allP2 h74 (allP2 h75 (allP1 h74)))))) ?_
                  obtain rfl := Option.some.inj h
                  refine WO_fin [0, 3, 4, 13, 14, 15, 29] [4] (fr' := [(0, aD (.slice (.pair tI (.pair tI (.pair tI tI)))) a0), (3, aI i58), (4, .one (.ptr 4 0)), (13, aD (.slice (.pair tI (.pair tI (.pair tI tI)))) a0), (14, aI (List.length a0 : Int)), (15, aI i58), (29, aB true)]) (L' := [(4, .one (.pair tI (.pair tI (.pair tI tI))) v61)]) (by kernel_rfl) (by kernel_rfl) ?_
                  exact exQ_mk (by kernel_rfl) (by kernel_rfl)
                · replace h := ofF h75 h
                  refine WO_run (j := 14) (k := 6) (orcs := [(16, .known false), (18, .known false), (20, .known false), (22, .known true), (23, .val (.dat .bool false)), (25, .val (.dat .bool true))]) (kF := [0, 3, 4, 13, 14, 15, 29]) (kL := [4]) (fr' := [(0, aD (.slice (.pair tI (.pair tI (.pair tI tI)))) a0), (3, aI i58), (4, .one (.ptr 4 0)), (13, aD (.slice (.pair tI (.pair tI (.pair tI tI)))) a0), (14, aI (List.length a0 : Int)), (15, aI i58), (29, aB (decide (v61.2.2.2 > (1000 : Int))))]) (L' := [(4, .one (.pair tI (.pair tI (.pair tI tI))) v61)]) (obs := [((decide (v61.2.2.2 < (0 : Int))) = false), ((decide (v61.2.2.2 < (0 : Int))) = false), ((decide (v61.2.2.2 < (0 : Int))) = false), ((v61.1 == (3 : Int)) = true), ((decide (v61.2.2.2 < (0 : Int))) = false), ((v61.1 == (3 : Int)) = true)]) rfl (by kernel_rfl) (allP2 h75 (allP2 h75 (allP2 h75 (allP2 h74 (allP2 h75 (allP1 h74)))))) ?_
                  obtain rfl := Option.some.inj h
                  refine WO_fin [0, 3, 4, 13, 14, 15, 29] [4] (fr' := [(0, aD (.slice (.pair tI (.pair tI (.pair tI tI)))) a0), (3, aI i58), (4, .one (.ptr 4 0)), (13, aD (.slice (.pair tI (.pair tI (.pair tI tI)))) a0), (14, aI (List.length a0 : Int)), (15, aI i58), (29, aB (decide (v61.2.2.2 > (1000 : Int))))]) (L' := [(4, .one (.pair tI (.pair tI (.pair tI tI))) v61)]) (by kernel_rfl) (by kernel_rfl) ?_
                  exact exQ_mk (by kernel_rfl) (by kernel_rfl)
              · replace h := ofF h74 h
                refine WO_run (j := 14) (k := 10) (orcs := [(8, .known false), (10, .known false), (12, .known false), (14, .known false), (16, .known true), (18, .known true), (20, .known true), (22, .known false), (25, .val (.dat .bool false))]) (kF := [0, 3, 4, 13, 14, 15, 29]) (kL := [4]) (fr' := [(0, aD (.slice (.pair tI (.pair tI (.pair tI tI)))) a0), (3, aI i58), (4, .one (.ptr 4 0)), (13, aD (.slice (.pair tI (.pair tI (.pair tI tI)))) a0), (14, aI (List.length a0 : Int)), (15, aI i58), (29, aB false)]) (L' := [(4, .one (.pair tI (.pair tI (.pair tI tI))) v61)]) (obs := [((v61.1 == (3 : Int)) = false), ((v61.1 == (3 : Int)) = false), ((v61.1 == (3 : Int)) = false), ((v61.1 == (3 : Int)) = false), ((v61.1 == (3 : Int)) = false), ((v61.1 == (3 : Int)) = false)]) rfl (by kernel_rfl) (allP2 h74 (allP2 h74 (allP2 h74 (allP2 h74 (allP2 h74 (allP1 h74)))))) ?_
                obtain rfl := Option.some.inj h
                refine WO_fin [0, 3, 4, 13, 14, 15, 29] [4] (fr' := [(0, aD (.slice (.pair tI (.pair tI (.pair tI tI)))) a0), (3, aI i58), (4, .one (.ptr 4 0)), (13, aD (.slice (.pair tI (.pair tI (.pair tI tI)))) a0), (14, aI (List.length a0 : Int)), (15, aI i58), (29, aB false)]) (L' := [(4, .one (.pair tI (.pair tI (.pair tI tI))) v61)]) (by kernel_rfl) (by kernel_rfl) ?_
                exact exQ_mk (by kernel_rfl) (by kernel_rfl)
            · intro e fr L hJ
              obtain ⟨rfl, rfl, rfl⟩ := hJ
              refine LT_keep [0, 3, 4, 13, 14, 15, 29] [4] (fr' := [(0, aD (.slice (.pair tI (.pair tI (.pair tI tI)))) a0), (3, aI i58), (4, .one (.ptr 4 0)), (13, aD (.slice (.pair tI (.pair tI (.pair tI tI)))) a0), (14, aI (List.length a0 : Int)), (15, aI i58), (29, aB v76)]) (L' := [(4, .one (.pair tI (.pair tI (.pair tI tI))) v61)]) (by kernel_rfl) ?_
              refine seqQ_norm ?_
              refine W_cond (o := .tmp 29) (b := v76) (by kernel_rfl) (by kernel_rfl) (fun h78 => ?_) (fun h78 => ?_)
              · replace h := ofT h78 h
                refine W_seq (by kernel_rfl) ?_
                refine W_run 1 [] [2] [] (fr' := [(2, aI (4 : Int))]) (L' := []) (obs := []) (by kernel_rfl) (by kernel_rfl) (by kernel_rfl) allP0 ?_
                refine seqQ_norm ?_
                obtain rfl := Option.some.inj h
                refine W_ret [2] [] (fr' := [(2, aI (4 : Int))]) (L' := []) (by kernel_rfl) (by kernel_rfl) ?_
                refine blockQ_ret ?_
                refine blockQ_ret ?_
                refine seqQ_ret ?_
                refine round_ret ?_
                refine escQ_ret ?_
                exact exQ_mk (by kernel_rfl) (by kernel_rfl)
              · replace h := ofF h78 h
                refine W_seq (by kernel_rfl) ?_
                obtain ⟨v85, h86, h⟩ := bind_of h
                refine W_cutK (Q' := (exQ .normal (comb_Check_s10 a0 i58)) v85) ?_ ?_
                · replace h := h86
                  refine W_region (by kernel_rfl) ?_
                  refine WO_run (j := 4) (k := 4) (orcs := []) (kF := [0, 3, 4, 13, 14, 15, 47]) (kL := [4]) (fr' := [(0, aD (.slice (.pair tI (.pair tI (.pair tI tI)))) a0), (3, aI i58), (4, .one (.ptr 4 0)), (13, aD (.slice (.pair tI (.pair tI (.pair tI tI)))) a0), (14, aI (List.length a0 : Int)), (15, aI i58), (47, aB (v61.1 == (4 : Int)))]) (L' := [(4, .one (.pair tI (.pair tI (.pair tI tI))) v61)]) (obs := []) rfl (by kernel_rfl) allP0 ?_
                  rcases Bool.eq_false_or_eq_true (v61.1 == (4 : Int)) with h83 | h83
                  · replace h := ofT h83 h
                    refine WO_run (j := 11) (k := 7) (orcs := [(8, .known true), (10, .known true), (12, .known true), (14, .known true), (16, .known true), (18, .known true), (20, .known true)]) (kF := [0, 3, 4, 13, 14, 15, 47, 54]) (kL := [4]) (fr' := [(0, aD (.slice (.pair tI (.pair tI (.pair tI tI)))) a0), (3, aI i58), (4, .one (.ptr 4 0)), (13, aD (.slice (.pair tI (.pair tI (.pair tI tI)))) a0), (14, aI (List.length a0 : Int)), (15, aI i58), (47, aB (v61.1 == (4 : Int))), (54, aB (decide ((imin v61.2.1 v61.2.2.1) < (0 : Int))))]) (L' := [(4, .one (.pair tI (.pair tI (.pair tI tI))) v61)]) (obs := [((v61.1 == (4 : Int)) = true), ((v61.1 == (4 : Int)) = true), ((v61.1 == (4 : Int)) = true), ((v61.1 == (4 : Int)) = true), ((v61.1 == (4 : Int)) = true), ((v61.1 == (4 : Int)) = true), ((v61.1 == (4 : Int)) = true)]) rfl (by kernel_rfl) (allP2 h83 (allP2 h83 (allP2 h83 (allP2 h83 (allP2 h83 (allP2 h83 (allP1 h83))))))) ?_
                    rcases Bool.eq_false_or_eq_true (decide ((imin v61.2.1 v61.2.2.1) < (0 : Int))) with h84 | h84
                    · replace h := ofT h84 h
                      refine WO_run (j := 21) (k := 10) (orcs := [(22, .known true), (24, .known true), (26, .known true), (28, .known true), (30, .known true), (32, .known true), (34, .known true), (36, .known true), (37, .val (.dat .bool true)), (39, .val (.dat .bool true))]) (kF := [0, 13, 14, 15, 43]) (kL := [4]) (fr' := [(0, aD (.slice (.pair tI (.pair tI (.pair tI tI)))) a0), (13, aD (.slice (.pair tI (.pair tI (.pair tI tI)))) a0), (14, aI (List.length a0 : Int)), (15, aI i58), (43, aB true)]) (L' := [(4, .one (.pair tI (.pair tI (.pair tI tI))) v61)]) (obs := [((decide ((imin v61.2.1 v61.2.2.1) < (0 : Int))) = true), ((decide ((imin v61.2.1 v61.2.2.1) < (0 : Int))) = true), ((decide ((imin v61.2.1 v61.2.2.1) < (0 : Int))) = true), ((decide ((imin v61.2.1 v61.2.2.1) < (0 : Int))) = true), ((decide ((imin v61.2.1 v61.2.2.1) < (0 : Int))) = true), ((decide ((imin v61.2.1 v61.2.2.1) < (0 : Int))) = true), ((decide ((imin v61.2.1 v61.2.2.1) < (0 : Int))) = true), ((v61.1 == (4 : Int)) = true), ((decide ((imin v61.2.1 v61.2.2.1) < (0 : Int))) = true), ((v61.1 == (4 : Int)) = true)]) rfl (by kernel_rfl) (allP2 h84 (allP2 h84 (allP2 h84 (allP2 h84 (allP2 h84 (allP2 h84 (allP2 h84 (allP2 h83 (allP2 h84 (allP1 h83)))))))))) ?_
                      obtain rfl := Option.some.inj h
                      refine WO_fin [0, 13, 14, 15, 43] [] (fr' := [(0, aD (.slice (.pair tI (.pair tI (.pair tI tI)))) a0), (13, aD (.slice (.pair tI (.pair tI (.pair tI tI)))) a0), (14, aI (List.length a0 : Int)), (15, aI i58), (43, aB true)]) (L' := []) (by kernel_rfl) (by kernel_rfl) ?_
                      exact exQ_mk (by kernel_rfl) (by kernel_rfl)
                    · replace h := ofF h84 h
                      refine WO_run (j := 21) (k := 10) (orcs := [(22, .known false), (24, .known false), (26, .known false), (28, .known false), (30, .known false), (32, .known false), (34, .known false), (36, .known true), (37, .val (.dat .bool false)), (39, .val (.dat .bool true))]) (kF := [0, 13, 14, 15, 43]) (kL := [4]) (fr' := [(0, aD (.slice (.pair tI (.pair tI (.pair tI tI)))) a0), (13, aD (.slice (.pair tI (.pair tI (.pair tI tI)))) a0), (14, aI (List.length a0 : Int)), (15, aI i58), (43, aB (decide ((imax v61.2.1 v61.2.2.1) ≥ i58)))]) (L' := [(4, .one (.pair tI (.pair tI (.pair tI tI))) v61)]) (obs := [((decide ((imin v61.2.1 v61.2.2.1) < (0 : Int))) = false), ((decide ((imin v61.2.1 v61.2.2.1) < (0 : Int))) = false), ((decide ((imin v61.2.1 v61.2.2.1) < (0 : Int))) = false), ((decide ((imin v61.2.1 v61.2.2.1) < (0 : Int))) = false), ((decide ((imin v61.2.1 v61.2.2.1) < (0 : Int))) = false), ((decide ((imin v61.2.1 v61.2.2.1) < (0 : Int))) = false), ((decide ((imin v61.2.1 v61.2.2.1) < (0 : Int))) = false), ((v61.1 == (4 : Int)) = true), ((decide ((imin v61.2.1 v61.2.2.1) < (0 : Int))) = false), ((v61.1 == (4 : Int)) = true)]) rfl (by kernel_rfl) (allP2 h84 (allP2 h84 (allP2 h84 (allP2 h84 (allP2 h84 (allP2 h84 (allP2 h84 (allP2 h83 (allP2 h84 (allP1 h83)))))))))) ?_
                      obtain rfl := Option.some.inj h
                      refine WO_fin [0, 13, 14, 15, 43] [] (fr' := [(0, aD (.slice (.pair tI (.pair tI (.pair tI tI)))) a0), (13, aD (.slice (.pair tI (.pair tI (.pair tI tI)))) a0), (14, aI (List.length a0 : Int)), (15, aI i58), (43, aB (decide ((imax v61.2.1 v61.2.2.1) ≥ i58)))]) (L' := []) (by kernel_rfl) (by kernel_rfl) ?_
                      exact exQ_mk (by kernel_rfl) (by kernel_rfl)
                  · replace h := ofF h83 h
                    refine WO_run (j := 21) (k := 17) (orcs := [(8, .known false), (10, .known false), (12, .known false), (14, .known false), (16, .known false), (18, .known false), (20, .known false), (22, .known true), (24, .known true), (26, .known true), (28, .known true), (30, .known true), (32, .known true), (34, .known true), (36, .known false), (39, .val (.dat .bool false))]) (kF := [0, 13, 14, 15, 43]) (kL := [4]) (fr' := [(0, aD (.slice (.pair tI (.pair tI (.pair tI tI)))) a0), (13, aD (.slice (.pair tI (.pair tI (.pair tI tI)))) a0), (14, aI (List.length a0 : Int)), (15, aI i58), (43, aB false)]) (L' := [(4, .one (.pair tI (.pair tI (.pair tI tI))) v61)]) (obs := [((v61.1 == (4 : Int)) = false), ((v61.1 == (4 : Int)) = false), ((v61.1 == (4 : Int)) = false), ((v61.1 == (4 : Int)) = false), ((v61.1 == (4 : Int)) = false), ((v61.1 == (4 : Int)) = false), ((v61.1 == (4 : Int)) = false), ((v61.1 == (4 : Int)) = false), ((v61.1 == (4 : Int)) = false)]) rfl (by kernel_rfl) (allP2 h83 (allP2 h83 (allP2 h83 (allP2 h83 (allP2 h83 (allP2 h83 (allP2 h83 (allP2 h83 (allP1 h83))))))))) ?_
                    obtain rfl := Option.some.inj h
                    refine WO_fin [0, 13, 14, 15, 43] [] (fr' := [(0, aD (.slice (.pair tI (.pair tI (.pair tI tI)))) a0), (13, aD (.slice (.pair tI (.pair tI (.pair tI tI)))) a0), (14, aI (List.length a0 : Int)), (15, aI i58), (43, aB false)]) (L' := []) (by kernel_rfl) (by kernel_rfl) ?_
                    exact exQ_mk (by kernel_rfl) (by kernel_rfl)
                · intro e fr L hJ
                  obtain ⟨rfl, rfl, rfl⟩ := hJ
                  refine LT_keep [0, 13, 14, 15, 43] [] (fr' := [(0, aD (.slice (.pair tI (.pair tI (.pair tI tI)))) a0), (13, aD (.slice (.pair tI (.pair tI (.pair tI tI)))) a0), (14, aI (List.length a0 : Int)), (15, aI i58), (43, aB v85)]) (L' := []) (by kernel_rfl) ?_
                  refine seqQ_norm ?_
                  refine W_cond (o := .tmp 43) (b := v85) (by kernel_rfl) (by kernel_rfl) (fun h87 => ?_) (fun h87 => ?_)
                  · replace h := ofT h87 h
                    refine W_seq (by kernel_rfl) ?_
                    refine W_run 1 [] [2] [] (fr' := [(2, aI (2 : Int))]) (L' := []) (obs := []) (by kernel_rfl) (by kernel_rfl) (by kernel_rfl) allP0 ?_
                    refine seqQ_norm ?_
                    obtain rfl := Option.some.inj h
                    refine W_ret [2] [] (fr' := [(2, aI (2 : Int))]) (L' := []) (by kernel_rfl) (by kernel_rfl) ?_
                    refine blockQ_ret ?_
                    refine blockQ_ret ?_
                    refine seqQ_ret ?_
                    refine round_ret ?_
                    refine escQ_ret ?_
                    exact exQ_mk (by kernel_rfl) (by kernel_rfl)
                  · replace h := ofF h87 h
                    refine W_skip [0, 13, 14, 15] [] (fr' := [(0, aD (.slice (.pair tI (.pair tI (.pair tI tI)))) a0), (13, aD (.slice (.pair tI (.pair tI (.pair tI tI)))) a0), (14, aI (List.length a0 : Int)), (15, aI i58)]) (L' := []) (by kernel_rfl) (by kernel_rfl) ?_
                    refine blockQ_norm ?_
                    refine blockQ_norm ?_
                    refine seqQ_norm ?_
                    obtain rfl := Option.some.inj h
                    refine W_run 2 [] [0, 13, 14, 15] [] (fr' := [(0, aD (.slice (.pair tI (.pair tI (.pair tI tI)))) a0), (13, aD (.slice (.pair tI (.pair tI (.pair tI tI)))) a0), (14, aI (List.length a0 : Int)), (15, aI (w64 (i58 + (1 : Int))))]) (L' := []) (obs := []) (by kernel_rfl) (by kernel_rfl) (by kernel_rfl) allP0 ?_
                    exact round_next' (by kernel_rfl) (by kernel_rfl)
      · obtain rfl := stepL_false h63 h
        refine W_exit (id := 0) [0] [] (fr' := [(0, aD (.slice (.pair tI (.pair tI (.pair tI tI)))) a0)]) (L' := []) (by kernel_rfl) (by kernel_rfl) ?_
        refine seqQ_exit ?_
        refine round_exit ?_
        refine escQ_brk ?_
        exact exQ_mk (by kernel_rfl) (by kernel_rfl)
    · intro e fr L hJ
      rcases v89 with v94 | v95
      · obtain ⟨rfl, rfl, rfl⟩ := hJ
        obtain rfl := Option.some.inj h
        refine LT_keep [2] [] (fr' := [(2, aI v94)]) (L' := []) (by kernel_rfl) ?_
        refine blockQ_ret ?_
        refine seqQ_ret ?_
        exact retQ_mk (by kernel_rfl) (by kernel_rfl) (by kernel_rfl)
      · obtain ⟨rfl, rfl, rfl⟩ := hJ
        refine LT_keep [0] [] (fr' := [(0, aD (.slice (.pair tI (.pair tI (.pair tI tI)))) a0)]) (L' := []) (by kernel_rfl) ?_
        refine blockQ_hit ?_
        refine seqQ_norm ?_
        refine W_seq (by kernel_rfl) ?_
        refine W_seq (by kernel_rfl) ?_
        refine W_region (by kernel_rfl) ?_
        refine WO_run (j := 1) (k := 1) (orcs := []) (kF := [0, 65]) (kL := []) (fr' := [(0, aD (.slice (.pair tI (.pair tI (.pair tI tI)))) a0), (65, aD (.slice (.pair tI (.pair tI (.pair tI tI)))) a0)]) (L' := []) (obs := []) rfl (by kernel_rfl) allP0 ?_
        obtain ⟨r96, h97, h⟩ := bind_of h
        refine WO_call0 (us := [none]) (d := 66) (p := True) (j := 2) rfl ⟨by kernel_rfl, by kernel_rfl, by kernel_rfl⟩ trivial (comb_sizes_ok h97) (by kernel_rfl) ?_
        obtain ⟨v98, h99, h⟩ := bind_of h
        refine WO_run (j := 8) (k := 6) (orcs := [(11, .val (.dat tI v98))]) (kF := [72]) (kL := []) (fr' := [(72, aB (decide (v98 > (300 : Int))))]) (L' := []) (obs := [Idx r96 (w64 ((List.length a0 : Int) - (1 : Int))) v98]) rfl (by kernel_rfl) (allP1 (Idx.of h99)) ?_
        refine WO_fin [72] [] (fr' := [(72, aB (decide (v98 > (300 : Int))))]) (L' := []) (by kernel_rfl) (by kernel_rfl) ?_
        refine seqQ_norm ?_
        refine W_cond (o := .tmp 72) (b := decide (v98 > (300 : Int))) (by kernel_rfl) (by kernel_rfl) (fun h100 => ?_) (fun h100 => ?_)
        · replace h := ofT h100 h
          refine W_seq (by kernel_rfl) ?_
          refine W_run 1 [] [2] [] (fr' := [(2, aI (1 : Int))]) (L' := []) (obs := []) (by kernel_rfl) (by kernel_rfl) (by kernel_rfl) allP0 ?_
          refine seqQ_norm ?_
          obtain rfl := Option.some.inj h
          refine W_ret [2] [] (fr' := [(2, aI (1 : Int))]) (L' := []) (by kernel_rfl) (by kernel_rfl) ?_
          refine seqQ_ret ?_
          exact retQ_mk (by kernel_rfl) (by kernel_rfl) (by kernel_rfl)
        · replace h := ofF h100 h
          refine W_skip [] [] (fr' := []) (L' := []) (by kernel_rfl) (by kernel_rfl) ?_
          refine seqQ_norm ?_
          refine W_seq (by kernel_rfl) ?_
          refine W_run 1 [] [2] [] (fr' := [(2, aI (0 : Int))]) (L' := []) (obs := []) (by kernel_rfl) (by kernel_rfl) (by kernel_rfl) allP0 ?_
          refine seqQ_norm ?_
          obtain rfl := Option.some.inj h
          refine W_ret [2] [] (fr' := [(2, aI (0 : Int))]) (L' := []) (by kernel_rfl) (by kernel_rfl) ?_
          exact retQ_mk (by kernel_rfl) (by kernel_rfl) (by kernel_rfl)

def ref_Within (a0 : Int) (a1 : Int) (a2 : Int) : Option Bool :=
some ((decide (a0 ≤ a1)) && (decide (a1 ≤ a2)))
theorem ref_Within_ok {a0 : Int} {a1 : Int} {a2 : Int} {r : Bool} (h : ref_Within a0 a1 a2 = some r) : FnC Try.prog 20 [aI a0, aI a1, aI a2] [] (aB r) [] := by
  refine fnC_of_W (B := bodyOf Try.f20) (n := 15) Try.func20 (by kernel_rfl) (by kernel_rfl) (by kernel_rfl) (by kernel_rfl) (by kernel_rfl) ?_
  intro K
  refine W_seq (by kernel_rfl) ?_
  refine W_run 1 [] [0, 1, 2] [] (fr' := [(0, aI a0), (1, aI a1), (2, aI a2)]) (L' := []) (obs := []) (by kernel_rfl) (by kernel_rfl) (by kernel_rfl) allP0 ?_
  refine seqQ_norm ?_
  refine W_seq (by kernel_rfl) ?_
  refine W_run 9 [] [6] [] (fr' := [(6, aB ((decide (a0 ≤ a1)) && (decide (a1 ≤ a2))))]) (L' := []) (obs := []) (by kernel_rfl) (by kernel_rfl) (by kernel_rfl) allP0 ?_
  refine seqQ_norm ?_
  obtain rfl := Option.some.inj h
  refine W_ret [6] [] (fr' := [(6, aB ((decide (a0 ≤ a1)) && (decide (a1 ≤ a2))))]) (L' := []) (by kernel_rfl) (by kernel_rfl) ?_
  exact retQ_mk (by kernel_rfl) (by kernel_rfl) (by kernel_rfl)

def ref_Inside_b1 (a0 : Int) (i11 : Int) (v14 : Int) (x12 : Unit) : Option (Flow Unit (Esc Bool Unit)) :=
bif (decide (v14 < (0 : Int))) || (decide (v14 ≥ a0)) then
(some (.done (.ret false)))
else
(some (.next ()))
@[reducible] def ref_Inside_s2 (a0 : Int) (a1 : (List Int)) (v : Int × Unit) : Fr × LL := ([(0, aI a0), (7, aD (.slice tI) a1), (8, aI (List.length a1 : Int)), (9, aI v.1)], [])
@[reducible] def ref_Inside_s3 (v : Bool) : Fr × LL := ([(4, aB v)], [])
@[reducible] def ref_Inside_s4 (v : Unit) : Fr × LL := ([], [])
def ref_Inside (a0 : Int) (a1 : (List Int)) : Option Bool :=
(forL (ref_Inside_b1 a0) (fun x12 => (.brk ())) a1 0 ()).bind fun v19 =>
match v19 with
| .ret v24 =>
(some v24)
| .brk v25 =>
(some true)
theorem ref_Inside_ok {a0 : Int} {a1 : (List Int)} {r : Bool} (h : ref_Inside a0 a1 = some r) : FnC Try.prog 60 [aI a0, aD (.slice tI) a1] [] (aB r) [] := by
  refine fnC_of_W (B := bodyOf Try.f60) (n := 21) Try.func60 (by kernel_rfl) (by kernel_rfl) (by kernel_rfl) (by kernel_rfl) (by kernel_rfl) ?_
  intro K
  refine W_seq (by kernel_rfl) ?_
  refine W_run 1 [] [0, 1] [] (fr' := [(0, aI a0), (1, aD (.slice tI) a1)]) (L' := []) (obs := []) (by kernel_rfl) (by kernel_rfl) (by kernel_rfl) allP0 ?_
  refine seqQ_norm ?_
  refine W_seq (by kernel_rfl) ?_
  refine W_seq (by kernel_rfl) ?_
  refine W_run 3 [] [0, 7, 8, 9] [] (fr' := [(0, aI a0), (7, aD (.slice tI) a1), (8, aI (List.length a1 : Int)), (9, aI (0 : Int))]) (L' := []) (obs := []) (by kernel_rfl) (by kernel_rfl) (by kernel_rfl) allP0 ?_
  refine seqQ_norm ?_
  refine W_block (id := 0) (by kernel_rfl) ?_
  obtain ⟨v19, h20, h⟩ := bind_of h
  refine W_len (t := 7) (u := tI) (xs := a1) (by kernel_rfl) (fun h23 => ?_)
  obtain ⟨h21, h22⟩ := forL_iter h23 h20
  refine W_weaken [0, 7, 8, 9] [] (fr' := ((ref_Inside_s2 a0 a1) ((0 : Int), ())).1) (L' := ((ref_Inside_s2 a0 a1) ((0 : Int), ())).2) (by kernel_rfl) ?_
  refine W_cutK (W_loop (S := (ref_Inside_s2 a0 a1)) (J := (escQ (exQ .ret ref_Inside_s3) (exQ (.exit 0) ref_Inside_s4))) (by kernel_rfl) ?_ h21 _ v19 h22) ?_
  · rintro ⟨i11, x12⟩ s h
    refine W_seq (by kernel_rfl) ?_
    refine W_run 1 [] [0, 7, 8, 9, 10] [] (fr' := [(0, aI a0), (7, aD (.slice tI) a1), (8, aI (List.length a1 : Int)), (9, aI i11), (10, aB (decide (i11 < (List.length a1 : Int))))]) (L' := []) (obs := []) (by kernel_rfl) (by kernel_rfl) (by kernel_rfl) allP0 ?_
    refine seqQ_norm ?_
    refine W_seq (by kernel_rfl) ?_
    refine W_cond (o := .tmp 10) (b := decide (i11 < (List.length a1 : Int))) (by kernel_rfl) (by kernel_rfl) (fun h16 => ?_) (fun h16 => ?_)
    · replace h := stepL_true h16 h
      obtain ⟨v14, _, h15, h, rfl⟩ := h
      refine W_skip [0, 7, 8, 9] [] (fr' := [(0, aI a0), (7, aD (.slice tI) a1), (8, aI (List.length a1 : Int)), (9, aI i11)]) (L' := []) (by kernel_rfl) (by kernel_rfl) ?_
      refine seqQ_norm ?_
      refine W_seq (by kernel_rfl) ?_
      refine W_block (id := 1) (by kernel_rfl) ?_
      refine W_seq (by kernel_rfl) ?_
      refine W_run 3 [(1, .val (.dat tI v14))] [0, 6, 7, 8, 9] [] (fr' := [(0, aI a0), (6, aI v14), (7, aD (.slice tI) a1), (8, aI (List.length a1 : Int)), (9, aI i11)]) (L' := []) (obs := [Idx a1 i11 v14]) (by kernel_rfl) (by kernel_rfl) (by kernel_rfl) (allP1 (Idx.of h15)) ?_
      refine seqQ_norm ?_
      refine W_seq (by kernel_rfl) ?_
      refine W_run 7 [] [0, 7, 8, 9, 19] [] (fr' := [(0, aI a0), (7, aD (.slice tI) a1), (8, aI (List.length a1 : Int)), (9, aI i11), (19, aB ((decide (v14 < (0 : Int))) || (decide (v14 ≥ a0))))]) (L' := []) (obs := []) (by kernel_rfl) (by kernel_rfl) (by kernel_rfl) allP0 ?_
      refine seqQ_norm ?_
      refine W_cond (o := .tmp 19) (b := (decide (v14 < (0 : Int))) || (decide (v14 ≥ a0))) (by kernel_rfl) (by kernel_rfl) (fun h17 => ?_) (fun h17 => ?_)
      · replace h := ofT h17 h
        refine W_seq (by kernel_rfl) ?_
        refine W_run 1 [] [4] [] (fr' := [(4, aB false)]) (L' := []) (obs := []) (by kernel_rfl) (by kernel_rfl) (by kernel_rfl) allP0 ?_
        refine seqQ_norm ?_
        obtain rfl := Option.some.inj h
        refine W_ret [4] [] (fr' := [(4, aB false)]) (L' := []) (by kernel_rfl) (by kernel_rfl) ?_
        refine blockQ_ret ?_
        refine seqQ_ret ?_
        refine round_ret ?_
        refine escQ_ret ?_
        exact exQ_mk (by kernel_rfl) (by kernel_rfl)
      · replace h := ofF h17 h
        refine W_skip [0, 7, 8, 9] [] (fr' := [(0, aI a0), (7, aD (.slice tI) a1), (8, aI (List.length a1 : Int)), (9, aI i11)]) (L' := []) (by kernel_rfl) (by kernel_rfl) ?_
        refine blockQ_norm ?_
        refine seqQ_norm ?_
        obtain rfl := Option.some.inj h
        refine W_run 2 [] [0, 7, 8, 9] [] (fr' := [(0, aI a0), (7, aD (.slice tI) a1), (8, aI (List.length a1 : Int)), (9, aI (w64 (i11 + (1 : Int))))]) (L' := []) (obs := []) (by kernel_rfl) (by kernel_rfl) (by kernel_rfl) allP0 ?_
        exact round_next' (by kernel_rfl) (by kernel_rfl)
    · obtain rfl := stepL_false h16 h
      refine W_exit (id := 0) [] [] (fr' := []) (L' := []) (by kernel_rfl) (by kernel_rfl) ?_
      refine seqQ_exit ?_
      refine round_exit ?_
      refine escQ_brk ?_
      exact exQ_mk (by kernel_rfl) (by kernel_rfl)
  · intro e fr L hJ
    rcases v19 with v24 | v25
    · obtain ⟨rfl, rfl, rfl⟩ := hJ
      obtain rfl := Option.some.inj h
      refine LT_keep [4] [] (fr' := [(4, aB v24)]) (L' := []) (by kernel_rfl) ?_
      refine blockQ_ret ?_
      refine seqQ_ret ?_
      exact retQ_mk (by kernel_rfl) (by kernel_rfl) (by kernel_rfl)
    · obtain ⟨rfl, rfl, rfl⟩ := hJ
      refine LT_keep [] [] (fr' := []) (L' := []) (by kernel_rfl) ?_
      refine blockQ_hit ?_
      refine seqQ_norm ?_
      refine W_seq (by kernel_rfl) ?_
      refine W_run 1 [] [4] [] (fr' := [(4, aB true)]) (L' := []) (obs := []) (by kernel_rfl) (by kernel_rfl) (by kernel_rfl) allP0 ?_
      refine seqQ_norm ?_
      obtain rfl := Option.some.inj h
      refine W_ret [4] [] (fr' := [(4, aB true)]) (L' := []) (by kernel_rfl) (by kernel_rfl) ?_
      exact retQ_mk (by kernel_rfl) (by kernel_rfl) (by kernel_rfl)

@[reducible] def ref_CombCheck_s5 (a0 : (List (Int × (Int × (Int × Int))))) (i66 : Int) (v : Bool) : Fr × LL := ([(0, aD (.slice (.pair tI (.pair tI (.pair tI tI)))) a0), (12, aD (.slice (.pair tI (.pair tI (.pair tI tI)))) a0), (13, aI (List.length a0 : Int)), (14, aI i66), (44, aB v)], [])
@[reducible] def ref_CombCheck_s6 (a0 : (List (Int × (Int × (Int × Int))))) (i66 : Int) (v69 : (Int × (Int × (Int × Int)))) (v : Bool) : Fr × LL := ([(0, aD (.slice (.pair tI (.pair tI (.pair tI tI)))) a0), (3, aI i66), (4, .one (.ptr 4 0)), (12, aD (.slice (.pair tI (.pair tI (.pair tI tI)))) a0), (13, aI (List.length a0 : Int)), (14, aI i66), (31, aB v)], [(4, .one (.pair tI (.pair tI (.pair tI tI))) v69)])
def ref_CombCheck_b7 (i66 : Int) (v69 : (Int × (Int × (Int × Int)))) (x67 : Unit) : Option (Flow Unit (Esc Int Unit)) :=
(ref_Within (1 : Int) v69.1 (4 : Int)).bind fun r72 =>
bif !r72 then
(some (.done (.ret (6 : Int))))
else
((bif v69.1 == (3 : Int) then
((ref_Within (0 : Int) v69.2.2.2 (1000 : Int)).bind fun r82 =>
some (!r82))
else
(some false)).bind fun v84 =>
bif v84 then
(some (.done (.ret (4 : Int))))
else
((bif v69.1 == (4 : Int) then
((ref_Inside i66 [v69.2.1, v69.2.2.1]).bind fun r94 =>
some (!r94))
else
(some false)).bind fun v96 =>
bif v96 then
(some (.done (.ret (2 : Int))))
else
(some (.next ()))))
@[reducible] def ref_CombCheck_s8 (a0 : (List (Int × (Int × (Int × Int))))) (v : Int × Unit) : Fr × LL := ([(0, aD (.slice (.pair tI (.pair tI (.pair tI tI)))) a0), (12, aD (.slice (.pair tI (.pair tI (.pair tI tI)))) a0), (13, aI (List.length a0 : Int)), (14, aI v.1)], [])
@[reducible] def ref_CombCheck_s9 (v : Int) : Fr × LL := ([(2, aI v)], [])
@[reducible] def ref_CombCheck_s10 (a0 : (List (Int × (Int × (Int × Int))))) (v : Unit) : Fr × LL := ([(0, aD (.slice (.pair tI (.pair tI (.pair tI tI)))) a0)], [])
def ref_CombCheck_g31 (i296 : Int) (x297 : (List Int)) (v299 : (Int × (Int × (Int × Int)))) : Option (List Int) :=
bif v299.1 == (4 : Int) then
((idx (List.set x297 (Int.toNat i296) (1 : Int)) v299.2.1).bind fun v375 =>
(idx (List.set x297 (Int.toNat i296) (1 : Int)) v299.2.2.1).bind fun v377 =>
(idx (List.set x297 (Int.toNat i296) (1 : Int)) i296).bind fun v379 =>
some (List.set (List.set x297 (Int.toNat i296) (1 : Int)) (Int.toNat i296) (w64 ((w64 ((1 : Int) + v375)) + v377))))
else
(some (List.set x297 (Int.toNat i296) (1 : Int)))
@[reducible] def ref_CombCheck_s32 (a0 : (List (Int × (Int × (Int × Int))))) (i296 : Int) (v : (List Int)) : Fr × LL := ([(0, aD (.slice (.pair tI (.pair tI (.pair tI tI)))) a0), (5, .one (.slc 48)), (6, aI i296), (49, aD (.slice (.pair tI (.pair tI (.pair tI tI)))) a0), (50, aI (List.length a0 : Int)), (51, aI i296)], [(48, .seq tI v)])
def ref_CombCheck_g33 (i296 : Int) (x297 : (List Int)) (v299 : (Int × (Int × (Int × Int)))) : Option (List Int) :=
(idx x297 i296).bind fun v358 =>
(ref_CombCheck_g31 i296 x297 v299).bind fun v381 =>
(idx v381 i296).bind fun v383 =>
bif decide (v383 > (300 : Int)) then
(some (List.set v381 (Int.toNat i296) (301 : Int)))
else
(some v381)
@[reducible] def ref_CombCheck_s34 (a0 : (List (Int × (Int × (Int × Int))))) (i296 : Int) (v : (List Int)) : Fr × LL := ([(0, aD (.slice (.pair tI (.pair tI (.pair tI tI)))) a0), (5, .one (.slc 48)), (49, aD (.slice (.pair tI (.pair tI (.pair tI tI)))) a0), (50, aI (List.length a0 : Int)), (51, aI i296)], [(48, .seq tI v)])
def ref_CombCheck_b35 (i296 : Int) (v299 : (Int × (Int × (Int × Int)))) (x297 : (List Int)) : Option (Flow (List Int) (List Int)) :=
(ref_CombCheck_g33 i296 x297 v299).bind fun v386 =>
some (.next v386)
@[reducible] def ref_CombCheck_s36 (a0 : (List (Int × (Int × (Int × Int))))) (v : Int × (List Int)) : Fr × LL := ([(0, aD (.slice (.pair tI (.pair tI (.pair tI tI)))) a0), (5, .one (.slc 48)), (49, aD (.slice (.pair tI (.pair tI (.pair tI tI)))) a0), (50, aI (List.length a0 : Int)), (51, aI v.1)], [(48, .seq tI v.2)])
@[reducible] def ref_CombCheck_s37 (a0 : (List (Int × (Int × (Int × Int))))) (v : (List Int)) : Fr × LL := ([(0, aD (.slice (.pair tI (.pair tI (.pair tI tI)))) a0), (5, .one (.slc 48))], [(48, .seq tI v)])
def ref_CombCheck (a0 : (List (Int × (Int × (Int × Int))))) : Option Int :=
(ref_Within (1 : Int) (List.length a0 : Int) (40 : Int)).bind fun r1 =>
bif !r1 then
(some (1 : Int))
else
((forL ref_CombCheck_b7 (fun x67 => (.brk ())) a0 0 ()).bind fun v100 =>
match v100 with
| .ret v105 =>
(some v105)
| .brk v106 =>
((ck (0 ≤ (List.length a0 : Int) ∧ (List.length a0 : Int) = (List.length a0 : Int) ∧ (List.length a0 : Int) ≤ 4294967296)).bind fun _ =>
(forL ref_CombCheck_b35 (fun x297 => x297) a0 0 (List.replicate (Int.toNat (List.length a0 : Int)) (0 : Int))).bind fun v389 =>
(idx v389 (w64 ((List.length a0 : Int) - (1 : Int)))).bind fun v394 =>
bif decide (v394 > (300 : Int)) then
(some (1 : Int))
else
(some (0 : Int))))
theorem ref_CombCheck_ok {a0 : (List (Int × (Int × (Int × Int))))} {r : Int} (h : ref_CombCheck a0 = some r) : FnC Try.prog 27 [aD (.slice (.pair tI (.pair tI (.pair tI tI)))) a0] [] (aI r) [] := by
  refine fnC_of_W (B := bodyOf Try.f27) (n := 93) Try.func27 (by kernel_rfl) (by kernel_rfl) (by kernel_rfl) (by kernel_rfl) (by kernel_rfl) ?_
  intro K
  refine W_seq (by kernel_rfl) ?_
  refine W_run 1 [] [0] [] (fr' := [(0, aD (.slice (.pair tI (.pair tI (.pair tI tI)))) a0)]) (L' := []) (obs := []) (by kernel_rfl) (by kernel_rfl) (by kernel_rfl) allP0 ?_
  refine seqQ_norm ?_
  refine W_seq (by kernel_rfl) ?_
  refine W_seq (by kernel_rfl) ?_
  refine W_region (by kernel_rfl) ?_
  refine WO_run (j := 2) (k := 2) (orcs := []) (kF := [0, 9]) (kL := []) (fr' := [(0, aD (.slice (.pair tI (.pair tI (.pair tI tI)))) a0), (9, aI (List.length a0 : Int))]) (L' := []) (obs := []) rfl (by kernel_rfl) allP0 ?_
  obtain ⟨r1, h2, h⟩ := bind_of h
  refine WO_call0 (us := [none, none, none]) (d := 10) (p := True) (j := 3) rfl ⟨by kernel_rfl, by kernel_rfl, by kernel_rfl⟩ trivial (ref_Within_ok h2) (by kernel_rfl) ?_
  refine WO_run (j := 4) (k := 1) (orcs := []) (kF := [0, 11]) (kL := []) (fr' := [(0, aD (.slice (.pair tI (.pair tI (.pair tI tI)))) a0), (11, aB (!r1))]) (L' := []) (obs := []) rfl (by kernel_rfl) allP0 ?_
  refine WO_fin [0, 11] [] (fr' := [(0, aD (.slice (.pair tI (.pair tI (.pair tI tI)))) a0), (11, aB (!r1))]) (L' := []) (by kernel_rfl) (by kernel_rfl) ?_
  refine seqQ_norm ?_
  refine W_cond (o := .tmp 11) (b := !r1) (by kernel_rfl) (by kernel_rfl) (fun h3 => ?_) (fun h3 => ?_)
  · replace h := ofT h3 h
    refine W_seq (by kernel_rfl) ?_
    refine W_run 1 [] [2] [] (fr' := [(2, aI (1 : Int))]) (L' := []) (obs := []) (by kernel_rfl) (by kernel_rfl) (by kernel_rfl) allP0 ?_
    refine seqQ_norm ?_
    obtain rfl := Option.some.inj h
    refine W_ret [2] [] (fr' := [(2, aI (1 : Int))]) (L' := []) (by kernel_rfl) (by kernel_rfl) ?_
    refine seqQ_ret ?_
    exact retQ_mk (by kernel_rfl) (by kernel_rfl) (by kernel_rfl)
  · replace h := ofF h3 h
    refine W_skip [0] [] (fr' := [(0, aD (.slice (.pair tI (.pair tI (.pair tI tI)))) a0)]) (L' := []) (by kernel_rfl) (by kernel_rfl) ?_
    refine seqQ_norm ?_
    refine W_seq (by kernel_rfl) ?_
    refine W_seq (by kernel_rfl) ?_
    refine W_run 3 [] [0, 12, 13, 14] [] (fr' := [(0, aD (.slice (.pair tI (.pair tI (.pair tI tI)))) a0), (12, aD (.slice (.pair tI (.pair tI (.pair tI tI)))) a0), (13, aI (List.length a0 : Int)), (14, aI (0 : Int))]) (L' := []) (obs := []) (by kernel_rfl) (by kernel_rfl) (by kernel_rfl) allP0 ?_
    refine seqQ_norm ?_
    refine W_block (id := 0) (by kernel_rfl) ?_
    obtain ⟨v100, h101, h⟩ := bind_of h
    refine W_len (t := 12) (u := (.pair tI (.pair tI (.pair tI tI)))) (xs := a0) (by kernel_rfl) (fun h104 => ?_)
    obtain ⟨h102, h103⟩ := forL_iter h104 h101
    refine W_weaken [0, 12, 13, 14] [] (fr' := ((ref_CombCheck_s8 a0) ((0 : Int), ())).1) (L' := ((ref_CombCheck_s8 a0) ((0 : Int), ())).2) (by kernel_rfl) ?_
    refine W_cutK (W_loop (S := (ref_CombCheck_s8 a0)) (J := (escQ (exQ .ret ref_CombCheck_s9) (exQ (.exit 0) (ref_CombCheck_s10 a0)))) (by kernel_rfl) ?_ h102 _ v100 h103) ?_
    · rintro ⟨i66, x67⟩ s h
      refine W_seq (by kernel_rfl) ?_
      refine W_run 1 [] [0, 12, 13, 14, 15] [] (fr' := [(0, aD (.slice (.pair tI (.pair tI (.pair tI tI)))) a0), (12, aD (.slice (.pair tI (.pair tI (.pair tI tI)))) a0), (13, aI (List.length a0 : Int)), (14, aI i66), (15, aB (decide (i66 < (List.length a0 : Int))))]) (L' := []) (obs := []) (by kernel_rfl) (by kernel_rfl) (by kernel_rfl) allP0 ?_
      refine seqQ_norm ?_
      refine W_seq (by kernel_rfl) ?_
      refine W_cond (o := .tmp 15) (b := decide (i66 < (List.length a0 : Int))) (by kernel_rfl) (by kernel_rfl) (fun h71 => ?_) (fun h71 => ?_)
      · replace h := stepL_true h71 h
        obtain ⟨v69, _, h70, h, rfl⟩ := h
        refine W_skip [0, 12, 13, 14] [] (fr' := [(0, aD (.slice (.pair tI (.pair tI (.pair tI tI)))) a0), (12, aD (.slice (.pair tI (.pair tI (.pair tI tI)))) a0), (13, aI (List.length a0 : Int)), (14, aI i66)]) (L' := []) (by kernel_rfl) (by kernel_rfl) ?_
        refine seqQ_norm ?_
        refine W_seq (by kernel_rfl) ?_
        refine W_block (id := 1) (by kernel_rfl) ?_
        refine W_seq (by kernel_rfl) ?_
        refine W_run 6 [(3, .val (.dat (.pair tI (.pair tI (.pair tI tI))) v69)), (7, .typed)] [0, 3, 4, 12, 13, 14] [4] (fr' := [(0, aD (.slice (.pair tI (.pair tI (.pair tI tI)))) a0), (3, aI i66), (4, .one (.ptr 4 0)), (12, aD (.slice (.pair tI (.pair tI (.pair tI tI)))) a0), (13, aI (List.length a0 : Int)), (14, aI i66)]) (L' := [(4, .one (.pair tI (.pair tI (.pair tI tI))) v69)]) (obs := [Idx a0 i66 v69, True]) (by kernel_rfl) (by kernel_rfl) (by kernel_rfl) (allP2 (Idx.of h70) (allP1 trivial)) ?_
        refine seqQ_norm ?_
        refine W_seq (by kernel_rfl) ?_
        refine W_seq (by kernel_rfl) ?_
        refine W_region (by kernel_rfl) ?_
        refine WO_run (j := 2) (k := 2) (orcs := []) (kF := [0, 3, 4, 12, 13, 14, 20]) (kL := [4]) (fr' := [(0, aD (.slice (.pair tI (.pair tI (.pair tI tI)))) a0), (3, aI i66), (4, .one (.ptr 4 0)), (12, aD (.slice (.pair tI (.pair tI (.pair tI tI)))) a0), (13, aI (List.length a0 : Int)), (14, aI i66), (20, aI v69.1)]) (L' := [(4, .one (.pair tI (.pair tI (.pair tI tI))) v69)]) (obs := []) rfl (by kernel_rfl) allP0 ?_
        obtain ⟨r72, h73, h⟩ := bind_of h
        refine WO_call0 (us := [none, none, none]) (d := 21) (p := True) (j := 3) rfl ⟨by kernel_rfl, by kernel_rfl, by kernel_rfl⟩ trivial (ref_Within_ok h73) (by kernel_rfl) ?_
        refine WO_run (j := 4) (k := 1) (orcs := []) (kF := [0, 3, 4, 12, 13, 14, 22]) (kL := [4]) (fr' := [(0, aD (.slice (.pair tI (.pair tI (.pair tI tI)))) a0), (3, aI i66), (4, .one (.ptr 4 0)), (12, aD (.slice (.pair tI (.pair tI (.pair tI tI)))) a0), (13, aI (List.length a0 : Int)), (14, aI i66), (22, aB (!r72))]) (L' := [(4, .one (.pair tI (.pair tI (.pair tI tI))) v69)]) (obs := []) rfl (by kernel_rfl) allP0 ?_
        refine WO_fin [0, 3, 4, 12, 13, 14, 22] [4] (fr' := [(0, aD (.slice (.pair tI (.pair tI (.pair tI tI)))) a0), (3, aI i66), (4, .one (.ptr 4 0)), (12, aD (.slice (.pair tI (.pair tI (.pair tI tI)))) a0), (13, aI (List.length a0 : Int)), (14, aI i66), (22, aB (!r72))]) (L' := [(4, .one (.pair tI (.pair tI (.pair tI tI))) v69)]) (by kernel_rfl) (by kernel_rfl) ?_
        refine seqQ_norm ?_
        refine W_cond (o := .tmp 22) (b := !r72) (by kernel_rfl) (by kernel_rfl) (fun h74 => ?_) (fun h74 => ?_)
        · replace h := ofT h74 h
          refine W_seq (by kernel_rfl) ?_
          refine W_run 1 [] [2] [] (fr' := [(2, aI (6 : Int))]) (L' := []) (obs := []) (by kernel_rfl) (by kernel_rfl) (by kernel_rfl) allP0 ?_
          refine seqQ_norm ?_
          obtain rfl := Option.some.inj h
          refine W_ret [2] [] (fr' := [(2, aI (6 : Int))]) (L' := []) (by kernel_rfl) (by kernel_rfl) ?_
          refine seqQ_ret ?_
          refine blockQ_ret ?_
          refine seqQ_ret ?_
          refine round_ret ?_
          refine escQ_ret ?_
          exact exQ_mk (by kernel_rfl) (by kernel_rfl)
        · replace h := ofF h74 h
          refine W_skip [0, 3, 4, 12, 13, 14] [4] (fr' := [(0, aD (.slice (.pair tI (.pair tI (.pair tI tI)))) a0), (3, aI i66), (4, .one (.ptr 4 0)), (12, aD (.slice (.pair tI (.pair tI (.pair tI tI)))) a0), (13, aI (List.length a0 : Int)), (14, aI i66)]) (L' := [(4, .one (.pair tI (.pair tI (.pair tI tI))) v69)]) (by kernel_rfl) (by kernel_rfl) ?_
          refine seqQ_norm ?_
          refine W_seq (by kernel_rfl) ?_
          refine W_seq (by kernel_rfl) ?_
          obtain ⟨v84, h85, h⟩ := bind_of h
          refine W_cutK (Q' := (exQ .normal (ref_CombCheck_s6 a0 i66 v69)) v84) ?_ ?_
          · replace h := h85
            refine W_region (by kernel_rfl) ?_
            refine WO_run (j := 4) (k := 4) (orcs := []) (kF := [0, 3, 4, 12, 13, 14, 26]) (kL := [4]) (fr' := [(0, aD (.slice (.pair tI (.pair tI (.pair tI tI)))) a0), (3, aI i66), (4, .one (.ptr 4 0)), (12, aD (.slice (.pair tI (.pair tI (.pair tI tI)))) a0), (13, aI (List.length a0 : Int)), (14, aI i66), (26, aB (v69.1 == (3 : Int)))]) (L' := [(4, .one (.pair tI (.pair tI (.pair tI tI))) v69)]) (obs := []) rfl (by kernel_rfl) allP0 ?_
            rcases Bool.eq_false_or_eq_true (v69.1 == (3 : Int)) with h81 | h81
            · replace h := ofT h81 h
              refine WO_run (j := 6) (k := 2) (orcs := [(8, .known true), (10, .known true)]) (kF := [0, 3, 4, 12, 13, 14, 26, 28]) (kL := [4]) (fr' := [(0, aD (.slice (.pair tI (.pair tI (.pair tI tI)))) a0), (3, aI i66), (4, .one (.ptr 4 0)), (12, aD (.slice (.pair tI (.pair tI (.pair tI tI)))) a0), (13, aI (List.length a0 : Int)), (14, aI i66), (26, aB (v69.1 == (3 : Int))), (28, aI v69.2.2.2)]) (L' := [(4, .one (.pair tI (.pair tI (.pair tI tI))) v69)]) (obs := [((v69.1 == (3 : Int)) = true), ((v69.1 == (3 : Int)) = true)]) rfl (by kernel_rfl) (allP2 h81 (allP1 h81)) ?_
              obtain ⟨r82, h83, h⟩ := bind_of h
              refine WO_call0 (us := [none, none, none]) (d := 29) (p := ((v69.1 == (3 : Int)) = true)) (j := 7) rfl ⟨by kernel_rfl, by kernel_rfl, by kernel_rfl⟩ h81 (ref_Within_ok h83) (by kernel_rfl) ?_
              refine WO_run (j := 9) (k := 2) (orcs := [(14, .known true), (17, .val (.dat .bool true))]) (kF := [0, 3, 4, 12, 13, 14, 31]) (kL := [4]) (fr' := [(0, aD (.slice (.pair tI (.pair tI (.pair tI tI)))) a0), (3, aI i66), (4, .one (.ptr 4 0)), (12, aD (.slice (.pair tI (.pair tI (.pair tI tI)))) a0), (13, aI (List.length a0 : Int)), (14, aI i66), (31, aB (!r82))]) (L' := [(4, .one (.pair tI (.pair tI (.pair tI tI))) v69)]) (obs := [((v69.1 == (3 : Int)) = true), ((v69.1 == (3 : Int)) = true)]) rfl (by kernel_rfl) (allP2 h81 (allP1 h81)) ?_
              obtain rfl := Option.some.inj h
              refine WO_fin [0, 3, 4, 12, 13, 14, 31] [4] (fr' := [(0, aD (.slice (.pair tI (.pair tI (.pair tI tI)))) a0), (3, aI i66), (4, .one (.ptr 4 0)), (12, aD (.slice (.pair tI (.pair tI (.pair tI tI)))) a0), (13, aI (List.length a0 : Int)), (14, aI i66), (31, aB (!r82))]) (L' := [(4, .one (.pair tI (.pair tI (.pair tI tI))) v69)]) (by kernel_rfl) (by kernel_rfl) ?_
              exact exQ_mk (by kernel_rfl) (by kernel_rfl)
            · replace h := ofF h81 h
              refine WO_run (j := 9) (k := 5) (orcs := [(8, .known false), (10, .known false), (12, .known false), (14, .known false), (17, .val (.dat .bool false))]) (kF := [0, 3, 4, 12, 13, 14, 31]) (kL := [4]) (fr' := [(0, aD (.slice (.pair tI (.pair tI (.pair tI tI)))) a0), (3, aI i66), (4, .one (.ptr 4 0)), (12, aD (.slice (.pair tI (.pair tI (.pair tI tI)))) a0), (13, aI (List.length a0 : Int)), (14, aI i66), (31, aB false)]) (L' := [(4, .one (.pair tI (.pair tI (.pair tI tI))) v69)]) (obs := [((v69.1 == (3 : Int)) = false), ((v69.1 == (3 : Int)) = false), ((v69.1 == (3 : Int)) = false), ((v69.1 == (3 : Int)) = false), ((v69.1 == (3 : Int)) = false)]) rfl (by kernel_rfl) (allP2 h81 (allP2 h81 (allP2 h81 (allP2 h81 (allP1 h81))))) ?_
              obtain rfl := Option.some.inj h
              refine WO_fin [0, 3, 4, 12, 13, 14, 31] [4] (fr' := [(0, aD (.slice (.pair tI (.pair tI (.pair tI tI)))) a0), (3, aI i66), (4, .one (.ptr 4 0)), (12, aD (.slice (.pair tI (.pair tI (.pair tI tI)))) a0), (13, aI (List.length a0 : Int)), (14, aI i66), (31, aB false)]) (L' := [(4, .one (.pair tI (.pair tI (.pair tI tI))) v69)]) (by kernel_rfl) (by kernel_rfl) ?_
              exact exQ_mk (by kernel_rfl) (by kernel_rfl)
          · intro e fr L hJ
            obtain ⟨rfl, rfl, rfl⟩ := hJ
            refine LT_keep [0, 3, 4, 12, 13, 14, 31] [4] (fr' := [(0, aD (.slice (.pair tI (.pair tI (.pair tI tI)))) a0), (3, aI i66), (4, .one (.ptr 4 0)), (12, aD (.slice (.pair tI (.pair tI (.pair tI tI)))) a0), (13, aI (List.length a0 : Int)), (14, aI i66), (31, aB v84)]) (L' := [(4, .one (.pair tI (.pair tI (.pair tI tI))) v69)]) (by kernel_rfl) ?_
            refine seqQ_norm ?_
            refine W_cond (o := .tmp 31) (b := v84) (by kernel_rfl) (by kernel_rfl) (fun h86 => ?_) (fun h86 => ?_)
            · replace h := ofT h86 h
              refine W_seq (by kernel_rfl) ?_
              refine W_run 1 [] [2] [] (fr' := [(2, aI (4 : Int))]) (L' := []) (obs := []) (by kernel_rfl) (by kernel_rfl) (by kernel_rfl) allP0 ?_
              refine seqQ_norm ?_
              obtain rfl := Option.some.inj h
              refine W_ret [2] [] (fr' := [(2, aI (4 : Int))]) (L' := []) (by kernel_rfl) (by kernel_rfl) ?_
              refine seqQ_ret ?_
              refine blockQ_ret ?_
              refine seqQ_ret ?_
              refine round_ret ?_
              refine escQ_ret ?_
              exact exQ_mk (by kernel_rfl) (by kernel_rfl)
            · replace h := ofF h86 h
              refine W_skip [0, 3, 4, 12, 13, 14] [4] (fr' := [(0, aD (.slice (.pair tI (.pair tI (.pair tI tI)))) a0), (3, aI i66), (4, .one (.ptr 4 0)), (12, aD (.slice (.pair tI (.pair tI (.pair tI tI)))) a0), (13, aI (List.length a0 : Int)), (14, aI i66)]) (L' := [(4, .one (.pair tI (.pair tI (.pair tI tI))) v69)]) (by kernel_rfl) (by kernel_rfl) ?_
              refine seqQ_norm ?_
              refine W_seq (by kernel_rfl) ?_
              obtain ⟨v96, h97, h⟩ := bind_of h
              refine W_cutK (Q' := (exQ .normal (ref_CombCheck_s5 a0 i66)) v96) ?_ ?_
              · replace h := h97
                refine W_region (by kernel_rfl) ?_
                refine WO_run (j := 4) (k := 4) (orcs := []) (kF := [0, 3, 4, 12, 13, 14, 35]) (kL := [4]) (fr' := [(0, aD (.slice (.pair tI (.pair tI (.pair tI tI)))) a0), (3, aI i66), (4, .one (.ptr 4 0)), (12, aD (.slice (.pair tI (.pair tI (.pair tI tI)))) a0), (13, aI (List.length a0 : Int)), (14, aI i66), (35, aB (v69.1 == (4 : Int)))]) (L' := [(4, .one (.pair tI (.pair tI (.pair tI tI))) v69)]) (obs := []) rfl (by kernel_rfl) allP0 ?_
                rcases Bool.eq_false_or_eq_true (v69.1 == (4 : Int)) with h93 | h93
                · replace h := ofT h93 h
                  refine WO_run (j := 10) (k := 6) (orcs := [(8, .known true), (10, .known true), (12, .known true), (14, .known true), (16, .known true), (18, .known true)]) (kF := [0, 12, 13, 14, 35, 36, 41]) (kL := [4, 41]) (fr' := [(0, aD (.slice (.pair tI (.pair tI (.pair tI tI)))) a0), (12, aD (.slice (.pair tI (.pair tI (.pair tI tI)))) a0), (13, aI (List.length a0 : Int)), (14, aI i66), (35, aB (v69.1 == (4 : Int))), (36, aI i66), (41, .one (.slc 41))]) (L' := [(4, .one (.pair tI (.pair tI (.pair tI tI))) v69), (41, .seq tI [v69.2.1, v69.2.2.1])]) (obs := [((v69.1 == (4 : Int)) = true), ((v69.1 == (4 : Int)) = true), ((v69.1 == (4 : Int)) = true), ((v69.1 == (4 : Int)) = true), ((v69.1 == (4 : Int)) = true), ((v69.1 == (4 : Int)) = true)]) rfl (by kernel_rfl) (allP2 h93 (allP2 h93 (allP2 h93 (allP2 h93 (allP2 h93 (allP1 h93)))))) ?_
                  obtain ⟨r94, h95, h⟩ := bind_of h
                  refine WO_frz 41 (by kernel_rfl) ?_
                  refine WO_call0 (us := [none, none]) (d := 42) (p := ((v69.1 == (4 : Int)) = true)) (j := 11) rfl ⟨by kernel_rfl, by kernel_rfl, by kernel_rfl⟩ h93 (ref_Inside_ok h95) (by kernel_rfl) ?_
                  refine WO_run (j := 13) (k := 2) (orcs := [(22, .known true), (25, .val (.dat .bool true))]) (kF := [0, 12, 13, 14, 44]) (kL := [4]) (fr' := [(0, aD (.slice (.pair tI (.pair tI (.pair tI tI)))) a0), (12, aD (.slice (.pair tI (.pair tI (.pair tI tI)))) a0), (13, aI (List.length a0 : Int)), (14, aI i66), (44, aB (!r94))]) (L' := [(4, .one (.pair tI (.pair tI (.pair tI tI))) v69)]) (obs := [((v69.1 == (4 : Int)) = true), ((v69.1 == (4 : Int)) = true)]) rfl (by kernel_rfl) (allP2 h93 (allP1 h93)) ?_
                  obtain rfl := Option.some.inj h
                  refine WO_fin [0, 12, 13, 14, 44] [] (fr' := [(0, aD (.slice (.pair tI (.pair tI (.pair tI tI)))) a0), (12, aD (.slice (.pair tI (.pair tI (.pair tI tI)))) a0), (13, aI (List.length a0 : Int)), (14, aI i66), (44, aB (!r94))]) (L' := []) (by kernel_rfl) (by kernel_rfl) ?_
                  exact exQ_mk (by kernel_rfl) (by kernel_rfl)
                · replace h := ofF h93 h
                  refine WO_run (j := 13) (k := 9) (orcs := [(8, .known false), (10, .known false), (12, .known false), (14, .known false), (16, .known false), (18, .known false), (20, .known false), (22, .known false), (25, .val (.dat .bool false))]) (kF := [0, 12, 13, 14, 44]) (kL := [4]) (fr' := [(0, aD (.slice (.pair tI (.pair tI (.pair tI tI)))) a0), (12, aD (.slice (.pair tI (.pair tI (.pair tI tI)))) a0), (13, aI (List.length a0 : Int)), (14, aI i66), (44, aB false)]) (L' := [(4, .one (.pair tI (.pair tI (.pair tI tI))) v69)]) (obs := [((v69.1 == (4 : Int)) = false), ((v69.1 == (4 : Int)) = false), ((v69.1 == (4 : Int)) = false), ((v69.1 == (4 : Int)) = false), ((v69.1 == (4 : Int)) = false), ((v69.1 == (4 : Int)) = false), ((v69.1 == (4 : Int)) = false), ((v69.1 == (4 : Int)) = false), ((v69.1 == (4 : Int)) = false)]) rfl (by kernel_rfl) (allP2 h93 (allP2 h93 (allP2 h93 (allP2 h93 (allP2 h93 (allP2 h93 (allP2 h93 (allP2 h93 (allP1 h93))))))))) ?_
                  obtain rfl := Option.some.inj h
                  refine WO_fin [0, 12, 13, 14, 44] [] (fr' := [(0, aD (.slice (.pair tI (.pair tI (.pair tI tI)))) a0), (12, aD (.slice (.pair tI (.pair tI (.pair tI tI)))) a0), (13, aI (List.length a0 : Int)), (14, aI i66), (44, aB false)]) (L' := []) (by kernel_rfl) (by kernel_rfl) ?_
                  exact exQ_mk (by kernel_rfl) (by kernel_rfl)
              · intro e fr L hJ
                obtain ⟨rfl, rfl, rfl⟩ := hJ
                refine LT_keep [0, 12, 13, 14, 44] [] (fr' := [(0, aD (.slice (.pair tI (.pair tI (.pair tI tI)))) a0), (12, aD (.slice (.pair tI (.pair tI (.pair tI tI)))) a0), (13, aI (List.length a0 : Int)), (14, aI i66), (44, aB v96)]) (L' := []) (by kernel_rfl) ?_
                refine seqQ_norm ?_
                refine W_cond (o := .tmp 44) (b := v96) (by kernel_rfl) (by kernel_rfl) (fun h98 => ?_) (fun h98 => ?_)
                · replace h := ofT h98 h
                  refine W_seq (by kernel_rfl) ?_
                  refine W_run 1 [] [2] [] (fr' := [(2, aI (2 : Int))]) (L' := []) (obs := []) (by kernel_rfl) (by kernel_rfl) (by kernel_rfl) allP0 ?_
                  refine seqQ_norm ?_
                  obtain rfl := Option.some.inj h
                  refine W_ret [2] [] (fr' := [(2, aI (2 : Int))]) (L' := []) (by kernel_rfl) (by kernel_rfl) ?_
                  refine blockQ_ret ?_
                  refine seqQ_ret ?_
                  refine round_ret ?_
                  refine escQ_ret ?_
                  exact exQ_mk (by kernel_rfl) (by kernel_rfl)
                · replace h := ofF h98 h
                  refine W_skip [0, 12, 13, 14] [] (fr' := [(0, aD (.slice (.pair tI (.pair tI (.pair tI tI)))) a0), (12, aD (.slice (.pair tI (.pair tI (.pair tI tI)))) a0), (13, aI (List.length a0 : Int)), (14, aI i66)]) (L' := []) (by kernel_rfl) (by kernel_rfl) ?_
                  refine blockQ_norm ?_
                  refine seqQ_norm ?_
                  obtain rfl := Option.some.inj h
                  refine W_run 2 [] [0, 12, 13, 14] [] (fr' := [(0, aD (.slice (.pair tI (.pair tI (.pair tI tI)))) a0), (12, aD (.slice (.pair tI (.pair tI (.pair tI tI)))) a0), (13, aI (List.length a0 : Int)), (14, aI (w64 (i66 + (1 : Int))))]) (L' := []) (obs := []) (by kernel_rfl) (by kernel_rfl) (by kernel_rfl) allP0 ?_
                  exact round_next' (by kernel_rfl) (by kernel_rfl)
      · obtain rfl := stepL_false h71 h
        refine W_exit (id := 0) [0] [] (fr' := [(0, aD (.slice (.pair tI (.pair tI (.pair tI tI)))) a0)]) (L' := []) (by kernel_rfl) (by kernel_rfl) ?_
        refine seqQ_exit ?_
        refine round_exit ?_
        refine escQ_brk ?_
        exact exQ_mk (by kernel_rfl) (by kernel_rfl)
    · intro e fr L hJ
      rcases v100 with v105 | v106
      · obtain ⟨rfl, rfl, rfl⟩ := hJ
        obtain rfl := Option.some.inj h
        refine LT_keep [2] [] (fr' := [(2, aI v105)]) (L' := []) (by kernel_rfl) ?_
        refine blockQ_ret ?_
        refine seqQ_ret ?_
        exact retQ_mk (by kernel_rfl) (by kernel_rfl) (by kernel_rfl)
      · obtain ⟨rfl, rfl, rfl⟩ := hJ
        refine LT_keep [0] [] (fr' := [(0, aD (.slice (.pair tI (.pair tI (.pair tI tI)))) a0)]) (L' := []) (by kernel_rfl) ?_
        refine blockQ_hit ?_
        refine seqQ_norm ?_
        refine W_seq (by kernel_rfl) ?_
        obtain ⟨_, h107, h⟩ := bind_of h
        replace h107 := ck_some h107
        refine W_run 4 [] [0, 5] [48] (fr' := [(0, aD (.slice (.pair tI (.pair tI (.pair tI tI)))) a0), (5, .one (.slc 48))]) (L' := [(48, .seq tI (List.replicate (Int.toNat (List.length a0 : Int)) (0 : Int)))]) (obs := [0 ≤ (List.length a0 : Int) ∧ (List.length a0 : Int) = (List.length a0 : Int) ∧ SmallLen (List.length a0 : Int)]) (by kernel_rfl) (by kernel_rfl) (by kernel_rfl) (allP1 h107) ?_
        refine seqQ_norm ?_
        refine W_seq (by kernel_rfl) ?_
        refine W_seq (by kernel_rfl) ?_
        refine W_run 3 [] [0, 5, 49, 50, 51] [48] (fr' := [(0, aD (.slice (.pair tI (.pair tI (.pair tI tI)))) a0), (5, .one (.slc 48)), (49, aD (.slice (.pair tI (.pair tI (.pair tI tI)))) a0), (50, aI (List.length a0 : Int)), (51, aI (0 : Int))]) (L' := [(48, .seq tI (List.replicate (Int.toNat (List.length a0 : Int)) (0 : Int)))]) (obs := []) (by kernel_rfl) (by kernel_rfl) (by kernel_rfl) allP0 ?_
        refine seqQ_norm ?_
        refine W_block (id := 2) (by kernel_rfl) ?_
        obtain ⟨v389, h390, h⟩ := bind_of h
        refine W_len (t := 49) (u := (.pair tI (.pair tI (.pair tI tI)))) (xs := a0) (by kernel_rfl) (fun h393 => ?_)
        obtain ⟨h391, h392⟩ := forL_iter h393 h390
        refine W_weaken [0, 5, 49, 50, 51] [48] (fr' := ((ref_CombCheck_s36 a0) ((0 : Int), List.replicate (Int.toNat (List.length a0 : Int)) (0 : Int))).1) (L' := ((ref_CombCheck_s36 a0) ((0 : Int), List.replicate (Int.toNat (List.length a0 : Int)) (0 : Int))).2) (by kernel_rfl) ?_
        refine W_cutK (W_loop (S := (ref_CombCheck_s36 a0)) (J := (exQ (.exit 2) (ref_CombCheck_s37 a0))) (by kernel_rfl) ?_ h391 _ v389 h392) ?_
        · rintro ⟨i296, x297⟩ s h
          refine W_seq (by kernel_rfl) ?_
          refine W_run 1 [] [0, 5, 49, 50, 51, 52] [48] (fr' := [(0, aD (.slice (.pair tI (.pair tI (.pair tI tI)))) a0), (5, .one (.slc 48)), (49, aD (.slice (.pair tI (.pair tI (.pair tI tI)))) a0), (50, aI (List.length a0 : Int)), (51, aI i296), (52, aB (decide (i296 < (List.length a0 : Int))))]) (L' := [(48, .seq tI x297)]) (obs := []) (by kernel_rfl) (by kernel_rfl) (by kernel_rfl) allP0 ?_
          refine seqQ_norm ?_
          refine W_seq (by kernel_rfl) ?_
          refine W_cond (o := .tmp 52) (b := decide (i296 < (List.length a0 : Int))) (by kernel_rfl) (by kernel_rfl) (fun h301 => ?_) (fun h301 => ?_)
          · replace h := stepL_true h301 h
            obtain ⟨v299, _, h300, h, rfl⟩ := h
            refine W_skip [0, 5, 49, 50, 51] [48] (fr' := [(0, aD (.slice (.pair tI (.pair tI (.pair tI tI)))) a0), (5, .one (.slc 48)), (49, aD (.slice (.pair tI (.pair tI (.pair tI tI)))) a0), (50, aI (List.length a0 : Int)), (51, aI i296)]) (L' := [(48, .seq tI x297)]) (by kernel_rfl) (by kernel_rfl) ?_
            refine seqQ_norm ?_
            refine W_seq (by kernel_rfl) ?_
            obtain ⟨v386, h387, h⟩ := bind_of h
            refine W_cutK (Q' := (exQ .normal (ref_CombCheck_s34 a0 i296)) v386) ?_ ?_
            · replace h := h387
              refine W_block (id := 3) (by kernel_rfl) ?_
              refine W_seq (by kernel_rfl) ?_
              refine W_run 6 [(3, .val (.dat (.pair tI (.pair tI (.pair tI tI))) v299)), (7, .typed)] [0, 5, 6, 7, 49, 50, 51] [48, 7] (fr' := [(0, aD (.slice (.pair tI (.pair tI (.pair tI tI)))) a0), (5, .one (.slc 48)), (6, aI i296), (7, .one (.ptr 7 0)), (49, aD (.slice (.pair tI (.pair tI (.pair tI tI)))) a0), (50, aI (List.length a0 : Int)), (51, aI i296)]) (L' := [(48, .seq tI x297), (7, .one (.pair tI (.pair tI (.pair tI tI))) v299)]) (obs := [Idx a0 i296 v299, True]) (by kernel_rfl) (by kernel_rfl) (by kernel_rfl) (allP2 (Idx.of h300) (allP1 trivial)) ?_
              refine seqQ_norm ?_
              refine W_seq (by kernel_rfl) ?_
              obtain ⟨v358, h359, h⟩ := bind_of h
              refine W_run 4 [] [0, 5, 6, 7, 49, 50, 51] [48, 7] (fr' := [(0, aD (.slice (.pair tI (.pair tI (.pair tI tI)))) a0), (5, .one (.slc 48)), (6, aI i296), (7, .one (.ptr 7 0)), (49, aD (.slice (.pair tI (.pair tI (.pair tI tI)))) a0), (50, aI (List.length a0 : Int)), (51, aI i296)]) (L' := [(48, .seq tI (List.set x297 (Int.toNat i296) (1 : Int))), (7, .one (.pair tI (.pair tI (.pair tI tI))) v299)]) (obs := [InR i296 (List.length x297), InR i296 (List.length x297)]) (by kernel_rfl) (by kernel_rfl) (by kernel_rfl) (allP2 (InR.of h359) (allP1 (InR.of h359))) ?_
              refine seqQ_norm ?_
              refine W_seq (by kernel_rfl) ?_
              obtain ⟨v381, h382, h⟩ := bind_of h
              refine W_cutK (Q' := (exQ .normal (ref_CombCheck_s32 a0 i296)) v381) ?_ ?_
              · replace h := h382
                refine W_seq (by kernel_rfl) ?_
                refine W_run 3 [] [0, 5, 6, 7, 49, 50, 51, 61] [48, 7] (fr' := [(0, aD (.slice (.pair tI (.pair tI (.pair tI tI)))) a0), (5, .one (.slc 48)), (6, aI i296), (7, .one (.ptr 7 0)), (49, aD (.slice (.pair tI (.pair tI (.pair tI tI)))) a0), (50, aI (List.length a0 : Int)), (51, aI i296), (61, aB (v299.1 == (4 : Int)))]) (L' := [(48, .seq tI (List.set x297 (Int.toNat i296) (1 : Int))), (7, .one (.pair tI (.pair tI (.pair tI tI))) v299)]) (obs := []) (by kernel_rfl) (by kernel_rfl) (by kernel_rfl) allP0 ?_
                refine seqQ_norm ?_
                refine W_cond (o := .tmp 61) (b := v299.1 == (4 : Int)) (by kernel_rfl) (by kernel_rfl) (fun h374 => ?_) (fun h374 => ?_)
                · replace h := ofT h374 h
                  obtain ⟨v375, h376, h⟩ := bind_of h
                  obtain ⟨v377, h378, h⟩ := bind_of h
                  obtain ⟨v379, h380, h⟩ := bind_of h
                  obtain rfl := Option.some.inj h
                  refine W_draw2 14 [(13, .val (.dat tI v375)), (25, .val (.dat tI v377))] [] [0, 5, 6, 49, 50, 51] [48] (fr' := [(0, aD (.slice (.pair tI (.pair tI (.pair tI tI)))) a0), (5, .one (.slc 48)), (6, aI i296), (49, aD (.slice (.pair tI (.pair tI (.pair tI tI)))) a0), (50, aI (List.length a0 : Int)), (51, aI i296)]) (L' := [(48, .seq tI (List.set (List.set x297 (Int.toNat i296) (1 : Int)) (Int.toNat i296) (w64 ((w64 ((1 : Int) + v375)) + v377))))]) (out := [(62, .one (.slc 48)), (63, aI i296), (64, .one (.slc 48)), (65, .one (.ptr 7 1)), (66, aI v299.2.1), (67, .one (.eptr 48 1 v299.2.1 0)), (68, aI v375), (69, aI (w64 ((1 : Int) + v375))), (70, .one (.slc 48)), (71, .one (.ptr 7 2)), (72, aI v299.2.2.1), (73, .one (.eptr 48 1 v299.2.2.1 0)), (74, aI v377), (75, aI (w64 ((w64 ((1 : Int) + v375)) + v377)))]) (obs := [InR v299.2.1 (List.length (List.set x297 (Int.toNat i296) (1 : Int))), Idx (List.set x297 (Int.toNat i296) (1 : Int)) v299.2.1 v375, InR v299.2.2.1 (List.length (List.set x297 (Int.toNat i296) (1 : Int))), Idx (List.set x297 (Int.toNat i296) (1 : Int)) v299.2.2.1 v377]) (obs2 := [InR i296 (List.length (List.set x297 (Int.toNat i296) (1 : Int))), InR i296 (List.length (List.set x297 (Int.toNat i296) (1 : Int)))]) (calls := []) (by kernel_rfl) (by kernel_rfl) (by kernel_rfl) (by kernel_rfl) (allP2 (InR.of h376) (allP2 (Idx.of h376) (allP2 (InR.of h378) (allP1 (Idx.of h378))))) allC0 (by kernel_rfl) (allP2 (InR.of h380) (allP1 (InR.of h380))) ?_
                  exact exQ_mk (by kernel_rfl) (by kernel_rfl)
                · replace h := ofF h374 h
                  obtain rfl := Option.some.inj h
                  refine W_skip [0, 5, 6, 49, 50, 51] [48] (fr' := [(0, aD (.slice (.pair tI (.pair tI (.pair tI tI)))) a0), (5, .one (.slc 48)), (6, aI i296), (49, aD (.slice (.pair tI (.pair tI (.pair tI tI)))) a0), (50, aI (List.length a0 : Int)), (51, aI i296)]) (L' := [(48, .seq tI (List.set x297 (Int.toNat i296) (1 : Int)))]) (by kernel_rfl) (by kernel_rfl) ?_
                  exact exQ_mk (by kernel_rfl) (by kernel_rfl)
              · intro e fr L hJ
                obtain ⟨rfl, rfl, rfl⟩ := hJ
                refine LT_keep [0, 5, 6, 49, 50, 51] [48] (fr' := [(0, aD (.slice (.pair tI (.pair tI (.pair tI tI)))) a0), (5, .one (.slc 48)), (6, aI i296), (49, aD (.slice (.pair tI (.pair tI (.pair tI tI)))) a0), (50, aI (List.length a0 : Int)), (51, aI i296)]) (L' := [(48, .seq tI v381)]) (by kernel_rfl) ?_
                refine seqQ_norm ?_
                refine W_seq (by kernel_rfl) ?_
                obtain ⟨v383, h384, h⟩ := bind_of h
                refine W_run 5 [(7, .val (.dat tI v383))] [0, 5, 6, 49, 50, 51, 81] [48] (fr' := [(0, aD (.slice (.pair tI (.pair tI (.pair tI tI)))) a0), (5, .one (.slc 48)), (6, aI i296), (49, aD (.slice (.pair tI (.pair tI (.pair tI tI)))) a0), (50, aI (List.length a0 : Int)), (51, aI i296), (81, aB (decide (v383 > (300 : Int))))]) (L' := [(48, .seq tI v381)]) (obs := [InR i296 (List.length v381), Idx v381 i296 v383]) (by kernel_rfl) (by kernel_rfl) (by kernel_rfl) (allP2 (InR.of h384) (allP1 (Idx.of h384))) ?_
                refine seqQ_norm ?_
                refine W_cond (o := .tmp 81) (b := decide (v383 > (300 : Int))) (by kernel_rfl) (by kernel_rfl) (fun h385 => ?_) (fun h385 => ?_)
                · replace h := ofT h385 h
                  obtain rfl := Option.some.inj h
                  refine W_run 4 [] [0, 5, 49, 50, 51] [48] (fr' := [(0, aD (.slice (.pair tI (.pair tI (.pair tI tI)))) a0), (5, .one (.slc 48)), (49, aD (.slice (.pair tI (.pair tI (.pair tI tI)))) a0), (50, aI (List.length a0 : Int)), (51, aI i296)]) (L' := [(48, .seq tI (List.set v381 (Int.toNat i296) (301 : Int)))]) (obs := [InR i296 (List.length v381), InR i296 (List.length v381)]) (by kernel_rfl) (by kernel_rfl) (by kernel_rfl) (allP2 (InR.of h384) (allP1 (InR.of h384))) ?_
                  refine blockQ_norm ?_
                  exact exQ_mk (by kernel_rfl) (by kernel_rfl)
                · replace h := ofF h385 h
                  obtain rfl := Option.some.inj h
                  refine W_skip [0, 5, 49, 50, 51] [48] (fr' := [(0, aD (.slice (.pair tI (.pair tI (.pair tI tI)))) a0), (5, .one (.slc 48)), (49, aD (.slice (.pair tI (.pair tI (.pair tI tI)))) a0), (50, aI (List.length a0 : Int)), (51, aI i296)]) (L' := [(48, .seq tI v381)]) (by kernel_rfl) (by kernel_rfl) ?_
                  refine blockQ_norm ?_
                  exact exQ_mk (by kernel_rfl) (by kernel_rfl)
            · intro e fr L hJ
              obtain ⟨rfl, rfl, rfl⟩ := hJ
              refine LT_keep [0, 5, 49, 50, 51] [48] (fr' := [(0, aD (.slice (.pair tI (.pair tI (.pair tI tI)))) a0), (5, .one (.slc 48)), (49, aD (.slice (.pair tI (.pair tI (.pair tI tI)))) a0), (50, aI (List.length a0 : Int)), (51, aI i296)]) (L' := [(48, .seq tI v386)]) (by kernel_rfl) ?_
              refine seqQ_norm ?_
              obtain rfl := Option.some.inj h
              refine W_run 2 [] [0, 5, 49, 50, 51] [48] (fr' := [(0, aD (.slice (.pair tI (.pair tI (.pair tI tI)))) a0), (5, .one (.slc 48)), (49, aD (.slice (.pair tI (.pair tI (.pair tI tI)))) a0), (50, aI (List.length a0 : Int)), (51, aI (w64 (i296 + (1 : Int))))]) (L' := [(48, .seq tI v386)]) (obs := []) (by kernel_rfl) (by kernel_rfl) (by kernel_rfl) allP0 ?_
              exact round_next' (by kernel_rfl) (by kernel_rfl)
          · obtain rfl := stepL_false h301 h
            refine W_exit (id := 2) [0, 5] [48] (fr' := [(0, aD (.slice (.pair tI (.pair tI (.pair tI tI)))) a0), (5, .one (.slc 48))]) (L' := [(48, .seq tI x297)]) (by kernel_rfl) (by kernel_rfl) ?_
            refine seqQ_exit ?_
            refine round_exit ?_
            exact exQ_mk (by kernel_rfl) (by kernel_rfl)
        · intro e fr L hJ
          obtain ⟨rfl, rfl, rfl⟩ := hJ
          refine LT_keep [0, 5] [48] (fr' := [(0, aD (.slice (.pair tI (.pair tI (.pair tI tI)))) a0), (5, .one (.slc 48))]) (L' := [(48, .seq tI v389)]) (by kernel_rfl) ?_
          refine blockQ_hit ?_
          refine seqQ_norm ?_
          refine W_seq (by kernel_rfl) ?_
          refine W_seq (by kernel_rfl) ?_
          obtain ⟨v394, h395, h⟩ := bind_of h
          refine W_run 7 [(11, .val (.dat tI v394))] [92] [] (fr' := [(92, aB (decide (v394 > (300 : Int))))]) (L' := []) (obs := [InR (w64 ((List.length a0 : Int) - (1 : Int))) (List.length v389), Idx v389 (w64 ((List.length a0 : Int) - (1 : Int))) v394]) (by kernel_rfl) (by kernel_rfl) (by kernel_rfl) (allP2 (InR.of h395) (allP1 (Idx.of h395))) ?_
          refine seqQ_norm ?_
          refine W_cond (o := .tmp 92) (b := decide (v394 > (300 : Int))) (by kernel_rfl) (by kernel_rfl) (fun h396 => ?_) (fun h396 => ?_)
          · replace h := ofT h396 h
            refine W_seq (by kernel_rfl) ?_
            refine W_run 1 [] [2] [] (fr' := [(2, aI (1 : Int))]) (L' := []) (obs := []) (by kernel_rfl) (by kernel_rfl) (by kernel_rfl) allP0 ?_
            refine seqQ_norm ?_
            obtain rfl := Option.some.inj h
            refine W_ret [2] [] (fr' := [(2, aI (1 : Int))]) (L' := []) (by kernel_rfl) (by kernel_rfl) ?_
            refine seqQ_ret ?_
            exact retQ_mk (by kernel_rfl) (by kernel_rfl) (by kernel_rfl)
          · replace h := ofF h396 h
            refine W_skip [] [] (fr' := []) (L' := []) (by kernel_rfl) (by kernel_rfl) ?_
            refine seqQ_norm ?_
            refine W_seq (by kernel_rfl) ?_
            refine W_run 1 [] [2] [] (fr' := [(2, aI (0 : Int))]) (L' := []) (obs := []) (by kernel_rfl) (by kernel_rfl) (by kernel_rfl) allP0 ?_
            refine seqQ_norm ?_
            obtain rfl := Option.some.inj h
            refine W_ret [2] [] (fr' := [(2, aI (0 : Int))]) (L' := []) (by kernel_rfl) (by kernel_rfl) ?_
            exact retQ_mk (by kernel_rfl) (by kernel_rfl) (by kernel_rfl)

def law_CombChecks_g1 (a0 : (List (Int × (Int × (Int × Int))))) : Option Bool :=
(comb_Check a0).bind fun r15 =>
(ref_CombCheck a0).bind fun r17 =>
bif r15 == r17 then
((comb_Check []).bind fun r20 =>
some (r20 == (1 : Int)))
else
(some false)
@[reducible] def law_CombChecks_s2 (v : Bool) : Fr × LL := ([(2, aB v)], [])
def law_CombChecks (a0 : (List (Int × (Int × (Int × Int))))) : Option Bool :=
(law_CombChecks_g1 a0).bind fun v22 =>
some v22
theorem law_CombChecks_ok {a0 : (List (Int × (Int × (Int × Int))))} {r : Bool} (h : law_CombChecks a0 = some r) : FnC Try.prog 7 [aD (.slice (.pair tI (.pair tI (.pair tI tI)))) a0] [] (aB r) [] := by
  refine fnC_of_W (B := bodyOf Try.f7) (n := 12) Try.func7 (by kernel_rfl) (by kernel_rfl) (by kernel_rfl) (by kernel_rfl) (by kernel_rfl) ?_
  intro K
  refine W_seq (by kernel_rfl) ?_
  refine W_run 1 [] [0] [] (fr' := [(0, aD (.slice (.pair tI (.pair tI (.pair tI tI)))) a0)]) (L' := []) (obs := []) (by kernel_rfl) (by kernel_rfl) (by kernel_rfl) allP0 ?_
  refine seqQ_norm ?_
  refine W_seq (by kernel_rfl) ?_
  obtain ⟨v22, h23, h⟩ := bind_of h
  refine W_cutK (Q' := (exQ .normal law_CombChecks_s2) v22) ?_ ?_
  · replace h := h23
    refine W_region (by kernel_rfl) ?_
    refine WO_run (j := 1) (k := 1) (orcs := []) (kF := [0, 3]) (kL := []) (fr' := [(0, aD (.slice (.pair tI (.pair tI (.pair tI tI)))) a0), (3, aD (.slice (.pair tI (.pair tI (.pair tI tI)))) a0)]) (L' := []) (obs := []) rfl (by kernel_rfl) allP0 ?_
    obtain ⟨r15, h16, h⟩ := bind_of h
    refine WO_call0 (us := [none]) (d := 4) (p := True) (j := 2) rfl ⟨by kernel_rfl, by kernel_rfl, by kernel_rfl⟩ trivial (comb_Check_ok h16) (by kernel_rfl) ?_
    refine WO_run (j := 3) (k := 1) (orcs := []) (kF := [4, 5]) (kL := []) (fr' := [(4, aI r15), (5, aD (.slice (.pair tI (.pair tI (.pair tI tI)))) a0)]) (L' := []) (obs := []) rfl (by kernel_rfl) allP0 ?_
    obtain ⟨r17, h18, h⟩ := bind_of h
    refine WO_call0 (us := [none]) (d := 6) (p := True) (j := 4) rfl ⟨by kernel_rfl, by kernel_rfl, by kernel_rfl⟩ trivial (ref_CombCheck_ok h18) (by kernel_rfl) ?_
    refine WO_run (j := 6) (k := 2) (orcs := []) (kF := [8]) (kL := []) (fr' := [(8, aB (r15 == r17))]) (L' := []) (obs := []) rfl (by kernel_rfl) allP0 ?_
    rcases Bool.eq_false_or_eq_true (r15 == r17) with h19 | h19
    · replace h := ofT h19 h
      obtain ⟨r20, h21, h⟩ := bind_of h
      refine WO_call0 (us := [some (.slice (.pair tI (.pair tI (.pair tI tI))))]) (d := 9) (p := ((r15 == r17) = true)) (j := 7) rfl ⟨by kernel_rfl, by kernel_rfl, by kernel_rfl⟩ h19 (comb_Check_ok h21) (by kernel_rfl) ?_
      refine WO_run (j := 10) (k := 3) (orcs := [(14, .known true), (17, .val (.dat .bool true))]) (kF := [2]) (kL := []) (fr' := [(2, aB (r20 == (1 : Int)))]) (L' := []) (obs := [((r15 == r17) = true), ((r15 == r17) = true)]) rfl (by kernel_rfl) (allP2 h19 (allP1 h19)) ?_
      obtain rfl := Option.some.inj h
      refine WO_fin [2] [] (fr' := [(2, aB (r20 == (1 : Int)))]) (L' := []) (by kernel_rfl) (by kernel_rfl) ?_
      exact exQ_mk (by kernel_rfl) (by kernel_rfl)
    · replace h := ofF h19 h
      refine WO_run (j := 10) (k := 4) (orcs := [(12, .known false), (14, .known false), (17, .val (.dat .bool false))]) (kF := [2]) (kL := []) (fr' := [(2, aB false)]) (L' := []) (obs := [((r15 == r17) = false), ((r15 == r17) = false), ((r15 == r17) = false)]) rfl (by kernel_rfl) (allP2 h19 (allP2 h19 (allP1 h19))) ?_
      obtain rfl := Option.some.inj h
      refine WO_fin [2] [] (fr' := [(2, aB false)]) (L' := []) (by kernel_rfl) (by kernel_rfl) ?_
      exact exQ_mk (by kernel_rfl) (by kernel_rfl)
  · intro e fr L hJ
    obtain ⟨rfl, rfl, rfl⟩ := hJ
    refine LT_keep [2] [] (fr' := [(2, aB v22)]) (L' := []) (by kernel_rfl) ?_
    refine seqQ_norm ?_
    obtain rfl := Option.some.inj h
    refine W_ret [2] [] (fr' := [(2, aB v22)]) (L' := []) (by kernel_rfl) (by kernel_rfl) ?_
    exact retQ_mk (by kernel_rfl) (by kernel_rfl) (by kernel_rfl)
end Go.Proofs.Ytkkmiclmbhbmjaa.combChecks
