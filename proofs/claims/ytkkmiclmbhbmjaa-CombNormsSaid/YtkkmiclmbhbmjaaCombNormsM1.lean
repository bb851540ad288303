/- What the functions that CombNorms calls compute, as models, and that they compute it: written by a program of mine. -/
import Derived.Test.YtkkmiclmbhbmjaaProg
import Derived.Test.YtkkmiclmbhbmjaaSl5
set_option linter.all false
set_option maxRecDepth 100000
namespace Go.Proofs.Ytkkmiclmbhbmjaa.combNorms
open Go Go.Sl
def comb_sizes_g7 (x54 : (List Int)) (v56 : (Int × (Int × (Int × Int)))) : Option Int :=
bif v56.1 == (4 : Int) then
((idx x54 v56.2.1).bind fun v88 =>
(idx x54 v56.2.2.1).bind fun v90 =>
some (imin (w64 ((w64 ((1 : Int) + v88)) + v90)) (301 : Int)))
else
(some (1 : Int))
@[reducible] def comb_sizes_s8 (a0 : (List (Int × (Int × (Int × Int))))) (i53 : Int) (x54 : (List Int)) (v : Int) : Fr × LL := ([(3, .one (.slc 32)), (6, aI v), (7, aD (.slice (.pair tI (.pair tI (.pair tI tI)))) a0), (8, aI (List.length a0 : Int)), (9, aI i53)], [(32, .seq tI x54)])
def comb_sizes_b9 (i53 : Int) (v56 : (Int × (Int × (Int × Int)))) (x54 : (List Int)) : Option (Flow (List Int) (List Int)) :=
(comb_sizes_g7 x54 v56).bind fun v92 =>
(ck ((List.length x54 : Int) + 1 ≤ 4294967296)).bind fun _ =>
some (.next (x54 ++ [v92]))
@[reducible] def comb_sizes_s10 (a0 : (List (Int × (Int × (Int × Int))))) (v : Int × (List Int)) : Fr × LL := ([(3, .one (.slc 32)), (7, aD (.slice (.pair tI (.pair tI (.pair tI tI)))) a0), (8, aI (List.length a0 : Int)), (9, aI v.1)], [(32, .seq tI v.2)])
@[reducible] def comb_sizes_s11 (v : (List Int)) : Fr × LL := ([(3, .one (.slc 32))], [(32, .seq tI v)])
def comb_sizes (a0 : (List (Int × (Int × (Int × Int))))) : Option (List Int) :=
(forL comb_sizes_b9 (fun x54 => x54) a0 0 []).bind fun v96 =>
some v96
theorem comb_sizes_ok {a0 : (List (Int × (Int × (Int × Int))))} {r : (List Int)} (h : comb_sizes a0 = some r) : FnC Try.prog 59 [aD (.slice (.pair tI (.pair tI (.pair tI tI)))) a0] [] (aD (.slice tI) r) [] := by
  refine fnC_of_W (B := bodyOf Try.f59) (n := 35) Try.func59 (by kernel_rfl) (by kernel_rfl) (by kernel_rfl) (by kernel_rfl) (by kernel_rfl) ?_
  intro K
  refine W_seq (by kernel_rfl) ?_
  refine W_run 1 [] [0] [] (fr' := [(0, aD (.slice (.pair tI (.pair tI (.pair tI tI)))) a0)]) (L' := []) (obs := []) (by kernel_rfl) (by kernel_rfl) (by kernel_rfl) allP0 ?_
  refine seqQ_norm ?_
  refine W_seq (by kernel_rfl) ?_
  refine W_run 1 [] [0, 3] [] (fr' := [(0, aD (.slice (.pair tI (.pair tI (.pair tI tI)))) a0), (3, .one (.nilS))]) (L' := []) (obs := []) (by kernel_rfl) (by kernel_rfl) (by kernel_rfl) allP0 ?_
  refine seqQ_norm ?_
  refine W_seq (by kernel_rfl) ?_
  refine W_seq (by kernel_rfl) ?_
  refine W_run 3 [] [3, 7, 8, 9] [] (fr' := [(3, .one (.nilS)), (7, aD (.slice (.pair tI (.pair tI (.pair tI tI)))) a0), (8, aI (List.length a0 : Int)), (9, aI (0 : Int))]) (L' := []) (obs := []) (by kernel_rfl) (by kernel_rfl) (by kernel_rfl) allP0 ?_
  refine seqQ_norm ?_
  refine W_block (id := 0) (by kernel_rfl) ?_
  obtain ⟨v96, h97, h⟩ := bind_of h
  refine W_len (t := 7) (u := (.pair tI (.pair tI (.pair tI tI)))) (xs := a0) (by kernel_rfl) (fun h100 => ?_)
  obtain ⟨h98, h99⟩ := forL_iter h100 h97
  refine W_mine 3 32 tI (by kernel_rfl) ?_
  refine W_weaken [3, 7, 8, 9] [32] (fr' := ((comb_sizes_s10 a0) ((0 : Int), [])).1) (L' := ((comb_sizes_s10 a0) ((0 : Int), [])).2) (by kernel_rfl) ?_
  refine W_cutK (W_loop (S := (comb_sizes_s10 a0)) (J := (exQ (.exit 0) comb_sizes_s11)) (by kernel_rfl) ?_ h98 _ v96 h99) ?_
  · rintro ⟨i53, x54⟩ s h
    refine W_seq (by kernel_rfl) ?_
    refine W_run 1 [] [3, 7, 8, 9, 10] [32] (fr' := [(3, .one (.slc 32)), (7, aD (.slice (.pair tI (.pair tI (.pair tI tI)))) a0), (8, aI (List.length a0 : Int)), (9, aI i53), (10, aB (decide (i53 < (List.length a0 : Int))))]) (L' := [(32, .seq tI x54)]) (obs := []) (by kernel_rfl) (by kernel_rfl) (by kernel_rfl) allP0 ?_
    refine seqQ_norm ?_
    refine W_seq (by kernel_rfl) ?_
    refine W_cond (o := .tmp 10) (b := decide (i53 < (List.length a0 : Int))) (by kernel_rfl) (by kernel_rfl) (fun h58 => ?_) (fun h58 => ?_)
    · replace h := stepL_true h58 h
      obtain ⟨v56, _, h57, h, rfl⟩ := h
      refine W_skip [3, 7, 8, 9] [32] (fr' := [(3, .one (.slc 32)), (7, aD (.slice (.pair tI (.pair tI (.pair tI tI)))) a0), (8, aI (List.length a0 : Int)), (9, aI i53)]) (L' := [(32, .seq tI x54)]) (by kernel_rfl) (by kernel_rfl) ?_
      refine seqQ_norm ?_
      refine W_seq (by kernel_rfl) ?_
      refine W_block (id := 1) (by kernel_rfl) ?_
      refine W_seq (by kernel_rfl) ?_
      refine W_run 4 [(1, .val (.dat (.pair tI (.pair tI (.pair tI tI))) v56)), (5, .typed)] [3, 5, 7, 8, 9] [32, 5] (fr' := [(3, .one (.slc 32)), (5, .one (.ptr 5 0)), (7, aD (.slice (.pair tI (.pair tI (.pair tI tI)))) a0), (8, aI (List.length a0 : Int)), (9, aI i53)]) (L' := [(32, .seq tI x54), (5, .one (.pair tI (.pair tI (.pair tI tI))) v56)]) (obs := [Idx a0 i53 v56, True]) (by kernel_rfl) (by kernel_rfl) (by kernel_rfl) (allP2 (Idx.of h57) (allP1 trivial)) ?_
      refine seqQ_norm ?_
      refine W_seq (by kernel_rfl) ?_
      refine W_run 1 [] [3, 5, 6, 7, 8, 9] [32, 5] (fr' := [(3, .one (.slc 32)), (5, .one (.ptr 5 0)), (6, aI (1 : Int)), (7, aD (.slice (.pair tI (.pair tI (.pair tI tI)))) a0), (8, aI (List.length a0 : Int)), (9, aI i53)]) (L' := [(32, .seq tI x54), (5, .one (.pair tI (.pair tI (.pair tI tI))) v56)]) (obs := []) (by kernel_rfl) (by kernel_rfl) (by kernel_rfl) allP0 ?_
      refine seqQ_norm ?_
      refine W_seq (by kernel_rfl) ?_
      obtain ⟨v92, h93, h⟩ := bind_of h
      refine W_cutK (Q' := (exQ .normal (comb_sizes_s8 a0 i53 x54)) v92) ?_ ?_
      · replace h := h93
        refine W_seq (by kernel_rfl) ?_
        refine W_run 3 [] [3, 5, 6, 7, 8, 9, 15] [32, 5] (fr' := [(3, .one (.slc 32)), (5, .one (.ptr 5 0)), (6, aI (1 : Int)), (7, aD (.slice (.pair tI (.pair tI (.pair tI tI)))) a0), (8, aI (List.length a0 : Int)), (9, aI i53), (15, aB (v56.1 == (4 : Int)))]) (L' := [(32, .seq tI x54), (5, .one (.pair tI (.pair tI (.pair tI tI))) v56)]) (obs := []) (by kernel_rfl) (by kernel_rfl) (by kernel_rfl) allP0 ?_
        refine seqQ_norm ?_
        refine W_cond (o := .tmp 15) (b := v56.1 == (4 : Int)) (by kernel_rfl) (by kernel_rfl) (fun h87 => ?_) (fun h87 => ?_)
        · replace h := ofT h87 h
          obtain ⟨v88, h89, h⟩ := bind_of h
          obtain ⟨v90, h91, h⟩ := bind_of h
          obtain rfl := Option.some.inj h
          refine W_draw2 13 [(9, .val (.dat tI v88)), (21, .val (.dat tI v90))] [] [3, 6, 7, 8, 9] [32] (fr' := [(3, .one (.slc 32)), (6, aI (imin (w64 ((w64 ((1 : Int) + v88)) + v90)) (301 : Int))), (7, aD (.slice (.pair tI (.pair tI (.pair tI tI)))) a0), (8, aI (List.length a0 : Int)), (9, aI i53)]) (L' := [(32, .seq tI x54)]) (out := [(16, .one (.slc 32)), (17, .one (.ptr 5 1)), (18, aI v56.2.1), (19, .one (.eptr 32 1 v56.2.1 0)), (20, aI v88), (21, aI (w64 ((1 : Int) + v88))), (22, .one (.slc 32)), (23, .one (.ptr 5 2)), (24, aI v56.2.2.1), (25, .one (.eptr 32 1 v56.2.2.1 0)), (26, aI v90), (27, aI (w64 ((w64 ((1 : Int) + v88)) + v90))), (28, aI (imin (w64 ((w64 ((1 : Int) + v88)) + v90)) (301 : Int)))]) (obs := [InR v56.2.1 (List.length x54), Idx x54 v56.2.1 v88, InR v56.2.2.1 (List.length x54), Idx x54 v56.2.2.1 v90]) (obs2 := []) (calls := []) (by kernel_rfl) (by kernel_rfl) (by kernel_rfl) (by kernel_rfl) (allP2 (InR.of h89) (allP2 (Idx.of h89) (allP2 (InR.of h91) (allP1 (Idx.of h91))))) allC0 (by kernel_rfl) allP0 ?_
          exact exQ_mk (by kernel_rfl) (by kernel_rfl)
        · replace h := ofF h87 h
          obtain rfl := Option.some.inj h
          refine W_skip [3, 6, 7, 8, 9] [32] (fr' := [(3, .one (.slc 32)), (6, aI (1 : Int)), (7, aD (.slice (.pair tI (.pair tI (.pair tI tI)))) a0), (8, aI (List.length a0 : Int)), (9, aI i53)]) (L' := [(32, .seq tI x54)]) (by kernel_rfl) (by kernel_rfl) ?_
          exact exQ_mk (by kernel_rfl) (by kernel_rfl)
      · intro e fr L hJ
        obtain ⟨rfl, rfl, rfl⟩ := hJ
        refine LT_keep [3, 6, 7, 8, 9] [32] (fr' := [(3, .one (.slc 32)), (6, aI v92), (7, aD (.slice (.pair tI (.pair tI (.pair tI tI)))) a0), (8, aI (List.length a0 : Int)), (9, aI i53)]) (L' := [(32, .seq tI x54)]) (by kernel_rfl) ?_
        refine seqQ_norm ?_
        obtain ⟨_, h94, h⟩ := bind_of h
        replace h94 := ck_some h94
        refine W_run 5 [] [3, 7, 8, 9] [32] (fr' := [(3, .one (.slc 32)), (7, aD (.slice (.pair tI (.pair tI (.pair tI tI)))) a0), (8, aI (List.length a0 : Int)), (9, aI i53)]) (L' := [(32, .seq tI (x54 ++ [v92]))]) (obs := [SmallLen (List.length x54 + List.length [v92])]) (by kernel_rfl) (by kernel_rfl) (by kernel_rfl) (allP1 h94) ?_
        refine blockQ_norm ?_
        refine seqQ_norm ?_
        obtain rfl := Option.some.inj h
        refine W_run 2 [] [3, 7, 8, 9] [32] (fr' := [(3, .one (.slc 32)), (7, aD (.slice (.pair tI (.pair tI (.pair tI tI)))) a0), (8, aI (List.length a0 : Int)), (9, aI (w64 (i53 + (1 : Int))))]) (L' := [(32, .seq tI (x54 ++ [v92]))]) (obs := []) (by kernel_rfl) (by kernel_rfl) (by kernel_rfl) allP0 ?_
        exact round_next' (by kernel_rfl) (by kernel_rfl)
    · obtain rfl := stepL_false h58 h
      refine W_exit (id := 0) [3] [32] (fr' := [(3, .one (.slc 32))]) (L' := [(32, .seq tI x54)]) (by kernel_rfl) (by kernel_rfl) ?_
      refine seqQ_exit ?_
      refine round_exit ?_
      exact exQ_mk (by kernel_rfl) (by kernel_rfl)
  · intro e fr L hJ
    obtain ⟨rfl, rfl, rfl⟩ := hJ
    refine LT_keep [3] [32] (fr' := [(3, .one (.slc 32))]) (L' := [(32, .seq tI v96)]) (by kernel_rfl) ?_
    refine blockQ_hit ?_
    refine seqQ_norm ?_
    refine W_seq (by kernel_rfl) ?_
    refine W_run 2 [] [2] [32] (fr' := [(2, .one (.slc 32))]) (L' := [(32, .seq tI v96)]) (obs := []) (by kernel_rfl) (by kernel_rfl) (by kernel_rfl) allP0 ?_
    refine seqQ_norm ?_
    obtain rfl := Option.some.inj h
    refine W_frz 32 (by kernel_rfl) ?_
    refine W_ret [2] [] (fr' := [(2, aD (.slice tI) v96)]) (L' := []) (by kernel_rfl) (by kernel_rfl) ?_
    exact retQ_mk (by kernel_rfl) (by kernel_rfl) (by kernel_rfl)

def comb_Check_g9 (i58 : Int) (v61 : (Int × (Int × (Int × Int)))) : Option Bool :=
bif v61.1 == (4 : Int) then
(bif decide ((imin v61.2.1 v61.2.2.1) < (0 : Int)) then
(some true)
else
(some (decide ((imax v61.2.1 v61.2.2.1) ≥ i58))))
else
(some false)
@[reducible] def comb_Check_s10 (a0 : (List (Int × (Int × (Int × Int))))) (i58 : Int) (v : Bool) : Fr × LL := ([(0, aD (.slice (.pair tI (.pair tI (.pair tI tI)))) a0), (13, aD (.slice (.pair tI (.pair tI (.pair tI tI)))) a0), (14, aI (List.length a0 : Int)), (15, aI i58), (43, aB v)], [])
@[reducible] def comb_Check_s11 (a0 : (List (Int × (Int × (Int × Int))))) (i58 : Int) (v61 : (Int × (Int × (Int × Int)))) (v : Bool) : Fr × LL := ([(0, aD (.slice (.pair tI (.pair tI (.pair tI tI)))) a0), (3, aI i58), (4, .one (.ptr 4 0)), (13, aD (.slice (.pair tI (.pair tI (.pair tI tI)))) a0), (14, aI (List.length a0 : Int)), (15, aI i58), (29, aB v)], [(4, .one (.pair tI (.pair tI (.pair tI tI))) v61)])
@[reducible] def comb_Check_s12 (a0 : (List (Int × (Int × (Int × Int))))) (i58 : Int) (v61 : (Int × (Int × (Int × Int)))) (v : Bool) : Fr × LL := ([(0, aD (.slice (.pair tI (.pair tI (.pair tI tI)))) a0), (3, aI i58), (4, .one (.ptr 4 0)), (13, aD (.slice (.pair tI (.pair tI (.pair tI tI)))) a0), (14, aI (List.length a0 : Int)), (15, aI i58), (20, aB v)], [(4, .one (.pair tI (.pair tI (.pair tI tI))) v61)])
def comb_Check_b13 (i58 : Int) (v61 : (Int × (Int × (Int × Int)))) (x59 : Unit) : Option (Flow Unit (Esc Int Unit)) :=
(bif decide (v61.1 < (1 : Int)) then
(some true)
else
(some (decide (v61.1 > (4 : Int))))).bind fun v67 =>
bif v67 then
(some (.done (.ret (6 : Int))))
else
((bif v61.1 == (3 : Int) then
(bif decide (v61.2.2.2 < (0 : Int)) then
(some true)
else
(some (decide (v61.2.2.2 > (1000 : Int)))))
else
(some false)).bind fun v76 =>
bif v76 then
(some (.done (.ret (4 : Int))))
else
((comb_Check_g9 i58 v61).bind fun v85 =>
bif v85 then
(some (.done (.ret (2 : Int))))
else
(some (.next ()))))
@[reducible] def comb_Check_s14 (a0 : (List (Int × (Int × (Int × Int))))) (v : Int × Unit) : Fr × LL := ([(0, aD (.slice (.pair tI (.pair tI (.pair tI tI)))) a0), (13, aD (.slice (.pair tI (.pair tI (.pair tI tI)))) a0), (14, aI (List.length a0 : Int)), (15, aI v.1)], [])
@[reducible] def comb_Check_s15 (v : Int) : Fr × LL := ([(2, aI v)], [])
@[reducible] def comb_Check_s16 (a0 : (List (Int × (Int × (Int × Int))))) (v : Unit) : Fr × LL := ([(0, aD (.slice (.pair tI (.pair tI (.pair tI tI)))) a0)], [])
def comb_Check (a0 : (List (Int × (Int × (Int × Int))))) : Option Int :=
bif (decide ((List.length a0 : Int) < (1 : Int))) || (decide ((List.length a0 : Int) > (40 : Int))) then
(some (1 : Int))
else
((forL comb_Check_b13 (fun x59 => (.brk ())) a0 0 ()).bind fun v89 =>
match v89 with
| .ret v94 =>
(some v94)
| .brk v95 =>
((comb_sizes a0).bind fun r96 =>
(idx r96 (w64 ((List.length a0 : Int) - (1 : Int)))).bind fun v98 =>
bif decide (v98 > (300 : Int)) then
(some (1 : Int))
else
(some (0 : Int))))
theorem comb_Check_ok {a0 : (List (Int × (Int × (Int × Int))))} {r : Int} (h : comb_Check a0 = some r) : FnC Try.prog 26 [aD (.slice (.pair tI (.pair tI (.pair tI tI)))) a0] [] (aI r) [] := by
  refine fnC_of_W (B := bodyOf Try.f26) (n := 73) Try.func26 (by kernel_rfl) (by kernel_rfl) (by kernel_rfl) (by kernel_rfl) (by kernel_rfl) ?_
  intro K
  refine W_seq (by kernel_rfl) ?_
  refine W_run 1 [] [0] [] (fr' := [(0, aD (.slice (.pair tI (.pair tI (.pair tI tI)))) a0)]) (L' := []) (obs := []) (by kernel_rfl) (by kernel_rfl) (by kernel_rfl) allP0 ?_
  refine seqQ_norm ?_
  refine W_seq (by kernel_rfl) ?_
  refine W_seq (by kernel_rfl) ?_
  refine W_run 8 [] [0, 12] [] (fr' := [(0, aD (.slice (.pair tI (.pair tI (.pair tI tI)))) a0), (12, aB ((decide ((List.length a0 : Int) < (1 : Int))) || (decide ((List.length a0 : Int) > (40 : Int)))))]) (L' := []) (obs := []) (by kernel_rfl) (by kernel_rfl) (by kernel_rfl) allP0 ?_
  refine seqQ_norm ?_
  refine W_cond (o := .tmp 12) (b := (decide ((List.length a0 : Int) < (1 : Int))) || (decide ((List.length a0 : Int) > (40 : Int)))) (by kernel_rfl) (by kernel_rfl) (fun h1 => ?_) (fun h1 => ?_)
  · replace h := ofT h1 h
    refine W_seq (by kernel_rfl) ?_
    refine W_run 1 [] [2] [] (fr' := [(2, aI (1 : Int))]) (L' := []) (obs := []) (by kernel_rfl) (by kernel_rfl) (by kernel_rfl) allP0 ?_
    refine seqQ_norm ?_
    obtain rfl := Option.some.inj h
    refine W_ret [2] [] (fr' := [(2, aI (1 : Int))]) (L' := []) (by kernel_rfl) (by kernel_rfl) ?_
    refine seqQ_ret ?_
    exact retQ_mk (by kernel_rfl) (by kernel_rfl) (by kernel_rfl)
  · replace h := ofF h1 h
    refine W_skip [0] [] (fr' := [(0, aD (.slice (.pair tI (.pair tI (.pair tI tI)))) a0)]) (L' := []) (by kernel_rfl) (by kernel_rfl) ?_
    refine seqQ_norm ?_
    refine W_seq (by kernel_rfl) ?_
    refine W_seq (by kernel_rfl) ?_
    refine W_run 3 [] [0, 13, 14, 15] [] (fr' := [(0, aD (.slice (.pair tI (.pair tI (.pair tI tI)))) a0), (13, aD (.slice (.pair tI (.pair tI (.pair tI tI)))) a0), (14, aI (List.length a0 : Int)), (15, aI (0 : Int))]) (L' := []) (obs := []) (by kernel_rfl) (by kernel_rfl) (by kernel_rfl) allP0 ?_
    refine seqQ_norm ?_
    refine W_block (id := 0) (by kernel_rfl) ?_
    obtain ⟨v89, h90, h⟩ := bind_of h
    refine W_len (t := 13) (u := (.pair tI (.pair tI (.pair tI tI)))) (xs := a0) (by kernel_rfl) (fun h93 => ?_)
    obtain ⟨h91, h92⟩ := forL_iter h93 h90
    refine W_weaken [0, 13, 14, 15] [] (fr' := ((comb_Check_s14 a0) ((0 : Int), ())).1) (L' := ((comb_Check_s14 a0) ((0 : Int), ())).2) (by kernel_rfl) ?_
    refine W_cutK (W_loop (S := (comb_Check_s14 a0)) (J := (escQ (exQ .ret comb_Check_s15) (exQ (.exit 0) (comb_Check_s16 a0)))) (by kernel_rfl) ?_ h91 _ v89 h92) ?_
    · rintro ⟨i58, x59⟩ s h
      refine W_seq (by kernel_rfl) ?_
      refine W_run 1 [] [0, 13, 14, 15, 16] [] (fr' := [(0, aD (.slice (.pair tI (.pair tI (.pair tI tI)))) a0), (13, aD (.slice (.pair tI (.pair tI (.pair tI tI)))) a0), (14, aI (List.length a0 : Int)), (15, aI i58), (16, aB (decide (i58 < (List.length a0 : Int))))]) (L' := []) (obs := []) (by kernel_rfl) (by kernel_rfl) (by kernel_rfl) allP0 ?_
      refine seqQ_norm ?_
      refine W_seq (by kernel_rfl) ?_
      refine W_cond (o := .tmp 16) (b := decide (i58 < (List.length a0 : Int))) (by kernel_rfl) (by kernel_rfl) (fun h63 => ?_) (fun h63 => ?_)
      · replace h := stepL_true h63 h
        obtain ⟨v61, _, h62, h, rfl⟩ := h
        refine W_skip [0, 13, 14, 15] [] (fr' := [(0, aD (.slice (.pair tI (.pair tI (.pair tI tI)))) a0), (13, aD (.slice (.pair tI (.pair tI (.pair tI tI)))) a0), (14, aI (List.length a0 : Int)), (15, aI i58)]) (L' := []) (by kernel_rfl) (by kernel_rfl) ?_
        refine seqQ_norm ?_
        refine W_seq (by kernel_rfl) ?_
        refine W_block (id := 1) (by kernel_rfl) ?_
        refine W_seq (by kernel_rfl) ?_
        refine W_run 6 [(3, .val (.dat (.pair tI (.pair tI (.pair tI tI))) v61)), (7, .typed)] [0, 3, 4, 13, 14, 15] [4] (fr' := [(0, aD (.slice (.pair tI (.pair tI (.pair tI tI)))) a0), (3, aI i58), (4, .one (.ptr 4 0)), (13, aD (.slice (.pair tI (.pair tI (.pair tI tI)))) a0), (14, aI (List.length a0 : Int)), (15, aI i58)]) (L' := [(4, .one (.pair tI (.pair tI (.pair tI tI))) v61)]) (obs := [Idx a0 i58 v61, True]) (by kernel_rfl) (by kernel_rfl) (by kernel_rfl) (allP2 (Idx.of h62) (allP1 trivial)) ?_
        refine seqQ_norm ?_
        refine W_block (id := 2) (by kernel_rfl) ?_
        refine W_seq (by kernel_rfl) ?_
        obtain ⟨v67, h68, h⟩ := bind_of h
        refine W_cutK (Q' := (exQ .normal (comb_Check_s12 a0 i58 v61)) v67) ?_ ?_
        · replace h := h68
          refine W_region (by kernel_rfl) ?_
          refine WO_run (j := 4) (k := 4) (orcs := []) (kF := [0, 3, 4, 13, 14, 15, 24]) (kL := [4]) (fr' := [(0, aD (.slice (.pair tI (.pair tI (.pair tI tI)))) a0), (3, aI i58), (4, .one (.ptr 4 0)), (13, aD (.slice (.pair tI (.pair tI (.pair tI tI)))) a0), (14, aI (List.length a0 : Int)), (15, aI i58), (24, aB (decide (v61.1 < (1 : Int))))]) (L' := [(4, .one (.pair tI (.pair tI (.pair tI tI))) v61)]) (obs := []) rfl (by kernel_rfl) allP0 ?_
          rcases Bool.eq_false_or_eq_true (decide (v61.1 < (1 : Int))) with h66 | h66
          · replace h := ofT h66 h
            refine WO_run (j := 9) (k := 5) (orcs := [(8, .known true), (10, .known true), (12, .known true), (15, .val (.dat .bool true))]) (kF := [0, 3, 4, 13, 14, 15, 20]) (kL := [4]) (fr' := [(0, aD (.slice (.pair tI (.pair tI (.pair tI tI)))) a0), (3, aI i58), (4, .one (.ptr 4 0)), (13, aD (.slice (.pair tI (.pair tI (.pair tI tI)))) a0), (14, aI (List.length a0 : Int)), (15, aI i58), (20, aB true)]) (L' := [(4, .one (.pair tI (.pair tI (.pair tI tI))) v61)]) (obs := [((decide (v61.1 < (1 : Int))) = true), ((decide (v61.1 < (1 : Int))) = true), ((decide (v61.1 < (1 : Int))) = true), ((decide (v61.1 < (1 : Int))) = true)]) rfl (by kernel_rfl) (allP2 h66 (allP2 h66 (allP2 h66 (allP1 h66)))) ?_
            obtain rfl := Option.some.inj h
            refine WO_fin [0, 3, 4, 13, 14, 15, 20] [4] (fr' := [(0, aD (.slice (.pair tI (.pair tI (.pair tI tI)))) a0), (3, aI i58), (4, .one (.ptr 4 0)), (13, aD (.slice (.pair tI (.pair tI (.pair tI tI)))) a0), (14, aI (List.length a0 : Int)), (15, aI i58), (20, aB true)]) (L' := [(4, .one (.pair tI (.pair tI (.pair tI tI))) v61)]) (by kernel_rfl) (by kernel_rfl) ?_
            exact exQ_mk (by kernel_rfl) (by kernel_rfl)
          · replace h := ofF h66 h
            refine WO_run (j := 9) (k := 5) (orcs := [(8, .known false), (10, .known false), (12, .known false), (15, .val (.dat .bool false))]) (kF := [0, 3, 4, 13, 14, 15, 20]) (kL := [4]) (fr' := [(0, aD (.slice (.pair tI (.pair tI (.pair tI tI)))) a0), (3, aI i58), (4, .one (.ptr 4 0)), (13, aD (.slice (.pair tI (.pair tI (.pair tI tI)))) a0), (14, aI (List.length a0 : Int)), (15, aI i58), (20, aB (decide (v61.1 > (4 : Int))))]) (L' := [(4, .one (.pair tI (.pair tI (.pair tI tI))) v61)]) (obs := [((decide (v61.1 < (1 : Int))) = false), ((decide (v61.1 < (1 : Int))) = false), ((decide (v61.1 < (1 : Int))) = false), ((decide (v61.1 < (1 : Int))) = false)]) rfl (by kernel_rfl) (allP2 h66 (allP2 h66 (allP2 h66 (allP1 h66)))) ?_
            obtain rfl := Option.some.inj h
            refine WO_fin [0, 3, 4, 13, 14, 15, 20] [4] (fr' := [(0, aD (.slice (.pair tI (.pair tI (.pair tI tI)))) a0), (3, aI i58), (4, .one (.ptr 4 0)), (13, aD (.slice (.pair tI (.pair tI (.pair tI tI)))) a0), (14, aI (List.length a0 : Int)), (15, aI i58), (20, aB (decide (v61.1 > (4 : Int))))]) (L' := [(4, .one (.pair tI (.pair tI (.pair tI tI))) v61)]) (by kernel_rfl) (by kernel_rfl) ?_
            exact exQ_mk (by kernel_rfl) (by kernel_rfl)
        · intro e fr L hJ
          obtain ⟨rfl, rfl, rfl⟩ := hJ
          refine LT_keep [0, 3, 4, 13, 14, 15, 20] [4] (fr' := [(0, aD (.slice (.pair tI (.pair tI (.pair tI tI)))) a0), (3, aI i58), (4, .one (.ptr 4 0)), (13, aD (.slice (.pair tI (.pair tI (.pair tI tI)))) a0), (14, aI (List.length a0 : Int)), (15, aI i58), (20, aB v67)]) (L' := [(4, .one (.pair tI (.pair tI (.pair tI tI))) v61)]) (by kernel_rfl) ?_
          refine seqQ_norm ?_
          refine W_cond (o := .tmp 20) (b := v67) (by kernel_rfl) (by kernel_rfl) (fun h69 => ?_) (fun h69 => ?_)
          · replace h := ofT h69 h
            refine W_seq (by kernel_rfl) ?_
            refine W_run 1 [] [2] [] (fr' := [(2, aI (6 : Int))]) (L' := []) (obs := []) (by kernel_rfl) (by kernel_rfl) (by kernel_rfl) allP0 ?_
            refine seqQ_norm ?_
            obtain rfl := Option.some.inj h
            refine W_ret [2] [] (fr' := [(2, aI (6 : Int))]) (L' := []) (by kernel_rfl) (by kernel_rfl) ?_
            refine blockQ_ret ?_
            refine blockQ_ret ?_
            refine seqQ_ret ?_
            refine round_ret ?_
            refine escQ_ret ?_
            exact exQ_mk (by kernel_rfl) (by kernel_rfl)
          · replace h := ofF h69 h
            refine W_seq (by kernel_rfl) ?_
            obtain ⟨v76, h77, h⟩ := bind_of h
            refine W_cutK (Q' := (exQ .normal (comb_Check_s11 a0 i58 v61)) v76) ?_ ?_
            · replace h := h77
              refine W_region (by kernel_rfl) ?_
              refine WO_run (j := 4) (k := 4) (orcs := []) (kF := [0, 3, 4, 13, 14, 15, 33]) (kL := [4]) (fr' := [(0, aD (.slice (.pair tI (.pair tI (.pair tI tI)))) a0), (3, aI i58), (4, .one (.ptr 4 0)), (13, aD (.slice (.pair tI (.pair tI (.pair tI tI)))) a0), (14, aI (List.length a0 : Int)), (15, aI i58), (33, aB (v61.1 == (3 : Int)))]) (L' := [(4, .one (.pair tI (.pair tI (.pair tI tI))) v61)]) (obs := []) rfl (by kernel_rfl) allP0 ?_
              rcases Bool.eq_false_or_eq_true (v61.1 == (3 : Int)) with h74 | h74
              · replace h := ofT h74 h
                refine WO_run (j := 8) (k := 4) (orcs := [(8, .known true), (10, .known true), (12, .known true), (14, .known true)]) (kF := [0, 3, 4, 13, 14, 15, 33, 37]) (kL := [4]) (fr' := [(0, aD (.slice (.pair tI (.pair tI (.pair tI tI)))) a0), (3, aI i58), (4, .one (.ptr 4 0)), (13, aD (.slice (.pair tI (.pair tI (.pair tI tI)))) a0), (14, aI (List.length a0 : Int)), (15, aI i58), (33, aB (v61.1 == (3 : Int))), (37, aB (decide (v61.2.2.2 < (0 : Int))))]) (L' := [(4, .one (.pair tI (.pair tI (.pair tI tI))) v61)]) (obs := [((v61.1 == (3 : Int)) = true), ((v61.1 == (3 : Int)) = true), ((v61.1 == (3 : Int)) = true), ((v61.1 == (3 : Int)) = true)]) rfl (by kernel_rfl) (allP2 h74 (allP2 h74 (allP2 h74 (allP1 h74)))) ?_
                rcases Bool.eq_false_or_eq_true (decide (v61.2.2.2 < (0 : Int))) with h75 | h75
                · replace h := ofT h75 h
                  refine WO_run (j := 14) (k := 6) (orcs := [(16, .known true), (18, .known true), (20, .known true), (22, .known true), (23, .val (.dat .bool true)), (25, .val (.dat .bool true))]) (kF := [0, 3, 4, 13, 14, 15, 29]) (kL := [4]) (fr' := [(0, aD (.slice (.pair tI (.pair tI (.pair tI tI)))) a0), (3, aI i58), (4, .one (.ptr 4 0)), (13, aD (.slice (.pair tI (.pair tI (.pair tI tI)))) a0), (14, aI (List.length a0 : Int)), (15, aI i58), (29, aB true)]) (L' := [(4, .one (.pair tI (.pair tI (.pair tI tI))) v61)]) (obs := [((decide (v61.2.2.2 < (0 : Int))) = true), ((decide (v61.2.2.2 < (0 : Int))) = true), ((decide (v61.2.2.2 < (0 : Int))) = true), ((v61.1 == (3 : Int)) = true), ((decide (v61.2.2.2 < (0 : Int))) = true), ((v61.1 == (3 : Int)) = true)]) rfl (by kernel_rfl) (allP2 h75 (allP2 h75 (allP2 h75 (allP2 h74 (allP2 h75 (allP1 h74)))))) ?_
                  obtain rfl := Option.some.inj h
                  refine WO_fin [0, 3, 4, 13, 14, 15, 29] [4] (fr' := [(0, aD (.slice (.pair tI (.pair tI (.pair tI tI)))) a0), (3, aI i58), (4, .one (.ptr 4 0)), (13, aD (.slice (.pair tI (.pair tI (.pair tI tI)))) a0), (14, aI (List.length a0 : Int)), (15, aI i58), (29, aB true)]) (L' := [(4, .one (.pair tI (.pair tI (.pair tI tI))) v61)]) (by kernel_rfl) (by kernel_rfl) ?_
                  exact exQ_mk (by kernel_rfl) (by kernel_rfl)
                · replace h := ofF h75 h
                  refine WO_run (j := 14) (k := 6) (orcs := [(16, .known false), (18, .known false), (20, .known false), (22, .known true), (23, .val (.dat .bool false)), (25, .val (.dat .bool true))]) (kF := [0, 3, 4, 13, 14, 15, 29]) (kL := [4]) (fr' := [(0, aD (.slice (.pair tI (.pair tI (.pair tI tI)))) a0), (3, aI i58), (4, .one (.ptr 4 0)), (13, aD (.slice (.pair tI (.pair tI (.pair tI tI)))) a0), (14, aI (List.length a0 : Int)), (15, aI i58), (29, aB (decide (v61.2.2.2 > (1000 : Int))))]) (L' := [(4, .one (.pair tI (.pair tI (.pair tI tI))) v61)]) (obs := [((decide (v61.2.2.2 < (0 : Int))) = false), ((decide (v61.2.2.2 < (0 : Int))) = false), ((decide (v61.2.2.2 < (0 : Int))) = false), ((v61.1 == (3 : Int)) = true), ((decide (v61.2.2.2 < (0 : Int))) = false), ((v61.1 == (3 : Int)) = true)]) rfl (by kernel_rfl) (allP2 h75 (allP2 h75 (allP2 h75 (allP2 h74 (allP2 h75 (allP1 h74)))))) ?_
                  obtain rfl := Option.some.inj h
                  refine WO_fin [0, 3, 4, 13, 14, 15, 29] [4] (fr' := [(0, aD (.slice (.pair tI (.pair tI (.pair tI tI)))) a0), (3, aI i58), (4, .one (.ptr 4 0)), (13, aD (.slice (.pair tI (.pair tI (.pair tI tI)))) a0), (14, aI (List.length a0 : Int)), (15, aI i58), (29, aB (decide (v61.2.2.2 > (1000 : Int))))]) (L' := [(4, .one (.pair tI (.pair tI (.pair tI tI))) v61)]) (by kernel_rfl) (by kernel_rfl) ?_
                  exact exQ_mk (by kernel_rfl) (by kernel_rfl)
              · replace h := ofF h74 h
                refine WO_run (j := 14) (k := 10) (orcs := [(8, .known false), (10, .known false), (12, .known false), (14, .known false), (16, .known true), (18, .known true), (20, .known true), (22, .known false), (25, .val (.dat .bool false))]) (kF := [0, 3, 4, 13, 14, 15, 29]) (kL := [4]) (fr' := [(0, aD (.slice (.pair tI (.pair tI (.pair tI tI)))) a0), (3, aI i58), (4, .one (.ptr 4 0)), (13, aD (.slice (.pair tI (.pair tI (.pair tI tI)))) a0), (14, aI (List.length a0 : Int)), (15, aI i58), (29, aB false)]) (L' := [(4, .one (.pair tI (.pair tI (.pair tI tI))) v61)]) (obs := [((v61.1 == (3 : Int)) = false), ((v61.1 == (3 : Int)) = false), ((v61.1 == (3 : Int)) = false), ((v61.1 == (3 : Int)) = false), ((v61.1 == (3 : Int)) = false), ((v61.1 == (3 : Int)) = false)]) rfl (by kernel_rfl) (allP2 h74 (allP2 h74 (allP2 h74 (allP2 h74 (allP2 h74 (allP1 h74)))))) ?_
                obtain rfl := Option.some.inj h
                refine WO_fin [0, 3, 4, 13, 14, 15, 29] [4] (fr' := [(0, aD (.slice (.pair tI (.pair tI (.pair tI tI)))) a0), (3, aI i58), (4, .one (.ptr 4 0)), (13, aD (.slice (.pair tI (.pair tI (.pair tI tI)))) a0), (14, aI (List.length a0 : Int)), (15, aI i58), (29, aB false)]) (L' := [(4, .one (.pair tI (.pair tI (.pair tI tI))) v61)]) (by kernel_rfl) (by kernel_rfl) ?_
                exact exQ_mk (by kernel_rfl) (by kernel_rfl)
            · intro e fr L hJ
              obtain ⟨rfl, rfl, rfl⟩ := hJ
              refine LT_keep [0, 3, 4, 13, 14, 15, 29] [4] (fr' := [(0, aD (.slice (.pair tI (.pair tI (.pair tI tI)))) a0), (3, aI i58), (4, .one (.ptr 4 0)), (13, aD (.slice (.pair tI (.pair tI (.pair tI tI)))) a0), (14, aI (List.length a0 : Int)), (15, aI i58), (29, aB v76)]) (L' := [(4, .one (.pair tI (.pair tI (.pair tI tI))) v61)]) (by kernel_rfl) ?_
              refine seqQ_norm ?_
              refine W_cond (o := .tmp 29) (b := v76) (by kernel_rfl) (by kernel_rfl) (fun h78 => ?_) (fun h78 => ?_)
              · replace h := ofT h78 h
                refine W_seq (by kernel_rfl) ?_
                refine W_run 1 [] [2] [] (fr' := [(2, aI (4 : Int))]) (L' := []) (obs := []) (by kernel_rfl) (by kernel_rfl) (by kernel_rfl) allP0 ?_
                refine seqQ_norm ?_
                obtain rfl := Option.some.inj h
                refine W_ret [2] [] (fr' := [(2, aI (4 : Int))]) (L' := []) (by kernel_rfl) (by kernel_rfl) ?_
                refine blockQ_ret ?_
                refine blockQ_ret ?_
                refine seqQ_ret ?_
                refine round_ret ?_
                refine escQ_ret ?_
                exact exQ_mk (by kernel_rfl) (by kernel_rfl)
              · replace h := ofF h78 h
                refine W_seq (by kernel_rfl) ?_
                obtain ⟨v85, h86, h⟩ := bind_of h
                refine W_cutK (Q' := (exQ .normal (comb_Check_s10 a0 i58)) v85) ?_ ?_
                · replace h := h86
                  refine W_region (by kernel_rfl) ?_
                  refine WO_run (j := 4) (k := 4) (orcs := []) (kF := [0, 3, 4, 13, 14, 15, 47]) (kL := [4]) (fr' := [(0, aD (.slice (.pair tI (.pair tI (.pair tI tI)))) a0), (3, aI i58), (4, .one (.ptr 4 0)), (13, aD (.slice (.pair tI (.pair tI (.pair tI tI)))) a0), (14, aI (List.length a0 : Int)), (15, aI i58), (47, aB (v61.1 == (4 : Int)))]) (L' := [(4, .one (.pair tI (.pair tI (.pair tI tI))) v61)]) (obs := []) rfl (by kernel_rfl) allP0 ?_
                  rcases Bool.eq_false_or_eq_true (v61.1 == (4 : Int)) with h83 | h83
                  · replace h := ofT h83 h
                    refine WO_run (j := 11) (k := 7) (orcs := [(8, .known true), (10, .known true), (12, .known true), (14, .known true), (16, .known true), (18, .known true), (20, .known true)]) (kF := [0, 3, 4, 13, 14, 15, 47, 54]) (kL := [4]) (fr' := [(0, aD (.slice (.pair tI (.pair tI (.pair tI tI)))) a0), (3, aI i58), (4, .one (.ptr 4 0)), (13, aD (.slice (.pair tI (.pair tI (.pair tI tI)))) a0), (14, aI (List.length a0 : Int)), (15, aI i58), (47, aB (v61.1 == (4 : Int))), (54, aB (decide ((imin v61.2.1 v61.2.2.1) < (0 : Int))))]) (L' := [(4, .one (.pair tI (.pair tI (.pair tI tI))) v61)]) (obs := [((v61.1 == (4 : Int)) = true), ((v61.1 == (4 : Int)) = true), ((v61.1 == (4 : Int)) = true), ((v61.1 == (4 : Int)) = true), ((v61.1 == (4 : Int)) = true), ((v61.1 == (4 : Int)) = true), ((v61.1 == (4 : Int)) = true)]) rfl (by kernel_rfl) (allP2 h83 (allP2 h83 (allP2 h83 (allP2 h83 (allP2 h83 (allP2 h83 (allP1 h83))))))) ?_
                    rcases Bool.eq_false_or_eq_true (decide ((imin v61.2.1 v61.2.2.1) < (0 : Int))) with h84 | h84
                    · replace h := ofT h84 h
                      refine WO_run (j := 21) (k := 10) (orcs := [(22, .known true), (24, .known true), (26, .known true), (28, .known true), (30, .known true), (32, .known true), (34, .known true), (36, .known true), (37, .val (.dat .bool true)), (39, .val (.dat .bool true))]) (kF := [0, 13, 14, 15, 43]) (kL := [4]) (fr' := [(0, aD (.slice (.pair tI (.pair tI (.pair tI tI)))) a0), (13, aD (.slice (.pair tI (.pair tI (.pair tI tI)))) a0), (14, aI (List.length a0 : Int)), (15, aI i58), (43, aB true)]) (L' := [(4, .one (.pair tI (.pair tI (.pair tI tI))) v61)]) (obs := [((decide ((imin v61.2.1 v61.2.2.1) < (0 : Int))) = true), ((decide ((imin v61.2.1 v61.2.2.1) < (0 : Int))) = true), ((decide ((imin v61.2.1 v61.2.2.1) < (0 : Int))) = true), ((decide ((imin v61.2.1 v61.2.2.1) < (0 : Int))) = true), ((decide ((imin v61.2.1 v61.2.2.1) < (0 : Int))) = true), ((decide ((imin v61.2.1 v61.2.2.1) < (0 : Int))) = true), ((decide ((imin v61.2.1 v61.2.2.1) < (0 : Int))) = true), ((v61.1 == (4 : Int)) = true), ((decide ((imin v61.2.1 v61.2.2.1) < (0 : Int))) = true), ((v61.1 == (4 : Int)) = true)]) rfl (by kernel_rfl) (allP2 h84 (allP2 h84 (allP2 h84 (allP2 h84 (allP2 h84 (allP2 h84 (allP2 h84 (allP2 h83 (allP2 h84 (allP1 h83)))))))))) ?_
                      obtain rfl := Option.some.inj h
                      refine WO_fin [0, 13, 14, 15, 43] [] (fr' := [(0, aD (.slice (.pair tI (.pair tI (.pair tI tI)))) a0), (13, aD (.slice (.pair tI (.pair tI (.pair tI tI)))) a0), (14, aI (List.length a0 : Int)), (15, aI i58), (43, aB true)]) (L' := []) (by kernel_rfl) (by kernel_rfl) ?_
                      exact exQ_mk (by kernel_rfl) (by kernel_rfl)
                    · replace h := ofF h84 h
                      refine WO_run (j := 21) (k := 10) (orcs := [(22, .known false), (24, .known false), (26, .known false), (28, .known false), (30, .known false), (32, .known false), (34, .known false), (36, .known true), (37, .val (.dat .bool false)), (39, .val (.dat .bool true))]) (kF := [0, 13, 14, 15, 43]) (kL := [4]) (fr' := [(0, aD (.slice (.pair tI (.pair tI (.pair tI tI)))) a0), (13, aD (.slice (.pair tI (.pair tI (.pair tI tI)))) a0), (14, aI (List.length a0 : Int)), (15, aI i58), (43, aB (decide ((imax v61.2.1 v61.2.2.1) ≥ i58)))]) (L' := [(4, .one (.pair tI (.pair tI (.pair tI tI))) v61)]) (obs := [((decide ((imin v61.2.1 v61.2.2.1) < (0 : Int))) = false), ((decide ((imin v61.2.1 v61.2.2.1) < (0 : Int))) = false), ((decide ((imin v61.2.1 v61.2.2.1) < (0 : Int))) = false), ((decide ((imin v61.2.1 v61.2.2.1) < (0 : Int))) = false), ((decide ((imin v61.2.1 v61.2.2.1) < (0 : Int))) = false), ((decide ((imin v61.2.1 v61.2.2.1) < (0 : Int))) = false), ((decide ((imin v61.2.1 v61.2.2.1) < (0 : Int))) = false), ((v61.1 == (4 : Int)) = true), ((decide ((imin v61.2.1 v61.2.2.1) < (0 : Int))) = false), ((v61.1 == (4 : Int)) = true)]) rfl (by kernel_rfl) (allP2 h84 (allP2 h84 (allP2 h84 (allP2 h84 (allP2 h84 (allP2 h84 (allP2 h84 (allP2 h83 (allP2 h84 (allP1 h83)))))))))) ?_
                      obtain rfl := Option.some.inj h
                      refine WO_fin [0, 13, 14, 15, 43] [] (fr' := [(0, aD (.slice (.pair tI (.pair tI (.pair tI tI)))) a0), (13, aD (.slice (.pair tI (.pair tI (.pair tI tI)))) a0), (14, aI (List.length a0 : Int)), (15, aI i58), (43, aB (decide ((imax v61.2.1 v61.2.2.1) ≥ i58)))]) (L' := []) (by kernel_rfl) (by kernel_rfl) ?_
                      exact exQ_mk (by kernel_rfl) (by kernel_rfl)
                  · replace h := ofF h83 h
                    refine WO_run (j := 21) (k := 17) (orcs := [(8, .known false), (10, .known false), (12, .known false), (14, .known false), (16, .known false), (18, .known false), (20, .known false), (22, .known true), (24, .known true), (26, .known true), (28, .known true), (30, .known true), (32, .known true), (34, .known true), (36, .known false), (39, .val (.dat .bool false))]) (kF := [0, 13, 14, 15, 43]) (kL := [4]) (fr' := [(0, aD (.slice (.pair tI (.pair tI (.pair tI tI)))) a0), (13, aD (.slice (.pair tI (.pair tI (.pair tI tI)))) a0), (14, aI (List.length a0 : Int)), (15, aI i58), (43, aB false)]) (L' := [(4, .one (.pair tI (.pair tI (.pair tI tI))) v61)]) (obs := [((v61.1 == (4 : Int)) = false), ((v61.1 == (4 : Int)) = false), ((v61.1 == (4 : Int)) = false), ((v61.1 == (4 : Int)) = false), ((v61.1 == (4 : Int)) = false), ((v61.1 == (4 : Int)) = false), ((v61.1 == (4 : Int)) = false), ((v61.1 == (4 : Int)) = false), ((v61.1 == (4 : Int)) = false)]) rfl (by kernel_rfl) (allP2 h83 (allP2 h83 (allP2 h83 (allP2 h83 (allP2 h83 (allP2 h83 (allP2 h83 (allP2 h83 (allP1 h83))))))))) ?_
                    obtain rfl := Option.some.inj h
                    refine WO_fin [0, 13, 14, 15, 43] [] (fr' := [(0, aD (.slice (.pair tI (.pair tI (.pair tI tI)))) a0), (13, aD (.slice (.pair tI (.pair tI (.pair tI tI)))) a0), (14, aI (List.length a0 : Int)), (15, aI i58), (43, aB false)]) (L' := []) (by kernel_rfl) (by kernel_rfl) ?_
                    exact exQ_mk (by kernel_rfl) (by kernel_rfl)
                · intro e fr L hJ
                  obtain ⟨rfl, rfl, rfl⟩ := hJ
                  refine LT_keep [0, 13, 14, 15, 43] [] (fr' := [(0, aD (.slice (.pair tI (.pair tI (.pair tI tI)))) a0), (13, aD (.slice (.pair tI (.pair tI (.pair tI tI)))) a0), (14, aI (List.length a0 : Int)), (15, aI i58), (43, aB v85)]) (L' := []) (by kernel_rfl) ?_
                  refine seqQ_norm ?_
                  refine W_cond (o := .tmp 43) (b := v85) (by kernel_rfl) (by kernel_rfl) (fun h87 => ?_) (fun h87 => ?_)
                  · replace h := ofT h87 h
                    refine W_seq (by kernel_rfl) ?_
                    refine W_run 1 [] [2] [] (fr' := [(2, aI (2 : Int))]) (L' := []) (obs := []) (by kernel_rfl) (by kernel_rfl) (by kernel_rfl) allP0 ?_
                    refine seqQ_norm ?_
                    obtain rfl := Option.some.inj h
                    refine W_ret [2] [] (fr' := [(2, aI (2 : Int))]) (L' := []) (by kernel_rfl) (by kernel_rfl) ?_
                    refine blockQ_ret ?_
                    refine blockQ_ret ?_
                    refine seqQ_ret ?_
                    refine round_ret ?_
                    refine escQ_ret ?_
                    exact exQ_mk (by kernel_rfl) (by kernel_rfl)
                  · replace h := ofF h87 h
                    refine W_skip [0, 13, 14, 15] [] (fr' := [(0, aD (.slice (.pair tI (.pair tI (.pair tI tI)))) a0), (13, aD (.slice (.pair tI (.pair tI (.pair tI tI)))) a0), (14, aI (List.length a0 : Int)), (15, aI i58)]) (L' := []) (by kernel_rfl) (by kernel_rfl) ?_
                    refine blockQ_norm ?_
                    refine blockQ_norm ?_
                    refine seqQ_norm ?_
                    obtain rfl := Option.some.inj h
                    refine W_run 2 [] [0, 13, 14, 15] [] (fr' := [(0, aD (.slice (.pair tI (.pair tI (.pair tI tI)))) a0), (13, aD (.slice (.pair tI (.pair tI (.pair tI tI)))) a0), (14, aI (List.length a0 : Int)), (15, aI (w64 (i58 + (1 : Int))))]) (L' := []) (obs := []) (by kernel_rfl) (by kernel_rfl) (by kernel_rfl) allP0 ?_
                    exact round_next' (by kernel_rfl) (by kernel_rfl)
      · obtain rfl := stepL_false h63 h
        refine W_exit (id := 0) [0] [] (fr' := [(0, aD (.slice (.pair tI (.pair tI (.pair tI tI)))) a0)]) (L' := []) (by kernel_rfl) (by kernel_rfl) ?_
        refine seqQ_exit ?_
        refine round_exit ?_
        refine escQ_brk ?_
        exact exQ_mk (by kernel_rfl) (by kernel_rfl)
    · intro e fr L hJ
      rcases v89 with v94 | v95
      · obtain ⟨rfl, rfl, rfl⟩ := hJ
        obtain rfl := Option.some.inj h
        refine LT_keep [2] [] (fr' := [(2, aI v94)]) (L' := []) (by kernel_rfl) ?_
        refine blockQ_ret ?_
        refine seqQ_ret ?_
        exact retQ_mk (by kernel_rfl) (by kernel_rfl) (by kernel_rfl)
      · obtain ⟨rfl, rfl, rfl⟩ := hJ
        refine LT_keep [0] [] (fr' := [(0, aD (.slice (.pair tI (.pair tI (.pair tI tI)))) a0)]) (L' := []) (by kernel_rfl) ?_
        refine blockQ_hit ?_
        refine seqQ_norm ?_
        refine W_seq (by kernel_rfl) ?_
        refine W_seq (by kernel_rfl) ?_
        refine W_region (by kernel_rfl) ?_
        refine WO_run (j := 1) (k := 1) (orcs := []) (kF := [0, 65]) (kL := []) (fr' := [(0, aD (.slice (.pair tI (.pair tI (.pair tI tI)))) a0), (65, aD (.slice (.pair tI (.pair tI (.pair tI tI)))) a0)]) (L' := []) (obs := []) rfl (by kernel_rfl) allP0 ?_
        obtain ⟨r96, h97, h⟩ := bind_of h
        refine WO_call0 (us := [none]) (d := 66) (p := True) (j := 2) rfl ⟨by kernel_rfl, by kernel_rfl, by kernel_rfl⟩ trivial (comb_sizes_ok h97) (by kernel_rfl) ?_
        obtain ⟨v98, h99, h⟩ := bind_of h
        refine WO_run (j := 8) (k := 6) (orcs := [(11, .val (.dat tI v98))]) (kF := [72]) (kL := []) (fr' := [(72, aB (decide (v98 > (300 : Int))))]) (L' := []) (obs := [Idx r96 (w64 ((List.length a0 : Int) - (1 : Int))) v98]) rfl (by kernel_rfl) (allP1 (Idx.of h99)) ?_
        refine WO_fin [72] [] (fr' := [(72, aB (decide (v98 > (300 : Int))))]) (L' := []) (by kernel_rfl) (by kernel_rfl) ?_
        refine seqQ_norm ?_
        refine W_cond (o := .tmp 72) (b := decide (v98 > (300 : Int))) (by kernel_rfl) (by kernel_rfl) (fun h100 => ?_) (fun h100 => ?_)
        · replace h := ofT h100 h
          refine W_seq (by kernel_rfl) ?_
          refine W_run 1 [] [2] [] (fr' := [(2, aI (1 : Int))]) (L' := []) (obs := []) (by kernel_rfl) (by kernel_rfl) (by kernel_rfl) allP0 ?_
          refine seqQ_norm ?_
          obtain rfl := Option.some.inj h
          refine W_ret [2] [] (fr' := [(2, aI (1 : Int))]) (L' := []) (by kernel_rfl) (by kernel_rfl) ?_
          refine seqQ_ret ?_
          exact retQ_mk (by kernel_rfl) (by kernel_rfl) (by kernel_rfl)
        · replace h := ofF h100 h
          refine W_skip [] [] (fr' := []) (L' := []) (by kernel_rfl) (by kernel_rfl) ?_
          refine seqQ_norm ?_
          refine W_seq (by kernel_rfl) ?_
          refine W_run 1 [] [2] [] (fr' := [(2, aI (0 : Int))]) (L' := []) (obs := []) (by kernel_rfl) (by kernel_rfl) (by kernel_rfl) allP0 ?_
          refine seqQ_norm ?_
          obtain rfl := Option.some.inj h
          refine W_ret [2] [] (fr' := [(2, aI (0 : Int))]) (L' := []) (by kernel_rfl) (by kernel_rfl) ?_
          exact retQ_mk (by kernel_rfl) (by kernel_rfl) (by kernel_rfl)

@[reducible] def comb_read_s9 (a0 : (List (Int × (Int × (Int × Int))))) (i73 : Int) (x74 : (List CT)) (v : (Int × (Int × (CT × CT)))) : Fr × LL := ([(3, .one (.slc 47)), (6, .one (.ptr 16 0)), (7, aD (.slice (.pair tI (.pair tI (.pair tI tI)))) a0), (8, aI (List.length a0 : Int)), (9, aI i73)], [(47, .seq .tree x74), (16, .one (.pair tI (.pair tI (.pair .tree .tree))) v)])
@[reducible] def comb_read_s10 (a0 : (List (Int × (Int × (Int × Int))))) (i73 : Int) (x74 : (List CT)) (v76 : (Int × (Int × (Int × Int)))) (v : (Int × (Int × (CT × CT)))) : Fr × LL := ([(3, .one (.slc 47)), (5, .one (.ptr 5 0)), (6, .one (.ptr 16 0)), (7, aD (.slice (.pair tI (.pair tI (.pair tI tI)))) a0), (8, aI (List.length a0 : Int)), (9, aI i73)], [(47, .seq .tree x74), (5, .one (.pair tI (.pair tI (.pair tI tI))) v76), (16, .one (.pair tI (.pair tI (.pair .tree .tree))) v)])
def comb_read_b11 (i73 : Int) (v76 : (Int × (Int × (Int × Int)))) (x74 : (List CT)) : Option (Flow (List CT) (List CT)) :=
(bif v76.1 == (3 : Int) then
(some (v76.1, v76.2.2.2, CT.nil, CT.nil))
else
(some (v76.1, (0 : Int), CT.nil, CT.nil))).bind fun v105 =>
(bif v76.1 == (4 : Int) then
((idx x74 v76.2.1).bind fun v118 =>
(idx x74 v76.2.2.1).bind fun v120 =>
some (v105.1, v105.2.1, v118, v120))
else
(some v105)).bind fun v122 =>
(ck ((List.length x74 : Int) + 1 ≤ 4294967296)).bind fun _ =>
some (.next (x74 ++ [CT.mk v122]))
@[reducible] def comb_read_s12 (a0 : (List (Int × (Int × (Int × Int))))) (v : Int × (List CT)) : Fr × LL := ([(3, .one (.slc 47)), (7, aD (.slice (.pair tI (.pair tI (.pair tI tI)))) a0), (8, aI (List.length a0 : Int)), (9, aI v.1)], [(47, .seq .tree v.2)])
@[reducible] def comb_read_s13 (v : (List CT)) : Fr × LL := ([(3, .one (.slc 47))], [(47, .seq .tree v)])
def comb_read (a0 : (List (Int × (Int × (Int × Int))))) : Option CT :=
(forL comb_read_b11 (fun x74 => x74) a0 0 []).bind fun v126 =>
(idx v126 (w64 ((List.length v126 : Int) - (1 : Int)))).bind fun v131 =>
some v131
theorem comb_read_ok {a0 : (List (Int × (Int × (Int × Int))))} {r : CT} (h : comb_read a0 = some r) : FnC Try.prog 61 [aD (.slice (.pair tI (.pair tI (.pair tI tI)))) a0] [] (aD .tree r) [] := by
  refine fnC_of_W (B := bodyOf Try.f61) (n := 55) Try.func61 (by kernel_rfl) (by kernel_rfl) (by kernel_rfl) (by kernel_rfl) (by kernel_rfl) ?_
  intro K
  refine W_seq (by kernel_rfl) ?_
  refine W_run 1 [] [0] [] (fr' := [(0, aD (.slice (.pair tI (.pair tI (.pair tI tI)))) a0)]) (L' := []) (obs := []) (by kernel_rfl) (by kernel_rfl) (by kernel_rfl) allP0 ?_
  refine seqQ_norm ?_
  refine W_seq (by kernel_rfl) ?_
  refine W_run 1 [] [0, 3] [] (fr' := [(0, aD (.slice (.pair tI (.pair tI (.pair tI tI)))) a0), (3, .one (.nilS))]) (L' := []) (obs := []) (by kernel_rfl) (by kernel_rfl) (by kernel_rfl) allP0 ?_
  refine seqQ_norm ?_
  refine W_seq (by kernel_rfl) ?_
  refine W_seq (by kernel_rfl) ?_
  refine W_run 3 [] [3, 7, 8, 9] [] (fr' := [(3, .one (.nilS)), (7, aD (.slice (.pair tI (.pair tI (.pair tI tI)))) a0), (8, aI (List.length a0 : Int)), (9, aI (0 : Int))]) (L' := []) (obs := []) (by kernel_rfl) (by kernel_rfl) (by kernel_rfl) allP0 ?_
  refine seqQ_norm ?_
  refine W_block (id := 0) (by kernel_rfl) ?_
  obtain ⟨v126, h127, h⟩ := bind_of h
  refine W_len (t := 7) (u := (.pair tI (.pair tI (.pair tI tI)))) (xs := a0) (by kernel_rfl) (fun h130 => ?_)
  obtain ⟨h128, h129⟩ := forL_iter h130 h127
  refine W_mine 3 47 .tree (by kernel_rfl) ?_
  refine W_weaken [3, 7, 8, 9] [47] (fr' := ((comb_read_s12 a0) ((0 : Int), [])).1) (L' := ((comb_read_s12 a0) ((0 : Int), [])).2) (by kernel_rfl) ?_
  refine W_cutK (W_loop (S := (comb_read_s12 a0)) (J := (exQ (.exit 0) comb_read_s13)) (by kernel_rfl) ?_ h128 _ v126 h129) ?_
  · rintro ⟨i73, x74⟩ s h
    refine W_seq (by kernel_rfl) ?_
    refine W_run 1 [] [3, 7, 8, 9, 10] [47] (fr' := [(3, .one (.slc 47)), (7, aD (.slice (.pair tI (.pair tI (.pair tI tI)))) a0), (8, aI (List.length a0 : Int)), (9, aI i73), (10, aB (decide (i73 < (List.length a0 : Int))))]) (L' := [(47, .seq .tree x74)]) (obs := []) (by kernel_rfl) (by kernel_rfl) (by kernel_rfl) allP0 ?_
    refine seqQ_norm ?_
    refine W_seq (by kernel_rfl) ?_
    refine W_cond (o := .tmp 10) (b := decide (i73 < (List.length a0 : Int))) (by kernel_rfl) (by kernel_rfl) (fun h78 => ?_) (fun h78 => ?_)
    · replace h := stepL_true h78 h
      obtain ⟨v76, _, h77, h, rfl⟩ := h
      refine W_skip [3, 7, 8, 9] [47] (fr' := [(3, .one (.slc 47)), (7, aD (.slice (.pair tI (.pair tI (.pair tI tI)))) a0), (8, aI (List.length a0 : Int)), (9, aI i73)]) (L' := [(47, .seq .tree x74)]) (by kernel_rfl) (by kernel_rfl) ?_
      refine seqQ_norm ?_
      refine W_seq (by kernel_rfl) ?_
      refine W_block (id := 1) (by kernel_rfl) ?_
      refine W_seq (by kernel_rfl) ?_
      refine W_run 4 [(1, .val (.dat (.pair tI (.pair tI (.pair tI tI))) v76)), (5, .typed)] [3, 5, 7, 8, 9] [47, 5] (fr' := [(3, .one (.slc 47)), (5, .one (.ptr 5 0)), (7, aD (.slice (.pair tI (.pair tI (.pair tI tI)))) a0), (8, aI (List.length a0 : Int)), (9, aI i73)]) (L' := [(47, .seq .tree x74), (5, .one (.pair tI (.pair tI (.pair tI tI))) v76)]) (obs := [Idx a0 i73 v76, True]) (by kernel_rfl) (by kernel_rfl) (by kernel_rfl) (allP2 (Idx.of h77) (allP1 trivial)) ?_
      refine seqQ_norm ?_
      refine W_seq (by kernel_rfl) ?_
      refine W_run 5 [] [3, 5, 6, 7, 8, 9] [47, 5, 16] (fr' := [(3, .one (.slc 47)), (5, .one (.ptr 5 0)), (6, .one (.ptr 16 0)), (7, aD (.slice (.pair tI (.pair tI (.pair tI tI)))) a0), (8, aI (List.length a0 : Int)), (9, aI i73)]) (L' := [(47, .seq .tree x74), (5, .one (.pair tI (.pair tI (.pair tI tI))) v76), (16, .one (.pair tI (.pair tI (.pair .tree .tree))) (v76.1, (0 : Int), CT.nil, CT.nil))]) (obs := []) (by kernel_rfl) (by kernel_rfl) (by kernel_rfl) allP0 ?_
      refine seqQ_norm ?_
      refine W_seq (by kernel_rfl) ?_
      obtain ⟨v105, h106, h⟩ := bind_of h
      refine W_cutK (Q' := (exQ .normal (comb_read_s10 a0 i73 x74 v76)) v105) ?_ ?_
      · replace h := h106
        refine W_seq (by kernel_rfl) ?_
        refine W_run 3 [] [3, 5, 6, 7, 8, 9, 19] [47, 5, 16] (fr' := [(3, .one (.slc 47)), (5, .one (.ptr 5 0)), (6, .one (.ptr 16 0)), (7, aD (.slice (.pair tI (.pair tI (.pair tI tI)))) a0), (8, aI (List.length a0 : Int)), (9, aI i73), (19, aB (v76.1 == (3 : Int)))]) (L' := [(47, .seq .tree x74), (5, .one (.pair tI (.pair tI (.pair tI tI))) v76), (16, .one (.pair tI (.pair tI (.pair .tree .tree))) (v76.1, (0 : Int), CT.nil, CT.nil))]) (obs := []) (by kernel_rfl) (by kernel_rfl) (by kernel_rfl) allP0 ?_
        refine seqQ_norm ?_
        refine W_cond (o := .tmp 19) (b := v76.1 == (3 : Int)) (by kernel_rfl) (by kernel_rfl) (fun h104 => ?_) (fun h104 => ?_)
        · replace h := ofT h104 h
          obtain rfl := Option.some.inj h
          refine W_run 6 [] [3, 5, 6, 7, 8, 9] [47, 5, 16] (fr' := [(3, .one (.slc 47)), (5, .one (.ptr 5 0)), (6, .one (.ptr 16 0)), (7, aD (.slice (.pair tI (.pair tI (.pair tI tI)))) a0), (8, aI (List.length a0 : Int)), (9, aI i73)]) (L' := [(47, .seq .tree x74), (5, .one (.pair tI (.pair tI (.pair tI tI))) v76), (16, .one (.pair tI (.pair tI (.pair .tree .tree))) (v76.1, v76.2.2.2, CT.nil, CT.nil))]) (obs := [True]) (by kernel_rfl) (by kernel_rfl) (by kernel_rfl) (allP1 trivial) ?_
          exact exQ_mk (by kernel_rfl) (by kernel_rfl)
        · replace h := ofF h104 h
          obtain rfl := Option.some.inj h
          refine W_skip [3, 5, 6, 7, 8, 9] [47, 5, 16] (fr' := [(3, .one (.slc 47)), (5, .one (.ptr 5 0)), (6, .one (.ptr 16 0)), (7, aD (.slice (.pair tI (.pair tI (.pair tI tI)))) a0), (8, aI (List.length a0 : Int)), (9, aI i73)]) (L' := [(47, .seq .tree x74), (5, .one (.pair tI (.pair tI (.pair tI tI))) v76), (16, .one (.pair tI (.pair tI (.pair .tree .tree))) (v76.1, (0 : Int), CT.nil, CT.nil))]) (by kernel_rfl) (by kernel_rfl) ?_
          exact exQ_mk (by kernel_rfl) (by kernel_rfl)
      · intro e fr L hJ
        obtain ⟨rfl, rfl, rfl⟩ := hJ
        refine LT_keep [3, 5, 6, 7, 8, 9] [47, 5, 16] (fr' := [(3, .one (.slc 47)), (5, .one (.ptr 5 0)), (6, .one (.ptr 16 0)), (7, aD (.slice (.pair tI (.pair tI (.pair tI tI)))) a0), (8, aI (List.length a0 : Int)), (9, aI i73)]) (L' := [(47, .seq .tree x74), (5, .one (.pair tI (.pair tI (.pair tI tI))) v76), (16, .one (.pair tI (.pair tI (.pair .tree .tree))) v105)]) (by kernel_rfl) ?_
        refine seqQ_norm ?_
        refine W_seq (by kernel_rfl) ?_
        obtain ⟨v122, h123, h⟩ := bind_of h
        refine W_cutK (Q' := (exQ .normal (comb_read_s9 a0 i73 x74)) v122) ?_ ?_
        · replace h := h123
          refine W_seq (by kernel_rfl) ?_
          refine W_run 3 [] [3, 5, 6, 7, 8, 9, 27] [47, 5, 16] (fr' := [(3, .one (.slc 47)), (5, .one (.ptr 5 0)), (6, .one (.ptr 16 0)), (7, aD (.slice (.pair tI (.pair tI (.pair tI tI)))) a0), (8, aI (List.length a0 : Int)), (9, aI i73), (27, aB (v76.1 == (4 : Int)))]) (L' := [(47, .seq .tree x74), (5, .one (.pair tI (.pair tI (.pair tI tI))) v76), (16, .one (.pair tI (.pair tI (.pair .tree .tree))) v105)]) (obs := []) (by kernel_rfl) (by kernel_rfl) (by kernel_rfl) allP0 ?_
          refine seqQ_norm ?_
          refine W_cond (o := .tmp 27) (b := v76.1 == (4 : Int)) (by kernel_rfl) (by kernel_rfl) (fun h117 => ?_) (fun h117 => ?_)
          · replace h := ofT h117 h
            obtain ⟨v118, h119, h⟩ := bind_of h
            obtain ⟨v120, h121, h⟩ := bind_of h
            obtain rfl := Option.some.inj h
            refine W_draw3 12 [1] [(13, .val (.dat .tree v118)), (23, .val (.dat .tree v120))] [] [3, 6, 7, 8, 9] [47, 16] (fr' := [(3, .one (.slc 47)), (6, .one (.ptr 16 0)), (7, aD (.slice (.pair tI (.pair tI (.pair tI tI)))) a0), (8, aI (List.length a0 : Int)), (9, aI i73)]) (L' := [(47, .seq .tree x74), (16, .one (.pair tI (.pair tI (.pair .tree .tree))) (v105.1, v105.2.1, v118, v120))]) (out := [(28, .one (.ptr 16 0)), (29, .one (.ptr 16 0)), (30, .one (.slc 47)), (31, .one (.ptr 5 1)), (32, aI v76.2.1), (33, .one (.eptr 47 1 v76.2.1 0)), (34, aD .tree v118), (35, .one (.slc 47)), (36, .one (.ptr 5 2)), (37, aI v76.2.2.1), (38, .one (.eptr 47 1 v76.2.2.1 0)), (39, aD .tree v120)]) (obs := [InR v76.2.1 (List.length x74), Idx x74 v76.2.1 v118, InR v76.2.2.1 (List.length x74), Idx x74 v76.2.2.1 v120]) (obs2 := [True, True]) (calls := []) (by kernel_rfl) (by kernel_rfl) (by kernel_rfl) (by kernel_rfl) (allP2 (InR.of h119) (allP2 (Idx.of h119) (allP2 (InR.of h121) (allP1 (Idx.of h121))))) allC0 (by kernel_rfl) (allP2 trivial (allP1 trivial)) ?_
            exact exQ_mk (by kernel_rfl) (by kernel_rfl)
          · replace h := ofF h117 h
            obtain rfl := Option.some.inj h
            refine W_skip [3, 6, 7, 8, 9] [47, 16] (fr' := [(3, .one (.slc 47)), (6, .one (.ptr 16 0)), (7, aD (.slice (.pair tI (.pair tI (.pair tI tI)))) a0), (8, aI (List.length a0 : Int)), (9, aI i73)]) (L' := [(47, .seq .tree x74), (16, .one (.pair tI (.pair tI (.pair .tree .tree))) v105)]) (by kernel_rfl) (by kernel_rfl) ?_
            exact exQ_mk (by kernel_rfl) (by kernel_rfl)
        · intro e fr L hJ
          obtain ⟨rfl, rfl, rfl⟩ := hJ
          refine LT_keep [3, 6, 7, 8, 9] [47, 16] (fr' := [(3, .one (.slc 47)), (6, .one (.ptr 16 0)), (7, aD (.slice (.pair tI (.pair tI (.pair tI tI)))) a0), (8, aI (List.length a0 : Int)), (9, aI i73)]) (L' := [(47, .seq .tree x74), (16, .one (.pair tI (.pair tI (.pair .tree .tree))) v122)]) (by kernel_rfl) ?_
          refine seqQ_norm ?_
          refine W_region (by kernel_rfl) ?_
          refine WO_run (j := 2) (k := 2) (orcs := []) (kF := [3, 7, 8, 9, 44, 45]) (kL := [16, 47]) (fr' := [(3, .one (.slc 47)), (7, aD (.slice (.pair tI (.pair tI (.pair tI tI)))) a0), (8, aI (List.length a0 : Int)), (9, aI i73), (44, .one (.slc 47)), (45, .one (.ptr 16 0))]) (L' := [(16, .one (.pair tI (.pair tI (.pair .tree .tree))) v122), (47, .seq .tree x74)]) (obs := []) rfl (by kernel_rfl) allP0 ?_
          refine WO_fz 16 (by kernel_rfl) ?_
          obtain ⟨_, h124, h⟩ := bind_of h
          replace h124 := ck_some h124
          refine WO_run (j := 5) (k := 3) (orcs := []) (kF := [3, 7, 8, 9]) (kL := [46, 47]) (fr' := [(3, .one (.slc 47)), (7, aD (.slice (.pair tI (.pair tI (.pair tI tI)))) a0), (8, aI (List.length a0 : Int)), (9, aI i73)]) (L' := [(46, .seq .tree [CT.mk v122]), (47, .seq .tree (x74 ++ [CT.mk v122]))]) (obs := [SmallLen (List.length x74 + List.length [CT.mk v122])]) rfl (by kernel_rfl) (allP1 h124) ?_
          refine WO_fin [3, 7, 8, 9] [47] (fr' := [(3, .one (.slc 47)), (7, aD (.slice (.pair tI (.pair tI (.pair tI tI)))) a0), (8, aI (List.length a0 : Int)), (9, aI i73)]) (L' := [(47, .seq .tree (x74 ++ [CT.mk v122]))]) (by kernel_rfl) (by kernel_rfl) ?_
          refine blockQ_norm ?_
          refine seqQ_norm ?_
          obtain rfl := Option.some.inj h
          refine W_run 2 [] [3, 7, 8, 9] [47] (fr' := [(3, .one (.slc 47)), (7, aD (.slice (.pair tI (.pair tI (.pair tI tI)))) a0), (8, aI (List.length a0 : Int)), (9, aI (w64 (i73 + (1 : Int))))]) (L' := [(47, .seq .tree (x74 ++ [CT.mk v122]))]) (obs := []) (by kernel_rfl) (by kernel_rfl) (by kernel_rfl) allP0 ?_
          exact round_next' (by kernel_rfl) (by kernel_rfl)
    · obtain rfl := stepL_false h78 h
      refine W_exit (id := 0) [3] [47] (fr' := [(3, .one (.slc 47))]) (L' := [(47, .seq .tree x74)]) (by kernel_rfl) (by kernel_rfl) ?_
      refine seqQ_exit ?_
      refine round_exit ?_
      exact exQ_mk (by kernel_rfl) (by kernel_rfl)
  · intro e fr L hJ
    obtain ⟨rfl, rfl, rfl⟩ := hJ
    refine LT_keep [3] [47] (fr' := [(3, .one (.slc 47))]) (L' := [(47, .seq .tree v126)]) (by kernel_rfl) ?_
    refine blockQ_hit ?_
    refine seqQ_norm ?_
    refine W_seq (by kernel_rfl) ?_
    obtain ⟨v131, h132, h⟩ := bind_of h
    refine W_run 7 [(11, .val (.dat .tree v131))] [2] [] (fr' := [(2, aD .tree v131)]) (L' := []) (obs := [InR (w64 ((List.length v126 : Int) - (1 : Int))) (List.length v126), Idx v126 (w64 ((List.length v126 : Int) - (1 : Int))) v131]) (by kernel_rfl) (by kernel_rfl) (by kernel_rfl) (allP2 (InR.of h132) (allP1 (Idx.of h132))) ?_
    refine seqQ_norm ?_
    obtain rfl := Option.some.inj h
    refine W_ret [2] [] (fr' := [(2, aD .tree v131)]) (L' := []) (by kernel_rfl) (by kernel_rfl) ?_
    exact retQ_mk (by kernel_rfl) (by kernel_rfl) (by kernel_rfl)

def slices_Reverse_LcombTreecombTree_b1 (x9 : (Int × Int × (List CT))) : Option (Flow (Int × Int × (List CT)) (List CT)) :=
bif decide (x9.1 < x9.2.1) then
((idx x9.2.2 x9.2.1).bind fun v18 =>
(idx x9.2.2 x9.1).bind fun v20 =>
(idx (List.set x9.2.2 (Int.toNat x9.1) v18) x9.2.1).bind fun v22 =>
some (.next (w64 (x9.1 + (1 : Int)), w64 (x9.2.1 - (1 : Int)), List.set (List.set x9.2.2 (Int.toNat x9.1) v18) (Int.toNat x9.2.1) v20)))
else
(some (.done x9.2.2))
@[reducible] def slices_Reverse_LcombTreecombTree_s2 (v : (Int × Int × (List CT))) : Fr × LL := ([(0, .one (.slc 1000)), (2, aI v.1), (3, aI v.2.1)], [(1000, .seq .tree v.2.2)])
@[reducible] def slices_Reverse_LcombTreecombTree_s3 (v : (List CT)) : Fr × LL := ([], [(1000, .seq .tree v)])
def slices_Reverse_LcombTreecombTree (fuel : Nat) (c0 : (List CT)) : Option (List CT) :=
(iter slices_Reverse_LcombTreecombTree_b1 fuel ((0 : Int), w64 ((List.length c0 : Int) - (1 : Int)), c0)).bind fun v24 =>
some v24
theorem slices_Reverse_LcombTreecombTree_ok {fuel : Nat} {c0 : (List CT)} {r : (List CT)} (h : slices_Reverse_LcombTreecombTree fuel c0 = some r) : FnC Try.prog 94 [.one (.slc 1000)] [(1000, .seq .tree c0)] (.tup []) [(1000, .seq .tree r)] := by
  refine fnC_of_W (B := bodyOf Try.f94) (n := 28) Try.func94 (by kernel_rfl) (by kernel_rfl) (by kernel_rfl) (by kernel_rfl) (by kernel_rfl) ?_
  intro K
  refine W_seq (by kernel_rfl) ?_
  refine W_run 5 [] [0, 2, 3] [1000] (fr' := [(0, .one (.slc 1000)), (2, aI (0 : Int)), (3, aI (w64 ((List.length c0 : Int) - (1 : Int))))]) (L' := [(1000, .seq .tree c0)]) (obs := []) (by kernel_rfl) (by kernel_rfl) (by kernel_rfl) allP0 ?_
  refine seqQ_norm ?_
  refine W_block (id := 0) (by kernel_rfl) ?_
  obtain ⟨v24, h25, h⟩ := bind_of h
  refine W_weaken [0, 2, 3] [1000] (fr' := (slices_Reverse_LcombTreecombTree_s2 ((0 : Int), w64 ((List.length c0 : Int) - (1 : Int)), c0)).1) (L' := (slices_Reverse_LcombTreecombTree_s2 ((0 : Int), w64 ((List.length c0 : Int) - (1 : Int)), c0)).2) (by kernel_rfl) ?_
  refine W_cutK (W_loop (S := slices_Reverse_LcombTreecombTree_s2) (J := (exQ (.exit 0) slices_Reverse_LcombTreecombTree_s3)) (by kernel_rfl) ?_ fuel _ v24 h25) ?_
  · rintro x9 s h
    refine W_seq (by kernel_rfl) ?_
    refine W_seq (by kernel_rfl) ?_
    refine W_run 3 [] [0, 2, 3, 9] [1000] (fr' := [(0, .one (.slc 1000)), (2, aI x9.1), (3, aI x9.2.1), (9, aB (decide (x9.1 < x9.2.1)))]) (L' := [(1000, .seq .tree x9.2.2)]) (obs := []) (by kernel_rfl) (by kernel_rfl) (by kernel_rfl) allP0 ?_
    refine seqQ_norm ?_
    refine W_cond (o := .tmp 9) (b := decide (x9.1 < x9.2.1)) (by kernel_rfl) (by kernel_rfl) (fun h17 => ?_) (fun h17 => ?_)
    · replace h := ofT h17 h
      refine W_skip [0, 2, 3] [1000] (fr' := [(0, .one (.slc 1000)), (2, aI x9.1), (3, aI x9.2.1)]) (L' := [(1000, .seq .tree x9.2.2)]) (by kernel_rfl) (by kernel_rfl) ?_
      refine seqQ_norm ?_
      refine W_seq (by kernel_rfl) ?_
      refine W_block (id := 1) (by kernel_rfl) ?_
      obtain ⟨v18, h19, h⟩ := bind_of h
      obtain ⟨v20, h21, h⟩ := bind_of h
      obtain ⟨v22, h23, h⟩ := bind_of h
      refine W_draw3 12 [2, 3] [(15, .val (.dat .tree v18)), (23, .val (.dat .tree v20))] [] [0, 2, 3] [1000] (fr' := [(0, .one (.slc 1000)), (2, aI x9.1), (3, aI x9.2.1)]) (L' := [(1000, .seq .tree (List.set (List.set x9.2.2 (Int.toNat x9.1) v18) (Int.toNat x9.2.1) v20))]) (out := [(14, .one (.slc 1000)), (15, aI x9.1), (16, .one (.slc 1000)), (17, aI x9.2.1), (18, .one (.slc 1000)), (19, aI x9.2.1), (20, .one (.eptr 1000 1 x9.2.1 0)), (21, aD .tree v18), (22, .one (.slc 1000)), (23, aI x9.1), (24, .one (.eptr 1000 1 x9.1 0)), (25, aD .tree v20)]) (obs := [InR x9.2.1 (List.length x9.2.2), Idx x9.2.2 x9.2.1 v18, InR x9.1 (List.length x9.2.2), Idx x9.2.2 x9.1 v20]) (obs2 := [InR x9.1 (List.length x9.2.2), InR x9.1 (List.length x9.2.2), InR x9.2.1 (List.length (List.set x9.2.2 (Int.toNat x9.1) v18)), InR x9.2.1 (List.length (List.set x9.2.2 (Int.toNat x9.1) v18))]) (calls := []) (by kernel_rfl) (by kernel_rfl) (by kernel_rfl) (by kernel_rfl) (allP2 (InR.of h19) (allP2 (Idx.of h19) (allP2 (InR.of h21) (allP1 (Idx.of h21))))) allC0 (by kernel_rfl) (allP2 (InR.of h21) (allP2 (InR.of h21) (allP2 (InR.of h23) (allP1 (InR.of h23))))) ?_
      refine blockQ_norm ?_
      refine seqQ_norm ?_
      obtain rfl := Option.some.inj h
      refine W_run 6 [] [0, 2, 3] [1000] (fr' := [(0, .one (.slc 1000)), (2, aI (w64 (x9.1 + (1 : Int)))), (3, aI (w64 (x9.2.1 - (1 : Int))))]) (L' := [(1000, .seq .tree (List.set (List.set x9.2.2 (Int.toNat x9.1) v18) (Int.toNat x9.2.1) v20))]) (obs := []) (by kernel_rfl) (by kernel_rfl) (by kernel_rfl) allP0 ?_
      exact round_next' (by kernel_rfl) (by kernel_rfl)
    · replace h := ofF h17 h
      obtain rfl := Option.some.inj h
      refine W_exit (id := 0) [] [1000] (fr' := []) (L' := [(1000, .seq .tree x9.2.2)]) (by kernel_rfl) (by kernel_rfl) ?_
      refine seqQ_exit ?_
      refine round_exit ?_
      exact exQ_mk (by kernel_rfl) (by kernel_rfl)
  · intro e fr L hJ
    obtain ⟨rfl, rfl, rfl⟩ := hJ
    obtain rfl := Option.some.inj h
    refine LT_keep [] [1000] (fr' := []) (L' := [(1000, .seq .tree v24)]) (by kernel_rfl) ?_
    refine blockQ_hit ?_
    exact ⟨.inr rfl, by kernel_rfl, by kernel_rfl, by kernel_rfl⟩

def comb_Tree_letter_b1 (i12 : Int) (x13 : (CT × (List CT))) : Option (Flow (CT × (List CT)) (Esc ((List CT) × Bool) (CT × (List CT)))) :=
(CT.open x13.1).bind fun p16 =>
bif p16.1 != (4 : Int) then
(some (.done (.ret ([], false))))
else
((ck ((List.length x13.2 : Int) + 1 ≤ 4294967296)).bind fun _ =>
some (.next (p16.2.2.1, x13.2 ++ [p16.2.2.2])))
@[reducible] def comb_Tree_letter_s2 (a1 : Int) (a2 : Int) (v : Int × (CT × (List CT))) : Fr × LL := ([(0, aD .tree v.2.1), (1, aI a1), (8, .one (.slc 23)), (9, aI a2), (10, aI v.1)], [(23, .seq .tree v.2.2)])
@[reducible] def comb_Tree_letter_s3 (v : ((List CT) × Bool)) : Fr × LL := ([(6, aD (.slice .tree) v.1), (7, aB v.2)], [])
@[reducible] def comb_Tree_letter_s4 (a1 : Int) (v : (CT × (List CT))) : Fr × LL := ([(0, aD .tree v.1), (1, aI a1), (8, .one (.slc 23))], [(23, .seq .tree v.2)])
def comb_Tree_letter (fuel : Nat) (a0 : CT) (a1 : Int) (a2 : Int) : Option ((List CT) × Bool) :=
(forI (0 : Int) a2 comb_Tree_letter_b1 (fun x13 => (.brk (x13.1, x13.2))) (a0, [])).bind fun v21 =>
match v21 with
| .ret v25 =>
(some (v25.1, v25.2))
| .brk v26 =>
((slices_Reverse_LcombTreecombTree fuel v26.2).bind fun r27 =>
(CT.open v26.1).bind fun p29 =>
some (r27, p29.1 == a1))
theorem comb_Tree_letter_ok {fuel : Nat} {a0 : CT} {a1 : Int} {a2 : Int} {r : ((List CT) × Bool)} (h : comb_Tree_letter fuel a0 a1 a2 = some r) : FnC Try.prog 84 [aD .tree a0, aI a1, aI a2] [] (.tup [.dat (.slice .tree) r.1, .dat .bool r.2]) [] := by
  refine fnC_of_W (B := bodyOf Try.f84) (n := 38) Try.func84 (by kernel_rfl) (by kernel_rfl) (by kernel_rfl) (by kernel_rfl) (by kernel_rfl) ?_
  intro K
  refine W_seq (by kernel_rfl) ?_
  refine W_run 2 [] [0, 1, 2] [] (fr' := [(0, aD .tree a0), (1, aI a1), (2, aI a2)]) (L' := []) (obs := []) (by kernel_rfl) (by kernel_rfl) (by kernel_rfl) allP0 ?_
  refine seqQ_norm ?_
  refine W_seq (by kernel_rfl) ?_
  refine W_run 1 [] [0, 1, 2, 8] [] (fr' := [(0, aD .tree a0), (1, aI a1), (2, aI a2), (8, .one (.nilS))]) (L' := []) (obs := []) (by kernel_rfl) (by kernel_rfl) (by kernel_rfl) allP0 ?_
  refine seqQ_norm ?_
  refine W_seq (by kernel_rfl) ?_
  refine W_seq (by kernel_rfl) ?_
  refine W_run 2 [] [0, 1, 8, 9, 10] [] (fr' := [(0, aD .tree a0), (1, aI a1), (8, .one (.nilS)), (9, aI a2), (10, aI (0 : Int))]) (L' := []) (obs := []) (by kernel_rfl) (by kernel_rfl) (by kernel_rfl) allP0 ?_
  refine seqQ_norm ?_
  refine W_block (id := 0) (by kernel_rfl) ?_
  obtain ⟨v21, h22, h⟩ := bind_of h
  obtain ⟨h23, h24⟩ := forI_iter h22
  refine W_mine 8 23 .tree (by kernel_rfl) ?_
  refine W_weaken [0, 1, 8, 9, 10] [23] (fr' := ((comb_Tree_letter_s2 a1 a2) ((0 : Int), (a0, []))).1) (L' := ((comb_Tree_letter_s2 a1 a2) ((0 : Int), (a0, []))).2) (by kernel_rfl) ?_
  refine W_cutK (W_loop (S := (comb_Tree_letter_s2 a1 a2)) (J := (escQ (exQ .ret comb_Tree_letter_s3) (exQ (.exit 0) (comb_Tree_letter_s4 a1)))) (by kernel_rfl) ?_ h23 _ v21 h24) ?_
  · rintro ⟨i12, x13⟩ s h
    refine W_seq (by kernel_rfl) ?_
    refine W_run 1 [] [0, 1, 8, 9, 10, 11] [23] (fr' := [(0, aD .tree x13.1), (1, aI a1), (8, .one (.slc 23)), (9, aI a2), (10, aI i12), (11, aB (decide (i12 < a2)))]) (L' := [(23, .seq .tree x13.2)]) (obs := []) (by kernel_rfl) (by kernel_rfl) (by kernel_rfl) allP0 ?_
    refine seqQ_norm ?_
    refine W_seq (by kernel_rfl) ?_
    refine W_cond (o := .tmp 11) (b := decide (i12 < a2)) (by kernel_rfl) (by kernel_rfl) (fun h15 => ?_) (fun h15 => ?_)
    · replace h := stepI_true h15 h
      obtain ⟨_, h, rfl⟩ := h
      refine W_skip [0, 1, 8, 9, 10] [23] (fr' := [(0, aD .tree x13.1), (1, aI a1), (8, .one (.slc 23)), (9, aI a2), (10, aI i12)]) (L' := [(23, .seq .tree x13.2)]) (by kernel_rfl) (by kernel_rfl) ?_
      refine seqQ_norm ?_
      refine W_seq (by kernel_rfl) ?_
      refine W_block (id := 1) (by kernel_rfl) ?_
      refine W_seq (by kernel_rfl) ?_
      refine W_seq (by kernel_rfl) ?_
      obtain ⟨p16, h17, h⟩ := bind_of h
      refine W_run 5 [(3, .val (.dat (.pair tI (.pair tI (.pair .tree .tree))) p16))] [0, 1, 8, 9, 10, 16] [23] (fr' := [(0, aD .tree x13.1), (1, aI a1), (8, .one (.slc 23)), (9, aI a2), (10, aI i12), (16, aB (p16.1 != (4 : Int)))]) (L' := [(23, .seq .tree x13.2)]) (obs := [CT.open x13.1 = some p16]) (by kernel_rfl) (by kernel_rfl) (by kernel_rfl) (allP1 h17) ?_
      refine seqQ_norm ?_
      refine W_cond (o := .tmp 16) (b := p16.1 != (4 : Int)) (by kernel_rfl) (by kernel_rfl) (fun h18 => ?_) (fun h18 => ?_)
      · replace h := ofT h18 h
        refine W_seq (by kernel_rfl) ?_
        refine W_run 2 [] [6, 7] [] (fr' := [(6, .one (.nilS)), (7, aB false)]) (L' := []) (obs := []) (by kernel_rfl) (by kernel_rfl) (by kernel_rfl) allP0 ?_
        refine seqQ_norm ?_
        obtain rfl := Option.some.inj h
        refine W_cnv 6 (.slice .tree) (by kernel_rfl) ?_
        refine W_ret [6, 7] [] (fr' := [(6, aD (.slice .tree) []), (7, aB false)]) (L' := []) (by kernel_rfl) (by kernel_rfl) ?_
        refine seqQ_ret ?_
        refine blockQ_ret ?_
        refine seqQ_ret ?_
        refine round_ret ?_
        refine escQ_ret ?_
        exact exQ_mk (by kernel_rfl) (by kernel_rfl)
      · replace h := ofF h18 h
        refine W_skip [0, 1, 8, 9, 10] [23] (fr' := [(0, aD .tree x13.1), (1, aI a1), (8, .one (.slc 23)), (9, aI a2), (10, aI i12)]) (L' := [(23, .seq .tree x13.2)]) (by kernel_rfl) (by kernel_rfl) ?_
        refine seqQ_norm ?_
        refine W_seq (by kernel_rfl) ?_
        obtain ⟨_, h19, h⟩ := bind_of h
        replace h19 := ck_some h19
        refine W_run 8 [(5, .val (.dat (.pair tI (.pair tI (.pair .tree .tree))) p16))] [0, 1, 8, 9, 10] [23] (fr' := [(0, aD .tree x13.1), (1, aI a1), (8, .one (.slc 23)), (9, aI a2), (10, aI i12)]) (L' := [(23, .seq .tree (x13.2 ++ [p16.2.2.2]))]) (obs := [CT.open x13.1 = some p16, SmallLen (List.length x13.2 + List.length [p16.2.2.2])]) (by kernel_rfl) (by kernel_rfl) (by kernel_rfl) (allP2 h17 (allP1 h19)) ?_
        refine seqQ_norm ?_
        refine W_run 5 [(3, .val (.dat (.pair tI (.pair tI (.pair .tree .tree))) p16))] [0, 1, 8, 9, 10] [23] (fr' := [(0, aD .tree p16.2.2.1), (1, aI a1), (8, .one (.slc 23)), (9, aI a2), (10, aI i12)]) (L' := [(23, .seq .tree (x13.2 ++ [p16.2.2.2]))]) (obs := [CT.open x13.1 = some p16]) (by kernel_rfl) (by kernel_rfl) (by kernel_rfl) (allP1 h17) ?_
        refine blockQ_norm ?_
        refine seqQ_norm ?_
        obtain rfl := Option.some.inj h
        refine W_run 2 [] [0, 1, 8, 9, 10] [23] (fr' := [(0, aD .tree p16.2.2.1), (1, aI a1), (8, .one (.slc 23)), (9, aI a2), (10, aI (w64 (i12 + (1 : Int))))]) (L' := [(23, .seq .tree (x13.2 ++ [p16.2.2.2]))]) (obs := []) (by kernel_rfl) (by kernel_rfl) (by kernel_rfl) allP0 ?_
        exact round_next' (by kernel_rfl) (by kernel_rfl)
    · obtain rfl := stepI_false h15 h
      refine W_exit (id := 0) [0, 1, 8] [23] (fr' := [(0, aD .tree x13.1), (1, aI a1), (8, .one (.slc 23))]) (L' := [(23, .seq .tree x13.2)]) (by kernel_rfl) (by kernel_rfl) ?_
      refine seqQ_exit ?_
      refine round_exit ?_
      refine escQ_brk ?_
      exact exQ_mk (by kernel_rfl) (by kernel_rfl)
  · intro e fr L hJ
    rcases v21 with v25 | v26
    · obtain ⟨rfl, rfl, rfl⟩ := hJ
      obtain rfl := Option.some.inj h
      refine LT_keep [6, 7] [] (fr' := [(6, aD (.slice .tree) v25.1), (7, aB v25.2)]) (L' := []) (by kernel_rfl) ?_
      refine blockQ_ret ?_
      refine seqQ_ret ?_
      exact retQ_mk (by kernel_rfl) (by kernel_rfl) (by kernel_rfl)
    · obtain ⟨rfl, rfl, rfl⟩ := hJ
      refine LT_keep [0, 1, 8] [23] (fr' := [(0, aD .tree v26.1), (1, aI a1), (8, .one (.slc 23))]) (L' := [(23, .seq .tree v26.2)]) (by kernel_rfl) ?_
      refine blockQ_hit ?_
      refine seqQ_norm ?_
      refine W_seq (by kernel_rfl) ?_
      refine W_region (by kernel_rfl) ?_
      refine WO_run (j := 1) (k := 1) (orcs := []) (kF := [0, 1, 8, 29]) (kL := [23]) (fr' := [(0, aD .tree v26.1), (1, aI a1), (8, .one (.slc 23)), (29, .one (.slc 23))]) (L' := [(23, .seq .tree v26.2)]) (obs := []) rfl (by kernel_rfl) allP0 ?_
      obtain ⟨r27, h28, h⟩ := bind_of h
      refine WO_lend [(1000, 23)] (us := [none]) (d := 30) (p := True) (j := 2) rfl ⟨by kernel_rfl, by kernel_rfl, by kernel_rfl⟩ trivial (slices_Reverse_LcombTreecombTree_ok h28) (by kernel_rfl) (by kernel_rfl) ?_
      refine WO_fin [0, 1, 8] [23] (fr' := [(0, aD .tree v26.1), (1, aI a1), (8, .one (.slc 23))]) (L' := [(23, .seq .tree r27)]) (by kernel_rfl) (by kernel_rfl) ?_
      refine seqQ_norm ?_
      refine W_seq (by kernel_rfl) ?_
      obtain ⟨p29, h30, h⟩ := bind_of h
      refine W_draw2 8 [(5, .val (.dat (.pair tI (.pair tI (.pair .tree .tree))) p29))] [] [6, 7] [23] (fr' := [(6, .one (.slc 23)), (7, aB (p29.1 == a1))]) (L' := [(23, .seq .tree r27)]) (out := [(31, .one (.slc 23)), (32, aD .tree v26.1), (33, .one (.dptr (.pair tI (.pair tI (.pair .tree .tree))) p29)), (34, .one (.dptr tI p29.1)), (35, aI p29.1), (36, aI a1), (37, aB (p29.1 == a1)), (6, .one (.slc 23))]) (obs := [CT.open v26.1 = some p29]) (obs2 := []) (calls := []) (by kernel_rfl) (by kernel_rfl) (by kernel_rfl) (by kernel_rfl) (allP1 h30) allC0 (by kernel_rfl) allP0 ?_
      refine seqQ_norm ?_
      obtain rfl := Option.some.inj h
      refine W_frz 23 (by kernel_rfl) ?_
      refine W_ret [6, 7] [] (fr' := [(6, aD (.slice .tree) r27), (7, aB (p29.1 == a1))]) (L' := []) (by kernel_rfl) (by kernel_rfl) ?_
      exact retQ_mk (by kernel_rfl) (by kernel_rfl) (by kernel_rfl)

def comb_put (a0 : CT) (a1 : CT) : Option CT :=
some (CT.mk ((4 : Int), (0 : Int), a0, a1))
theorem comb_put_ok {a0 : CT} {a1 : CT} {r : CT} (h : comb_put a0 a1 = some r) : FnC Try.prog 85 [aD .tree a0, aD .tree a1] [] (aD .tree r) [] := by
  refine fnC_of_W (B := bodyOf Try.f85) (n := 9) Try.func85 (by kernel_rfl) (by kernel_rfl) (by kernel_rfl) (by kernel_rfl) (by kernel_rfl) ?_
  intro K
  refine W_seq (by kernel_rfl) ?_
  refine W_run 1 [] [0, 1] [] (fr' := [(0, aD .tree a0), (1, aD .tree a1)]) (L' := []) (obs := []) (by kernel_rfl) (by kernel_rfl) (by kernel_rfl) allP0 ?_
  refine seqQ_norm ?_
  refine W_seq (by kernel_rfl) ?_
  refine W_run 5 [] [4] [8] (fr' := [(4, .one (.ptr 8 0))]) (L' := [(8, .one (.pair tI (.pair tI (.pair .tree .tree))) ((4 : Int), (0 : Int), a0, a1))]) (obs := []) (by kernel_rfl) (by kernel_rfl) (by kernel_rfl) allP0 ?_
  refine seqQ_norm ?_
  obtain rfl := Option.some.inj h
  refine W_fz 8 (by kernel_rfl) ?_
  refine W_cnv 4 .tree (by kernel_rfl) ?_
  refine W_ret [4] [] (fr' := [(4, aD .tree (CT.mk ((4 : Int), (0 : Int), a0, a1)))]) (L' := []) (by kernel_rfl) (by kernel_rfl) ?_
  exact retQ_mk (by kernel_rfl) (by kernel_rfl) (by kernel_rfl)

def comb_Tree_step_step (rf_comb_Tree_step : CT → Option CT) (fuel : Nat) (a0 : CT) : Option CT :=
(comb_Tree_letter fuel a0 (2 : Int) (2 : Int)).bind fun r1 =>
bif r1.2 then
((idx r1.1 (0 : Int)).bind fun v4 =>
some v4)
else
((comb_Tree_letter fuel a0 (1 : Int) (3 : Int)).bind fun r6 =>
bif r6.2 then
((idx r6.1 (0 : Int)).bind fun v9 =>
(idx r6.1 (2 : Int)).bind fun v11 =>
(comb_put v9 v11).bind fun r13 =>
(idx r6.1 (1 : Int)).bind fun v15 =>
(comb_put v15 v11).bind fun r17 =>
(comb_put r13 r17).bind fun r19 =>
some r19)
else
((CT.open a0).bind fun p21 =>
bif p21.1 != (4 : Int) then
(some CT.nil)
else
((rf_comb_Tree_step p21.2.2.1).bind fun r24 =>
bif !CT.isNil r24 then
((comb_put r24 p21.2.2.2).bind fun r27 =>
some r27)
else
((rf_comb_Tree_step p21.2.2.2).bind fun r29 =>
bif !CT.isNil r29 then
((comb_put p21.2.2.1 r29).bind fun r32 =>
some r32)
else
(some CT.nil)))))
def comb_Tree_step : Nat → CT → Option CT
  | 0 => fun _ => none
  | fuel + 1 => fun a0 => comb_Tree_step_step (comb_Tree_step fuel) fuel a0
theorem comb_Tree_step_step_ok {rf_comb_Tree_step : CT → Option CT} (ih_comb_Tree_step : ∀ {a0 : CT} {r : CT}, rf_comb_Tree_step a0 = some r → FnC Try.prog 62 [aD .tree a0] [] (aD .tree r) []) {fuel : Nat} {a0 : CT} {r : CT} (h : comb_Tree_step_step rf_comb_Tree_step fuel a0 = some r) : FnC Try.prog 62 [aD .tree a0] [] (aD .tree r) [] := by
  refine fnC_of_W (B := bodyOf Try.f62) (n := 70) Try.func62 (by kernel_rfl) (by kernel_rfl) (by kernel_rfl) (by kernel_rfl) (by kernel_rfl) ?_
  intro K
  refine W_seq (by kernel_rfl) ?_
  refine W_run 1 [] [0] [] (fr' := [(0, aD .tree a0)]) (L' := []) (obs := []) (by kernel_rfl) (by kernel_rfl) (by kernel_rfl) allP0 ?_
  refine seqQ_norm ?_
  refine W_seq (by kernel_rfl) ?_
  refine W_seq (by kernel_rfl) ?_
  refine W_region (by kernel_rfl) ?_
  refine WO_run (j := 1) (k := 1) (orcs := []) (kF := [0, 10]) (kL := []) (fr' := [(0, aD .tree a0), (10, aD .tree a0)]) (L' := []) (obs := []) rfl (by kernel_rfl) allP0 ?_
  obtain ⟨r1, h2, h⟩ := bind_of h
  refine WO_call0 (us := [none, none, none]) (d := 11) (p := True) (j := 2) rfl ⟨by kernel_rfl, by kernel_rfl, by kernel_rfl⟩ trivial (comb_Tree_letter_ok h2) (by kernel_rfl) ?_
  refine WO_run (j := 7) (k := 5) (orcs := []) (kF := [0, 3, 4]) (kL := []) (fr' := [(0, aD .tree a0), (3, aD (.slice .tree) r1.1), (4, aB r1.2)]) (L' := []) (obs := []) rfl (by kernel_rfl) allP0 ?_
  refine WO_fin [0, 3, 4] [] (fr' := [(0, aD .tree a0), (3, aD (.slice .tree) r1.1), (4, aB r1.2)]) (L' := []) (by kernel_rfl) (by kernel_rfl) ?_
  refine seqQ_norm ?_
  refine W_seq (by kernel_rfl) ?_
  refine W_run 1 [] [0, 3, 14] [] (fr' := [(0, aD .tree a0), (3, aD (.slice .tree) r1.1), (14, aB r1.2)]) (L' := []) (obs := []) (by kernel_rfl) (by kernel_rfl) (by kernel_rfl) allP0 ?_
  refine seqQ_norm ?_
  refine W_cond (o := .tmp 14) (b := r1.2) (by kernel_rfl) (by kernel_rfl) (fun h3 => ?_) (fun h3 => ?_)
  · replace h := ofT h3 h
    refine W_seq (by kernel_rfl) ?_
    obtain ⟨v4, h5, h⟩ := bind_of h
    refine W_run 4 [(3, .val (.dat .tree v4))] [2] [] (fr' := [(2, aD .tree v4)]) (L' := []) (obs := [Idx r1.1 (0 : Int) v4]) (by kernel_rfl) (by kernel_rfl) (by kernel_rfl) (allP1 (Idx.of h5)) ?_
    refine seqQ_norm ?_
    obtain rfl := Option.some.inj h
    refine W_ret [2] [] (fr' := [(2, aD .tree v4)]) (L' := []) (by kernel_rfl) (by kernel_rfl) ?_
    refine seqQ_ret ?_
    exact retQ_mk (by kernel_rfl) (by kernel_rfl) (by kernel_rfl)
  · replace h := ofF h3 h
    refine W_skip [0] [] (fr' := [(0, aD .tree a0)]) (L' := []) (by kernel_rfl) (by kernel_rfl) ?_
    refine seqQ_norm ?_
    refine W_seq (by kernel_rfl) ?_
    refine W_seq (by kernel_rfl) ?_
    refine W_region (by kernel_rfl) ?_
    refine WO_run (j := 1) (k := 1) (orcs := []) (kF := [0, 19]) (kL := []) (fr' := [(0, aD .tree a0), (19, aD .tree a0)]) (L' := []) (obs := []) rfl (by kernel_rfl) allP0 ?_
    obtain ⟨r6, h7, h⟩ := bind_of h
    refine WO_call0 (us := [none, none, none]) (d := 20) (p := True) (j := 2) rfl ⟨by kernel_rfl, by kernel_rfl, by kernel_rfl⟩ trivial (comb_Tree_letter_ok h7) (by kernel_rfl) ?_
    refine WO_run (j := 7) (k := 5) (orcs := []) (kF := [0, 5, 6]) (kL := []) (fr' := [(0, aD .tree a0), (5, aD (.slice .tree) r6.1), (6, aB r6.2)]) (L' := []) (obs := []) rfl (by kernel_rfl) allP0 ?_
    refine WO_fin [0, 5, 6] [] (fr' := [(0, aD .tree a0), (5, aD (.slice .tree) r6.1), (6, aB r6.2)]) (L' := []) (by kernel_rfl) (by kernel_rfl) ?_
    refine seqQ_norm ?_
    refine W_seq (by kernel_rfl) ?_
    refine W_run 1 [] [0, 5, 23] [] (fr' := [(0, aD .tree a0), (5, aD (.slice .tree) r6.1), (23, aB r6.2)]) (L' := []) (obs := []) (by kernel_rfl) (by kernel_rfl) (by kernel_rfl) allP0 ?_
    refine seqQ_norm ?_
    refine W_cond (o := .tmp 23) (b := r6.2) (by kernel_rfl) (by kernel_rfl) (fun h8 => ?_) (fun h8 => ?_)
    · replace h := ofT h8 h
      refine W_seq (by kernel_rfl) ?_
      obtain ⟨v9, h10, h⟩ := bind_of h
      obtain ⟨v11, h12, h⟩ := bind_of h
      obtain ⟨r13, h14, h⟩ := bind_of h
      obtain ⟨v15, h16, h⟩ := bind_of h
      obtain ⟨r17, h18, h⟩ := bind_of h
      obtain ⟨r19, h20, h⟩ := bind_of h
      refine W_draw2 15 [(3, .val (.dat .tree v9)), (9, .val (.dat .tree v11)), (17, .val (.dat .tree v15)), (23, .val (.dat .tree v11))] [(6, [none, none], aD .tree r13), (13, [none, none], aD .tree r17), (14, [none, none], aD .tree r19)] [2] [] (fr' := [(2, aD .tree r19)]) (L' := []) (out := [(24, aD (.slice .tree) r6.1), (25, .one (.dptr .tree v9)), (26, aD .tree v9), (27, aD (.slice .tree) r6.1), (28, .one (.dptr .tree v11)), (29, aD .tree v11), (30, aD .tree r13), (31, aD (.slice .tree) r6.1), (32, .one (.dptr .tree v15)), (33, aD .tree v15), (34, aD (.slice .tree) r6.1), (35, .one (.dptr .tree v11)), (36, aD .tree v11), (37, aD .tree r17), (38, aD .tree r19)]) (obs := [Idx r6.1 (0 : Int) v9, Idx r6.1 (2 : Int) v11, True, Idx r6.1 (1 : Int) v15, Idx r6.1 (2 : Int) v11, True, True]) (obs2 := []) (calls := [(85, [aD .tree v9, aD .tree v11], aD .tree r13), (85, [aD .tree v15, aD .tree v11], aD .tree r17), (85, [aD .tree r13, aD .tree r17], aD .tree r19)]) (by kernel_rfl) (by kernel_rfl) (by kernel_rfl) (by kernel_rfl) (allP2 (Idx.of h10) (allP2 (Idx.of h12) (allP2 trivial (allP2 (Idx.of h16) (allP2 (Idx.of h12) (allP2 trivial (allP1 trivial))))))) (allC1 (by kernel_rfl) (comb_put_ok h14) (by kernel_rfl) (allC1 (by kernel_rfl) (comb_put_ok h18) (by kernel_rfl) (allC1 (by kernel_rfl) (comb_put_ok h20) (by kernel_rfl) allC0))) (by kernel_rfl) allP0 ?_
      refine seqQ_norm ?_
      obtain rfl := Option.some.inj h
      refine W_ret [2] [] (fr' := [(2, aD .tree r19)]) (L' := []) (by kernel_rfl) (by kernel_rfl) ?_
      refine seqQ_ret ?_
      exact retQ_mk (by kernel_rfl) (by kernel_rfl) (by kernel_rfl)
    · replace h := ofF h8 h
      refine W_skip [0] [] (fr' := [(0, aD .tree a0)]) (L' := []) (by kernel_rfl) (by kernel_rfl) ?_
      refine seqQ_norm ?_
      refine W_seq (by kernel_rfl) ?_
      refine W_seq (by kernel_rfl) ?_
      obtain ⟨p21, h22, h⟩ := bind_of h
      refine W_run 5 [(3, .val (.dat (.pair tI (.pair tI (.pair .tree .tree))) p21))] [0, 43] [] (fr' := [(0, aD .tree a0), (43, aB (p21.1 != (4 : Int)))]) (L' := []) (obs := [CT.open a0 = some p21]) (by kernel_rfl) (by kernel_rfl) (by kernel_rfl) (allP1 h22) ?_
      refine seqQ_norm ?_
      refine W_cond (o := .tmp 43) (b := p21.1 != (4 : Int)) (by kernel_rfl) (by kernel_rfl) (fun h23 => ?_) (fun h23 => ?_)
      · replace h := ofT h23 h
        refine W_seq (by kernel_rfl) ?_
        refine W_run 1 [] [2] [] (fr' := [(2, .one (.nilP))]) (L' := []) (obs := []) (by kernel_rfl) (by kernel_rfl) (by kernel_rfl) allP0 ?_
        refine seqQ_norm ?_
        obtain rfl := Option.some.inj h
        refine W_cnv 2 .tree (by kernel_rfl) ?_
        refine W_ret [2] [] (fr' := [(2, aD .tree CT.nil)]) (L' := []) (by kernel_rfl) (by kernel_rfl) ?_
        refine seqQ_ret ?_
        exact retQ_mk (by kernel_rfl) (by kernel_rfl) (by kernel_rfl)
      · replace h := ofF h23 h
        refine W_skip [0] [] (fr' := [(0, aD .tree a0)]) (L' := []) (by kernel_rfl) (by kernel_rfl) ?_
        refine seqQ_norm ?_
        refine W_seq (by kernel_rfl) ?_
        refine W_seq (by kernel_rfl) ?_
        refine W_region (by kernel_rfl) ?_
        refine WO_run (j := 4) (k := 4) (orcs := [(3, .val (.dat (.pair tI (.pair tI (.pair .tree .tree))) p21))]) (kF := [0, 47]) (kL := []) (fr' := [(0, aD .tree a0), (47, aD .tree p21.2.2.1)]) (L' := []) (obs := [CT.open a0 = some p21]) rfl (by kernel_rfl) (allP1 h22) ?_
        obtain ⟨r24, h25, h⟩ := bind_of h
        refine WO_call0 (us := [none]) (d := 48) (p := True) (j := 5) rfl ⟨by kernel_rfl, by kernel_rfl, by kernel_rfl⟩ trivial (ih_comb_Tree_step h25) (by kernel_rfl) ?_
        refine WO_run (j := 6) (k := 1) (orcs := []) (kF := [0, 7]) (kL := []) (fr' := [(0, aD .tree a0), (7, aD .tree r24)]) (L' := []) (obs := []) rfl (by kernel_rfl) allP0 ?_
        refine WO_fin [0, 7] [] (fr' := [(0, aD .tree a0), (7, aD .tree r24)]) (L' := []) (by kernel_rfl) (by kernel_rfl) ?_
        refine seqQ_norm ?_
        refine W_seq (by kernel_rfl) ?_
        refine W_run 2 [] [0, 7, 50] [] (fr' := [(0, aD .tree a0), (7, aD .tree r24), (50, aB (!CT.isNil r24))]) (L' := []) (obs := []) (by kernel_rfl) (by kernel_rfl) (by kernel_rfl) allP0 ?_
        refine seqQ_norm ?_
        refine W_cond (o := .tmp 50) (b := !CT.isNil r24) (by kernel_rfl) (by kernel_rfl) (fun h26 => ?_) (fun h26 => ?_)
        · replace h := ofT h26 h
          refine W_seq (by kernel_rfl) ?_
          refine W_region (by kernel_rfl) ?_
          refine WO_run (j := 5) (k := 5) (orcs := [(5, .val (.dat (.pair tI (.pair tI (.pair .tree .tree))) p21))]) (kF := [51, 55]) (kL := []) (fr' := [(51, aD .tree r24), (55, aD .tree p21.2.2.2)]) (L' := []) (obs := [CT.open a0 = some p21]) rfl (by kernel_rfl) (allP1 h22) ?_
          obtain ⟨r27, h28, h⟩ := bind_of h
          refine WO_call0 (us := [none, none]) (d := 56) (p := True) (j := 6) rfl ⟨by kernel_rfl, by kernel_rfl, by kernel_rfl⟩ trivial (comb_put_ok h28) (by kernel_rfl) ?_
          refine WO_run (j := 7) (k := 1) (orcs := []) (kF := [2]) (kL := []) (fr' := [(2, aD .tree r27)]) (L' := []) (obs := []) rfl (by kernel_rfl) allP0 ?_
          refine WO_fin [2] [] (fr' := [(2, aD .tree r27)]) (L' := []) (by kernel_rfl) (by kernel_rfl) ?_
          refine seqQ_norm ?_
          obtain rfl := Option.some.inj h
          refine W_ret [2] [] (fr' := [(2, aD .tree r27)]) (L' := []) (by kernel_rfl) (by kernel_rfl) ?_
          refine seqQ_ret ?_
          exact retQ_mk (by kernel_rfl) (by kernel_rfl) (by kernel_rfl)
        · replace h := ofF h26 h
          refine W_skip [0] [] (fr' := [(0, aD .tree a0)]) (L' := []) (by kernel_rfl) (by kernel_rfl) ?_
          refine seqQ_norm ?_
          refine W_seq (by kernel_rfl) ?_
          refine W_seq (by kernel_rfl) ?_
          refine W_region (by kernel_rfl) ?_
          refine WO_run (j := 4) (k := 4) (orcs := [(3, .val (.dat (.pair tI (.pair tI (.pair .tree .tree))) p21))]) (kF := [0, 60]) (kL := []) (fr' := [(0, aD .tree a0), (60, aD .tree p21.2.2.2)]) (L' := []) (obs := [CT.open a0 = some p21]) rfl (by kernel_rfl) (allP1 h22) ?_
          obtain ⟨r29, h30, h⟩ := bind_of h
          refine WO_call0 (us := [none]) (d := 61) (p := True) (j := 5) rfl ⟨by kernel_rfl, by kernel_rfl, by kernel_rfl⟩ trivial (ih_comb_Tree_step h30) (by kernel_rfl) ?_
          refine WO_run (j := 6) (k := 1) (orcs := []) (kF := [0, 8]) (kL := []) (fr' := [(0, aD .tree a0), (8, aD .tree r29)]) (L' := []) (obs := []) rfl (by kernel_rfl) allP0 ?_
          refine WO_fin [0, 8] [] (fr' := [(0, aD .tree a0), (8, aD .tree r29)]) (L' := []) (by kernel_rfl) (by kernel_rfl) ?_
          refine seqQ_norm ?_
          refine W_seq (by kernel_rfl) ?_
          refine W_run 2 [] [0, 8, 63] [] (fr' := [(0, aD .tree a0), (8, aD .tree r29), (63, aB (!CT.isNil r29))]) (L' := []) (obs := []) (by kernel_rfl) (by kernel_rfl) (by kernel_rfl) allP0 ?_
          refine seqQ_norm ?_
          refine W_cond (o := .tmp 63) (b := !CT.isNil r29) (by kernel_rfl) (by kernel_rfl) (fun h31 => ?_) (fun h31 => ?_)
          · replace h := ofT h31 h
            refine W_seq (by kernel_rfl) ?_
            refine W_region (by kernel_rfl) ?_
            refine WO_run (j := 5) (k := 5) (orcs := [(3, .val (.dat (.pair tI (.pair tI (.pair .tree .tree))) p21))]) (kF := [67, 68]) (kL := []) (fr' := [(67, aD .tree p21.2.2.1), (68, aD .tree r29)]) (L' := []) (obs := [CT.open a0 = some p21]) rfl (by kernel_rfl) (allP1 h22) ?_
            obtain ⟨r32, h33, h⟩ := bind_of h
            refine WO_call0 (us := [none, none]) (d := 69) (p := True) (j := 6) rfl ⟨by kernel_rfl, by kernel_rfl, by kernel_rfl⟩ trivial (comb_put_ok h33) (by kernel_rfl) ?_
            refine WO_run (j := 7) (k := 1) (orcs := []) (kF := [2]) (kL := []) (fr' := [(2, aD .tree r32)]) (L' := []) (obs := []) rfl (by kernel_rfl) allP0 ?_
            refine WO_fin [2] [] (fr' := [(2, aD .tree r32)]) (L' := []) (by kernel_rfl) (by kernel_rfl) ?_
            refine seqQ_norm ?_
            obtain rfl := Option.some.inj h
            refine W_ret [2] [] (fr' := [(2, aD .tree r32)]) (L' := []) (by kernel_rfl) (by kernel_rfl) ?_
            refine seqQ_ret ?_
            exact retQ_mk (by kernel_rfl) (by kernel_rfl) (by kernel_rfl)
          · replace h := ofF h31 h
            refine W_skip [] [] (fr' := []) (L' := []) (by kernel_rfl) (by kernel_rfl) ?_
            refine seqQ_norm ?_
            refine W_seq (by kernel_rfl) ?_
            refine W_run 1 [] [2] [] (fr' := [(2, .one (.nilP))]) (L' := []) (obs := []) (by kernel_rfl) (by kernel_rfl) (by kernel_rfl) allP0 ?_
            refine seqQ_norm ?_
            obtain rfl := Option.some.inj h
            refine W_cnv 2 .tree (by kernel_rfl) ?_
            refine W_ret [2] [] (fr' := [(2, aD .tree CT.nil)]) (L' := []) (by kernel_rfl) (by kernel_rfl) ?_
            exact retQ_mk (by kernel_rfl) (by kernel_rfl) (by kernel_rfl)
theorem comb_Tree_step_ok : ∀ {fuel : Nat} {a0 : CT} {r : CT}, comb_Tree_step fuel a0 = some r → FnC Try.prog 62 [aD .tree a0] [] (aD .tree r) [] := by
  intro fuel
  induction fuel with
  | zero => intros a0 r h; cases h
  | succ fuel ih => intros a0 r h; exact comb_Tree_step_step_ok (fun h => ih h) (show comb_Tree_step_step (comb_Tree_step fuel) fuel a0 = some r from h)

def comb_Tree_size_step (rf_comb_Tree_size : CT → Option Int) (fuel : Nat) (a0 : CT) : Option Int :=
(CT.open a0).bind fun p1 =>
bif p1.1 != (4 : Int) then
(some (1 : Int))
else
((rf_comb_Tree_size p1.2.2.1).bind fun r4 =>
(rf_comb_Tree_size p1.2.2.2).bind fun r6 =>
some (w64 ((w64 ((1 : Int) + r4)) + r6)))
def comb_Tree_size : Nat → CT → Option Int
  | 0 => fun _ => none
  | fuel + 1 => fun a0 => comb_Tree_size_step (comb_Tree_size fuel) fuel a0
theorem comb_Tree_size_step_ok {rf_comb_Tree_size : CT → Option Int} (ih_comb_Tree_size : ∀ {a0 : CT} {r : Int}, rf_comb_Tree_size a0 = some r → FnC Try.prog 66 [aD .tree a0] [] (aI r) []) {fuel : Nat} {a0 : CT} {r : Int} (h : comb_Tree_size_step rf_comb_Tree_size fuel a0 = some r) : FnC Try.prog 66 [aD .tree a0] [] (aI r) [] := by
  refine fnC_of_W (B := bodyOf Try.f66) (n := 20) Try.func66 (by kernel_rfl) (by kernel_rfl) (by kernel_rfl) (by kernel_rfl) (by kernel_rfl) ?_
  intro K
  refine W_seq (by kernel_rfl) ?_
  refine W_run 1 [] [0] [] (fr' := [(0, aD .tree a0)]) (L' := []) (obs := []) (by kernel_rfl) (by kernel_rfl) (by kernel_rfl) allP0 ?_
  refine seqQ_norm ?_
  refine W_seq (by kernel_rfl) ?_
  refine W_seq (by kernel_rfl) ?_
  obtain ⟨p1, h2, h⟩ := bind_of h
  refine W_run 5 [(3, .val (.dat (.pair tI (.pair tI (.pair .tree .tree))) p1))] [0, 7] [] (fr' := [(0, aD .tree a0), (7, aB (p1.1 != (4 : Int)))]) (L' := []) (obs := [CT.open a0 = some p1]) (by kernel_rfl) (by kernel_rfl) (by kernel_rfl) (allP1 h2) ?_
  refine seqQ_norm ?_
  refine W_cond (o := .tmp 7) (b := p1.1 != (4 : Int)) (by kernel_rfl) (by kernel_rfl) (fun h3 => ?_) (fun h3 => ?_)
  · replace h := ofT h3 h
    refine W_seq (by kernel_rfl) ?_
    refine W_run 1 [] [2] [] (fr' := [(2, aI (1 : Int))]) (L' := []) (obs := []) (by kernel_rfl) (by kernel_rfl) (by kernel_rfl) allP0 ?_
    refine seqQ_norm ?_
    obtain rfl := Option.some.inj h
    refine W_ret [2] [] (fr' := [(2, aI (1 : Int))]) (L' := []) (by kernel_rfl) (by kernel_rfl) ?_
    refine seqQ_ret ?_
    exact retQ_mk (by kernel_rfl) (by kernel_rfl) (by kernel_rfl)
  · replace h := ofF h3 h
    refine W_skip [0] [] (fr' := [(0, aD .tree a0)]) (L' := []) (by kernel_rfl) (by kernel_rfl) ?_
    refine seqQ_norm ?_
    refine W_seq (by kernel_rfl) ?_
    obtain ⟨r4, h5, h⟩ := bind_of h
    obtain ⟨r6, h7, h⟩ := bind_of h
    refine W_draw2 12 [(3, .val (.dat (.pair tI (.pair tI (.pair .tree .tree))) p1)), (15, .val (.dat (.pair tI (.pair tI (.pair .tree .tree))) p1))] [(4, [none], aI r4), (10, [none], aI r6)] [2] [] (fr' := [(2, aI (w64 ((w64 ((1 : Int) + r4)) + r6)))]) (L' := []) (out := [(8, aD .tree a0), (9, .one (.dptr (.pair tI (.pair tI (.pair .tree .tree))) p1)), (10, .one (.dptr .tree p1.2.2.1)), (11, aD .tree p1.2.2.1), (12, aI r4), (13, aI (w64 ((1 : Int) + r4))), (14, aD .tree a0), (15, .one (.dptr (.pair tI (.pair tI (.pair .tree .tree))) p1)), (16, .one (.dptr .tree p1.2.2.2)), (17, aD .tree p1.2.2.2), (18, aI r6), (19, aI (w64 ((w64 ((1 : Int) + r4)) + r6)))]) (obs := [CT.open a0 = some p1, True, CT.open a0 = some p1, True]) (obs2 := []) (calls := [(66, [aD .tree p1.2.2.1], aI r4), (66, [aD .tree p1.2.2.2], aI r6)]) (by kernel_rfl) (by kernel_rfl) (by kernel_rfl) (by kernel_rfl) (allP2 h2 (allP2 trivial (allP2 h2 (allP1 trivial)))) (allC1 (by kernel_rfl) (ih_comb_Tree_size h5) (by kernel_rfl) (allC1 (by kernel_rfl) (ih_comb_Tree_size h7) (by kernel_rfl) allC0)) (by kernel_rfl) allP0 ?_
    refine seqQ_norm ?_
    obtain rfl := Option.some.inj h
    refine W_ret [2] [] (fr' := [(2, aI (w64 ((w64 ((1 : Int) + r4)) + r6)))]) (L' := []) (by kernel_rfl) (by kernel_rfl) ?_
    exact retQ_mk (by kernel_rfl) (by kernel_rfl) (by kernel_rfl)
theorem comb_Tree_size_ok : ∀ {fuel : Nat} {a0 : CT} {r : Int}, comb_Tree_size fuel a0 = some r → FnC Try.prog 66 [aD .tree a0] [] (aI r) [] := by
  intro fuel
  induction fuel with
  | zero => intros a0 r h; cases h
  | succ fuel ih => intros a0 r h; exact comb_Tree_size_step_ok (fun h => ih h) (show comb_Tree_size_step (comb_Tree_size fuel) fuel a0 = some r from h)

def comb_Tree_write_i4_step (rf_comb_Tree_write_i4 : CT → (List (Int × (Int × (Int × Int)))) → Option ((List (Int × (Int × (Int × Int)))) × (List (Int × (Int × (Int × Int)))))) (fuel : Nat) (a0 : CT) (c0 : (List (Int × (Int × (Int × Int))))) : Option ((List (Int × (Int × (Int × Int)))) × (List (Int × (Int × (Int × Int))))) :=
(CT.open a0).bind fun p1 =>
bif p1.1 != (4 : Int) then
((ck ((List.length c0 : Int) + 1 ≤ 4294967296)).bind fun _ =>
some (c0 ++ [(p1.1, (0 : Int), (0 : Int), p1.2.1)], c0 ++ [(p1.1, (0 : Int), (0 : Int), p1.2.1)]))
else
((rf_comb_Tree_write_i4 p1.2.2.1 c0).bind fun r5 =>
(rf_comb_Tree_write_i4 p1.2.2.2 r5.2).bind fun r7 =>
(ck ((List.length r7.2 : Int) + 1 ≤ 4294967296)).bind fun _ =>
some (r7.2 ++ [((4 : Int), w64 ((List.length r5.2 : Int) - (1 : Int)), w64 ((List.length r7.2 : Int) - (1 : Int)), (0 : Int))], r7.2 ++ [((4 : Int), w64 ((List.length r5.2 : Int) - (1 : Int)), w64 ((List.length r7.2 : Int) - (1 : Int)), (0 : Int))]))
def comb_Tree_write_i4 : Nat → CT → (List (Int × (Int × (Int × Int)))) → Option ((List (Int × (Int × (Int × Int)))) × (List (Int × (Int × (Int × Int)))))
  | 0 => fun _ _ => none
  | fuel + 1 => fun a0 c0 => comb_Tree_write_i4_step (comb_Tree_write_i4 fuel) fuel a0 c0
theorem comb_Tree_write_i4_step_ok {rf_comb_Tree_write_i4 : CT → (List (Int × (Int × (Int × Int)))) → Option ((List (Int × (Int × (Int × Int)))) × (List (Int × (Int × (Int × Int)))))} (ih_comb_Tree_write_i4 : ∀ {a0 : CT} {c0 : (List (Int × (Int × (Int × Int))))} {r : ((List (Int × (Int × (Int × Int)))) × (List (Int × (Int × (Int × Int)))))}, rf_comb_Tree_write_i4 a0 c0 = some r → FnC Try.prog 67 [aD .tree a0, .one (.slc 2000)] [(2000, .seq (.pair tI (.pair tI (.pair tI tI))) c0)] (.one (.slc 2000)) [(2000, .seq (.pair tI (.pair tI (.pair tI tI))) r.2)]) {fuel : Nat} {a0 : CT} {c0 : (List (Int × (Int × (Int × Int))))} {r : ((List (Int × (Int × (Int × Int)))) × (List (Int × (Int × (Int × Int)))))} (h : comb_Tree_write_i4_step rf_comb_Tree_write_i4 fuel a0 c0 = some r) : FnC Try.prog 67 [aD .tree a0, .one (.slc 2000)] [(2000, .seq (.pair tI (.pair tI (.pair tI tI))) c0)] (.one (.slc 2000)) [(2000, .seq (.pair tI (.pair tI (.pair tI tI))) r.2)] := by
  refine fnC_of_W (B := bodyOf Try.f67) (n := 46) Try.func67 (by kernel_rfl) (by kernel_rfl) (by kernel_rfl) (by kernel_rfl) (by kernel_rfl) ?_
  intro K
  refine W_seq (by kernel_rfl) ?_
  refine W_run 1 [] [0, 1] [2000] (fr' := [(0, aD .tree a0), (1, .one (.slc 2000))]) (L' := [(2000, .seq (.pair tI (.pair tI (.pair tI tI))) c0)]) (obs := []) (by kernel_rfl) (by kernel_rfl) (by kernel_rfl) allP0 ?_
  refine seqQ_norm ?_
  refine W_seq (by kernel_rfl) ?_
  refine W_seq (by kernel_rfl) ?_
  obtain ⟨p1, h2, h⟩ := bind_of h
  refine W_run 5 [(3, .val (.dat (.pair tI (.pair tI (.pair .tree .tree))) p1))] [0, 1, 10] [2000] (fr' := [(0, aD .tree a0), (1, .one (.slc 2000)), (10, aB (p1.1 != (4 : Int)))]) (L' := [(2000, .seq (.pair tI (.pair tI (.pair tI tI))) c0)]) (obs := [CT.open a0 = some p1]) (by kernel_rfl) (by kernel_rfl) (by kernel_rfl) (allP1 h2) ?_
  refine seqQ_norm ?_
  refine W_cond (o := .tmp 10) (b := p1.1 != (4 : Int)) (by kernel_rfl) (by kernel_rfl) (fun h3 => ?_) (fun h3 => ?_)
  · replace h := ofT h3 h
    refine W_seq (by kernel_rfl) ?_
    obtain ⟨_, h4, h⟩ := bind_of h
    replace h4 := ck_some h4
    refine W_draw3 9 [0] [(5, .val (.dat (.pair tI (.pair tI (.pair .tree .tree))) p1)), (13, .val (.dat (.pair tI (.pair tI (.pair .tree .tree))) p1))] [] [4] [2000] (fr' := [(4, .one (.slc 2000))]) (L' := [(2000, .seq (.pair tI (.pair tI (.pair tI tI))) (c0 ++ [(p1.1, (0 : Int), (0 : Int), p1.2.1)]))]) (out := [(11, .one (.slc 2000)), (12, aD .tree a0), (13, .one (.dptr (.pair tI (.pair tI (.pair .tree .tree))) p1)), (14, .one (.dptr tI p1.1)), (15, aI p1.1), (16, aD .tree a0), (17, .one (.dptr (.pair tI (.pair tI (.pair .tree .tree))) p1)), (18, .one (.dptr tI p1.2.1)), (19, aI p1.2.1)]) (obs := [CT.open a0 = some p1, CT.open a0 = some p1]) (obs2 := [SmallLen (List.length c0 + List.length [(p1.1, (0 : Int), (0 : Int), p1.2.1)])]) (calls := []) (by kernel_rfl) (by kernel_rfl) (by kernel_rfl) (by kernel_rfl) (allP2 h2 (allP1 h2)) allC0 (by kernel_rfl) (allP1 h4) ?_
    refine seqQ_norm ?_
    obtain rfl := Option.some.inj h
    refine W_ret [4] [2000] (fr' := [(4, .one (.slc 2000))]) (L' := [(2000, .seq (.pair tI (.pair tI (.pair tI tI))) (c0 ++ [(p1.1, (0 : Int), (0 : Int), p1.2.1)]))]) (by kernel_rfl) (by kernel_rfl) ?_
    refine seqQ_ret ?_
    exact retQ_mk (by kernel_rfl) (by kernel_rfl) (by kernel_rfl)
  · replace h := ofF h3 h
    refine W_skip [0, 1] [2000] (fr' := [(0, aD .tree a0), (1, .one (.slc 2000))]) (L' := [(2000, .seq (.pair tI (.pair tI (.pair tI tI))) c0)]) (by kernel_rfl) (by kernel_rfl) ?_
    refine seqQ_norm ?_
    refine W_seq (by kernel_rfl) ?_
    refine W_region (by kernel_rfl) ?_
    refine WO_run (j := 5) (k := 5) (orcs := [(3, .val (.dat (.pair tI (.pair tI (.pair .tree .tree))) p1))]) (kF := [0, 1, 26, 27]) (kL := [2000]) (fr' := [(0, aD .tree a0), (1, .one (.slc 2000)), (26, aD .tree p1.2.2.1), (27, .one (.slc 2000))]) (L' := [(2000, .seq (.pair tI (.pair tI (.pair tI tI))) c0)]) (obs := [CT.open a0 = some p1]) rfl (by kernel_rfl) (allP1 h2) ?_
    obtain ⟨r5, h6, h⟩ := bind_of h
    refine WO_lend2 [(2000, 2000)] (us := [none, none]) (d := 28) (p := True) (j := 6) rfl ⟨by kernel_rfl, by kernel_rfl, by kernel_rfl⟩ trivial (ih_comb_Tree_write_i4 h6) (by kernel_rfl) (by kernel_rfl) ?_
    refine WO_run (j := 7) (k := 1) (orcs := []) (kF := [0, 1]) (kL := [2000]) (fr' := [(0, aD .tree a0), (1, .one (.slc 2000))]) (L' := [(2000, .seq (.pair tI (.pair tI (.pair tI tI))) r5.2)]) (obs := []) rfl (by kernel_rfl) allP0 ?_
    refine WO_fin [0, 1] [2000] (fr' := [(0, aD .tree a0), (1, .one (.slc 2000))]) (L' := [(2000, .seq (.pair tI (.pair tI (.pair tI tI))) r5.2)]) (by kernel_rfl) (by kernel_rfl) ?_
    refine seqQ_norm ?_
    refine W_seq (by kernel_rfl) ?_
    refine W_run 4 [] [0, 1, 5] [2000] (fr' := [(0, aD .tree a0), (1, .one (.slc 2000)), (5, aI (w64 ((List.length r5.2 : Int) - (1 : Int))))]) (L' := [(2000, .seq (.pair tI (.pair tI (.pair tI tI))) r5.2)]) (obs := []) (by kernel_rfl) (by kernel_rfl) (by kernel_rfl) allP0 ?_
    refine seqQ_norm ?_
    refine W_seq (by kernel_rfl) ?_
    refine W_region (by kernel_rfl) ?_
    refine WO_run (j := 5) (k := 5) (orcs := [(3, .val (.dat (.pair tI (.pair tI (.pair .tree .tree))) p1))]) (kF := [1, 5, 35, 36]) (kL := [2000]) (fr' := [(1, .one (.slc 2000)), (5, aI (w64 ((List.length r5.2 : Int) - (1 : Int)))), (35, aD .tree p1.2.2.2), (36, .one (.slc 2000))]) (L' := [(2000, .seq (.pair tI (.pair tI (.pair tI tI))) r5.2)]) (obs := [CT.open a0 = some p1]) rfl (by kernel_rfl) (allP1 h2) ?_
    obtain ⟨r7, h8, h⟩ := bind_of h
    refine WO_lend2 [(2000, 2000)] (us := [none, none]) (d := 37) (p := True) (j := 6) rfl ⟨by kernel_rfl, by kernel_rfl, by kernel_rfl⟩ trivial (ih_comb_Tree_write_i4 h8) (by kernel_rfl) (by kernel_rfl) ?_
    refine WO_run (j := 7) (k := 1) (orcs := []) (kF := [1, 5]) (kL := [2000]) (fr' := [(1, .one (.slc 2000)), (5, aI (w64 ((List.length r5.2 : Int) - (1 : Int))))]) (L' := [(2000, .seq (.pair tI (.pair tI (.pair tI tI))) r7.2)]) (obs := []) rfl (by kernel_rfl) allP0 ?_
    refine WO_fin [1, 5] [2000] (fr' := [(1, .one (.slc 2000)), (5, aI (w64 ((List.length r5.2 : Int) - (1 : Int))))]) (L' := [(2000, .seq (.pair tI (.pair tI (.pair tI tI))) r7.2)]) (by kernel_rfl) (by kernel_rfl) ?_
    refine seqQ_norm ?_
    refine W_seq (by kernel_rfl) ?_
    obtain ⟨_, h9, h⟩ := bind_of h
    replace h9 := ck_some h9
    refine W_run 9 [] [4] [2000] (fr' := [(4, .one (.slc 2000))]) (L' := [(2000, .seq (.pair tI (.pair tI (.pair tI tI))) (r7.2 ++ [((4 : Int), w64 ((List.length r5.2 : Int) - (1 : Int)), w64 ((List.length r7.2 : Int) - (1 : Int)), (0 : Int))]))]) (obs := [SmallLen (List.length r7.2 + List.length [((4 : Int), w64 ((List.length r5.2 : Int) - (1 : Int)), w64 ((List.length r7.2 : Int) - (1 : Int)), (0 : Int))])]) (by kernel_rfl) (by kernel_rfl) (by kernel_rfl) (allP1 h9) ?_
    refine seqQ_norm ?_
    obtain rfl := Option.some.inj h
    refine W_ret [4] [2000] (fr' := [(4, .one (.slc 2000))]) (L' := [(2000, .seq (.pair tI (.pair tI (.pair tI tI))) (r7.2 ++ [((4 : Int), w64 ((List.length r5.2 : Int) - (1 : Int)), w64 ((List.length r7.2 : Int) - (1 : Int)), (0 : Int))]))]) (by kernel_rfl) (by kernel_rfl) ?_
    exact retQ_mk (by kernel_rfl) (by kernel_rfl) (by kernel_rfl)
theorem comb_Tree_write_i4_ok : ∀ {fuel : Nat} {a0 : CT} {c0 : (List (Int × (Int × (Int × Int))))} {r : ((List (Int × (Int × (Int × Int)))) × (List (Int × (Int × (Int × Int)))))}, comb_Tree_write_i4 fuel a0 c0 = some r → FnC Try.prog 67 [aD .tree a0, .one (.slc 2000)] [(2000, .seq (.pair tI (.pair tI (.pair tI tI))) c0)] (.one (.slc 2000)) [(2000, .seq (.pair tI (.pair tI (.pair tI tI))) r.2)] := by
  intro fuel
  induction fuel with
  | zero => intros a0 c0 r h; cases h
  | succ fuel ih => intros a0 c0 r h; exact comb_Tree_write_i4_step_ok (fun h => ih h) (show comb_Tree_write_i4_step (comb_Tree_write_i4 fuel) fuel a0 c0 = some r from h)

def comb_Tree_write_step (rf_comb_Tree_write : CT → Option (List (Int × (Int × (Int × Int))))) (fuel : Nat) (a0 : CT) : Option (List (Int × (Int × (Int × Int)))) :=
(CT.open a0).bind fun p4 =>
bif p4.1 != (4 : Int) then
(some [(p4.1, (0 : Int), (0 : Int), p4.2.1)])
else
((rf_comb_Tree_write p4.2.2.1).bind fun r7 =>
(comb_Tree_write_i4 fuel p4.2.2.2 r7).bind fun r9 =>
(ck ((List.length r9.2 : Int) + 1 ≤ 4294967296)).bind fun _ =>
some (r9.2 ++ [((4 : Int), w64 ((List.length r7 : Int) - (1 : Int)), w64 ((List.length r9.2 : Int) - (1 : Int)), (0 : Int))]))
def comb_Tree_write : Nat → CT → Option (List (Int × (Int × (Int × Int))))
  | 0 => fun _ => none
  | fuel + 1 => fun a0 => comb_Tree_write_step (comb_Tree_write fuel) fuel a0
theorem comb_Tree_write_step_ok {rf_comb_Tree_write : CT → Option (List (Int × (Int × (Int × Int))))} (ih_comb_Tree_write : ∀ {a0 : CT} {r : (List (Int × (Int × (Int × Int))))}, rf_comb_Tree_write a0 = some r → FnC Try.prog 67 [aD .tree a0, .one (.nilS)] [] (.one (.slc 899)) [(899, .seq (.pair tI (.pair tI (.pair tI tI))) r)]) {fuel : Nat} {a0 : CT} {r : (List (Int × (Int × (Int × Int))))} (h : comb_Tree_write_step rf_comb_Tree_write fuel a0 = some r) : FnC Try.prog 67 [aD .tree a0, .one (.nilS)] [] (.one (.slc 899)) [(899, .seq (.pair tI (.pair tI (.pair tI tI))) r)] := by
  refine fnC_of_W (B := bodyOf Try.f67) (n := 46) Try.func67 (by kernel_rfl) (by kernel_rfl) (by kernel_rfl) (by kernel_rfl) (by kernel_rfl) ?_
  intro K
  refine W_seq (by kernel_rfl) ?_
  refine W_run 1 [] [0, 1] [] (fr' := [(0, aD .tree a0), (1, .one (.nilS))]) (L' := []) (obs := []) (by kernel_rfl) (by kernel_rfl) (by kernel_rfl) allP0 ?_
  refine seqQ_norm ?_
  refine W_seq (by kernel_rfl) ?_
  refine W_seq (by kernel_rfl) ?_
  obtain ⟨p4, h5, h⟩ := bind_of h
  refine W_run 5 [(3, .val (.dat (.pair tI (.pair tI (.pair .tree .tree))) p4))] [0, 1, 10] [] (fr' := [(0, aD .tree a0), (1, .one (.nilS)), (10, aB (p4.1 != (4 : Int)))]) (L' := []) (obs := [CT.open a0 = some p4]) (by kernel_rfl) (by kernel_rfl) (by kernel_rfl) (allP1 h5) ?_
  refine seqQ_norm ?_
  refine W_cond (o := .tmp 10) (b := p4.1 != (4 : Int)) (by kernel_rfl) (by kernel_rfl) (fun h6 => ?_) (fun h6 => ?_)
  · replace h := ofT h6 h
    refine W_seq (by kernel_rfl) ?_
    refine W_draw3 9 [0] [(5, .val (.dat (.pair tI (.pair tI (.pair .tree .tree))) p4)), (13, .val (.dat (.pair tI (.pair tI (.pair .tree .tree))) p4))] [] [4] [22] (fr' := [(4, .one (.slc 22))]) (L' := [(22, .seq (.pair tI (.pair tI (.pair tI tI))) [(p4.1, (0 : Int), (0 : Int), p4.2.1)])]) (out := [(11, .one (.nilS)), (12, aD .tree a0), (13, .one (.dptr (.pair tI (.pair tI (.pair .tree .tree))) p4)), (14, .one (.dptr tI p4.1)), (15, aI p4.1), (16, aD .tree a0), (17, .one (.dptr (.pair tI (.pair tI (.pair .tree .tree))) p4)), (18, .one (.dptr tI p4.2.1)), (19, aI p4.2.1)]) (obs := [CT.open a0 = some p4, CT.open a0 = some p4]) (obs2 := [SmallLen (List.length [(p4.1, (0 : Int), (0 : Int), p4.2.1)])]) (calls := []) (by kernel_rfl) (by kernel_rfl) (by kernel_rfl) (by kernel_rfl) (allP2 h5 (allP1 h5)) allC0 (by kernel_rfl) (allP1 (by unfold SmallLen; exact of_decide_eq_true (by kernel_rfl))) ?_
    refine seqQ_norm ?_
    obtain rfl := Option.some.inj h
    refine W_ren 22 899 (by kernel_rfl) ?_
    refine W_ret [4] [899] (fr' := [(4, .one (.slc 899))]) (L' := [(899, .seq (.pair tI (.pair tI (.pair tI tI))) [(p4.1, (0 : Int), (0 : Int), p4.2.1)])]) (by kernel_rfl) (by kernel_rfl) ?_
    refine seqQ_ret ?_
    exact retQ_mk (by kernel_rfl) (by kernel_rfl) (by kernel_rfl)
  · replace h := ofF h6 h
    refine W_skip [0, 1] [] (fr' := [(0, aD .tree a0), (1, .one (.nilS))]) (L' := []) (by kernel_rfl) (by kernel_rfl) ?_
    refine seqQ_norm ?_
    refine W_seq (by kernel_rfl) ?_
    refine W_region (by kernel_rfl) ?_
    refine WO_run (j := 5) (k := 5) (orcs := [(3, .val (.dat (.pair tI (.pair tI (.pair .tree .tree))) p4))]) (kF := [0, 1, 26, 27]) (kL := []) (fr' := [(0, aD .tree a0), (1, .one (.nilS)), (26, aD .tree p4.2.2.1), (27, .one (.nilS))]) (L' := []) (obs := [CT.open a0 = some p4]) rfl (by kernel_rfl) (allP1 h5) ?_
    obtain ⟨r7, h8, h⟩ := bind_of h
    refine WO_call1 (us := [none, none]) (d := 28) (t := 28) (p := True) (j := 6) rfl ⟨by kernel_rfl, by kernel_rfl, by kernel_rfl⟩ trivial (ih_comb_Tree_write h8) (by kernel_rfl) ?_
    refine WO_run (j := 7) (k := 1) (orcs := []) (kF := [0, 1]) (kL := [28]) (fr' := [(0, aD .tree a0), (1, .one (.slc 28))]) (L' := [(28, .seq (.pair tI (.pair tI (.pair tI tI))) r7)]) (obs := []) rfl (by kernel_rfl) allP0 ?_
    refine WO_fin [0, 1] [28] (fr' := [(0, aD .tree a0), (1, .one (.slc 28))]) (L' := [(28, .seq (.pair tI (.pair tI (.pair tI tI))) r7)]) (by kernel_rfl) (by kernel_rfl) ?_
    refine seqQ_norm ?_
    refine W_seq (by kernel_rfl) ?_
    refine W_run 4 [] [0, 1, 5] [28] (fr' := [(0, aD .tree a0), (1, .one (.slc 28)), (5, aI (w64 ((List.length r7 : Int) - (1 : Int))))]) (L' := [(28, .seq (.pair tI (.pair tI (.pair tI tI))) r7)]) (obs := []) (by kernel_rfl) (by kernel_rfl) (by kernel_rfl) allP0 ?_
    refine seqQ_norm ?_
    refine W_seq (by kernel_rfl) ?_
    refine W_region (by kernel_rfl) ?_
    refine WO_run (j := 5) (k := 5) (orcs := [(3, .val (.dat (.pair tI (.pair tI (.pair .tree .tree))) p4))]) (kF := [1, 5, 35, 36]) (kL := [28]) (fr' := [(1, .one (.slc 28)), (5, aI (w64 ((List.length r7 : Int) - (1 : Int)))), (35, aD .tree p4.2.2.2), (36, .one (.slc 28))]) (L' := [(28, .seq (.pair tI (.pair tI (.pair tI tI))) r7)]) (obs := [CT.open a0 = some p4]) rfl (by kernel_rfl) (allP1 h5) ?_
    obtain ⟨r9, h10, h⟩ := bind_of h
    refine WO_lend2 [(2000, 28)] (us := [none, none]) (d := 37) (p := True) (j := 6) rfl ⟨by kernel_rfl, by kernel_rfl, by kernel_rfl⟩ trivial (comb_Tree_write_i4_ok h10) (by kernel_rfl) (by kernel_rfl) ?_
    refine WO_run (j := 7) (k := 1) (orcs := []) (kF := [1, 5]) (kL := [28]) (fr' := [(1, .one (.slc 28)), (5, aI (w64 ((List.length r7 : Int) - (1 : Int))))]) (L' := [(28, .seq (.pair tI (.pair tI (.pair tI tI))) r9.2)]) (obs := []) rfl (by kernel_rfl) allP0 ?_
    refine WO_fin [1, 5] [28] (fr' := [(1, .one (.slc 28)), (5, aI (w64 ((List.length r7 : Int) - (1 : Int))))]) (L' := [(28, .seq (.pair tI (.pair tI (.pair tI tI))) r9.2)]) (by kernel_rfl) (by kernel_rfl) ?_
    refine seqQ_norm ?_
    refine W_seq (by kernel_rfl) ?_
    obtain ⟨_, h11, h⟩ := bind_of h
    replace h11 := ck_some h11
    refine W_run 9 [] [4] [28] (fr' := [(4, .one (.slc 28))]) (L' := [(28, .seq (.pair tI (.pair tI (.pair tI tI))) (r9.2 ++ [((4 : Int), w64 ((List.length r7 : Int) - (1 : Int)), w64 ((List.length r9.2 : Int) - (1 : Int)), (0 : Int))]))]) (obs := [SmallLen (List.length r9.2 + List.length [((4 : Int), w64 ((List.length r7 : Int) - (1 : Int)), w64 ((List.length r9.2 : Int) - (1 : Int)), (0 : Int))])]) (by kernel_rfl) (by kernel_rfl) (by kernel_rfl) (allP1 h11) ?_
    refine seqQ_norm ?_
    obtain rfl := Option.some.inj h
    refine W_ren 28 899 (by kernel_rfl) ?_
    refine W_ret [4] [899] (fr' := [(4, .one (.slc 899))]) (L' := [(899, .seq (.pair tI (.pair tI (.pair tI tI))) (r9.2 ++ [((4 : Int), w64 ((List.length r7 : Int) - (1 : Int)), w64 ((List.length r9.2 : Int) - (1 : Int)), (0 : Int))]))]) (by kernel_rfl) (by kernel_rfl) ?_
    exact retQ_mk (by kernel_rfl) (by kernel_rfl) (by kernel_rfl)
theorem comb_Tree_write_ok : ∀ {fuel : Nat} {a0 : CT} {r : (List (Int × (Int × (Int × Int))))}, comb_Tree_write fuel a0 = some r → FnC Try.prog 67 [aD .tree a0, .one (.nilS)] [] (.one (.slc 899)) [(899, .seq (.pair tI (.pair tI (.pair tI tI))) r)] := by
  intro fuel
  induction fuel with
  | zero => intros a0 r h; cases h
  | succ fuel ih => intros a0 r h; exact comb_Tree_write_step_ok (fun h => ih h) (show comb_Tree_write_step (comb_Tree_write fuel) fuel a0 = some r from h)

def comb_Norm_b1 (a1 : Int) (fuel : Nat) (x15 : (CT × Int)) : Option (Flow (CT × Int) (Esc ((List (Int × (Int × (Int × Int)))) × Int × Int) (CT × Int))) :=
bif decide (x15.2 < a1) then
((comb_Tree_step fuel x15.1).bind fun r24 =>
bif CT.isNil r24 then
(some (.done (.brk (x15.1, x15.2))))
else
((comb_Tree_size fuel r24).bind fun r27 =>
bif decide (r27 > (300 : Int)) then
(some (.done (.ret ([], (0 : Int), (7 : Int)))))
else
(some (.next (r24, w64 (x15.2 + (1 : Int)))))))
else
(some (.done (.brk (x15.1, x15.2))))
@[reducible] def comb_Norm_s2 (a1 : Int) (v : (CT × Int)) : Fr × LL := ([(1, aI a1), (8, aD .tree v.1), (9, aI v.2)], [])
@[reducible] def comb_Norm_s3 (v : ((List (Int × (Int × (Int × Int)))) × Int × Int)) : Fr × LL := ([(4, aD (.slice (.pair tI (.pair tI (.pair tI tI)))) v.1), (5, aI v.2.1), (6, aI v.2.2)], [])
@[reducible] def comb_Norm_s4 (v : (CT × Int)) : Fr × LL := ([(8, aD .tree v.1), (9, aI v.2)], [])
def comb_Norm (fuel : Nat) (a0 : (List (Int × (Int × (Int × Int))))) (a1 : Int) : Option ((List (Int × (Int × (Int × Int)))) × Int × Int) :=
(comb_Check a0).bind fun r1 =>
bif r1 != (0 : Int) then
(some ([], (0 : Int), r1))
else
(bif (decide (a1 < (0 : Int))) || (decide (a1 > (60 : Int))) then
(some ([], (0 : Int), (4 : Int)))
else
((comb_read a0).bind fun r5 =>
(iter (comb_Norm_b1 a1 fuel) fuel (r5, (0 : Int))).bind fun v30 =>
match v30 with
| .ret v34 =>
(some (v34.1, v34.2.1, v34.2.2))
| .brk v35 =>
((comb_Tree_write fuel v35.1).bind fun r36 =>
some (r36, v35.2, (0 : Int)))))
theorem comb_Norm_ok {fuel : Nat} {a0 : (List (Int × (Int × (Int × Int))))} {a1 : Int} {r : ((List (Int × (Int × (Int × Int)))) × Int × Int)} (h : comb_Norm fuel a0 a1 = some r) : FnC Try.prog 34 [aD (.slice (.pair tI (.pair tI (.pair tI tI)))) a0, aI a1] [] (.tup [.dat (.slice (.pair tI (.pair tI (.pair tI tI)))) r.1, .dat tI r.2.1, .dat tI r.2.2]) [] := by
  refine fnC_of_W (B := bodyOf Try.f34) (n := 40) Try.func34 (by kernel_rfl) (by kernel_rfl) (by kernel_rfl) (by kernel_rfl) (by kernel_rfl) ?_
  intro K
  refine W_seq (by kernel_rfl) ?_
  refine W_run 3 [] [0, 1] [] (fr' := [(0, aD (.slice (.pair tI (.pair tI (.pair tI tI)))) a0), (1, aI a1)]) (L' := []) (obs := []) (by kernel_rfl) (by kernel_rfl) (by kernel_rfl) allP0 ?_
  refine seqQ_norm ?_
  refine W_seq (by kernel_rfl) ?_
  refine W_seq (by kernel_rfl) ?_
  refine W_region (by kernel_rfl) ?_
  refine WO_run (j := 1) (k := 1) (orcs := []) (kF := [0, 1, 11]) (kL := []) (fr' := [(0, aD (.slice (.pair tI (.pair tI (.pair tI tI)))) a0), (1, aI a1), (11, aD (.slice (.pair tI (.pair tI (.pair tI tI)))) a0)]) (L' := []) (obs := []) rfl (by kernel_rfl) allP0 ?_
  obtain ⟨r1, h2, h⟩ := bind_of h
  refine WO_call0 (us := [none]) (d := 12) (p := True) (j := 2) rfl ⟨by kernel_rfl, by kernel_rfl, by kernel_rfl⟩ trivial (comb_Check_ok h2) (by kernel_rfl) ?_
  refine WO_run (j := 3) (k := 1) (orcs := []) (kF := [0, 1, 7]) (kL := []) (fr' := [(0, aD (.slice (.pair tI (.pair tI (.pair tI tI)))) a0), (1, aI a1), (7, aI r1)]) (L' := []) (obs := []) rfl (by kernel_rfl) allP0 ?_
  refine WO_fin [0, 1, 7] [] (fr' := [(0, aD (.slice (.pair tI (.pair tI (.pair tI tI)))) a0), (1, aI a1), (7, aI r1)]) (L' := []) (by kernel_rfl) (by kernel_rfl) ?_
  refine seqQ_norm ?_
  refine W_seq (by kernel_rfl) ?_
  refine W_run 2 [] [0, 1, 7, 14] [] (fr' := [(0, aD (.slice (.pair tI (.pair tI (.pair tI tI)))) a0), (1, aI a1), (7, aI r1), (14, aB (r1 != (0 : Int)))]) (L' := []) (obs := []) (by kernel_rfl) (by kernel_rfl) (by kernel_rfl) allP0 ?_
  refine seqQ_norm ?_
  refine W_cond (o := .tmp 14) (b := r1 != (0 : Int)) (by kernel_rfl) (by kernel_rfl) (fun h3 => ?_) (fun h3 => ?_)
  · replace h := ofT h3 h
    refine W_seq (by kernel_rfl) ?_
    refine W_run 4 [] [4, 5, 6] [] (fr' := [(4, .one (.nilS)), (5, aI (0 : Int)), (6, aI r1)]) (L' := []) (obs := []) (by kernel_rfl) (by kernel_rfl) (by kernel_rfl) allP0 ?_
    refine seqQ_norm ?_
    obtain rfl := Option.some.inj h
    refine W_cnv 4 (.slice (.pair tI (.pair tI (.pair tI tI)))) (by kernel_rfl) ?_
    refine W_ret [4, 5, 6] [] (fr' := [(4, aD (.slice (.pair tI (.pair tI (.pair tI tI)))) []), (5, aI (0 : Int)), (6, aI r1)]) (L' := []) (by kernel_rfl) (by kernel_rfl) ?_
    refine seqQ_ret ?_
    exact retQ_mk (by kernel_rfl) (by kernel_rfl) (by kernel_rfl)
  · replace h := ofF h3 h
    refine W_skip [0, 1] [] (fr' := [(0, aD (.slice (.pair tI (.pair tI (.pair tI tI)))) a0), (1, aI a1)]) (L' := []) (by kernel_rfl) (by kernel_rfl) ?_
    refine seqQ_norm ?_
    refine W_seq (by kernel_rfl) ?_
    refine W_seq (by kernel_rfl) ?_
    refine W_run 6 [] [0, 1, 21] [] (fr' := [(0, aD (.slice (.pair tI (.pair tI (.pair tI tI)))) a0), (1, aI a1), (21, aB ((decide (a1 < (0 : Int))) || (decide (a1 > (60 : Int)))))]) (L' := []) (obs := []) (by kernel_rfl) (by kernel_rfl) (by kernel_rfl) allP0 ?_
    refine seqQ_norm ?_
    refine W_cond (o := .tmp 21) (b := (decide (a1 < (0 : Int))) || (decide (a1 > (60 : Int)))) (by kernel_rfl) (by kernel_rfl) (fun h4 => ?_) (fun h4 => ?_)
    · replace h := ofT h4 h
      refine W_seq (by kernel_rfl) ?_
      refine W_run 3 [] [4, 5, 6] [] (fr' := [(4, .one (.nilS)), (5, aI (0 : Int)), (6, aI (4 : Int))]) (L' := []) (obs := []) (by kernel_rfl) (by kernel_rfl) (by kernel_rfl) allP0 ?_
      refine seqQ_norm ?_
      obtain rfl := Option.some.inj h
      refine W_cnv 4 (.slice (.pair tI (.pair tI (.pair tI tI)))) (by kernel_rfl) ?_
      refine W_ret [4, 5, 6] [] (fr' := [(4, aD (.slice (.pair tI (.pair tI (.pair tI tI)))) []), (5, aI (0 : Int)), (6, aI (4 : Int))]) (L' := []) (by kernel_rfl) (by kernel_rfl) ?_
      refine seqQ_ret ?_
      exact retQ_mk (by kernel_rfl) (by kernel_rfl) (by kernel_rfl)
    · replace h := ofF h4 h
      refine W_skip [0, 1] [] (fr' := [(0, aD (.slice (.pair tI (.pair tI (.pair tI tI)))) a0), (1, aI a1)]) (L' := []) (by kernel_rfl) (by kernel_rfl) ?_
      refine seqQ_norm ?_
      refine W_seq (by kernel_rfl) ?_
      refine W_region (by kernel_rfl) ?_
      refine WO_run (j := 1) (k := 1) (orcs := []) (kF := [1, 22]) (kL := []) (fr' := [(1, aI a1), (22, aD (.slice (.pair tI (.pair tI (.pair tI tI)))) a0)]) (L' := []) (obs := []) rfl (by kernel_rfl) allP0 ?_
      obtain ⟨r5, h6, h⟩ := bind_of h
      refine WO_call0 (us := [none]) (d := 23) (p := True) (j := 2) rfl ⟨by kernel_rfl, by kernel_rfl, by kernel_rfl⟩ trivial (comb_read_ok h6) (by kernel_rfl) ?_
      refine WO_run (j := 3) (k := 1) (orcs := []) (kF := [1, 8]) (kL := []) (fr' := [(1, aI a1), (8, aD .tree r5)]) (L' := []) (obs := []) rfl (by kernel_rfl) allP0 ?_
      refine WO_fin [1, 8] [] (fr' := [(1, aI a1), (8, aD .tree r5)]) (L' := []) (by kernel_rfl) (by kernel_rfl) ?_
      refine seqQ_norm ?_
      refine W_seq (by kernel_rfl) ?_
      refine W_run 1 [] [1, 8, 9] [] (fr' := [(1, aI a1), (8, aD .tree r5), (9, aI (0 : Int))]) (L' := []) (obs := []) (by kernel_rfl) (by kernel_rfl) (by kernel_rfl) allP0 ?_
      refine seqQ_norm ?_
      refine W_seq (by kernel_rfl) ?_
      refine W_block (id := 0) (by kernel_rfl) ?_
      obtain ⟨v30, h31, h⟩ := bind_of h
      refine W_weaken [1, 8, 9] [] (fr' := ((comb_Norm_s2 a1) (r5, (0 : Int))).1) (L' := ((comb_Norm_s2 a1) (r5, (0 : Int))).2) (by kernel_rfl) ?_
      refine W_cutK (W_loop (S := (comb_Norm_s2 a1)) (J := (escQ (exQ .ret comb_Norm_s3) (exQ (.exit 0) comb_Norm_s4))) (by kernel_rfl) ?_ fuel _ v30 h31) ?_
      · rintro x15 s h
        refine W_seq (by kernel_rfl) ?_
        refine W_seq (by kernel_rfl) ?_
        refine W_run 3 [] [1, 8, 9, 26] [] (fr' := [(1, aI a1), (8, aD .tree x15.1), (9, aI x15.2), (26, aB (decide (x15.2 < a1)))]) (L' := []) (obs := []) (by kernel_rfl) (by kernel_rfl) (by kernel_rfl) allP0 ?_
        refine seqQ_norm ?_
        refine W_cond (o := .tmp 26) (b := decide (x15.2 < a1)) (by kernel_rfl) (by kernel_rfl) (fun h23 => ?_) (fun h23 => ?_)
        · replace h := ofT h23 h
          refine W_skip [1, 8, 9] [] (fr' := [(1, aI a1), (8, aD .tree x15.1), (9, aI x15.2)]) (L' := []) (by kernel_rfl) (by kernel_rfl) ?_
          refine seqQ_norm ?_
          refine W_seq (by kernel_rfl) ?_
          refine W_block (id := 1) (by kernel_rfl) ?_
          refine W_seq (by kernel_rfl) ?_
          refine W_region (by kernel_rfl) ?_
          refine WO_run (j := 1) (k := 1) (orcs := []) (kF := [1, 8, 9, 29]) (kL := []) (fr' := [(1, aI a1), (8, aD .tree x15.1), (9, aI x15.2), (29, aD .tree x15.1)]) (L' := []) (obs := []) rfl (by kernel_rfl) allP0 ?_
          obtain ⟨r24, h25, h⟩ := bind_of h
          refine WO_call0 (us := [none]) (d := 30) (p := True) (j := 2) rfl ⟨by kernel_rfl, by kernel_rfl, by kernel_rfl⟩ trivial (comb_Tree_step_ok h25) (by kernel_rfl) ?_
          refine WO_run (j := 3) (k := 1) (orcs := []) (kF := [1, 8, 9, 10]) (kL := []) (fr' := [(1, aI a1), (8, aD .tree x15.1), (9, aI x15.2), (10, aD .tree r24)]) (L' := []) (obs := []) rfl (by kernel_rfl) allP0 ?_
          refine WO_fin [1, 8, 9, 10] [] (fr' := [(1, aI a1), (8, aD .tree x15.1), (9, aI x15.2), (10, aD .tree r24)]) (L' := []) (by kernel_rfl) (by kernel_rfl) ?_
          refine seqQ_norm ?_
          refine W_seq (by kernel_rfl) ?_
          refine W_seq (by kernel_rfl) ?_
          refine W_run 2 [] [1, 8, 9, 10, 32] [] (fr' := [(1, aI a1), (8, aD .tree x15.1), (9, aI x15.2), (10, aD .tree r24), (32, aB (CT.isNil r24))]) (L' := []) (obs := []) (by kernel_rfl) (by kernel_rfl) (by kernel_rfl) allP0 ?_
          refine seqQ_norm ?_
          refine W_cond (o := .tmp 32) (b := CT.isNil r24) (by kernel_rfl) (by kernel_rfl) (fun h26 => ?_) (fun h26 => ?_)
          · replace h := ofT h26 h
            obtain rfl := Option.some.inj h
            refine W_exit (id := 0) [8, 9] [] (fr' := [(8, aD .tree x15.1), (9, aI x15.2)]) (L' := []) (by kernel_rfl) (by kernel_rfl) ?_
            refine seqQ_exit ?_
            refine blockQ_miss rfl ?_
            refine seqQ_exit ?_
            refine round_exit ?_
            refine escQ_brk ?_
            exact exQ_mk (by kernel_rfl) (by kernel_rfl)
          · replace h := ofF h26 h
            refine W_skip [1, 9, 10] [] (fr' := [(1, aI a1), (9, aI x15.2), (10, aD .tree r24)]) (L' := []) (by kernel_rfl) (by kernel_rfl) ?_
            refine seqQ_norm ?_
            refine W_seq (by kernel_rfl) ?_
            refine W_seq (by kernel_rfl) ?_
            refine W_region (by kernel_rfl) ?_
            refine WO_run (j := 1) (k := 1) (orcs := []) (kF := [1, 9, 10, 33]) (kL := []) (fr' := [(1, aI a1), (9, aI x15.2), (10, aD .tree r24), (33, aD .tree r24)]) (L' := []) (obs := []) rfl (by kernel_rfl) allP0 ?_
            obtain ⟨r27, h28, h⟩ := bind_of h
            refine WO_call0 (us := [none]) (d := 34) (p := True) (j := 2) rfl ⟨by kernel_rfl, by kernel_rfl, by kernel_rfl⟩ trivial (comb_Tree_size_ok h28) (by kernel_rfl) ?_
            refine WO_run (j := 3) (k := 1) (orcs := []) (kF := [1, 9, 10, 35]) (kL := []) (fr' := [(1, aI a1), (9, aI x15.2), (10, aD .tree r24), (35, aB (decide (r27 > (300 : Int))))]) (L' := []) (obs := []) rfl (by kernel_rfl) allP0 ?_
            refine WO_fin [1, 9, 10, 35] [] (fr' := [(1, aI a1), (9, aI x15.2), (10, aD .tree r24), (35, aB (decide (r27 > (300 : Int))))]) (L' := []) (by kernel_rfl) (by kernel_rfl) ?_
            refine seqQ_norm ?_
            refine W_cond (o := .tmp 35) (b := decide (r27 > (300 : Int))) (by kernel_rfl) (by kernel_rfl) (fun h29 => ?_) (fun h29 => ?_)
            · replace h := ofT h29 h
              refine W_seq (by kernel_rfl) ?_
              refine W_run 3 [] [4, 5, 6] [] (fr' := [(4, .one (.nilS)), (5, aI (0 : Int)), (6, aI (7 : Int))]) (L' := []) (obs := []) (by kernel_rfl) (by kernel_rfl) (by kernel_rfl) allP0 ?_
              refine seqQ_norm ?_
              obtain rfl := Option.some.inj h
              refine W_cnv 4 (.slice (.pair tI (.pair tI (.pair tI tI)))) (by kernel_rfl) ?_
              refine W_ret [4, 5, 6] [] (fr' := [(4, aD (.slice (.pair tI (.pair tI (.pair tI tI)))) []), (5, aI (0 : Int)), (6, aI (7 : Int))]) (L' := []) (by kernel_rfl) (by kernel_rfl) ?_
              refine seqQ_ret ?_
              refine blockQ_ret ?_
              refine seqQ_ret ?_
              refine round_ret ?_
              refine escQ_ret ?_
              exact exQ_mk (by kernel_rfl) (by kernel_rfl)
            · replace h := ofF h29 h
              refine W_skip [1, 9, 10] [] (fr' := [(1, aI a1), (9, aI x15.2), (10, aD .tree r24)]) (L' := []) (by kernel_rfl) (by kernel_rfl) ?_
              refine seqQ_norm ?_
              refine W_run 2 [] [1, 8, 9] [] (fr' := [(1, aI a1), (8, aD .tree r24), (9, aI x15.2)]) (L' := []) (obs := []) (by kernel_rfl) (by kernel_rfl) (by kernel_rfl) allP0 ?_
              refine blockQ_norm ?_
              refine seqQ_norm ?_
              obtain rfl := Option.some.inj h
              refine W_run 3 [] [1, 8, 9] [] (fr' := [(1, aI a1), (8, aD .tree r24), (9, aI (w64 (x15.2 + (1 : Int))))]) (L' := []) (obs := []) (by kernel_rfl) (by kernel_rfl) (by kernel_rfl) allP0 ?_
              exact round_next' (by kernel_rfl) (by kernel_rfl)
        · replace h := ofF h23 h
          obtain rfl := Option.some.inj h
          refine W_exit (id := 0) [8, 9] [] (fr' := [(8, aD .tree x15.1), (9, aI x15.2)]) (L' := []) (by kernel_rfl) (by kernel_rfl) ?_
          refine seqQ_exit ?_
          refine round_exit ?_
          refine escQ_brk ?_
          exact exQ_mk (by kernel_rfl) (by kernel_rfl)
      · intro e fr L hJ
        rcases v30 with v34 | v35
        · obtain ⟨rfl, rfl, rfl⟩ := hJ
          obtain rfl := Option.some.inj h
          refine LT_keep [4, 5, 6] [] (fr' := [(4, aD (.slice (.pair tI (.pair tI (.pair tI tI)))) v34.1), (5, aI v34.2.1), (6, aI v34.2.2)]) (L' := []) (by kernel_rfl) ?_
          refine blockQ_ret ?_
          refine seqQ_ret ?_
          exact retQ_mk (by kernel_rfl) (by kernel_rfl) (by kernel_rfl)
        · obtain ⟨rfl, rfl, rfl⟩ := hJ
          refine LT_keep [8, 9] [] (fr' := [(8, aD .tree v35.1), (9, aI v35.2)]) (L' := []) (by kernel_rfl) ?_
          refine blockQ_hit ?_
          refine seqQ_norm ?_
          refine W_seq (by kernel_rfl) ?_
          refine W_region (by kernel_rfl) ?_
          refine WO_run (j := 1) (k := 1) (orcs := []) (kF := [9, 37]) (kL := []) (fr' := [(9, aI v35.2), (37, aD .tree v35.1)]) (L' := []) (obs := []) rfl (by kernel_rfl) allP0 ?_
          obtain ⟨r36, h37, h⟩ := bind_of h
          refine WO_call1 (us := [none, none]) (d := 38) (t := 38) (p := True) (j := 2) rfl ⟨by kernel_rfl, by kernel_rfl, by kernel_rfl⟩ trivial (comb_Tree_write_ok h37) (by kernel_rfl) ?_
          refine WO_run (j := 6) (k := 4) (orcs := []) (kF := [4, 5, 6]) (kL := [38]) (fr' := [(4, .one (.slc 38)), (5, aI v35.2), (6, aI (0 : Int))]) (L' := [(38, .seq (.pair tI (.pair tI (.pair tI tI))) r36)]) (obs := []) rfl (by kernel_rfl) allP0 ?_
          refine WO_fin [4, 5, 6] [38] (fr' := [(4, .one (.slc 38)), (5, aI v35.2), (6, aI (0 : Int))]) (L' := [(38, .seq (.pair tI (.pair tI (.pair tI tI))) r36)]) (by kernel_rfl) (by kernel_rfl) ?_
          refine seqQ_norm ?_
          obtain rfl := Option.some.inj h
          refine W_frz 38 (by kernel_rfl) ?_
          refine W_ret [4, 5, 6] [] (fr' := [(4, aD (.slice (.pair tI (.pair tI (.pair tI tI)))) r36), (5, aI v35.2), (6, aI (0 : Int))]) (L' := []) (by kernel_rfl) (by kernel_rfl) ?_
          exact retQ_mk (by kernel_rfl) (by kernel_rfl) (by kernel_rfl)

def ref_Within (a0 : Int) (a1 : Int) (a2 : Int) : Option Bool :=
some ((decide (a0 ≤ a1)) && (decide (a1 ≤ a2)))
theorem ref_Within_ok {a0 : Int} {a1 : Int} {a2 : Int} {r : Bool} (h : ref_Within a0 a1 a2 = some r) : FnC Try.prog 20 [aI a0, aI a1, aI a2] [] (aB r) [] := by
  refine fnC_of_W (B := bodyOf Try.f20) (n := 15) Try.func20 (by kernel_rfl) (by kernel_rfl) (by kernel_rfl) (by kernel_rfl) (by kernel_rfl) ?_
  intro K
  refine W_seq (by kernel_rfl) ?_
  refine W_run 1 [] [0, 1, 2] [] (fr' := [(0, aI a0), (1, aI a1), (2, aI a2)]) (L' := []) (obs := []) (by kernel_rfl) (by kernel_rfl) (by kernel_rfl) allP0 ?_
  refine seqQ_norm ?_
  refine W_seq (by kernel_rfl) ?_
  refine W_run 9 [] [6] [] (fr' := [(6, aB ((decide (a0 ≤ a1)) && (decide (a1 ≤ a2))))]) (L' := []) (obs := []) (by kernel_rfl) (by kernel_rfl) (by kernel_rfl) allP0 ?_
  refine seqQ_norm ?_
  obtain rfl := Option.some.inj h
  refine W_ret [6] [] (fr' := [(6, aB ((decide (a0 ≤ a1)) && (decide (a1 ≤ a2))))]) (L' := []) (by kernel_rfl) (by kernel_rfl) ?_
  exact retQ_mk (by kernel_rfl) (by kernel_rfl) (by kernel_rfl)

def ref_Inside_b1 (a0 : Int) (i11 : Int) (v14 : Int) (x12 : Unit) : Option (Flow Unit (Esc Bool Unit)) :=
bif (decide (v14 < (0 : Int))) || (decide (v14 ≥ a0)) then
(some (.done (.ret false)))
else
(some (.next ()))
@[reducible] def ref_Inside_s2 (a0 : Int) (a1 : (List Int)) (v : Int × Unit) : Fr × LL := ([(0, aI a0), (7, aD (.slice tI) a1), (8, aI (List.length a1 : Int)), (9, aI v.1)], [])
@[reducible] def ref_Inside_s3 (v : Bool) : Fr × LL := ([(4, aB v)], [])
@[reducible] def ref_Inside_s4 (v : Unit) : Fr × LL := ([], [])
def ref_Inside (a0 : Int) (a1 : (List Int)) : Option Bool :=
(forL (ref_Inside_b1 a0) (fun x12 => (.brk ())) a1 0 ()).bind fun v19 =>
match v19 with
| .ret v24 =>
(some v24)
| .brk v25 =>
(some true)
theorem ref_Inside_ok {a0 : Int} {a1 : (List Int)} {r : Bool} (h : ref_Inside a0 a1 = some r) : FnC Try.prog 60 [aI a0, aD (.slice tI) a1] [] (aB r) [] := by
  refine fnC_of_W (B := bodyOf Try.f60) (n := 21) Try.func60 (by kernel_rfl) (by kernel_rfl) (by kernel_rfl) (by kernel_rfl) (by kernel_rfl) ?_
  intro K
  refine W_seq (by kernel_rfl) ?_
  refine W_run 1 [] [0, 1] [] (fr' := [(0, aI a0), (1, aD (.slice tI) a1)]) (L' := []) (obs := []) (by kernel_rfl) (by kernel_rfl) (by kernel_rfl) allP0 ?_
  refine seqQ_norm ?_
  refine W_seq (by kernel_rfl) ?_
  refine W_seq (by kernel_rfl) ?_
  refine W_run 3 [] [0, 7, 8, 9] [] (fr' := [(0, aI a0), (7, aD (.slice tI) a1), (8, aI (List.length a1 : Int)), (9, aI (0 : Int))]) (L' := []) (obs := []) (by kernel_rfl) (by kernel_rfl) (by kernel_rfl) allP0 ?_
  refine seqQ_norm ?_
  refine W_block (id := 0) (by kernel_rfl) ?_
  obtain ⟨v19, h20, h⟩ := bind_of h
  refine W_len (t := 7) (u := tI) (xs := a1) (by kernel_rfl) (fun h23 => ?_)
  obtain ⟨h21, h22⟩ := forL_iter h23 h20
  refine W_weaken [0, 7, 8, 9] [] (fr' := ((ref_Inside_s2 a0 a1) ((0 : Int), ())).1) (L' := ((ref_Inside_s2 a0 a1) ((0 : Int), ())).2) (by kernel_rfl) ?_
  refine W_cutK (W_loop (S := (ref_Inside_s2 a0 a1)) (J := (escQ (exQ .ret ref_Inside_s3) (exQ (.exit 0) ref_Inside_s4))) (by kernel_rfl) ?_ h21 _ v19 h22) ?_
  · rintro ⟨i11, x12⟩ s h
    refine W_seq (by kernel_rfl) ?_
    refine W_run 1 [] [0, 7, 8, 9, 10] [] (fr' := [(0, aI a0), (7, aD (.slice tI) a1), (8, aI (List.length a1 : Int)), (9, aI i11), (10, aB (decide (i11 < (List.length a1 : Int))))]) (L' := []) (obs := []) (by kernel_rfl) (by kernel_rfl) (by kernel_rfl) allP0 ?_
    refine seqQ_norm ?_
    refine W_seq (by kernel_rfl) ?_
    refine W_cond (o := .tmp 10) (b := decide (i11 < (List.length a1 : Int))) (by kernel_rfl) (by kernel_rfl) (fun h16 => ?_) (fun h16 => ?_)
    · replace h := stepL_true h16 h
      obtain ⟨v14, _, h15, h, rfl⟩ := h
      refine W_skip [0, 7, 8, 9] [] (fr' := [(0, aI a0), (7, aD (.slice tI) a1), (8, aI (List.length a1 : Int)), (9, aI i11)]) (L' := []) (by kernel_rfl) (by kernel_rfl) ?_
      refine seqQ_norm ?_
      refine W_seq (by kernel_rfl) ?_
      refine W_block (id := 1) (by kernel_rfl) ?_
      refine W_seq (by kernel_rfl) ?_
      refine W_run 3 [(1, .val (.dat tI v14))] [0, 6, 7, 8, 9] [] (fr' := [(0, aI a0), (6, aI v14), (7, aD (.slice tI) a1), (8, aI (List.length a1 : Int)), (9, aI i11)]) (L' := []) (obs := [Idx a1 i11 v14]) (by kernel_rfl) (by kernel_rfl) (by kernel_rfl) (allP1 (Idx.of h15)) ?_
      refine seqQ_norm ?_
      refine W_seq (by kernel_rfl) ?_
      refine W_run 7 [] [0, 7, 8, 9, 19] [] (fr' := [(0, aI a0), (7, aD (.slice tI) a1), (8, aI (List.length a1 : Int)), (9, aI i11), (19, aB ((decide (v14 < (0 : Int))) || (decide (v14 ≥ a0))))]) (L' := []) (obs := []) (by kernel_rfl) (by kernel_rfl) (by kernel_rfl) allP0 ?_
      refine seqQ_norm ?_
      refine W_cond (o := .tmp 19) (b := (decide (v14 < (0 : Int))) || (decide (v14 ≥ a0))) (by kernel_rfl) (by kernel_rfl) (fun h17 => ?_) (fun h17 => ?_)
      · replace h := ofT h17 h
        refine W_seq (by kernel_rfl) ?_
        refine W_run 1 [] [4] [] (fr' := [(4, aB false)]) (L' := []) (obs := []) (by kernel_rfl) (by kernel_rfl) (by kernel_rfl) allP0 ?_
        refine seqQ_norm ?_
        obtain rfl := Option.some.inj h
        refine W_ret [4] [] (fr' := [(4, aB false)]) (L' := []) (by kernel_rfl) (by kernel_rfl) ?_
        refine blockQ_ret ?_
        refine seqQ_ret ?_
        refine round_ret ?_
        refine escQ_ret ?_
        exact exQ_mk (by kernel_rfl) (by kernel_rfl)
      · replace h := ofF h17 h
        refine W_skip [0, 7, 8, 9] [] (fr' := [(0, aI a0), (7, aD (.slice tI) a1), (8, aI (List.length a1 : Int)), (9, aI i11)]) (L' := []) (by kernel_rfl) (by kernel_rfl) ?_
        refine blockQ_norm ?_
        refine seqQ_norm ?_
        obtain rfl := Option.some.inj h
        refine W_run 2 [] [0, 7, 8, 9] [] (fr' := [(0, aI a0), (7, aD (.slice tI) a1), (8, aI (List.length a1 : Int)), (9, aI (w64 (i11 + (1 : Int))))]) (L' := []) (obs := []) (by kernel_rfl) (by kernel_rfl) (by kernel_rfl) allP0 ?_
        exact round_next' (by kernel_rfl) (by kernel_rfl)
    · obtain rfl := stepL_false h16 h
      refine W_exit (id := 0) [] [] (fr' := []) (L' := []) (by kernel_rfl) (by kernel_rfl) ?_
      refine seqQ_exit ?_
      refine round_exit ?_
      refine escQ_brk ?_
      exact exQ_mk (by kernel_rfl) (by kernel_rfl)
  · intro e fr L hJ
    rcases v19 with v24 | v25
    · obtain ⟨rfl, rfl, rfl⟩ := hJ
      obtain rfl := Option.some.inj h
      refine LT_keep [4] [] (fr' := [(4, aB v24)]) (L' := []) (by kernel_rfl) ?_
      refine blockQ_ret ?_
      refine seqQ_ret ?_
      exact retQ_mk (by kernel_rfl) (by kernel_rfl) (by kernel_rfl)
    · obtain ⟨rfl, rfl, rfl⟩ := hJ
      refine LT_keep [] [] (fr' := []) (L' := []) (by kernel_rfl) ?_
      refine blockQ_hit ?_
      refine seqQ_norm ?_
      refine W_seq (by kernel_rfl) ?_
      refine W_run 1 [] [4] [] (fr' := [(4, aB true)]) (L' := []) (obs := []) (by kernel_rfl) (by kernel_rfl) (by kernel_rfl) allP0 ?_
      refine seqQ_norm ?_
      obtain rfl := Option.some.inj h
      refine W_ret [4] [] (fr' := [(4, aB true)]) (L' := []) (by kernel_rfl) (by kernel_rfl) ?_
      exact retQ_mk (by kernel_rfl) (by kernel_rfl) (by kernel_rfl)

@[reducible] def ref_CombCheck_s5 (a0 : (List (Int × (Int × (Int × Int))))) (i66 : Int) (v : Bool) : Fr × LL := ([(0, aD (.slice (.pair tI (.pair tI (.pair tI tI)))) a0), (12, aD (.slice (.pair tI (.pair tI (.pair tI tI)))) a0), (13, aI (List.length a0 : Int)), (14, aI i66), (44, aB v)], [])
@[reducible] def ref_CombCheck_s6 (a0 : (List (Int × (Int × (Int × Int))))) (i66 : Int) (v69 : (Int × (Int × (Int × Int)))) (v : Bool) : Fr × LL := ([(0, aD (.slice (.pair tI (.pair tI (.pair tI tI)))) a0), (3, aI i66), (4, .one (.ptr 4 0)), (12, aD (.slice (.pair tI (.pair tI (.pair tI tI)))) a0), (13, aI (List.length a0 : Int)), (14, aI i66), (31, aB v)], [(4, .one (.pair tI (.pair tI (.pair tI tI))) v69)])
def ref_CombCheck_b7 (i66 : Int) (v69 : (Int × (Int × (Int × Int)))) (x67 : Unit) : Option (Flow Unit (Esc Int Unit)) :=
(ref_Within (1 : Int) v69.1 (4 : Int)).bind fun r72 =>
bif !r72 then
(some (.done (.ret (6 : Int))))
else
((bif v69.1 == (3 : Int) then
((ref_Within (0 : Int) v69.2.2.2 (1000 : Int)).bind fun r82 =>
some (!r82))
else
(some false)).bind fun v84 =>
bif v84 then
(some (.done (.ret (4 : Int))))
else
((bif v69.1 == (4 : Int) then
((ref_Inside i66 [v69.2.1, v69.2.2.1]).bind fun r94 =>
some (!r94))
else
(some false)).bind fun v96 =>
bif v96 then
(some (.done (.ret (2 : Int))))
else
(some (.next ()))))
@[reducible] def ref_CombCheck_s8 (a0 : (List (Int × (Int × (Int × Int))))) (v : Int × Unit) : Fr × LL := ([(0, aD (.slice (.pair tI (.pair tI (.pair tI tI)))) a0), (12, aD (.slice (.pair tI (.pair tI (.pair tI tI)))) a0), (13, aI (List.length a0 : Int)), (14, aI v.1)], [])
@[reducible] def ref_CombCheck_s9 (v : Int) : Fr × LL := ([(2, aI v)], [])
@[reducible] def ref_CombCheck_s10 (a0 : (List (Int × (Int × (Int × Int))))) (v : Unit) : Fr × LL := ([(0, aD (.slice (.pair tI (.pair tI (.pair tI tI)))) a0)], [])
def ref_CombCheck_g31 (i296 : Int) (x297 : (List Int)) (v299 : (Int × (Int × (Int × Int)))) : Option (List Int) :=
bif v299.1 == (4 : Int) then
((idx (List.set x297 (Int.toNat i296) (1 : Int)) v299.2.1).bind fun v375 =>
(idx (List.set x297 (Int.toNat i296) (1 : Int)) v299.2.2.1).bind fun v377 =>
(idx (List.set x297 (Int.toNat i296) (1 : Int)) i296).bind fun v379 =>
some (List.set (List.set x297 (Int.toNat i296) (1 : Int)) (Int.toNat i296) (w64 ((w64 ((1 : Int) + v375)) + v377))))
else
(some (List.set x297 (Int.toNat i296) (1 : Int)))
@[reducible] def ref_CombCheck_s32 (a0 : (List (Int × (Int × (Int × Int))))) (i296 : Int) (v : (List Int)) : Fr × LL := ([(0, aD (.slice (.pair tI (.pair tI (.pair tI tI)))) a0), (5, .one (.slc 48)), (6, aI i296), (49, aD (.slice (.pair tI (.pair tI (.pair tI tI)))) a0), (50, aI (List.length a0 : Int)), (51, aI i296)], [(48, .seq tI v)])
def ref_CombCheck_g33 (i296 : Int) (x297 : (List Int)) (v299 : (Int × (Int × (Int × Int)))) : Option (List Int) :=
(idx x297 i296).bind fun v358 =>
(ref_CombCheck_g31 i296 x297 v299).bind fun v381 =>
(idx v381 i296).bind fun v383 =>
bif decide (v383 > (300 : Int)) then
(some (List.set v381 (Int.toNat i296) (301 : Int)))
else
(some v381)
@[reducible] def ref_CombCheck_s34 (a0 : (List (Int × (Int × (Int × Int))))) (i296 : Int) (v : (List Int)) : Fr × LL := ([(0, aD (.slice (.pair tI (.pair tI (.pair tI tI)))) a0), (5, .one (.slc 48)), (49, aD (.slice (.pair tI (.pair tI (.pair tI tI)))) a0), (50, aI (List.length a0 : Int)), (51, aI i296)], [(48, .seq tI v)])
def ref_CombCheck_b35 (i296 : Int) (v299 : (Int × (Int × (Int × Int)))) (x297 : (List Int)) : Option (Flow (List Int) (List Int)) :=
(ref_CombCheck_g33 i296 x297 v299).bind fun v386 =>
some (.next v386)
@[reducible] def ref_CombCheck_s36 (a0 : (List (Int × (Int × (Int × Int))))) (v : Int × (List Int)) : Fr × LL := ([(0, aD (.slice (.pair tI (.pair tI (.pair tI tI)))) a0), (5, .one (.slc 48)), (49, aD (.slice (.pair tI (.pair tI (.pair tI tI)))) a0), (50, aI (List.length a0 : Int)), (51, aI v.1)], [(48, .seq tI v.2)])
@[reducible] def ref_CombCheck_s37 (a0 : (List (Int × (Int × (Int × Int))))) (v : (List Int)) : Fr × LL := ([(0, aD (.slice (.pair tI (.pair tI (.pair tI tI)))) a0), (5, .one (.slc 48))], [(48, .seq tI v)])
def ref_CombCheck (a0 : (List (Int × (Int × (Int × Int))))) : Option Int :=
(ref_Within (1 : Int) (List.length a0 : Int) (40 : Int)).bind fun r1 =>
bif !r1 then
(some (1 : Int))
else
((forL ref_CombCheck_b7 (fun x67 => (.brk ())) a0 0 ()).bind fun v100 =>
match v100 with
| .ret v105 =>
(some v105)
| .brk v106 =>
((ck (0 ≤ (List.length a0 : Int) ∧ (List.length a0 : Int) = (List.length a0 : Int) ∧ (List.length a0 : Int) ≤ 4294967296)).bind fun _ =>
(forL ref_CombCheck_b35 (fun x297 => x297) a0 0 (List.replicate (Int.toNat (List.length a0 : Int)) (0 : Int))).bind fun v389 =>
(idx v389 (w64 ((List.length a0 : Int) - (1 : Int)))).bind fun v394 =>
bif decide (v394 > (300 : Int)) then
(some (1 : Int))
else
(some (0 : Int))))
theorem ref_CombCheck_ok {a0 : (List (Int × (Int × (Int × Int))))} {r : Int} (h : ref_CombCheck a0 = some r) : FnC Try.prog 27 [aD (.slice (.pair tI (.pair tI (.pair tI tI)))) a0] [] (aI r) [] := by
  refine fnC_of_W (B := bodyOf Try.f27) (n := 93) Try.func27 (by kernel_rfl) (by kernel_rfl) (by kernel_rfl) (by kernel_rfl) (by kernel_rfl) ?_
  intro K
  refine W_seq (by kernel_rfl) ?_
  refine W_run 1 [] [0] [] (fr' := [(0, aD (.slice (.pair tI (.pair tI (.pair tI tI)))) a0)]) (L' := []) (obs := []) (by kernel_rfl) (by kernel_rfl) (by kernel_rfl) allP0 ?_
  refine seqQ_norm ?_
  refine W_seq (by kernel_rfl) ?_
  refine W_seq (by kernel_rfl) ?_
  refine W_region (by kernel_rfl) ?_
  refine WO_run (j := 2) (k := 2) (orcs := []) (kF := [0, 9]) (kL := []) (fr' := [(0, aD (.slice (.pair tI (.pair tI (.pair tI tI)))) a0), (9, aI (List.length a0 : Int))]) (L' := []) (obs := []) rfl (by kernel_rfl) allP0 ?_
  obtain ⟨r1, h2, h⟩ := bind_of h
  refine WO_call0 (us := [none, none, none]) (d := 10) (p := True) (j := 3) rfl ⟨by kernel_rfl, by kernel_rfl, by kernel_rfl⟩ trivial (ref_Within_ok h2) (by kernel_rfl) ?_
  refine WO_run (j := 4) (k := 1) (orcs := []) (kF := [0, 11]) (kL := []) (fr' := [(0, aD (.slice (.pair tI (.pair tI (.pair tI tI)))) a0), (11, aB (!r1))]) (L' := []) (obs := []) rfl (by kernel_rfl) allP0 ?_
  refine WO_fin [0, 11] [] (fr' := [(0, aD (.slice (.pair tI (.pair tI (.pair tI tI)))) a0), (11, aB (!r1))]) (L' := []) (by kernel_rfl) (by kernel_rfl) ?_
  refine seqQ_norm ?_
  refine W_cond (o := .tmp 11) (b := !r1) (by kernel_rfl) (by kernel_rfl) (fun h3 => ?_) (fun h3 => ?_)
  · replace h := ofT h3 h
    refine W_seq (by kernel_rfl) ?_
    refine W_run 1 [] [2] [] (fr' := [(2, aI (1 : Int))]) (L' := []) (obs := []) (by kernel_rfl) (by kernel_rfl) (by kernel_rfl) allP0 ?_
    refine seqQ_norm ?_
    obtain rfl := Option.some.inj h
    refine W_ret [2] [] (fr' := [(2, aI (1 : Int))]) (L' := []) (by kernel_rfl) (by kernel_rfl) ?_
    refine seqQ_ret ?_
    exact retQ_mk (by kernel_rfl) (by kernel_rfl) (by kernel_rfl)
  · replace h := ofF h3 h
    refine W_skip [0] [] (fr' := [(0, aD (.slice (.pair tI (.pair tI (.pair tI tI)))) a0)]) (L' := []) (by kernel_rfl) (by kernel_rfl) ?_
    refine seqQ_norm ?_
    refine W_seq (by kernel_rfl) ?_
    refine W_seq (by kernel_rfl) ?_
    refine W_run 3 [] [0, 12, 13, 14] [] (fr' := [(0, aD (.slice (.pair tI (.pair tI (.pair tI tI)))) a0), (12, aD (.slice (.pair tI (.pair tI (.pair tI tI)))) a0), (13, aI (List.length a0 : Int)), (14, aI (0 : Int))]) (L' := []) (obs := []) (by kernel_rfl) (by kernel_rfl) (by kernel_rfl) allP0 ?_
    refine seqQ_norm ?_
    refine W_block (id := 0) (by kernel_rfl) ?_
    obtain ⟨v100, h101, h⟩ := bind_of h
    refine W_len (t := 12) (u := (.pair tI (.pair tI (.pair tI tI)))) (xs := a0) (by kernel_rfl) (fun h104 => ?_)
    obtain ⟨h102, h103⟩ := forL_iter h104 h101
    refine W_weaken [0, 12, 13, 14] [] (fr' := ((ref_CombCheck_s8 a0) ((0 : Int), ())).1) (L' := ((ref_CombCheck_s8 a0) ((0 : Int), ())).2) (by kernel_rfl) ?_
    refine W_cutK (W_loop (S := (ref_CombCheck_s8 a0)) (J := (escQ (exQ .ret ref_CombCheck_s9) (exQ (.exit 0) (ref_CombCheck_s10 a0)))) (by kernel_rfl) ?_ h102 _ v100 h103) ?_
    · rintro ⟨i66, x67⟩ s h
      refine W_seq (by kernel_rfl) ?_
      refine W_run 1 [] [0, 12, 13, 14, 15] [] (fr' := [(0, aD (.slice (.pair tI (.pair tI (.pair tI tI)))) a0), (12, aD (.slice (.pair tI (.pair tI (.pair tI tI)))) a0), (13, aI (List.length a0 : Int)), (14, aI i66), (15, aB (decide (i66 < (List.length a0 : Int))))]) (L' := []) (obs := []) (by kernel_rfl) (by kernel_rfl) (by kernel_rfl) allP0 ?_
      refine seqQ_norm ?_
      refine W_seq (by kernel_rfl) ?_
      refine W_cond (o := .tmp 15) (b := decide (i66 < (List.length a0 : Int))) (by kernel_rfl) (by kernel_rfl) (fun h71 => ?_) (fun h71 => ?_)
      · replace h := stepL_true h71 h
        obtain ⟨v69, _, h70, h, rfl⟩ := h
        refine W_skip [0, 12, 13, 14] [] (fr' := [(0, aD (.slice (.pair tI (.pair tI (.pair tI tI)))) a0), (12, aD (.slice (.pair tI (.pair tI (.pair tI tI)))) a0), (13, aI (List.length a0 : Int)), (14, aI i66)]) (L' := []) (by kernel_rfl) (by kernel_rfl) ?_
        refine seqQ_norm ?_
        refine W_seq (by kernel_rfl) ?_
        refine W_block (id := 1) (by kernel_rfl) ?_
        refine W_seq (by kernel_rfl) ?_
        refine W_run 6 [(3, .val (.dat (.pair tI (.pair tI (.pair tI tI))) v69)), (7, .typed)] [0, 3, 4, 12, 13, 14] [4] (fr' := [(0, aD (.slice (.pair tI (.pair tI (.pair tI tI)))) a0), (3, aI i66), (4, .one (.ptr 4 0)), (12, aD (.slice (.pair tI (.pair tI (.pair tI tI)))) a0), (13, aI (List.length a0 : Int)), (14, aI i66)]) (L' := [(4, .one (.pair tI (.pair tI (.pair tI tI))) v69)]) (obs := [Idx a0 i66 v69, True]) (by kernel_rfl) (by kernel_rfl) (by kernel_rfl) (allP2 (Idx.of h70) (allP1 trivial)) ?_
        refine seqQ_norm ?_
        refine W_seq (by kernel_rfl) ?_
        refine W_seq (by kernel_rfl) ?_
        refine W_region (by kernel_rfl) ?_
        refine WO_run (j := 2) (k := 2) (orcs := []) (kF := [0, 3, 4, 12, 13, 14, 20]) (kL := [4]) (fr' := [(0, aD (.slice (.pair tI (.pair tI (.pair tI tI)))) a0), (3, aI i66), (4, .one (.ptr 4 0)), (12, aD (.slice (.pair tI (.pair tI (.pair tI tI)))) a0), (13, aI (List.length a0 : Int)), (14, aI i66), (20, aI v69.1)]) (L' := [(4, .one (.pair tI (.pair tI (.pair tI tI))) v69)]) (obs := []) rfl (by kernel_rfl) allP0 ?_
        obtain ⟨r72, h73, h⟩ := bind_of h
        refine WO_call0 (us := [none, none, none]) (d := 21) (p := True) (j := 3) rfl ⟨by kernel_rfl, by kernel_rfl, by kernel_rfl⟩ trivial (ref_Within_ok h73) (by kernel_rfl) ?_
        refine WO_run (j := 4) (k := 1) (orcs := []) (kF := [0, 3, 4, 12, 13, 14, 22]) (kL := [4]) (fr' := [(0, aD (.slice (.pair tI (.pair tI (.pair tI tI)))) a0), (3, aI i66), (4, .one (.ptr 4 0)), (12, aD (.slice (.pair tI (.pair tI (.pair tI tI)))) a0), (13, aI (List.length a0 : Int)), (14, aI i66), (22, aB (!r72))]) (L' := [(4, .one (.pair tI (.pair tI (.pair tI tI))) v69)]) (obs := []) rfl (by kernel_rfl) allP0 ?_
        refine WO_fin [0, 3, 4, 12, 13, 14, 22] [4] (fr' := [(0, aD (.slice (.pair tI (.pair tI (.pair tI tI)))) a0), (3, aI i66), (4, .one (.ptr 4 0)), (12, aD (.slice (.pair tI (.pair tI (.pair tI tI)))) a0), (13, aI (List.length a0 : Int)), (14, aI i66), (22, aB (!r72))]) (L' := [(4, .one (.pair tI (.pair tI (.pair tI tI))) v69)]) (by kernel_rfl) (by kernel_rfl) ?_
        refine seqQ_norm ?_
        refine W_cond (o := .tmp 22) (b := !r72) (by kernel_rfl) (by kernel_rfl) (fun h74 => ?_) (fun h74 => ?_)
        · replace h := ofT h74 h
          refine W_seq (by kernel_rfl) ?_
          refine W_run 1 [] [2] [] (fr' := [(2, aI (6 : Int))]) (L' := []) (obs := []) (by kernel_rfl) (by kernel_rfl) (by kernel_rfl) allP0 ?_
          refine seqQ_norm ?_
          obtain rfl := Option.some.inj h
          refine W_ret [2] [] (fr' := [(2, aI (6 : Int))]) (L' := []) (by kernel_rfl) (by kernel_rfl) ?_
          refine seqQ_ret ?_
          refine blockQ_ret ?_
          refine seqQ_ret ?_
          refine round_ret ?_
          refine escQ_ret ?_
          exact exQ_mk (by kernel_rfl) (by kernel_rfl)
        · replace h := ofF h74 h
          refine W_skip [0, 3, 4, 12, 13, 14] [4] (fr' := [(0, aD (.slice (.pair tI (.pair tI (.pair tI tI)))) a0), (3, aI i66), (4, .one (.ptr 4 0)), (12, aD (.slice (.pair tI (.pair tI (.pair tI tI)))) a0), (13, aI (List.length a0 : Int)), (14, aI i66)]) (L' := [(4, .one (.pair tI (.pair tI (.pair tI tI))) v69)]) (by kernel_rfl) (by kernel_rfl) ?_
          refine seqQ_norm ?_
          refine W_seq (by kernel_rfl) ?_
          refine W_seq (by kernel_rfl) ?_
          obtain ⟨v84, h85, h⟩ := bind_of h
          refine W_cutK (Q' := (exQ .normal (ref_CombCheck_s6 a0 i66 v69)) v84) ?_ ?_
          · replace h := h85
            refine W_region (by kernel_rfl) ?_
            refine WO_run (j := 4) (k := 4) (orcs := []) (kF := [0, 3, 4, 12, 13, 14, 26]) (kL := [4]) (fr' := [(0, aD (.slice (.pair tI (.pair tI (.pair tI tI)))) a0), (3, aI i66), (4, .one (.ptr 4 0)), (12, aD (.slice (.pair tI (.pair tI (.pair tI tI)))) a0), (13, aI (List.length a0 : Int)), (14, aI i66), (26, aB (v69.1 == (3 : Int)))]) (L' := [(4, .one (.pair tI (.pair tI (.pair tI tI))) v69)]) (obs := []) rfl (by kernel_rfl) allP0 ?_
            rcases Bool.eq_false_or_eq_true (v69.1 == (3 : Int)) with h81 | h81
            · replace h := ofT h81 h
              refine WO_run (j := 6) (k := 2) (orcs := [(8, .known true), (10, .known true)]) (kF := [0, 3, 4, 12, 13, 14, 26, 28]) (kL := [4]) (fr' := [(0, aD (.slice (.pair tI (.pair tI (.pair tI tI)))) a0), (3, aI i66), (4, .one (.ptr 4 0)), (12, aD (.slice (.pair tI (.pair tI (.pair tI tI)))) a0), (13, aI (List.length a0 : Int)), (14, aI i66), (26, aB (v69.1 == (3 : Int))), (28, aI v69.2.2.2)]) (L' := [(4, .one (.pair tI (.pair tI (.pair tI tI))) v69)]) (obs := [((v69.1 == (3 : Int)) = true), ((v69.1 == (3 : Int)) = true)]) rfl (by kernel_rfl) (allP2 h81 (allP1 h81)) ?_
              obtain ⟨r82, h83, h⟩ := bind_of h
              refine WO_call0 (us := [none, none, none]) (d := 29) (p := ((v69.1 == (3 : Int)) = true)) (j := 7) rfl ⟨by kernel_rfl, by kernel_rfl, by kernel_rfl⟩ h81 (ref_Within_ok h83) (by kernel_rfl) ?_
              refine WO_run (j := 9) (k := 2) (orcs := [(14, .known true), (17, .val (.dat .bool true))]) (kF := [0, 3, 4, 12, 13, 14, 31]) (kL := [4]) (fr' := [(0, aD (.slice (.pair tI (.pair tI (.pair tI tI)))) a0), (3, aI i66), (4, .one (.ptr 4 0)), (12, aD (.slice (.pair tI (.pair tI (.pair tI tI)))) a0), (13, aI (List.length a0 : Int)), (14, aI i66), (31, aB (!r82))]) (L' := [(4, .one (.pair tI (.pair tI (.pair tI tI))) v69)]) (obs := [((v69.1 == (3 : Int)) = true), ((v69.1 == (3 : Int)) = true)]) rfl (by kernel_rfl) (allP2 h81 (allP1 h81)) ?_
              obtain rfl := Option.some.inj h
              refine WO_fin [0, 3, 4, 12, 13, 14, 31] [4] (fr' := [(0, aD (.slice (.pair tI (.pair tI (.pair tI tI)))) a0), (3, aI i66), (4, .one (.ptr 4 0)), (12, aD (.slice (.pair tI (.pair tI (.pair tI tI)))) a0), (13, aI (List.length a0 : Int)), (14, aI i66), (31, aB (!r82))]) (L' := [(4, .one (.pair tI (.pair tI (.pair tI tI))) v69)]) (by kernel_rfl) (by kernel_rfl) ?_
              exact exQ_mk (by kernel_rfl) (by kernel_rfl)
            · replace h := ofF h81 h
              refine WO_run (j := 9) (k := 5) (orcs := [(8, .known false), (10, .known false), (12, .known false), (14, .known false), (17, .val (.dat .bool false))]) (kF := [0, 3, 4, 12, 13, 14, 31]) (kL := [4]) (fr' := [(0, aD (.slice (.pair tI (.pair tI (.pair tI tI)))) a0), (3, aI i66), (4, .one (.ptr 4 0)), (12, aD (.slice (.pair tI (.pair tI (.pair tI tI)))) a0), (13, aI (List.length a0 : Int)), (14, aI i66), (31, aB false)]) (L' := [(4, .one (.pair tI (.pair tI (.pair tI tI))) v69)]) (obs := [((v69.1 == (3 : Int)) = false), ((v69.1 == (3 : Int)) = false), ((v69.1 == (3 : Int)) = false), ((v69.1 == (3 : Int)) = false), ((v69.1 == (3 : Int)) = false)]) rfl (by kernel_rfl) (allP2 h81 (allP2 h81 (allP2 h81 (allP2 h81 (allP1 h81))))) ?_
              obtain rfl := Option.some.inj h
              refine WO_fin [0, 3, 4, 12, 13, 14, 31] [4] (fr' := [(0, aD (.slice (.pair tI (.pair tI (.pair tI tI)))) a0), (3, aI i66), (4, .one (.ptr 4 0)), (12, aD (.slice (.pair tI (.pair tI (.pair tI tI)))) a0), (13, aI (List.length a0 : Int)), (14, aI i66), (31, aB false)]) (L' := [(4, .one (.pair tI (.pair tI (.pair tI tI))) v69)]) (by kernel_rfl) (by kernel_rfl) ?_
              exact exQ_mk (by kernel_rfl) (by kernel_rfl)
          · intro e fr L hJ
            obtain ⟨rfl, rfl, rfl⟩ := hJ
            refine LT_keep [0, 3, 4, 12, 13, 14, 31] [4] (fr' := [(0, aD (.slice (.pair tI (.pair tI (.pair tI tI)))) a0), (3, aI i66), (4, .one (.ptr 4 0)), (12, aD (.slice (.pair tI (.pair tI (.pair tI tI)))) a0), (13, aI (List.length a0 : Int)), (14, aI i66), (31, aB v84)]) (L' := [(4, .one (.pair tI (.pair tI (.pair tI tI))) v69)]) (by kernel_rfl) ?_
            refine seqQ_norm ?_
            refine W_cond (o := .tmp 31) (b := v84) (by kernel_rfl) (by kernel_rfl) (fun h86 => ?_) (fun h86 => ?_)
            · replace h := ofT h86 h
              refine W_seq (by kernel_rfl) ?_
              refine W_run 1 [] [2] [] (fr' := [(2, aI (4 : Int))]) (L' := []) (obs := []) (by kernel_rfl) (by kernel_rfl) (by kernel_rfl) allP0 ?_
              refine seqQ_norm ?_
              obtain rfl := Option.some.inj h
              refine W_ret [2] [] (fr' := [(2, aI (4 : Int))]) (L' := []) (by kernel_rfl) (by kernel_rfl) ?_
              refine seqQ_ret ?_
              refine blockQ_ret ?_
              refine seqQ_ret ?_
              refine round_ret ?_
              refine escQ_ret ?_
              exact exQ_mk (by kernel_rfl) (by kernel_rfl)
            · replace h := ofF h86 h
              refine W_skip [0, 3, 4, 12, 13, 14] [4] (fr' := [(0, aD (.slice (.pair tI (.pair tI (.pair tI tI)))) a0), (3, aI i66), (4, .one (.ptr 4 0)), (12, aD (.slice (.pair tI (.pair tI (.pair tI tI)))) a0), (13, aI (List.length a0 : Int)), (14, aI i66)]) (L' := [(4, .one (.pair tI (.pair tI (.pair tI tI))) v69)]) (by kernel_rfl) (by kernel_rfl) ?_
              refine seqQ_norm ?_
              refine W_seq (by kernel_rfl) ?_
              obtain ⟨v96, h97, h⟩ := bind_of h
              refine W_cutK (Q' := (exQ .normal (ref_CombCheck_s5 a0 i66)) v96) ?_ ?_
              · replace h := h97
                refine W_region (by kernel_rfl) ?_
                refine WO_run (j := 4) (k := 4) (orcs := []) (kF := [0, 3, 4, 12, 13, 14, 35]) (kL := [4]) (fr' := [(0, aD (.slice (.pair tI (.pair tI (.pair tI tI)))) a0), (3, aI i66), (4, .one (.ptr 4 0)), (12, aD (.slice (.pair tI (.pair tI (.pair tI tI)))) a0), (13, aI (List.length a0 : Int)), (14, aI i66), (35, aB (v69.1 == (4 : Int)))]) (L' := [(4, .one (.pair tI (.pair tI (.pair tI tI))) v69)]) (obs := []) rfl (by kernel_rfl) allP0 ?_
                rcases Bool.eq_false_or_eq_true (v69.1 == (4 : Int)) with h93 | h93
                · replace h := ofT h93 h
                  refine WO_run (j := 10) (k := 6) (orcs := [(8, .known true), (10, .known true), (12, .known true), (14, .known true), (16, .known true), (18, .known true)]) (kF := [0, 12, 13, 14, 35, 36, 41]) (kL := [4, 41]) (fr' := [(0, aD (.slice (.pair tI (.pair tI (.pair tI tI)))) a0), (12, aD (.slice (.pair tI (.pair tI (.pair tI tI)))) a0), (13, aI (List.length a0 : Int)), (14, aI i66), (35, aB (v69.1 == (4 : Int))), (36, aI i66), (41, .one (.slc 41))]) (L' := [(4, .one (.pair tI (.pair tI (.pair tI tI))) v69), (41, .seq tI [v69.2.1, v69.2.2.1])]) (obs := [((v69.1 == (4 : Int)) = true), ((v69.1 == (4 : Int)) = true), ((v69.1 == (4 : Int)) = true), ((v69.1 == (4 : Int)) = true), ((v69.1 == (4 : Int)) = true), ((v69.1 == (4 : Int)) = true)]) rfl (by kernel_rfl) (allP2 h93 (allP2 h93 (allP2 h93 (allP2 h93 (allP2 h93 (allP1 h93)))))) ?_
                  obtain ⟨r94, h95, h⟩ := bind_of h
                  refine WO_frz 41 (by kernel_rfl) ?_
                  refine WO_call0 (us := [none, none]) (d := 42) (p := ((v69.1 == (4 : Int)) = true)) (j := 11) rfl ⟨by kernel_rfl, by kernel_rfl, by kernel_rfl⟩ h93 (ref_Inside_ok h95) (by kernel_rfl) ?_
                  refine WO_run (j := 13) (k := 2) (orcs := [(22, .known true), (25, .val (.dat .bool true))]) (kF := [0, 12, 13, 14, 44]) (kL := [4]) (fr' := [(0, aD (.slice (.pair tI (.pair tI (.pair tI tI)))) a0), (12, aD (.slice (.pair tI (.pair tI (.pair tI tI)))) a0), (13, aI (List.length a0 : Int)), (14, aI i66), (44, aB (!r94))]) (L' := [(4, .one (.pair tI (.pair tI (.pair tI tI))) v69)]) (obs := [((v69.1 == (4 : Int)) = true), ((v69.1 == (4 : Int)) = true)]) rfl (by kernel_rfl) (allP2 h93 (allP1 h93)) ?_
                  obtain rfl := Option.some.inj h
                  refine WO_fin [0, 12, 13, 14, 44] [] (fr' := [(0, aD (.slice (.pair tI (.pair tI (.pair tI tI)))) a0), (12, aD (.slice (.pair tI (.pair tI (.pair tI tI)))) a0), (13, aI (List.length a0 : Int)), (14, aI i66), (44, aB (!r94))]) (L' := []) (by kernel_rfl) (by kernel_rfl) ?_
                  exact exQ_mk (by kernel_rfl) (by kernel_rfl)
                · replace h := ofF h93 h
                  refine WO_run (j := 13) (k := 9) (orcs := [(8, .known false), (10, .known false), (12, .known false), (14, .known false), (16, .known false), (18, .known false), (20, .known false), (22, .known false), (25, .val (.dat .bool false))]) (kF := [0, 12, 13, 14, 44]) (kL := [4]) (fr' := [(0, aD (.slice (.pair tI (.pair tI (.pair tI tI)))) a0), (12, aD (.slice (.pair tI (.pair tI (.pair tI tI)))) a0), (13, aI (List.length a0 : Int)), (14, aI i66), (44, aB false)]) (L' := [(4, .one (.pair tI (.pair tI (.pair tI tI))) v69)]) (obs := [((v69.1 == (4 : Int)) = false), ((v69.1 == (4 : Int)) = false), ((v69.1 == (4 : Int)) = false), ((v69.1 == (4 : Int)) = false), ((v69.1 == (4 : Int)) = false), ((v69.1 == (4 : Int)) = false), ((v69.1 == (4 : Int)) = false), ((v69.1 == (4 : Int)) = false), ((v69.1 == (4 : Int)) = false)]) rfl (by kernel_rfl) (allP2 h93 (allP2 h93 (allP2 h93 (allP2 h93 (allP2 h93 (allP2 h93 (allP2 h93 (allP2 h93 (allP1 h93))))))))) ?_
                  obtain rfl := Option.some.inj h
                  refine WO_fin [0, 12, 13, 14, 44] [] (fr' := [(0, aD (.slice (.pair tI (.pair tI (.pair tI tI)))) a0), (12, aD (.slice (.pair tI (.pair tI (.pair tI tI)))) a0), (13, aI (List.length a0 : Int)), (14, aI i66), (44, aB false)]) (L' := []) (by kernel_rfl) (by kernel_rfl) ?_
                  exact exQ_mk (by kernel_rfl) (by kernel_rfl)
              · intro e fr L hJ
                obtain ⟨rfl, rfl, rfl⟩ := hJ
                refine LT_keep [0, 12, 13, 14, 44] [] (fr' := [(0, aD (.slice (.pair tI (.pair tI (.pair tI tI)))) a0), (12, aD (.slice (.pair tI (.pair tI (.pair tI tI)))) a0), (13, aI (List.length a0 : Int)), (14, aI i66), (44, aB v96)]) (L' := []) (by kernel_rfl) ?_
                refine seqQ_norm ?_
                refine W_cond (o := .tmp 44) (b := v96) (by kernel_rfl) (by kernel_rfl) (fun h98 => ?_) (fun h98 => ?_)
                · replace h := ofT h98 h
                  refine W_seq (by kernel_rfl) ?_
                  refine W_run 1 [] [2] [] (fr' := [(2, aI (2 : Int))]) (L' := []) (obs := []) (by kernel_rfl) (by kernel_rfl) (by kernel_rfl) allP0 ?_
                  refine seqQ_norm ?_
                  obtain rfl := Option.some.inj h
                  refine W_ret [2] [] (fr' := [(2, aI (2 : Int))]) (L' := []) (by kernel_rfl) (by kernel_rfl) ?_
                  refine blockQ_ret ?_
                  refine seqQ_ret ?_
                  refine round_ret ?_
                  refine escQ_ret ?_
                  exact exQ_mk (by kernel_rfl) (by kernel_rfl)
                · replace h := ofF h98 h
                  refine W_skip [0, 12, 13, 14] [] (fr' := [(0, aD (.slice (.pair tI (.pair tI (.pair tI tI)))) a0), (12, aD (.slice (.pair tI (.pair tI (.pair tI tI)))) a0), (13, aI (List.length a0 : Int)), (14, aI i66)]) (L' := []) (by kernel_rfl) (by kernel_rfl) ?_
                  refine blockQ_norm ?_
                  refine seqQ_norm ?_
                  obtain rfl := Option.some.inj h
                  refine W_run 2 [] [0, 12, 13, 14] [] (fr' := [(0, aD (.slice (.pair tI (.pair tI (.pair tI tI)))) a0), (12, aD (.slice (.pair tI (.pair tI (.pair tI tI)))) a0), (13, aI (List.length a0 : Int)), (14, aI (w64 (i66 + (1 : Int))))]) (L' := []) (obs := []) (by kernel_rfl) (by kernel_rfl) (by kernel_rfl) allP0 ?_
                  exact round_next' (by kernel_rfl) (by kernel_rfl)
      · obtain rfl := stepL_false h71 h
        refine W_exit (id := 0) [0] [] (fr' := [(0, aD (.slice (.pair tI (.pair tI (.pair tI tI)))) a0)]) (L' := []) (by kernel_rfl) (by kernel_rfl) ?_
        refine seqQ_exit ?_
        refine round_exit ?_
        refine escQ_brk ?_
        exact exQ_mk (by kernel_rfl) (by kernel_rfl)
    · intro e fr L hJ
      rcases v100 with v105 | v106
      · obtain ⟨rfl, rfl, rfl⟩ := hJ
        obtain rfl := Option.some.inj h
        refine LT_keep [2] [] (fr' := [(2, aI v105)]) (L' := []) (by kernel_rfl) ?_
        refine blockQ_ret ?_
        refine seqQ_ret ?_
        exact retQ_mk (by kernel_rfl) (by kernel_rfl) (by kernel_rfl)
      · obtain ⟨rfl, rfl, rfl⟩ := hJ
        refine LT_keep [0] [] (fr' := [(0, aD (.slice (.pair tI (.pair tI (.pair tI tI)))) a0)]) (L' := []) (by kernel_rfl) ?_
        refine blockQ_hit ?_
        refine seqQ_norm ?_
        refine W_seq (by kernel_rfl) ?_
        obtain ⟨_, h107, h⟩ := bind_of h
        replace h107 := ck_some h107
        refine W_run 4 [] [0, 5] [48] (fr' := [(0, aD (.slice (.pair tI (.pair tI (.pair tI tI)))) a0), (5, .one (.slc 48))]) (L' := [(48, .seq tI (List.replicate (Int.toNat (List.length a0 : Int)) (0 : Int)))]) (obs := [0 ≤ (List.length a0 : Int) ∧ (List.length a0 : Int) = (List.length a0 : Int) ∧ SmallLen (List.length a0 : Int)]) (by kernel_rfl) (by kernel_rfl) (by kernel_rfl) (allP1 h107) ?_
        refine seqQ_norm ?_
        refine W_seq (by kernel_rfl) ?_
        refine W_seq (by kernel_rfl) ?_
        refine W_run 3 [] [0, 5, 49, 50, 51] [48] (fr' := [(0, aD (.slice (.pair tI (.pair tI (.pair tI tI)))) a0), (5, .one (.slc 48)), (49, aD (.slice (.pair tI (.pair tI (.pair tI tI)))) a0), (50, aI (List.length a0 : Int)), (51, aI (0 : Int))]) (L' := [(48, .seq tI (List.replicate (Int.toNat (List.length a0 : Int)) (0 : Int)))]) (obs := []) (by kernel_rfl) (by kernel_rfl) (by kernel_rfl) allP0 ?_
        refine seqQ_norm ?_
        refine W_block (id := 2) (by kernel_rfl) ?_
        obtain ⟨v389, h390, h⟩ := bind_of h
        refine W_len (t := 49) (u := (.pair tI (.pair tI (.pair tI tI)))) (xs := a0) (by kernel_rfl) (fun h393 => ?_)
        obtain ⟨h391, h392⟩ := forL_iter h393 h390
        refine W_weaken [0, 5, 49, 50, 51] [48] (fr' := ((ref_CombCheck_s36 a0) ((0 : Int), List.replicate (Int.toNat (List.length a0 : Int)) (0 : Int))).1) (L' := ((ref_CombCheck_s36 a0) ((0 : Int), List.replicate (Int.toNat (List.length a0 : Int)) (0 : Int))).2) (by kernel_rfl) ?_
        refine W_cutK (W_loop (S := (ref_CombCheck_s36 a0)) (J := (exQ (.exit 2) (ref_CombCheck_s37 a0))) (by kernel_rfl) ?_ h391 _ v389 h392) ?_
        · rintro ⟨i296, x297⟩ s h
          refine W_seq (by kernel_rfl) ?_
          refine W_run 1 [] [0, 5, 49, 50, 51, 52] [48] (fr' := [(0, aD (.slice (.pair tI (.pair tI (.pair tI tI)))) a0), (5, .one (.slc 48)), (49, aD (.slice (.pair tI (.pair tI (.pair tI tI)))) a0), (50, aI (List.length a0 : Int)), (51, aI i296), (52, aB (decide (i296 < (List.length a0 : Int))))]) (L' := [(48, .seq tI x297)]) (obs := []) (by kernel_rfl) (by kernel_rfl) (by kernel_rfl) allP0 ?_
          refine seqQ_norm ?_
          refine W_seq (by kernel_rfl) ?_
          refine W_cond (o := .tmp 52) (b := decide (i296 < (List.length a0 : Int))) (by kernel_rfl) (by kernel_rfl) (fun h301 => ?_) (fun h301 => ?_)
          · replace h := stepL_true h301 h
            obtain ⟨v299, _, h300, h, rfl⟩ := h
            refine W_skip [0, 5, 49, 50, 51] [48] (fr' := [(0, aD (.slice (.pair tI (.pair tI (.pair tI tI)))) a0), (5, .one (.slc 48)), (49, aD (.slice (.pair tI (.pair tI (.pair tI tI)))) a0), (50, aI (List.length a0 : Int)), (51, aI i296)]) (L' := [(48, .seq tI x297)]) (by kernel_rfl) (by kernel_rfl) ?_
            refine seqQ_norm ?_
            refine W_seq (by kernel_rfl) ?_
            obtain ⟨v386, h387, h⟩ := bind_of h
            refine W_cutK (Q' := (exQ .normal (ref_CombCheck_s34 a0 i296)) v386) ?_ ?_
            · replace h := h387
              refine W_block (id := 3) (by kernel_rfl) ?_
              refine W_seq (by kernel_rfl) ?_
              refine W_run 6 [(3, .val (.dat (.pair tI (.pair tI (.pair tI tI))) v299)), (7, .typed)] [0, 5, 6, 7, 49, 50, 51] [48, 7] (fr' := [(0, aD (.slice (.pair tI (.pair tI (.pair tI tI)))) a0), (5, .one (.slc 48)), (6, aI i296), (7, .one (.ptr 7 0)), (49, aD (.slice (.pair tI (.pair tI (.pair tI tI)))) a0), (50, aI (List.length a0 : Int)), (51, aI i296)]) (L' := [(48, .seq tI x297), (7, .one (.pair tI (.pair tI (.pair tI tI))) v299)]) (obs := [Idx a0 i296 v299, True]) (by kernel_rfl) (by kernel_rfl) (by kernel_rfl) (allP2 (Idx.of h300) (allP1 trivial)) ?_
              refine seqQ_norm ?_
              refine W_seq (by kernel_rfl) ?_
              obtain ⟨v358, h359, h⟩ := bind_of h
              refine W_run 4 [] [0, 5, 6, 7, 49, 50, 51] [48, 7] (fr' := [(0, aD (.slice (.pair tI (.pair tI (.pair tI tI)))) a0), (5, .one (.slc 48)), (6, aI i296), (7, .one (.ptr 7 0)), (49, aD (.slice (.pair tI (.pair tI (.pair tI tI)))) a0), (50, aI (List.length a0 : Int)), (51, aI i296)]) (L' := [(48, .seq tI (List.set x297 (Int.toNat i296) (1 : Int))), (7, .one (.pair tI (.pair tI (.pair tI tI))) v299)]) (obs := [InR i296 (List.length x297), InR i296 (List.length x297)]) (by kernel_rfl) (by kernel_rfl) (by kernel_rfl) (allP2 (InR.of h359) (allP1 (InR.of h359))) ?_
              refine seqQ_norm ?_
              refine W_seq (by kernel_rfl) ?_
              obtain ⟨v381, h382, h⟩ := bind_of h
              refine W_cutK (Q' := (exQ .normal (ref_CombCheck_s32 a0 i296)) v381) ?_ ?_
              · replace h := h382
                refine W_seq (by kernel_rfl) ?_
                refine W_run 3 [] [0, 5, 6, 7, 49, 50, 51, 61] [48, 7] (fr' := [(0, aD (.slice (.pair tI (.pair tI (.pair tI tI)))) a0), (5, .one (.slc 48)), (6, aI i296), (7, .one (.ptr 7 0)), (49, aD (.slice (.pair tI (.pair tI (.pair tI tI)))) a0), (50, aI (List.length a0 : Int)), (51, aI i296), (61, aB (v299.1 == (4 : Int)))]) (L' := [(48, .seq tI (List.set x297 (Int.toNat i296) (1 : Int))), (7, .one (.pair tI (.pair tI (.pair tI tI))) v299)]) (obs := []) (by kernel_rfl) (by kernel_rfl) (by kernel_rfl) allP0 ?_
                refine seqQ_norm ?_
                refine W_cond (o := .tmp 61) (b := v299.1 == (4 : Int)) (by kernel_rfl) (by kernel_rfl) (fun h374 => ?_) (fun h374 => ?_)
                · replace h := ofT h374 h
                  obtain ⟨v375, h376, h⟩ := bind_of h
                  obtain ⟨v377, h378, h⟩ := bind_of h
                  obtain ⟨v379, h380, h⟩ := bind_of h
                  obtain rfl := Option.some.inj h
                  refine W_draw2 14 [(13, .val (.dat tI v375)), (25, .val (.dat tI v377))] [] [0, 5, 6, 49, 50, 51] [48] (fr' := [(0, aD (.slice (.pair tI (.pair tI (.pair tI tI)))) a0), (5, .one (.slc 48)), (6, aI i296), (49, aD (.slice (.pair tI (.pair tI (.pair tI tI)))) a0), (50, aI (List.length a0 : Int)), (51, aI i296)]) (L' := [(48, .seq tI (List.set (List.set x297 (Int.toNat i296) (1 : Int)) (Int.toNat i296) (w64 ((w64 ((1 : Int) + v375)) + v377))))]) (out := [(62, .one (.slc 48)), (63, aI i296), (64, .one (.slc 48)), (65, .one (.ptr 7 1)), (66, aI v299.2.1), (67, .one (.eptr 48 1 v299.2.1 0)), (68, aI v375), (69, aI (w64 ((1 : Int) + v375))), (70, .one (.slc 48)), (71, .one (.ptr 7 2)), (72, aI v299.2.2.1), (73, .one (.eptr 48 1 v299.2.2.1 0)), (74, aI v377), (75, aI (w64 ((w64 ((1 : Int) + v375)) + v377)))]) (obs := [InR v299.2.1 (List.length (List.set x297 (Int.toNat i296) (1 : Int))), Idx (List.set x297 (Int.toNat i296) (1 : Int)) v299.2.1 v375, InR v299.2.2.1 (List.length (List.set x297 (Int.toNat i296) (1 : Int))), Idx (List.set x297 (Int.toNat i296) (1 : Int)) v299.2.2.1 v377]) (obs2 := [InR i296 (List.length (List.set x297 (Int.toNat i296) (1 : Int))), InR i296 (List.length (List.set x297 (Int.toNat i296) (1 : Int)))]) (calls := []) (by kernel_rfl) (by kernel_rfl) (by kernel_rfl) (by kernel_rfl) (allP2 (InR.of h376) (allP2 (Idx.of h376) (allP2 (InR.of h378) (allP1 (Idx.of h378))))) allC0 (by kernel_rfl) (allP2 (InR.of h380) (allP1 (InR.of h380))) ?_
                  exact exQ_mk (by kernel_rfl) (by kernel_rfl)
                · replace h := ofF h374 h
                  obtain rfl := Option.some.inj h
                  refine W_skip [0, 5, 6, 49, 50, 51] [48] (fr' := [(0, aD (.slice (.pair tI (.pair tI (.pair tI tI)))) a0), (5, .one (.slc 48)), (6, aI i296), (49, aD (.slice (.pair tI (.pair tI (.pair tI tI)))) a0), (50, aI (List.length a0 : Int)), (51, aI i296)]) (L' := [(48, .seq tI (List.set x297 (Int.toNat i296) (1 : Int)))]) (by kernel_rfl) (by kernel_rfl) ?_
                  exact exQ_mk (by kernel_rfl) (by kernel_rfl)
              · intro e fr L hJ
                obtain ⟨rfl, rfl, rfl⟩ := hJ
                refine LT_keep [0, 5, 6, 49, 50, 51] [48] (fr' := [(0, aD (.slice (.pair tI (.pair tI (.pair tI tI)))) a0), (5, .one (.slc 48)), (6, aI i296), (49, aD (.slice (.pair tI (.pair tI (.pair tI tI)))) a0), (50, aI (List.length a0 : Int)), (51, aI i296)]) (L' := [(48, .seq tI v381)]) (by kernel_rfl) ?_
                refine seqQ_norm ?_
                refine W_seq (by kernel_rfl) ?_
                obtain ⟨v383, h384, h⟩ := bind_of h
                refine W_run 5 [(7, .val (.dat tI v383))] [0, 5, 6, 49, 50, 51, 81] [48] (fr' := [(0, aD (.slice (.pair tI (.pair tI (.pair tI tI)))) a0), (5, .one (.slc 48)), (6, aI i296), (49, aD (.slice (.pair tI (.pair tI (.pair tI tI)))) a0), (50, aI (List.length a0 : Int)), (51, aI i296), (81, aB (decide (v383 > (300 : Int))))]) (L' := [(48, .seq tI v381)]) (obs := [InR i296 (List.length v381), Idx v381 i296 v383]) (by kernel_rfl) (by kernel_rfl) (by kernel_rfl) (allP2 (InR.of h384) (allP1 (Idx.of h384))) ?_
                refine seqQ_norm ?_
                refine W_cond (o := .tmp 81) (b := decide (v383 > (300 : Int))) (by kernel_rfl) (by kernel_rfl) (fun h385 => ?_) (fun h385 => ?_)
                · replace h := ofT h385 h
                  obtain rfl := Option.some.inj h
                  refine W_run 4 [] [0, 5, 49, 50, 51] [48] (fr' := [(0, aD (.slice (.pair tI (.pair tI (.pair tI tI)))) a0), (5, .one (.slc 48)), (49, aD (.slice (.pair tI (.pair tI (.pair tI tI)))) a0), (50, aI (List.length a0 : Int)), (51, aI i296)]) (L' := [(48, .seq tI (List.set v381 (Int.toNat i296) (301 : Int)))]) (obs := [InR i296 (List.length v381), InR i296 (List.length v381)]) (by kernel_rfl) (by kernel_rfl) (by kernel_rfl) (allP2 (InR.of h384) (allP1 (InR.of h384))) ?_
                  refine blockQ_norm ?_
                  exact exQ_mk (by kernel_rfl) (by kernel_rfl)
                · replace h := ofF h385 h
                  obtain rfl := Option.some.inj h
                  refine W_skip [0, 5, 49, 50, 51] [48] (fr' := [(0, aD (.slice (.pair tI (.pair tI (.pair tI tI)))) a0), (5, .one (.slc 48)), (49, aD (.slice (.pair tI (.pair tI (.pair tI tI)))) a0), (50, aI (List.length a0 : Int)), (51, aI i296)]) (L' := [(48, .seq tI v381)]) (by kernel_rfl) (by kernel_rfl) ?_
                  refine blockQ_norm ?_
                  exact exQ_mk (by kernel_rfl) (by kernel_rfl)
            · intro e fr L hJ
              obtain ⟨rfl, rfl, rfl⟩ := hJ
              refine LT_keep [0, 5, 49, 50, 51] [48] (fr' := [(0, aD (.slice (.pair tI (.pair tI (.pair tI tI)))) a0), (5, .one (.slc 48)), (49, aD (.slice (.pair tI (.pair tI (.pair tI tI)))) a0), (50, aI (List.length a0 : Int)), (51, aI i296)]) (L' := [(48, .seq tI v386)]) (by kernel_rfl) ?_
              refine seqQ_norm ?_
              obtain rfl := Option.some.inj h
              refine W_run 2 [] [0, 5, 49, 50, 51] [48] (fr' := [(0, aD (.slice (.pair tI (.pair tI (.pair tI tI)))) a0), (5, .one (.slc 48)), (49, aD (.slice (.pair tI (.pair tI (.pair tI tI)))) a0), (50, aI (List.length a0 : Int)), (51, aI (w64 (i296 + (1 : Int))))]) (L' := [(48, .seq tI v386)]) (obs := []) (by kernel_rfl) (by kernel_rfl) (by kernel_rfl) allP0 ?_
              exact round_next' (by kernel_rfl) (by kernel_rfl)
          · obtain rfl := stepL_false h301 h
            refine W_exit (id := 2) [0, 5] [48] (fr' := [(0, aD (.slice (.pair tI (.pair tI (.pair tI tI)))) a0), (5, .one (.slc 48))]) (L' := [(48, .seq tI x297)]) (by kernel_rfl) (by kernel_rfl) ?_
            refine seqQ_exit ?_
            refine round_exit ?_
            exact exQ_mk (by kernel_rfl) (by kernel_rfl)
        · intro e fr L hJ
          obtain ⟨rfl, rfl, rfl⟩ := hJ
          refine LT_keep [0, 5] [48] (fr' := [(0, aD (.slice (.pair tI (.pair tI (.pair tI tI)))) a0), (5, .one (.slc 48))]) (L' := [(48, .seq tI v389)]) (by kernel_rfl) ?_
          refine blockQ_hit ?_
          refine seqQ_norm ?_
          refine W_seq (by kernel_rfl) ?_
          refine W_seq (by kernel_rfl) ?_
          obtain ⟨v394, h395, h⟩ := bind_of h
          refine W_run 7 [(11, .val (.dat tI v394))] [92] [] (fr' := [(92, aB (decide (v394 > (300 : Int))))]) (L' := []) (obs := [InR (w64 ((List.length a0 : Int) - (1 : Int))) (List.length v389), Idx v389 (w64 ((List.length a0 : Int) - (1 : Int))) v394]) (by kernel_rfl) (by kernel_rfl) (by kernel_rfl) (allP2 (InR.of h395) (allP1 (Idx.of h395))) ?_
          refine seqQ_norm ?_
          refine W_cond (o := .tmp 92) (b := decide (v394 > (300 : Int))) (by kernel_rfl) (by kernel_rfl) (fun h396 => ?_) (fun h396 => ?_)
          · replace h := ofT h396 h
            refine W_seq (by kernel_rfl) ?_
            refine W_run 1 [] [2] [] (fr' := [(2, aI (1 : Int))]) (L' := []) (obs := []) (by kernel_rfl) (by kernel_rfl) (by kernel_rfl) allP0 ?_
            refine seqQ_norm ?_
            obtain rfl := Option.some.inj h
            refine W_ret [2] [] (fr' := [(2, aI (1 : Int))]) (L' := []) (by kernel_rfl) (by kernel_rfl) ?_
            refine seqQ_ret ?_
            exact retQ_mk (by kernel_rfl) (by kernel_rfl) (by kernel_rfl)
          · replace h := ofF h396 h
            refine W_skip [] [] (fr' := []) (L' := []) (by kernel_rfl) (by kernel_rfl) ?_
            refine seqQ_norm ?_
            refine W_seq (by kernel_rfl) ?_
            refine W_run 1 [] [2] [] (fr' := [(2, aI (0 : Int))]) (L' := []) (obs := []) (by kernel_rfl) (by kernel_rfl) (by kernel_rfl) allP0 ?_
            refine seqQ_norm ?_
            obtain rfl := Option.some.inj h
            refine W_ret [2] [] (fr' := [(2, aI (0 : Int))]) (L' := []) (by kernel_rfl) (by kernel_rfl) ?_
            exact retQ_mk (by kernel_rfl) (by kernel_rfl) (by kernel_rfl)

@[reducible] def ref_Read_s1 (v : (Int × (Int × (CT × CT)))) : Fr × LL := ([(6, .one (.ptr 29 0))], [(29, .one (.pair tI (.pair tI (.pair .tree .tree))) v)])
def ref_Read_step (rf_ref_Read : (List (Int × (Int × (Int × Int)))) → Int → Option CT) (fuel : Nat) (a0 : (List (Int × (Int × (Int × Int))))) (a1 : Int) : Option CT :=
(idx a0 a1).bind fun v1 =>
bif v1.1 == (4 : Int) then
((rf_ref_Read a0 v1.2.1).bind fun r4 =>
(rf_ref_Read a0 v1.2.2.1).bind fun r6 =>
some (CT.mk (v1.1, (0 : Int), r4, r6)))
else
((bif v1.1 == (3 : Int) then
(some (v1.1, v1.2.2.2, CT.nil, CT.nil))
else
(some (v1.1, (0 : Int), CT.nil, CT.nil))).bind fun v11 =>
some (CT.mk v11))
def ref_Read : Nat → (List (Int × (Int × (Int × Int)))) → Int → Option CT
  | 0 => fun _ _ => none
  | fuel + 1 => fun a0 a1 => ref_Read_step (ref_Read fuel) fuel a0 a1
theorem ref_Read_step_ok {rf_ref_Read : (List (Int × (Int × (Int × Int)))) → Int → Option CT} (ih_ref_Read : ∀ {a0 : (List (Int × (Int × (Int × Int))))} {a1 : Int} {r : CT}, rf_ref_Read a0 a1 = some r → FnC Try.prog 30 [aD (.slice (.pair tI (.pair tI (.pair tI tI)))) a0, aI a1] [] (aD .tree r) []) {fuel : Nat} {a0 : (List (Int × (Int × (Int × Int))))} {a1 : Int} {r : CT} (h : ref_Read_step rf_ref_Read fuel a0 a1 = some r) : FnC Try.prog 30 [aD (.slice (.pair tI (.pair tI (.pair tI tI)))) a0, aI a1] [] (aD .tree r) [] := by
  refine fnC_of_W (B := bodyOf Try.f30) (n := 39) Try.func30 (by kernel_rfl) (by kernel_rfl) (by kernel_rfl) (by kernel_rfl) (by kernel_rfl) ?_
  intro K
  refine W_seq (by kernel_rfl) ?_
  refine W_run 1 [] [0, 1] [] (fr' := [(0, aD (.slice (.pair tI (.pair tI (.pair tI tI)))) a0), (1, aI a1)]) (L' := []) (obs := []) (by kernel_rfl) (by kernel_rfl) (by kernel_rfl) allP0 ?_
  refine seqQ_norm ?_
  refine W_seq (by kernel_rfl) ?_
  obtain ⟨v1, h2, h⟩ := bind_of h
  refine W_run 6 [(5, .val (.dat (.pair tI (.pair tI (.pair tI tI))) v1)), (9, .typed)] [0, 5] [5] (fr' := [(0, aD (.slice (.pair tI (.pair tI (.pair tI tI)))) a0), (5, .one (.ptr 5 0))]) (L' := [(5, .one (.pair tI (.pair tI (.pair tI tI))) v1)]) (obs := [Idx a0 a1 v1, True]) (by kernel_rfl) (by kernel_rfl) (by kernel_rfl) (allP2 (Idx.of h2) (allP1 trivial)) ?_
  refine seqQ_norm ?_
  refine W_seq (by kernel_rfl) ?_
  refine W_seq (by kernel_rfl) ?_
  refine W_run 3 [] [0, 5, 13] [5] (fr' := [(0, aD (.slice (.pair tI (.pair tI (.pair tI tI)))) a0), (5, .one (.ptr 5 0)), (13, aB (v1.1 == (4 : Int)))]) (L' := [(5, .one (.pair tI (.pair tI (.pair tI tI))) v1)]) (obs := []) (by kernel_rfl) (by kernel_rfl) (by kernel_rfl) allP0 ?_
  refine seqQ_norm ?_
  refine W_cond (o := .tmp 13) (b := v1.1 == (4 : Int)) (by kernel_rfl) (by kernel_rfl) (fun h3 => ?_) (fun h3 => ?_)
  · replace h := ofT h3 h
    refine W_seq (by kernel_rfl) ?_
    obtain ⟨r4, h5, h⟩ := bind_of h
    obtain ⟨r6, h7, h⟩ := bind_of h
    refine W_draw3 10 [] [] [(5, [none, none], aD .tree r4), (9, [none, none], aD .tree r6)] [4] [25] (fr' := [(4, .one (.ptr 25 0))]) (L' := [(25, .one (.pair tI (.pair tI (.pair .tree .tree))) (v1.1, (0 : Int), r4, r6))]) (out := [(14, .one (.ptr 5 0)), (15, aI v1.1), (16, aD (.slice (.pair tI (.pair tI (.pair tI tI)))) a0), (17, .one (.ptr 5 1)), (18, aI v1.2.1), (19, aD .tree r4), (20, aD (.slice (.pair tI (.pair tI (.pair tI tI)))) a0), (21, .one (.ptr 5 2)), (22, aI v1.2.2.1), (23, aD .tree r6)]) (obs := [True, True]) (obs2 := []) (calls := [(30, [aD (.slice (.pair tI (.pair tI (.pair tI tI)))) a0, aI v1.2.1], aD .tree r4), (30, [aD (.slice (.pair tI (.pair tI (.pair tI tI)))) a0, aI v1.2.2.1], aD .tree r6)]) (by kernel_rfl) (by kernel_rfl) (by kernel_rfl) (by kernel_rfl) (allP2 trivial (allP1 trivial)) (allC1 (by kernel_rfl) (ih_ref_Read h5) (by kernel_rfl) (allC1 (by kernel_rfl) (ih_ref_Read h7) (by kernel_rfl) allC0)) (by kernel_rfl) allP0 ?_
    refine seqQ_norm ?_
    obtain rfl := Option.some.inj h
    refine W_fz 25 (by kernel_rfl) ?_
    refine W_cnv 4 .tree (by kernel_rfl) ?_
    refine W_ret [4] [] (fr' := [(4, aD .tree (CT.mk (v1.1, (0 : Int), r4, r6)))]) (L' := []) (by kernel_rfl) (by kernel_rfl) ?_
    refine seqQ_ret ?_
    exact retQ_mk (by kernel_rfl) (by kernel_rfl) (by kernel_rfl)
  · replace h := ofF h3 h
    refine W_skip [5] [5] (fr' := [(5, .one (.ptr 5 0))]) (L' := [(5, .one (.pair tI (.pair tI (.pair tI tI))) v1)]) (by kernel_rfl) (by kernel_rfl) ?_
    refine seqQ_norm ?_
    refine W_seq (by kernel_rfl) ?_
    refine W_run 5 [] [5, 6] [5, 29] (fr' := [(5, .one (.ptr 5 0)), (6, .one (.ptr 29 0))]) (L' := [(5, .one (.pair tI (.pair tI (.pair tI tI))) v1), (29, .one (.pair tI (.pair tI (.pair .tree .tree))) (v1.1, (0 : Int), CT.nil, CT.nil))]) (obs := []) (by kernel_rfl) (by kernel_rfl) (by kernel_rfl) allP0 ?_
    refine seqQ_norm ?_
    refine W_seq (by kernel_rfl) ?_
    obtain ⟨v11, h12, h⟩ := bind_of h
    refine W_cutK (Q' := (exQ .normal ref_Read_s1) v11) ?_ ?_
    · replace h := h12
      refine W_seq (by kernel_rfl) ?_
      refine W_run 3 [] [5, 6, 32] [5, 29] (fr' := [(5, .one (.ptr 5 0)), (6, .one (.ptr 29 0)), (32, aB (v1.1 == (3 : Int)))]) (L' := [(5, .one (.pair tI (.pair tI (.pair tI tI))) v1), (29, .one (.pair tI (.pair tI (.pair .tree .tree))) (v1.1, (0 : Int), CT.nil, CT.nil))]) (obs := []) (by kernel_rfl) (by kernel_rfl) (by kernel_rfl) allP0 ?_
      refine seqQ_norm ?_
      refine W_cond (o := .tmp 32) (b := v1.1 == (3 : Int)) (by kernel_rfl) (by kernel_rfl) (fun h10 => ?_) (fun h10 => ?_)
      · replace h := ofT h10 h
        obtain rfl := Option.some.inj h
        refine W_run 6 [] [6] [29] (fr' := [(6, .one (.ptr 29 0))]) (L' := [(29, .one (.pair tI (.pair tI (.pair .tree .tree))) (v1.1, v1.2.2.2, CT.nil, CT.nil))]) (obs := [True]) (by kernel_rfl) (by kernel_rfl) (by kernel_rfl) (allP1 trivial) ?_
        exact exQ_mk (by kernel_rfl) (by kernel_rfl)
      · replace h := ofF h10 h
        obtain rfl := Option.some.inj h
        refine W_skip [6] [29] (fr' := [(6, .one (.ptr 29 0))]) (L' := [(29, .one (.pair tI (.pair tI (.pair .tree .tree))) (v1.1, (0 : Int), CT.nil, CT.nil))]) (by kernel_rfl) (by kernel_rfl) ?_
        exact exQ_mk (by kernel_rfl) (by kernel_rfl)
    · intro e fr L hJ
      obtain ⟨rfl, rfl, rfl⟩ := hJ
      refine LT_keep [6] [29] (fr' := [(6, .one (.ptr 29 0))]) (L' := [(29, .one (.pair tI (.pair tI (.pair .tree .tree))) v11)]) (by kernel_rfl) ?_
      refine seqQ_norm ?_
      refine W_seq (by kernel_rfl) ?_
      refine W_run 2 [] [4] [29] (fr' := [(4, .one (.ptr 29 0))]) (L' := [(29, .one (.pair tI (.pair tI (.pair .tree .tree))) v11)]) (obs := []) (by kernel_rfl) (by kernel_rfl) (by kernel_rfl) allP0 ?_
      refine seqQ_norm ?_
      obtain rfl := Option.some.inj h
      refine W_fz 29 (by kernel_rfl) ?_
      refine W_cnv 4 .tree (by kernel_rfl) ?_
      refine W_ret [4] [] (fr' := [(4, aD .tree (CT.mk v11))]) (L' := []) (by kernel_rfl) (by kernel_rfl) ?_
      exact retQ_mk (by kernel_rfl) (by kernel_rfl) (by kernel_rfl)
theorem ref_Read_ok : ∀ {fuel : Nat} {a0 : (List (Int × (Int × (Int × Int))))} {a1 : Int} {r : CT}, ref_Read fuel a0 a1 = some r → FnC Try.prog 30 [aD (.slice (.pair tI (.pair tI (.pair tI tI)))) a0, aI a1] [] (aD .tree r) [] := by
  intro fuel
  induction fuel with
  | zero => intros a0 a1 r h; cases h
  | succ fuel ih => intros a0 a1 r h; exact ref_Read_step_ok (fun h => ih h) (show ref_Read_step (ref_Read fuel) fuel a0 a1 = some r from h)

def ref_Put (a0 : CT) (a1 : CT) : Option CT :=
some (CT.mk ((4 : Int), (0 : Int), a0, a1))
theorem ref_Put_ok {a0 : CT} {a1 : CT} {r : CT} (h : ref_Put a0 a1 = some r) : FnC Try.prog 65 [aD .tree a0, aD .tree a1] [] (aD .tree r) [] := by
  refine fnC_of_W (B := bodyOf Try.f65) (n := 9) Try.func65 (by kernel_rfl) (by kernel_rfl) (by kernel_rfl) (by kernel_rfl) (by kernel_rfl) ?_
  intro K
  refine W_seq (by kernel_rfl) ?_
  refine W_run 1 [] [0, 1] [] (fr' := [(0, aD .tree a0), (1, aD .tree a1)]) (L' := []) (obs := []) (by kernel_rfl) (by kernel_rfl) (by kernel_rfl) allP0 ?_
  refine seqQ_norm ?_
  refine W_seq (by kernel_rfl) ?_
  refine W_run 5 [] [4] [8] (fr' := [(4, .one (.ptr 8 0))]) (L' := [(8, .one (.pair tI (.pair tI (.pair .tree .tree))) ((4 : Int), (0 : Int), a0, a1))]) (obs := []) (by kernel_rfl) (by kernel_rfl) (by kernel_rfl) allP0 ?_
  refine seqQ_norm ?_
  obtain rfl := Option.some.inj h
  refine W_fz 8 (by kernel_rfl) ?_
  refine W_cnv 4 .tree (by kernel_rfl) ?_
  refine W_ret [4] [] (fr' := [(4, aD .tree (CT.mk ((4 : Int), (0 : Int), a0, a1)))]) (L' := []) (by kernel_rfl) (by kernel_rfl) ?_
  exact retQ_mk (by kernel_rfl) (by kernel_rfl) (by kernel_rfl)

@[reducible] def ref_part_s1 (a0 : CT) (v : Bool) : Fr × LL := ([(0, aD .tree a0), (66, aB v)], [])
@[reducible] def ref_part_s2 (a0 : CT) (v : Bool) : Fr × LL := ([(0, aD .tree a0), (21, aB v)], [])
def ref_part (a0 : CT) : Option (CT × Bool) :=
((CT.open a0).bind fun p11 =>
bif p11.1 != (4 : Int) then
(some true)
else
((CT.open p11.2.2.1).bind fun p14 =>
some (p14.1 != (4 : Int)))).bind fun v16 =>
bif v16 then
(some (CT.nil, false))
else
((CT.open a0).bind fun p19 =>
(CT.open p19.2.2.1).bind fun p21 =>
(CT.open p21.2.2.1).bind fun p23 =>
bif p23.1 == (2 : Int) then
(some (p21.2.2.2, true))
else
((bif p23.1 == (4 : Int) then
((CT.open p23.2.2.1).bind fun p33 =>
some (p33.1 == (1 : Int)))
else
(some false)).bind fun v35 =>
bif v35 then
((ref_Put p23.2.2.2 p19.2.2.2).bind fun r38 =>
(ref_Put p21.2.2.2 p19.2.2.2).bind fun r40 =>
(ref_Put r38 r40).bind fun r42 =>
some (r42, true))
else
(some (CT.nil, false))))
theorem ref_part_ok {a0 : CT} {r : (CT × Bool)} (h : ref_part a0 = some r) : FnC Try.prog 64 [aD .tree a0] [] (.tup [.dat .tree r.1, .dat .bool r.2]) [] := by
  refine fnC_of_W (B := bodyOf Try.f64) (n := 95) Try.func64 (by kernel_rfl) (by kernel_rfl) (by kernel_rfl) (by kernel_rfl) (by kernel_rfl) ?_
  intro K
  refine W_seq (by kernel_rfl) ?_
  refine W_run 2 [] [0] [] (fr' := [(0, aD .tree a0)]) (L' := []) (obs := []) (by kernel_rfl) (by kernel_rfl) (by kernel_rfl) allP0 ?_
  refine seqQ_norm ?_
  refine W_seq (by kernel_rfl) ?_
  refine W_seq (by kernel_rfl) ?_
  obtain ⟨v16, h17, h⟩ := bind_of h
  refine W_cutK (Q' := (exQ .normal (ref_part_s2 a0)) v16) ?_ ?_
  · replace h := h17
    obtain ⟨p11, h12, h⟩ := bind_of h
    refine W_region (by kernel_rfl) ?_
    refine WO_run (j := 6) (k := 6) (orcs := [(3, .val (.dat (.pair tI (.pair tI (.pair .tree .tree))) p11))]) (kF := [0, 12]) (kL := []) (fr' := [(0, aD .tree a0), (12, aB (p11.1 != (4 : Int)))]) (L' := []) (obs := [CT.open a0 = some p11]) rfl (by kernel_rfl) (allP1 h12) ?_
    rcases Bool.eq_false_or_eq_true (p11.1 != (4 : Int)) with h13 | h13
    · replace h := ofT h13 h
      refine WO_run (j := 15) (k := 9) (orcs := [(12, .known true), (14, .known true), (16, .known true), (18, .known true), (20, .known true), (22, .known true), (24, .known true), (26, .known true), (29, .val (.dat .bool true))]) (kF := [0, 21]) (kL := []) (fr' := [(0, aD .tree a0), (21, aB true)]) (L' := []) (obs := [((p11.1 != (4 : Int)) = true), ((p11.1 != (4 : Int)) = true), ((p11.1 != (4 : Int)) = true), ((p11.1 != (4 : Int)) = true), ((p11.1 != (4 : Int)) = true), ((p11.1 != (4 : Int)) = true), ((p11.1 != (4 : Int)) = true), ((p11.1 != (4 : Int)) = true), ((p11.1 != (4 : Int)) = true)]) rfl (by kernel_rfl) (allP2 h13 (allP2 h13 (allP2 h13 (allP2 h13 (allP2 h13 (allP2 h13 (allP2 h13 (allP2 h13 (allP1 h13))))))))) ?_
      obtain rfl := Option.some.inj h
      refine WO_fin [0, 21] [] (fr' := [(0, aD .tree a0), (21, aB true)]) (L' := []) (by kernel_rfl) (by kernel_rfl) ?_
      exact exQ_mk (by kernel_rfl) (by kernel_rfl)
    · replace h := ofF h13 h
      obtain ⟨p14, h15, h⟩ := bind_of h
      refine WO_run (j := 15) (k := 9) (orcs := [(12, .known false), (14, .known false), (15, .val (.dat (.pair tI (.pair tI (.pair .tree .tree))) p11)), (16, .known false), (18, .known false), (20, .known false), (21, .val (.dat (.pair tI (.pair tI (.pair .tree .tree))) p14)), (22, .known false), (24, .known false), (26, .known false), (29, .val (.dat .bool false))]) (kF := [0, 21]) (kL := []) (fr' := [(0, aD .tree a0), (21, aB (p14.1 != (4 : Int)))]) (L' := []) (obs := [((p11.1 != (4 : Int)) = false), ((p11.1 != (4 : Int)) = false), CT.open a0 = some p11, ((p11.1 != (4 : Int)) = false), ((p11.1 != (4 : Int)) = false), ((p11.1 != (4 : Int)) = false), CT.open p11.2.2.1 = some p14, ((p11.1 != (4 : Int)) = false), ((p11.1 != (4 : Int)) = false), ((p11.1 != (4 : Int)) = false), ((p11.1 != (4 : Int)) = false)]) rfl (by kernel_rfl) (allP2 h13 (allP2 h13 (allP2 h12 (allP2 h13 (allP2 h13 (allP2 h13 (allP2 h15 (allP2 h13 (allP2 h13 (allP2 h13 (allP1 h13))))))))))) ?_
      obtain rfl := Option.some.inj h
      refine WO_fin [0, 21] [] (fr' := [(0, aD .tree a0), (21, aB (p14.1 != (4 : Int)))]) (L' := []) (by kernel_rfl) (by kernel_rfl) ?_
      exact exQ_mk (by kernel_rfl) (by kernel_rfl)
  · intro e fr L hJ
    obtain ⟨rfl, rfl, rfl⟩ := hJ
    refine LT_keep [0, 21] [] (fr' := [(0, aD .tree a0), (21, aB v16)]) (L' := []) (by kernel_rfl) ?_
    refine seqQ_norm ?_
    refine W_cond (o := .tmp 21) (b := v16) (by kernel_rfl) (by kernel_rfl) (fun h18 => ?_) (fun h18 => ?_)
    · replace h := ofT h18 h
      refine W_seq (by kernel_rfl) ?_
      refine W_run 2 [] [2, 3] [] (fr' := [(2, .one (.nilP)), (3, aB false)]) (L' := []) (obs := []) (by kernel_rfl) (by kernel_rfl) (by kernel_rfl) allP0 ?_
      refine seqQ_norm ?_
      obtain rfl := Option.some.inj h
      refine W_cnv 2 .tree (by kernel_rfl) ?_
      refine W_ret [2, 3] [] (fr' := [(2, aD .tree CT.nil), (3, aB false)]) (L' := []) (by kernel_rfl) (by kernel_rfl) ?_
      refine seqQ_ret ?_
      exact retQ_mk (by kernel_rfl) (by kernel_rfl) (by kernel_rfl)
    · replace h := ofF h18 h
      refine W_skip [0] [] (fr' := [(0, aD .tree a0)]) (L' := []) (by kernel_rfl) (by kernel_rfl) ?_
      refine seqQ_norm ?_
      refine W_seq (by kernel_rfl) ?_
      refine W_seq (by kernel_rfl) ?_
      obtain ⟨p19, h20, h⟩ := bind_of h
      obtain ⟨p21, h22, h⟩ := bind_of h
      obtain ⟨p23, h24, h⟩ := bind_of h
      refine W_run 11 [(3, .val (.dat (.pair tI (.pair tI (.pair .tree .tree))) p19)), (9, .val (.dat (.pair tI (.pair tI (.pair .tree .tree))) p21)), (15, .val (.dat (.pair tI (.pair tI (.pair .tree .tree))) p23))] [0, 32] [] (fr' := [(0, aD .tree a0), (32, aB (p23.1 == (2 : Int)))]) (L' := []) (obs := [CT.open a0 = some p19, CT.open p19.2.2.1 = some p21, CT.open p21.2.2.1 = some p23]) (by kernel_rfl) (by kernel_rfl) (by kernel_rfl) (allP2 h20 (allP2 h22 (allP1 h24))) ?_
      refine seqQ_norm ?_
      refine W_cond (o := .tmp 32) (b := p23.1 == (2 : Int)) (by kernel_rfl) (by kernel_rfl) (fun h25 => ?_) (fun h25 => ?_)
      · replace h := ofT h25 h
        refine W_seq (by kernel_rfl) ?_
        refine W_run 9 [(3, .val (.dat (.pair tI (.pair tI (.pair .tree .tree))) p19)), (9, .val (.dat (.pair tI (.pair tI (.pair .tree .tree))) p21))] [2, 3] [] (fr' := [(2, aD .tree p21.2.2.2), (3, aB true)]) (L' := []) (obs := [CT.open a0 = some p19, CT.open p19.2.2.1 = some p21]) (by kernel_rfl) (by kernel_rfl) (by kernel_rfl) (allP2 h20 (allP1 h22)) ?_
        refine seqQ_norm ?_
        obtain rfl := Option.some.inj h
        refine W_ret [2, 3] [] (fr' := [(2, aD .tree p21.2.2.2), (3, aB true)]) (L' := []) (by kernel_rfl) (by kernel_rfl) ?_
        refine seqQ_ret ?_
        exact retQ_mk (by kernel_rfl) (by kernel_rfl) (by kernel_rfl)
      · replace h := ofF h25 h
        refine W_skip [0] [] (fr' := [(0, aD .tree a0)]) (L' := []) (by kernel_rfl) (by kernel_rfl) ?_
        refine seqQ_norm ?_
        refine W_seq (by kernel_rfl) ?_
        refine W_seq (by kernel_rfl) ?_
        obtain ⟨v35, h36, h⟩ := bind_of h
        refine W_cutK (Q' := (exQ .normal (ref_part_s1 a0)) v35) ?_ ?_
        · replace h := h36
          refine W_region (by kernel_rfl) ?_
          refine WO_run (j := 12) (k := 12) (orcs := [(3, .val (.dat (.pair tI (.pair tI (.pair .tree .tree))) p19)), (9, .val (.dat (.pair tI (.pair tI (.pair .tree .tree))) p21)), (15, .val (.dat (.pair tI (.pair tI (.pair .tree .tree))) p23))]) (kF := [0, 51]) (kL := []) (fr' := [(0, aD .tree a0), (51, aB (p23.1 == (4 : Int)))]) (L' := []) (obs := [CT.open a0 = some p19, CT.open p19.2.2.1 = some p21, CT.open p21.2.2.1 = some p23]) rfl (by kernel_rfl) (allP2 h20 (allP2 h22 (allP1 h24))) ?_
          rcases Bool.eq_false_or_eq_true (p23.1 == (4 : Int)) with h32 | h32
          · replace h := ofT h32 h
            obtain ⟨p33, h34, h⟩ := bind_of h
            refine WO_run (j := 27) (k := 15) (orcs := [(24, .known true), (26, .known true), (27, .val (.dat (.pair tI (.pair tI (.pair .tree .tree))) p19)), (28, .known true), (30, .known true), (32, .known true), (33, .val (.dat (.pair tI (.pair tI (.pair .tree .tree))) p21)), (34, .known true), (36, .known true), (38, .known true), (39, .val (.dat (.pair tI (.pair tI (.pair .tree .tree))) p23)), (40, .known true), (42, .known true), (44, .known true), (45, .val (.dat (.pair tI (.pair tI (.pair .tree .tree))) p33)), (46, .known true), (48, .known true), (50, .known true), (53, .val (.dat .bool true))]) (kF := [0, 66]) (kL := []) (fr' := [(0, aD .tree a0), (66, aB (p33.1 == (1 : Int)))]) (L' := []) (obs := [((p23.1 == (4 : Int)) = true), ((p23.1 == (4 : Int)) = true), CT.open a0 = some p19, ((p23.1 == (4 : Int)) = true), ((p23.1 == (4 : Int)) = true), ((p23.1 == (4 : Int)) = true), CT.open p19.2.2.1 = some p21, ((p23.1 == (4 : Int)) = true), ((p23.1 == (4 : Int)) = true), ((p23.1 == (4 : Int)) = true), CT.open p21.2.2.1 = some p23, ((p23.1 == (4 : Int)) = true), ((p23.1 == (4 : Int)) = true), ((p23.1 == (4 : Int)) = true), CT.open p23.2.2.1 = some p33, ((p23.1 == (4 : Int)) = true), ((p23.1 == (4 : Int)) = true), ((p23.1 == (4 : Int)) = true), ((p23.1 == (4 : Int)) = true)]) rfl (by kernel_rfl) (allP2 h32 (allP2 h32 (allP2 h20 (allP2 h32 (allP2 h32 (allP2 h32 (allP2 h22 (allP2 h32 (allP2 h32 (allP2 h32 (allP2 h24 (allP2 h32 (allP2 h32 (allP2 h32 (allP2 h34 (allP2 h32 (allP2 h32 (allP2 h32 (allP1 h32))))))))))))))))))) ?_
            obtain rfl := Option.some.inj h
            refine WO_fin [0, 66] [] (fr' := [(0, aD .tree a0), (66, aB (p33.1 == (1 : Int)))]) (L' := []) (by kernel_rfl) (by kernel_rfl) ?_
            exact exQ_mk (by kernel_rfl) (by kernel_rfl)
          · replace h := ofF h32 h
            refine WO_run (j := 27) (k := 15) (orcs := [(24, .known false), (26, .known false), (28, .known false), (30, .known false), (32, .known false), (34, .known false), (36, .known false), (38, .known false), (40, .known false), (42, .known false), (44, .known false), (46, .known false), (48, .known false), (50, .known false), (53, .val (.dat .bool false))]) (kF := [0, 66]) (kL := []) (fr' := [(0, aD .tree a0), (66, aB false)]) (L' := []) (obs := [((p23.1 == (4 : Int)) = false), ((p23.1 == (4 : Int)) = false), ((p23.1 == (4 : Int)) = false), ((p23.1 == (4 : Int)) = false), ((p23.1 == (4 : Int)) = false), ((p23.1 == (4 : Int)) = false), ((p23.1 == (4 : Int)) = false), ((p23.1 == (4 : Int)) = false), ((p23.1 == (4 : Int)) = false), ((p23.1 == (4 : Int)) = false), ((p23.1 == (4 : Int)) = false), ((p23.1 == (4 : Int)) = false), ((p23.1 == (4 : Int)) = false), ((p23.1 == (4 : Int)) = false), ((p23.1 == (4 : Int)) = false)]) rfl (by kernel_rfl) (allP2 h32 (allP2 h32 (allP2 h32 (allP2 h32 (allP2 h32 (allP2 h32 (allP2 h32 (allP2 h32 (allP2 h32 (allP2 h32 (allP2 h32 (allP2 h32 (allP2 h32 (allP2 h32 (allP1 h32))))))))))))))) ?_
            obtain rfl := Option.some.inj h
            refine WO_fin [0, 66] [] (fr' := [(0, aD .tree a0), (66, aB false)]) (L' := []) (by kernel_rfl) (by kernel_rfl) ?_
            exact exQ_mk (by kernel_rfl) (by kernel_rfl)
        · intro e fr L hJ
          obtain ⟨rfl, rfl, rfl⟩ := hJ
          refine LT_keep [0, 66] [] (fr' := [(0, aD .tree a0), (66, aB v35)]) (L' := []) (by kernel_rfl) ?_
          refine seqQ_norm ?_
          refine W_cond (o := .tmp 66) (b := v35) (by kernel_rfl) (by kernel_rfl) (fun h37 => ?_) (fun h37 => ?_)
          · replace h := ofT h37 h
            refine W_seq (by kernel_rfl) ?_
            refine W_run 11 [(3, .val (.dat (.pair tI (.pair tI (.pair .tree .tree))) p19)), (9, .val (.dat (.pair tI (.pair tI (.pair .tree .tree))) p21)), (15, .val (.dat (.pair tI (.pair tI (.pair .tree .tree))) p23))] [0, 4] [] (fr' := [(0, aD .tree a0), (4, aD .tree p23.2.2.2)]) (L' := []) (obs := [CT.open a0 = some p19, CT.open p19.2.2.1 = some p21, CT.open p21.2.2.1 = some p23]) (by kernel_rfl) (by kernel_rfl) (by kernel_rfl) (allP2 h20 (allP2 h22 (allP1 h24))) ?_
            refine seqQ_norm ?_
            refine W_seq (by kernel_rfl) ?_
            refine W_run 8 [(3, .val (.dat (.pair tI (.pair tI (.pair .tree .tree))) p19)), (9, .val (.dat (.pair tI (.pair tI (.pair .tree .tree))) p21))] [0, 4, 5] [] (fr' := [(0, aD .tree a0), (4, aD .tree p23.2.2.2), (5, aD .tree p21.2.2.2)]) (L' := []) (obs := [CT.open a0 = some p19, CT.open p19.2.2.1 = some p21]) (by kernel_rfl) (by kernel_rfl) (by kernel_rfl) (allP2 h20 (allP1 h22)) ?_
            refine seqQ_norm ?_
            refine W_seq (by kernel_rfl) ?_
            refine W_run 5 [(3, .val (.dat (.pair tI (.pair tI (.pair .tree .tree))) p19))] [4, 5, 6] [] (fr' := [(4, aD .tree p23.2.2.2), (5, aD .tree p21.2.2.2), (6, aD .tree p19.2.2.2)]) (L' := []) (obs := [CT.open a0 = some p19]) (by kernel_rfl) (by kernel_rfl) (by kernel_rfl) (allP1 h20) ?_
            refine seqQ_norm ?_
            refine W_seq (by kernel_rfl) ?_
            refine W_region (by kernel_rfl) ?_
            refine WO_run (j := 2) (k := 2) (orcs := []) (kF := [5, 6, 88, 89]) (kL := []) (fr' := [(5, aD .tree p21.2.2.2), (6, aD .tree p19.2.2.2), (88, aD .tree p23.2.2.2), (89, aD .tree p19.2.2.2)]) (L' := []) (obs := []) rfl (by kernel_rfl) allP0 ?_
            obtain ⟨r38, h39, h⟩ := bind_of h
            refine WO_call0 (us := [none, none]) (d := 90) (p := True) (j := 3) rfl ⟨by kernel_rfl, by kernel_rfl, by kernel_rfl⟩ trivial (ref_Put_ok h39) (by kernel_rfl) ?_
            refine WO_run (j := 5) (k := 2) (orcs := []) (kF := [90, 91, 92]) (kL := []) (fr' := [(90, aD .tree r38), (91, aD .tree p21.2.2.2), (92, aD .tree p19.2.2.2)]) (L' := []) (obs := []) rfl (by kernel_rfl) allP0 ?_
            obtain ⟨r40, h41, h⟩ := bind_of h
            refine WO_call0 (us := [none, none]) (d := 93) (p := True) (j := 6) rfl ⟨by kernel_rfl, by kernel_rfl, by kernel_rfl⟩ trivial (ref_Put_ok h41) (by kernel_rfl) ?_
            obtain ⟨r42, h43, h⟩ := bind_of h
            refine WO_call0 (us := [none, none]) (d := 94) (p := True) (j := 7) rfl ⟨by kernel_rfl, by kernel_rfl, by kernel_rfl⟩ trivial (ref_Put_ok h43) (by kernel_rfl) ?_
            refine WO_run (j := 9) (k := 2) (orcs := []) (kF := [2, 3]) (kL := []) (fr' := [(2, aD .tree r42), (3, aB true)]) (L' := []) (obs := []) rfl (by kernel_rfl) allP0 ?_
            refine WO_fin [2, 3] [] (fr' := [(2, aD .tree r42), (3, aB true)]) (L' := []) (by kernel_rfl) (by kernel_rfl) ?_
            refine seqQ_norm ?_
            obtain rfl := Option.some.inj h
            refine W_ret [2, 3] [] (fr' := [(2, aD .tree r42), (3, aB true)]) (L' := []) (by kernel_rfl) (by kernel_rfl) ?_
            refine seqQ_ret ?_
            exact retQ_mk (by kernel_rfl) (by kernel_rfl) (by kernel_rfl)
          · replace h := ofF h37 h
            refine W_skip [] [] (fr' := []) (L' := []) (by kernel_rfl) (by kernel_rfl) ?_
            refine seqQ_norm ?_
            refine W_seq (by kernel_rfl) ?_
            refine W_run 2 [] [2, 3] [] (fr' := [(2, .one (.nilP)), (3, aB false)]) (L' := []) (obs := []) (by kernel_rfl) (by kernel_rfl) (by kernel_rfl) allP0 ?_
            refine seqQ_norm ?_
            obtain rfl := Option.some.inj h
            refine W_cnv 2 .tree (by kernel_rfl) ?_
            refine W_ret [2, 3] [] (fr' := [(2, aD .tree CT.nil), (3, aB false)]) (L' := []) (by kernel_rfl) (by kernel_rfl) ?_
            exact retQ_mk (by kernel_rfl) (by kernel_rfl) (by kernel_rfl)

def ref_Stepped_step (rf_ref_Stepped : CT → Option (CT × Bool)) (fuel : Nat) (a0 : CT) : Option (CT × Bool) :=
(ref_part a0).bind fun r1 =>
bif r1.2 then
(some (r1.1, true))
else
((CT.open a0).bind fun p4 =>
bif p4.1 != (4 : Int) then
(some (CT.nil, false))
else
((rf_ref_Stepped p4.2.2.1).bind fun r7 =>
bif r7.2 then
((ref_Put r7.1 p4.2.2.2).bind fun r10 =>
some (r10, true))
else
((rf_ref_Stepped p4.2.2.2).bind fun r12 =>
bif r12.2 then
((ref_Put p4.2.2.1 r12.1).bind fun r15 =>
some (r15, true))
else
(some (CT.nil, false)))))
def ref_Stepped : Nat → CT → Option (CT × Bool)
  | 0 => fun _ => none
  | fuel + 1 => fun a0 => ref_Stepped_step (ref_Stepped fuel) fuel a0
theorem ref_Stepped_step_ok {rf_ref_Stepped : CT → Option (CT × Bool)} (ih_ref_Stepped : ∀ {a0 : CT} {r : (CT × Bool)}, rf_ref_Stepped a0 = some r → FnC Try.prog 29 [aD .tree a0] [] (.tup [.dat .tree r.1, .dat .bool r.2]) []) {fuel : Nat} {a0 : CT} {r : (CT × Bool)} (h : ref_Stepped_step rf_ref_Stepped fuel a0 = some r) : FnC Try.prog 29 [aD .tree a0] [] (.tup [.dat .tree r.1, .dat .bool r.2]) [] := by
  refine fnC_of_W (B := bodyOf Try.f29) (n := 50) Try.func29 (by kernel_rfl) (by kernel_rfl) (by kernel_rfl) (by kernel_rfl) (by kernel_rfl) ?_
  intro K
  refine W_seq (by kernel_rfl) ?_
  refine W_run 2 [] [0] [] (fr' := [(0, aD .tree a0)]) (L' := []) (obs := []) (by kernel_rfl) (by kernel_rfl) (by kernel_rfl) allP0 ?_
  refine seqQ_norm ?_
  refine W_seq (by kernel_rfl) ?_
  refine W_region (by kernel_rfl) ?_
  refine WO_run (j := 1) (k := 1) (orcs := []) (kF := [0, 9]) (kL := []) (fr' := [(0, aD .tree a0), (9, aD .tree a0)]) (L' := []) (obs := []) rfl (by kernel_rfl) allP0 ?_
  obtain ⟨r1, h2, h⟩ := bind_of h
  refine WO_call0 (us := [none]) (d := 10) (p := True) (j := 2) rfl ⟨by kernel_rfl, by kernel_rfl, by kernel_rfl⟩ trivial (ref_part_ok h2) (by kernel_rfl) ?_
  refine WO_run (j := 7) (k := 5) (orcs := []) (kF := [0, 4, 5]) (kL := []) (fr' := [(0, aD .tree a0), (4, aD .tree r1.1), (5, aB r1.2)]) (L' := []) (obs := []) rfl (by kernel_rfl) allP0 ?_
  refine WO_fin [0, 4, 5] [] (fr' := [(0, aD .tree a0), (4, aD .tree r1.1), (5, aB r1.2)]) (L' := []) (by kernel_rfl) (by kernel_rfl) ?_
  refine seqQ_norm ?_
  refine W_seq (by kernel_rfl) ?_
  refine W_seq (by kernel_rfl) ?_
  refine W_run 1 [] [0, 4, 13] [] (fr' := [(0, aD .tree a0), (4, aD .tree r1.1), (13, aB r1.2)]) (L' := []) (obs := []) (by kernel_rfl) (by kernel_rfl) (by kernel_rfl) allP0 ?_
  refine seqQ_norm ?_
  refine W_cond (o := .tmp 13) (b := r1.2) (by kernel_rfl) (by kernel_rfl) (fun h3 => ?_) (fun h3 => ?_)
  · replace h := ofT h3 h
    refine W_seq (by kernel_rfl) ?_
    refine W_run 3 [] [2, 3] [] (fr' := [(2, aD .tree r1.1), (3, aB true)]) (L' := []) (obs := []) (by kernel_rfl) (by kernel_rfl) (by kernel_rfl) allP0 ?_
    refine seqQ_norm ?_
    obtain rfl := Option.some.inj h
    refine W_ret [2, 3] [] (fr' := [(2, aD .tree r1.1), (3, aB true)]) (L' := []) (by kernel_rfl) (by kernel_rfl) ?_
    refine seqQ_ret ?_
    exact retQ_mk (by kernel_rfl) (by kernel_rfl) (by kernel_rfl)
  · replace h := ofF h3 h
    refine W_skip [0] [] (fr' := [(0, aD .tree a0)]) (L' := []) (by kernel_rfl) (by kernel_rfl) ?_
    refine seqQ_norm ?_
    refine W_seq (by kernel_rfl) ?_
    refine W_seq (by kernel_rfl) ?_
    obtain ⟨p4, h5, h⟩ := bind_of h
    refine W_run 5 [(3, .val (.dat (.pair tI (.pair tI (.pair .tree .tree))) p4))] [0, 19] [] (fr' := [(0, aD .tree a0), (19, aB (p4.1 != (4 : Int)))]) (L' := []) (obs := [CT.open a0 = some p4]) (by kernel_rfl) (by kernel_rfl) (by kernel_rfl) (allP1 h5) ?_
    refine seqQ_norm ?_
    refine W_cond (o := .tmp 19) (b := p4.1 != (4 : Int)) (by kernel_rfl) (by kernel_rfl) (fun h6 => ?_) (fun h6 => ?_)
    · replace h := ofT h6 h
      refine W_seq (by kernel_rfl) ?_
      refine W_run 2 [] [2, 3] [] (fr' := [(2, .one (.nilP)), (3, aB false)]) (L' := []) (obs := []) (by kernel_rfl) (by kernel_rfl) (by kernel_rfl) allP0 ?_
      refine seqQ_norm ?_
      obtain rfl := Option.some.inj h
      refine W_cnv 2 .tree (by kernel_rfl) ?_
      refine W_ret [2, 3] [] (fr' := [(2, aD .tree CT.nil), (3, aB false)]) (L' := []) (by kernel_rfl) (by kernel_rfl) ?_
      refine seqQ_ret ?_
      exact retQ_mk (by kernel_rfl) (by kernel_rfl) (by kernel_rfl)
    · replace h := ofF h6 h
      refine W_skip [0] [] (fr' := [(0, aD .tree a0)]) (L' := []) (by kernel_rfl) (by kernel_rfl) ?_
      refine seqQ_norm ?_
      refine W_seq (by kernel_rfl) ?_
      refine W_region (by kernel_rfl) ?_
      refine WO_run (j := 4) (k := 4) (orcs := [(3, .val (.dat (.pair tI (.pair tI (.pair .tree .tree))) p4))]) (kF := [0, 24]) (kL := []) (fr' := [(0, aD .tree a0), (24, aD .tree p4.2.2.1)]) (L' := []) (obs := [CT.open a0 = some p4]) rfl (by kernel_rfl) (allP1 h5) ?_
      obtain ⟨r7, h8, h⟩ := bind_of h
      refine WO_call0 (us := [none]) (d := 25) (p := True) (j := 5) rfl ⟨by kernel_rfl, by kernel_rfl, by kernel_rfl⟩ trivial (ih_ref_Stepped h8) (by kernel_rfl) ?_
      refine WO_run (j := 10) (k := 5) (orcs := []) (kF := [0, 5, 6]) (kL := []) (fr' := [(0, aD .tree a0), (5, aB r7.2), (6, aD .tree r7.1)]) (L' := []) (obs := []) rfl (by kernel_rfl) allP0 ?_
      refine WO_fin [0, 5, 6] [] (fr' := [(0, aD .tree a0), (5, aB r7.2), (6, aD .tree r7.1)]) (L' := []) (by kernel_rfl) (by kernel_rfl) ?_
      refine seqQ_norm ?_
      refine W_seq (by kernel_rfl) ?_
      refine W_seq (by kernel_rfl) ?_
      refine W_run 1 [] [0, 6, 28] [] (fr' := [(0, aD .tree a0), (6, aD .tree r7.1), (28, aB r7.2)]) (L' := []) (obs := []) (by kernel_rfl) (by kernel_rfl) (by kernel_rfl) allP0 ?_
      refine seqQ_norm ?_
      refine W_cond (o := .tmp 28) (b := r7.2) (by kernel_rfl) (by kernel_rfl) (fun h9 => ?_) (fun h9 => ?_)
      · replace h := ofT h9 h
        refine W_seq (by kernel_rfl) ?_
        refine W_region (by kernel_rfl) ?_
        refine WO_run (j := 5) (k := 5) (orcs := [(5, .val (.dat (.pair tI (.pair tI (.pair .tree .tree))) p4))]) (kF := [29, 33]) (kL := []) (fr' := [(29, aD .tree r7.1), (33, aD .tree p4.2.2.2)]) (L' := []) (obs := [CT.open a0 = some p4]) rfl (by kernel_rfl) (allP1 h5) ?_
        obtain ⟨r10, h11, h⟩ := bind_of h
        refine WO_call0 (us := [none, none]) (d := 34) (p := True) (j := 6) rfl ⟨by kernel_rfl, by kernel_rfl, by kernel_rfl⟩ trivial (ref_Put_ok h11) (by kernel_rfl) ?_
        refine WO_run (j := 8) (k := 2) (orcs := []) (kF := [2, 3]) (kL := []) (fr' := [(2, aD .tree r10), (3, aB true)]) (L' := []) (obs := []) rfl (by kernel_rfl) allP0 ?_
        refine WO_fin [2, 3] [] (fr' := [(2, aD .tree r10), (3, aB true)]) (L' := []) (by kernel_rfl) (by kernel_rfl) ?_
        refine seqQ_norm ?_
        obtain rfl := Option.some.inj h
        refine W_ret [2, 3] [] (fr' := [(2, aD .tree r10), (3, aB true)]) (L' := []) (by kernel_rfl) (by kernel_rfl) ?_
        refine seqQ_ret ?_
        exact retQ_mk (by kernel_rfl) (by kernel_rfl) (by kernel_rfl)
      · replace h := ofF h9 h
        refine W_skip [0] [] (fr' := [(0, aD .tree a0)]) (L' := []) (by kernel_rfl) (by kernel_rfl) ?_
        refine seqQ_norm ?_
        refine W_seq (by kernel_rfl) ?_
        refine W_region (by kernel_rfl) ?_
        refine WO_run (j := 4) (k := 4) (orcs := [(3, .val (.dat (.pair tI (.pair tI (.pair .tree .tree))) p4))]) (kF := [0, 39]) (kL := []) (fr' := [(0, aD .tree a0), (39, aD .tree p4.2.2.2)]) (L' := []) (obs := [CT.open a0 = some p4]) rfl (by kernel_rfl) (allP1 h5) ?_
        obtain ⟨r12, h13, h⟩ := bind_of h
        refine WO_call0 (us := [none]) (d := 40) (p := True) (j := 5) rfl ⟨by kernel_rfl, by kernel_rfl, by kernel_rfl⟩ trivial (ih_ref_Stepped h13) (by kernel_rfl) ?_
        refine WO_run (j := 10) (k := 5) (orcs := []) (kF := [0, 5, 7]) (kL := []) (fr' := [(0, aD .tree a0), (5, aB r12.2), (7, aD .tree r12.1)]) (L' := []) (obs := []) rfl (by kernel_rfl) allP0 ?_
        refine WO_fin [0, 5, 7] [] (fr' := [(0, aD .tree a0), (5, aB r12.2), (7, aD .tree r12.1)]) (L' := []) (by kernel_rfl) (by kernel_rfl) ?_
        refine seqQ_norm ?_
        refine W_seq (by kernel_rfl) ?_
        refine W_seq (by kernel_rfl) ?_
        refine W_run 1 [] [0, 7, 43] [] (fr' := [(0, aD .tree a0), (7, aD .tree r12.1), (43, aB r12.2)]) (L' := []) (obs := []) (by kernel_rfl) (by kernel_rfl) (by kernel_rfl) allP0 ?_
        refine seqQ_norm ?_
        refine W_cond (o := .tmp 43) (b := r12.2) (by kernel_rfl) (by kernel_rfl) (fun h14 => ?_) (fun h14 => ?_)
        · replace h := ofT h14 h
          refine W_seq (by kernel_rfl) ?_
          refine W_region (by kernel_rfl) ?_
          refine WO_run (j := 5) (k := 5) (orcs := [(3, .val (.dat (.pair tI (.pair tI (.pair .tree .tree))) p4))]) (kF := [47, 48]) (kL := []) (fr' := [(47, aD .tree p4.2.2.1), (48, aD .tree r12.1)]) (L' := []) (obs := [CT.open a0 = some p4]) rfl (by kernel_rfl) (allP1 h5) ?_
          obtain ⟨r15, h16, h⟩ := bind_of h
          refine WO_call0 (us := [none, none]) (d := 49) (p := True) (j := 6) rfl ⟨by kernel_rfl, by kernel_rfl, by kernel_rfl⟩ trivial (ref_Put_ok h16) (by kernel_rfl) ?_
          refine WO_run (j := 8) (k := 2) (orcs := []) (kF := [2, 3]) (kL := []) (fr' := [(2, aD .tree r15), (3, aB true)]) (L' := []) (obs := []) rfl (by kernel_rfl) allP0 ?_
          refine WO_fin [2, 3] [] (fr' := [(2, aD .tree r15), (3, aB true)]) (L' := []) (by kernel_rfl) (by kernel_rfl) ?_
          refine seqQ_norm ?_
          obtain rfl := Option.some.inj h
          refine W_ret [2, 3] [] (fr' := [(2, aD .tree r15), (3, aB true)]) (L' := []) (by kernel_rfl) (by kernel_rfl) ?_
          refine seqQ_ret ?_
          exact retQ_mk (by kernel_rfl) (by kernel_rfl) (by kernel_rfl)
        · replace h := ofF h14 h
          refine W_skip [] [] (fr' := []) (L' := []) (by kernel_rfl) (by kernel_rfl) ?_
          refine seqQ_norm ?_
          refine W_seq (by kernel_rfl) ?_
          refine W_run 2 [] [2, 3] [] (fr' := [(2, .one (.nilP)), (3, aB false)]) (L' := []) (obs := []) (by kernel_rfl) (by kernel_rfl) (by kernel_rfl) allP0 ?_
          refine seqQ_norm ?_
          obtain rfl := Option.some.inj h
          refine W_cnv 2 .tree (by kernel_rfl) ?_
          refine W_ret [2, 3] [] (fr' := [(2, aD .tree CT.nil), (3, aB false)]) (L' := []) (by kernel_rfl) (by kernel_rfl) ?_
          exact retQ_mk (by kernel_rfl) (by kernel_rfl) (by kernel_rfl)
theorem ref_Stepped_ok : ∀ {fuel : Nat} {a0 : CT} {r : (CT × Bool)}, ref_Stepped fuel a0 = some r → FnC Try.prog 29 [aD .tree a0] [] (.tup [.dat .tree r.1, .dat .bool r.2]) [] := by
  intro fuel
  induction fuel with
  | zero => intros a0 r h; cases h
  | succ fuel ih => intros a0 r h; exact ref_Stepped_step_ok (fun h => ih h) (show ref_Stepped_step (ref_Stepped fuel) fuel a0 = some r from h)

def ref_Nodes_step (rf_ref_Nodes : CT → Option Int) (fuel : Nat) (a0 : CT) : Option Int :=
(CT.open a0).bind fun p1 =>
bif p1.1 != (4 : Int) then
(some (1 : Int))
else
((rf_ref_Nodes p1.2.2.1).bind fun r4 =>
(rf_ref_Nodes p1.2.2.2).bind fun r6 =>
some (w64 ((w64 ((1 : Int) + r4)) + r6)))
def ref_Nodes : Nat → CT → Option Int
  | 0 => fun _ => none
  | fuel + 1 => fun a0 => ref_Nodes_step (ref_Nodes fuel) fuel a0
theorem ref_Nodes_step_ok {rf_ref_Nodes : CT → Option Int} (ih_ref_Nodes : ∀ {a0 : CT} {r : Int}, rf_ref_Nodes a0 = some r → FnC Try.prog 31 [aD .tree a0] [] (aI r) []) {fuel : Nat} {a0 : CT} {r : Int} (h : ref_Nodes_step rf_ref_Nodes fuel a0 = some r) : FnC Try.prog 31 [aD .tree a0] [] (aI r) [] := by
  refine fnC_of_W (B := bodyOf Try.f31) (n := 20) Try.func31 (by kernel_rfl) (by kernel_rfl) (by kernel_rfl) (by kernel_rfl) (by kernel_rfl) ?_
  intro K
  refine W_seq (by kernel_rfl) ?_
  refine W_run 1 [] [0] [] (fr' := [(0, aD .tree a0)]) (L' := []) (obs := []) (by kernel_rfl) (by kernel_rfl) (by kernel_rfl) allP0 ?_
  refine seqQ_norm ?_
  refine W_seq (by kernel_rfl) ?_
  refine W_seq (by kernel_rfl) ?_
  obtain ⟨p1, h2, h⟩ := bind_of h
  refine W_run 5 [(3, .val (.dat (.pair tI (.pair tI (.pair .tree .tree))) p1))] [0, 7] [] (fr' := [(0, aD .tree a0), (7, aB (p1.1 != (4 : Int)))]) (L' := []) (obs := [CT.open a0 = some p1]) (by kernel_rfl) (by kernel_rfl) (by kernel_rfl) (allP1 h2) ?_
  refine seqQ_norm ?_
  refine W_cond (o := .tmp 7) (b := p1.1 != (4 : Int)) (by kernel_rfl) (by kernel_rfl) (fun h3 => ?_) (fun h3 => ?_)
  · replace h := ofT h3 h
    refine W_seq (by kernel_rfl) ?_
    refine W_run 1 [] [2] [] (fr' := [(2, aI (1 : Int))]) (L' := []) (obs := []) (by kernel_rfl) (by kernel_rfl) (by kernel_rfl) allP0 ?_
    refine seqQ_norm ?_
    obtain rfl := Option.some.inj h
    refine W_ret [2] [] (fr' := [(2, aI (1 : Int))]) (L' := []) (by kernel_rfl) (by kernel_rfl) ?_
    refine seqQ_ret ?_
    exact retQ_mk (by kernel_rfl) (by kernel_rfl) (by kernel_rfl)
  · replace h := ofF h3 h
    refine W_skip [0] [] (fr' := [(0, aD .tree a0)]) (L' := []) (by kernel_rfl) (by kernel_rfl) ?_
    refine seqQ_norm ?_
    refine W_seq (by kernel_rfl) ?_
    obtain ⟨r4, h5, h⟩ := bind_of h
    obtain ⟨r6, h7, h⟩ := bind_of h
    refine W_draw2 12 [(3, .val (.dat (.pair tI (.pair tI (.pair .tree .tree))) p1)), (15, .val (.dat (.pair tI (.pair tI (.pair .tree .tree))) p1))] [(4, [none], aI r4), (10, [none], aI r6)] [2] [] (fr' := [(2, aI (w64 ((w64 ((1 : Int) + r4)) + r6)))]) (L' := []) (out := [(8, aD .tree a0), (9, .one (.dptr (.pair tI (.pair tI (.pair .tree .tree))) p1)), (10, .one (.dptr .tree p1.2.2.1)), (11, aD .tree p1.2.2.1), (12, aI r4), (13, aI (w64 ((1 : Int) + r4))), (14, aD .tree a0), (15, .one (.dptr (.pair tI (.pair tI (.pair .tree .tree))) p1)), (16, .one (.dptr .tree p1.2.2.2)), (17, aD .tree p1.2.2.2), (18, aI r6), (19, aI (w64 ((w64 ((1 : Int) + r4)) + r6)))]) (obs := [CT.open a0 = some p1, True, CT.open a0 = some p1, True]) (obs2 := []) (calls := [(31, [aD .tree p1.2.2.1], aI r4), (31, [aD .tree p1.2.2.2], aI r6)]) (by kernel_rfl) (by kernel_rfl) (by kernel_rfl) (by kernel_rfl) (allP2 h2 (allP2 trivial (allP2 h2 (allP1 trivial)))) (allC1 (by kernel_rfl) (ih_ref_Nodes h5) (by kernel_rfl) (allC1 (by kernel_rfl) (ih_ref_Nodes h7) (by kernel_rfl) allC0)) (by kernel_rfl) allP0 ?_
    refine seqQ_norm ?_
    obtain rfl := Option.some.inj h
    refine W_ret [2] [] (fr' := [(2, aI (w64 ((w64 ((1 : Int) + r4)) + r6)))]) (L' := []) (by kernel_rfl) (by kernel_rfl) ?_
    exact retQ_mk (by kernel_rfl) (by kernel_rfl) (by kernel_rfl)
theorem ref_Nodes_ok : ∀ {fuel : Nat} {a0 : CT} {r : Int}, ref_Nodes fuel a0 = some r → FnC Try.prog 31 [aD .tree a0] [] (aI r) [] := by
  intro fuel
  induction fuel with
  | zero => intros a0 r h; cases h
  | succ fuel ih => intros a0 r h; exact ref_Nodes_step_ok (fun h => ih h) (show ref_Nodes_step (ref_Nodes fuel) fuel a0 = some r from h)

def ref_Write_step (rf_ref_Write : CT → (List (Int × (Int × (Int × Int)))) → Option (List (Int × (Int × (Int × Int))))) (fuel : Nat) (a0 : CT) (a1 : (List (Int × (Int × (Int × Int))))) : Option (List (Int × (Int × (Int × Int)))) :=
(CT.open a0).bind fun p1 =>
bif p1.1 != (4 : Int) then
((ck ((0 : Int) + (List.length a1 : Int) ≤ 4294967296)).bind fun _ =>
(ck ((List.length ([] ++ a1) : Int) + 1 ≤ 4294967296)).bind fun _ =>
some (([] ++ a1) ++ [(p1.1, (0 : Int), (0 : Int), p1.2.1)]))
else
((rf_ref_Write p1.2.2.1 a1).bind fun r6 =>
(rf_ref_Write p1.2.2.2 r6).bind fun r8 =>
(ck ((0 : Int) + (List.length r8 : Int) ≤ 4294967296)).bind fun _ =>
(ck ((List.length ([] ++ r8) : Int) + 1 ≤ 4294967296)).bind fun _ =>
some (([] ++ r8) ++ [((4 : Int), w64 ((List.length r6 : Int) - (1 : Int)), w64 ((List.length r8 : Int) - (1 : Int)), (0 : Int))]))
def ref_Write : Nat → CT → (List (Int × (Int × (Int × Int)))) → Option (List (Int × (Int × (Int × Int))))
  | 0 => fun _ _ => none
  | fuel + 1 => fun a0 a1 => ref_Write_step (ref_Write fuel) fuel a0 a1
theorem ref_Write_step_ok {rf_ref_Write : CT → (List (Int × (Int × (Int × Int)))) → Option (List (Int × (Int × (Int × Int))))} (ih_ref_Write : ∀ {a0 : CT} {a1 : (List (Int × (Int × (Int × Int))))} {r : (List (Int × (Int × (Int × Int))))}, rf_ref_Write a0 a1 = some r → FnC Try.prog 33 [aD .tree a0, aD (.slice (.pair tI (.pair tI (.pair tI tI)))) a1] [] (aD (.slice (.pair tI (.pair tI (.pair tI tI)))) r) []) {fuel : Nat} {a0 : CT} {a1 : (List (Int × (Int × (Int × Int))))} {r : (List (Int × (Int × (Int × Int))))} (h : ref_Write_step rf_ref_Write fuel a0 a1 = some r) : FnC Try.prog 33 [aD .tree a0, aD (.slice (.pair tI (.pair tI (.pair tI tI)))) a1] [] (aD (.slice (.pair tI (.pair tI (.pair tI tI)))) r) [] := by
  refine fnC_of_W (B := bodyOf Try.f33) (n := 50) Try.func33 (by kernel_rfl) (by kernel_rfl) (by kernel_rfl) (by kernel_rfl) (by kernel_rfl) ?_
  intro K
  refine W_seq (by kernel_rfl) ?_
  refine W_run 1 [] [0, 1] [] (fr' := [(0, aD .tree a0), (1, aD (.slice (.pair tI (.pair tI (.pair tI tI)))) a1)]) (L' := []) (obs := []) (by kernel_rfl) (by kernel_rfl) (by kernel_rfl) allP0 ?_
  refine seqQ_norm ?_
  refine W_seq (by kernel_rfl) ?_
  refine W_seq (by kernel_rfl) ?_
  obtain ⟨p1, h2, h⟩ := bind_of h
  refine W_run 5 [(3, .val (.dat (.pair tI (.pair tI (.pair .tree .tree))) p1))] [0, 1, 10] [] (fr' := [(0, aD .tree a0), (1, aD (.slice (.pair tI (.pair tI (.pair tI tI)))) a1), (10, aB (p1.1 != (4 : Int)))]) (L' := []) (obs := [CT.open a0 = some p1]) (by kernel_rfl) (by kernel_rfl) (by kernel_rfl) (allP1 h2) ?_
  refine seqQ_norm ?_
  refine W_cond (o := .tmp 10) (b := p1.1 != (4 : Int)) (by kernel_rfl) (by kernel_rfl) (fun h3 => ?_) (fun h3 => ?_)
  · replace h := ofT h3 h
    refine W_seq (by kernel_rfl) ?_
    obtain ⟨_, h4, h⟩ := bind_of h
    replace h4 := ck_some h4
    refine W_drawC5 13 [(0, [11], [(11, .seq (.pair tI (.pair tI (.pair tI tI))) [])]), (2, [11], [(11, .seq (.pair tI (.pair tI (.pair tI tI))) ([] ++ a1))])] [] [(0, .one (.slc 11)), (2, .one (.slc 11))] [(9, .val (.dat (.pair tI (.pair tI (.pair .tree .tree))) p1)), (17, .val (.dat (.pair tI (.pair tI (.pair .tree .tree))) p1))] [] [13, 23] [11] (out := [(11, .one (.slc 11)), (12, aD (.slice (.pair tI (.pair tI (.pair tI tI)))) a1), (13, .one (.slc 11)), (14, aD .tree a0), (15, .one (.dptr (.pair tI (.pair tI (.pair .tree .tree))) p1)), (16, .one (.dptr tI p1.1)), (17, aI p1.1), (18, aD .tree a0), (19, .one (.dptr (.pair tI (.pair tI (.pair .tree .tree))) p1)), (20, .one (.dptr tI p1.2.1)), (21, aI p1.2.1), (22, aD (.pair tI (.pair tI (.pair tI tI))) (p1.1, (0 : Int), (0 : Int), p1.2.1)), (23, aD (.slice (.pair tI (.pair tI (.pair tI tI)))) [(p1.1, (0 : Int), (0 : Int), p1.2.1)])]) (obs := [CT.open a0 = some p1, CT.open a0 = some p1, True]) (calls := []) (fr' := [(13, .one (.slc 11)), (23, aD (.slice (.pair tI (.pair tI (.pair tI tI)))) [(p1.1, (0 : Int), (0 : Int), p1.2.1)])]) (L' := [(11, .seq (.pair tI (.pair tI (.pair tI tI))) ([] ++ a1))]) (by kernel_rfl) (by kernel_rfl) (by kernel_rfl) (by kernel_rfl) (by kernel_rfl) (allP2 h2 (allP2 h2 (allP1 trivial))) allD0 (chDo (ty := false) (d := 11) (nm := 11) (ob := .seq (.pair tI (.pair tI (.pair tI tI))) []) (av := .one (.slc 11)) (p := True) (by kernel_rfl) trivial (by kernel_rfl) (chDo (ty := false) (d := 13) (nm := 11) (ob := .seq (.pair tI (.pair tI (.pair tI tI))) ([] ++ a1)) (av := .one (.slc 11)) (p := SmallLen (List.length ([] : (List (Int × (Int × (Int × Int))))) + List.length a1)) (by kernel_rfl) h4 (by kernel_rfl) chNil)) mkNil (by kernel_rfl) ?_
    obtain ⟨_, h5, h⟩ := bind_of h
    replace h5 := ck_some h5
    refine WO_run (j := 15) (k := 2) (orcs := []) (kF := [4]) (kL := [11]) (fr' := [(4, .one (.slc 11))]) (L' := [(11, .seq (.pair tI (.pair tI (.pair tI tI))) (([] ++ a1) ++ [(p1.1, (0 : Int), (0 : Int), p1.2.1)]))]) (obs := [SmallLen (List.length ([] ++ a1) + List.length [(p1.1, (0 : Int), (0 : Int), p1.2.1)])]) rfl (by kernel_rfl) (allP1 h5) ?_
    refine WO_fin [4] [11] (fr' := [(4, .one (.slc 11))]) (L' := [(11, .seq (.pair tI (.pair tI (.pair tI tI))) (([] ++ a1) ++ [(p1.1, (0 : Int), (0 : Int), p1.2.1)]))]) (by kernel_rfl) (by kernel_rfl) ?_
    refine ⟨rfl, ?_⟩
    refine seqQ_norm ?_
    obtain rfl := Option.some.inj h
    refine W_frz 11 (by kernel_rfl) ?_
    refine W_ret [4] [] (fr' := [(4, aD (.slice (.pair tI (.pair tI (.pair tI tI)))) (([] ++ a1) ++ [(p1.1, (0 : Int), (0 : Int), p1.2.1)]))]) (L' := []) (by kernel_rfl) (by kernel_rfl) ?_
    refine seqQ_ret ?_
    exact retQ_mk (by kernel_rfl) (by kernel_rfl) (by kernel_rfl)
  · replace h := ofF h3 h
    refine W_skip [0, 1] [] (fr' := [(0, aD .tree a0), (1, aD (.slice (.pair tI (.pair tI (.pair tI tI)))) a1)]) (L' := []) (by kernel_rfl) (by kernel_rfl) ?_
    refine seqQ_norm ?_
    refine W_seq (by kernel_rfl) ?_
    refine W_region (by kernel_rfl) ?_
    refine WO_run (j := 5) (k := 5) (orcs := [(3, .val (.dat (.pair tI (.pair tI (.pair .tree .tree))) p1))]) (kF := [0, 1, 28, 29]) (kL := []) (fr' := [(0, aD .tree a0), (1, aD (.slice (.pair tI (.pair tI (.pair tI tI)))) a1), (28, aD .tree p1.2.2.1), (29, aD (.slice (.pair tI (.pair tI (.pair tI tI)))) a1)]) (L' := []) (obs := [CT.open a0 = some p1]) rfl (by kernel_rfl) (allP1 h2) ?_
    obtain ⟨r6, h7, h⟩ := bind_of h
    refine WO_call0 (us := [none, none]) (d := 30) (p := True) (j := 6) rfl ⟨by kernel_rfl, by kernel_rfl, by kernel_rfl⟩ trivial (ih_ref_Write h7) (by kernel_rfl) ?_
    refine WO_run (j := 7) (k := 1) (orcs := []) (kF := [0, 1]) (kL := []) (fr' := [(0, aD .tree a0), (1, aD (.slice (.pair tI (.pair tI (.pair tI tI)))) r6)]) (L' := []) (obs := []) rfl (by kernel_rfl) allP0 ?_
    refine WO_fin [0, 1] [] (fr' := [(0, aD .tree a0), (1, aD (.slice (.pair tI (.pair tI (.pair tI tI)))) r6)]) (L' := []) (by kernel_rfl) (by kernel_rfl) ?_
    refine seqQ_norm ?_
    refine W_seq (by kernel_rfl) ?_
    refine W_run 4 [] [0, 1, 5] [] (fr' := [(0, aD .tree a0), (1, aD (.slice (.pair tI (.pair tI (.pair tI tI)))) r6), (5, aI (w64 ((List.length r6 : Int) - (1 : Int))))]) (L' := []) (obs := []) (by kernel_rfl) (by kernel_rfl) (by kernel_rfl) allP0 ?_
    refine seqQ_norm ?_
    refine W_seq (by kernel_rfl) ?_
    refine W_region (by kernel_rfl) ?_
    refine WO_run (j := 5) (k := 5) (orcs := [(3, .val (.dat (.pair tI (.pair tI (.pair .tree .tree))) p1))]) (kF := [1, 5, 37, 38]) (kL := []) (fr' := [(1, aD (.slice (.pair tI (.pair tI (.pair tI tI)))) r6), (5, aI (w64 ((List.length r6 : Int) - (1 : Int)))), (37, aD .tree p1.2.2.2), (38, aD (.slice (.pair tI (.pair tI (.pair tI tI)))) r6)]) (L' := []) (obs := [CT.open a0 = some p1]) rfl (by kernel_rfl) (allP1 h2) ?_
    obtain ⟨r8, h9, h⟩ := bind_of h
    refine WO_call0 (us := [none, none]) (d := 39) (p := True) (j := 6) rfl ⟨by kernel_rfl, by kernel_rfl, by kernel_rfl⟩ trivial (ih_ref_Write h9) (by kernel_rfl) ?_
    refine WO_run (j := 7) (k := 1) (orcs := []) (kF := [1, 5]) (kL := []) (fr' := [(1, aD (.slice (.pair tI (.pair tI (.pair tI tI)))) r8), (5, aI (w64 ((List.length r6 : Int) - (1 : Int))))]) (L' := []) (obs := []) rfl (by kernel_rfl) allP0 ?_
    refine WO_fin [1, 5] [] (fr' := [(1, aD (.slice (.pair tI (.pair tI (.pair tI tI)))) r8), (5, aI (w64 ((List.length r6 : Int) - (1 : Int))))]) (L' := []) (by kernel_rfl) (by kernel_rfl) ?_
    refine seqQ_norm ?_
    refine W_seq (by kernel_rfl) ?_
    obtain ⟨_, h10, h⟩ := bind_of h
    replace h10 := ck_some h10
    obtain ⟨_, h11, h⟩ := bind_of h
    replace h11 := ck_some h11
    refine W_run 11 [] [4] [40] (fr' := [(4, .one (.slc 40))]) (L' := [(40, .seq (.pair tI (.pair tI (.pair tI tI))) (([] ++ r8) ++ [((4 : Int), w64 ((List.length r6 : Int) - (1 : Int)), w64 ((List.length r8 : Int) - (1 : Int)), (0 : Int))]))]) (obs := [SmallLen (List.length ([] : (List (Int × (Int × (Int × Int))))) + List.length r8), SmallLen (List.length ([] ++ r8) + List.length [((4 : Int), w64 ((List.length r6 : Int) - (1 : Int)), w64 ((List.length r8 : Int) - (1 : Int)), (0 : Int))])]) (by kernel_rfl) (by kernel_rfl) (by kernel_rfl) (allP2 h10 (allP1 h11)) ?_
    refine seqQ_norm ?_
    obtain rfl := Option.some.inj h
    refine W_frz 40 (by kernel_rfl) ?_
    refine W_ret [4] [] (fr' := [(4, aD (.slice (.pair tI (.pair tI (.pair tI tI)))) (([] ++ r8) ++ [((4 : Int), w64 ((List.length r6 : Int) - (1 : Int)), w64 ((List.length r8 : Int) - (1 : Int)), (0 : Int))]))]) (L' := []) (by kernel_rfl) (by kernel_rfl) ?_
    exact retQ_mk (by kernel_rfl) (by kernel_rfl) (by kernel_rfl)
theorem ref_Write_ok : ∀ {fuel : Nat} {a0 : CT} {a1 : (List (Int × (Int × (Int × Int))))} {r : (List (Int × (Int × (Int × Int))))}, ref_Write fuel a0 a1 = some r → FnC Try.prog 33 [aD .tree a0, aD (.slice (.pair tI (.pair tI (.pair tI tI)))) a1] [] (aD (.slice (.pair tI (.pair tI (.pair tI tI)))) r) [] := by
  intro fuel
  induction fuel with
  | zero => intros a0 a1 r h; cases h
  | succ fuel ih => intros a0 a1 r h; exact ref_Write_step_ok (fun h => ih h) (show ref_Write_step (ref_Write fuel) fuel a0 a1 = some r from h)

def ref_Combs_b1 (a1 : (List (Int × (Int × (Int × Int))))) (i16 : Int) (v19 : (Int × (Int × (Int × Int)))) (x17 : Unit) : Option (Flow Unit (Esc Bool Unit)) :=
(idx a1 i16).bind fun v22 =>
bif !(deqT (.pair tI (.pair tI (.pair tI tI))) v19 v22) then
(some (.done (.ret false)))
else
(some (.next ()))
@[reducible] def ref_Combs_s2 (a0 : (List (Int × (Int × (Int × Int))))) (a1 : (List (Int × (Int × (Int × Int))))) (v : Int × Unit) : Fr × LL := ([(0, aD (.slice (.pair tI (.pair tI (.pair tI tI)))) a0), (1, aD (.slice (.pair tI (.pair tI (.pair tI tI)))) a1), (5, aI v.1)], [])
@[reducible] def ref_Combs_s3 (v : Bool) : Fr × LL := ([(4, aB v)], [])
@[reducible] def ref_Combs_s4 (v : Unit) : Fr × LL := ([], [])
def ref_Combs (a0 : (List (Int × (Int × (Int × Int))))) (a1 : (List (Int × (Int × (Int × Int))))) : Option Bool :=
bif (List.length a0 : Int) != (List.length a1 : Int) then
(some false)
else
((forL (ref_Combs_b1 a1) (fun x17 => (.brk ())) a0 0 ()).bind fun v26 =>
match v26 with
| .ret v31 =>
(some v31)
| .brk v32 =>
(some true))
theorem ref_Combs_ok {a0 : (List (Int × (Int × (Int × Int))))} {a1 : (List (Int × (Int × (Int × Int))))} {r : Bool} (h : ref_Combs a0 a1 = some r) : FnC Try.prog 32 [aD (.slice (.pair tI (.pair tI (.pair tI tI)))) a0, aD (.slice (.pair tI (.pair tI (.pair tI tI)))) a1] [] (aB r) [] := by
  refine fnC_of_W (B := bodyOf Try.f32) (n := 26) Try.func32 (by kernel_rfl) (by kernel_rfl) (by kernel_rfl) (by kernel_rfl) (by kernel_rfl) ?_
  intro K
  refine W_seq (by kernel_rfl) ?_
  refine W_run 1 [] [0, 1] [] (fr' := [(0, aD (.slice (.pair tI (.pair tI (.pair tI tI)))) a0), (1, aD (.slice (.pair tI (.pair tI (.pair tI tI)))) a1)]) (L' := []) (obs := []) (by kernel_rfl) (by kernel_rfl) (by kernel_rfl) allP0 ?_
  refine seqQ_norm ?_
  refine W_seq (by kernel_rfl) ?_
  refine W_seq (by kernel_rfl) ?_
  refine W_run 5 [] [0, 1, 10] [] (fr' := [(0, aD (.slice (.pair tI (.pair tI (.pair tI tI)))) a0), (1, aD (.slice (.pair tI (.pair tI (.pair tI tI)))) a1), (10, aB ((List.length a0 : Int) != (List.length a1 : Int)))]) (L' := []) (obs := []) (by kernel_rfl) (by kernel_rfl) (by kernel_rfl) allP0 ?_
  refine seqQ_norm ?_
  refine W_cond (o := .tmp 10) (b := (List.length a0 : Int) != (List.length a1 : Int)) (by kernel_rfl) (by kernel_rfl) (fun h1 => ?_) (fun h1 => ?_)
  · replace h := ofT h1 h
    refine W_seq (by kernel_rfl) ?_
    refine W_run 1 [] [4] [] (fr' := [(4, aB false)]) (L' := []) (obs := []) (by kernel_rfl) (by kernel_rfl) (by kernel_rfl) allP0 ?_
    refine seqQ_norm ?_
    obtain rfl := Option.some.inj h
    refine W_ret [4] [] (fr' := [(4, aB false)]) (L' := []) (by kernel_rfl) (by kernel_rfl) ?_
    refine seqQ_ret ?_
    exact retQ_mk (by kernel_rfl) (by kernel_rfl) (by kernel_rfl)
  · replace h := ofF h1 h
    refine W_skip [0, 1] [] (fr' := [(0, aD (.slice (.pair tI (.pair tI (.pair tI tI)))) a0), (1, aD (.slice (.pair tI (.pair tI (.pair tI tI)))) a1)]) (L' := []) (by kernel_rfl) (by kernel_rfl) ?_
    refine seqQ_norm ?_
    refine W_seq (by kernel_rfl) ?_
    refine W_seq (by kernel_rfl) ?_
    refine W_run 1 [] [0, 1, 5] [] (fr' := [(0, aD (.slice (.pair tI (.pair tI (.pair tI tI)))) a0), (1, aD (.slice (.pair tI (.pair tI (.pair tI tI)))) a1), (5, aI (0 : Int))]) (L' := []) (obs := []) (by kernel_rfl) (by kernel_rfl) (by kernel_rfl) allP0 ?_
    refine seqQ_norm ?_
    refine W_block (id := 0) (by kernel_rfl) ?_
    obtain ⟨v26, h27, h⟩ := bind_of h
    refine W_len (t := 0) (u := (.pair tI (.pair tI (.pair tI tI)))) (xs := a0) (by kernel_rfl) (fun h30 => ?_)
    obtain ⟨h28, h29⟩ := forL_iter h30 h27
    refine W_weaken [0, 1, 5] [] (fr' := ((ref_Combs_s2 a0 a1) ((0 : Int), ())).1) (L' := ((ref_Combs_s2 a0 a1) ((0 : Int), ())).2) (by kernel_rfl) ?_
    refine W_cutK (W_loop (S := (ref_Combs_s2 a0 a1)) (J := (escQ (exQ .ret ref_Combs_s3) (exQ (.exit 0) ref_Combs_s4))) (by kernel_rfl) ?_ h28 _ v26 h29) ?_
    · rintro ⟨i16, x17⟩ s h
      refine W_seq (by kernel_rfl) ?_
      refine W_seq (by kernel_rfl) ?_
      refine W_run 4 [] [0, 1, 5, 14] [] (fr' := [(0, aD (.slice (.pair tI (.pair tI (.pair tI tI)))) a0), (1, aD (.slice (.pair tI (.pair tI (.pair tI tI)))) a1), (5, aI i16), (14, aB (decide (i16 < (List.length a0 : Int))))]) (L' := []) (obs := []) (by kernel_rfl) (by kernel_rfl) (by kernel_rfl) allP0 ?_
      refine seqQ_norm ?_
      refine W_cond (o := .tmp 14) (b := decide (i16 < (List.length a0 : Int))) (by kernel_rfl) (by kernel_rfl) (fun h21 => ?_) (fun h21 => ?_)
      · replace h := stepL_true h21 h
        obtain ⟨v19, _, h20, h, rfl⟩ := h
        refine W_skip [0, 1, 5] [] (fr' := [(0, aD (.slice (.pair tI (.pair tI (.pair tI tI)))) a0), (1, aD (.slice (.pair tI (.pair tI (.pair tI tI)))) a1), (5, aI i16)]) (L' := []) (by kernel_rfl) (by kernel_rfl) ?_
        refine seqQ_norm ?_
        refine W_seq (by kernel_rfl) ?_
        refine W_block (id := 1) (by kernel_rfl) ?_
        refine W_seq (by kernel_rfl) ?_
        obtain ⟨v22, h23, h⟩ := bind_of h
        refine W_draw2 9 [(5, .val (.dat (.pair tI (.pair tI (.pair tI tI))) v19)), (13, .val (.dat (.pair tI (.pair tI (.pair tI tI))) v22))] [] [0, 1, 5, 25] [] (fr' := [(0, aD (.slice (.pair tI (.pair tI (.pair tI tI)))) a0), (1, aD (.slice (.pair tI (.pair tI (.pair tI tI)))) a1), (5, aI i16), (25, aB (!(deqT (.pair tI (.pair tI (.pair tI tI))) v19 v22)))]) (L' := []) (out := [(17, aD (.slice (.pair tI (.pair tI (.pair tI tI)))) a0), (18, aI i16), (19, .one (.dptr (.pair tI (.pair tI (.pair tI tI))) v19)), (20, aD (.pair tI (.pair tI (.pair tI tI))) v19), (21, aD (.slice (.pair tI (.pair tI (.pair tI tI)))) a1), (22, aI i16), (23, .one (.dptr (.pair tI (.pair tI (.pair tI tI))) v22)), (24, aD (.pair tI (.pair tI (.pair tI tI))) v22), (25, aB (!(deqT (.pair tI (.pair tI (.pair tI tI))) v19 v22)))]) (obs := [Idx a0 i16 v19, Idx a1 i16 v22]) (obs2 := []) (calls := []) (by kernel_rfl) (by kernel_rfl) (by kernel_rfl) (by kernel_rfl) (allP2 (Idx.of h20) (allP1 (Idx.of h23))) allC0 (by kernel_rfl) allP0 ?_
        refine seqQ_norm ?_
        refine W_cond (o := .tmp 25) (b := !(deqT (.pair tI (.pair tI (.pair tI tI))) v19 v22)) (by kernel_rfl) (by kernel_rfl) (fun h24 => ?_) (fun h24 => ?_)
        · replace h := ofT h24 h
          refine W_seq (by kernel_rfl) ?_
          refine W_run 1 [] [4] [] (fr' := [(4, aB false)]) (L' := []) (obs := []) (by kernel_rfl) (by kernel_rfl) (by kernel_rfl) allP0 ?_
          refine seqQ_norm ?_
          obtain rfl := Option.some.inj h
          refine W_ret [4] [] (fr' := [(4, aB false)]) (L' := []) (by kernel_rfl) (by kernel_rfl) ?_
          refine blockQ_ret ?_
          refine seqQ_ret ?_
          refine round_ret ?_
          refine escQ_ret ?_
          exact exQ_mk (by kernel_rfl) (by kernel_rfl)
        · replace h := ofF h24 h
          refine W_skip [0, 1, 5] [] (fr' := [(0, aD (.slice (.pair tI (.pair tI (.pair tI tI)))) a0), (1, aD (.slice (.pair tI (.pair tI (.pair tI tI)))) a1), (5, aI i16)]) (L' := []) (by kernel_rfl) (by kernel_rfl) ?_
          refine blockQ_norm ?_
          refine seqQ_norm ?_
          obtain rfl := Option.some.inj h
          refine W_run 3 [] [0, 1, 5] [] (fr' := [(0, aD (.slice (.pair tI (.pair tI (.pair tI tI)))) a0), (1, aD (.slice (.pair tI (.pair tI (.pair tI tI)))) a1), (5, aI (w64 (i16 + (1 : Int))))]) (L' := []) (obs := []) (by kernel_rfl) (by kernel_rfl) (by kernel_rfl) allP0 ?_
          exact round_next' (by kernel_rfl) (by kernel_rfl)
      · obtain rfl := stepL_false h21 h
        refine W_exit (id := 0) [] [] (fr' := []) (L' := []) (by kernel_rfl) (by kernel_rfl) ?_
        refine seqQ_exit ?_
        refine round_exit ?_
        refine escQ_brk ?_
        exact exQ_mk (by kernel_rfl) (by kernel_rfl)
    · intro e fr L hJ
      rcases v26 with v31 | v32
      · obtain ⟨rfl, rfl, rfl⟩ := hJ
        obtain rfl := Option.some.inj h
        refine LT_keep [4] [] (fr' := [(4, aB v31)]) (L' := []) (by kernel_rfl) ?_
        refine blockQ_ret ?_
        refine seqQ_ret ?_
        exact retQ_mk (by kernel_rfl) (by kernel_rfl) (by kernel_rfl)
      · obtain ⟨rfl, rfl, rfl⟩ := hJ
        refine LT_keep [] [] (fr' := []) (L' := []) (by kernel_rfl) ?_
        refine blockQ_hit ?_
        refine seqQ_norm ?_
        refine W_seq (by kernel_rfl) ?_
        refine W_run 1 [] [4] [] (fr' := [(4, aB true)]) (L' := []) (obs := []) (by kernel_rfl) (by kernel_rfl) (by kernel_rfl) allP0 ?_
        refine seqQ_norm ?_
        obtain rfl := Option.some.inj h
        refine W_ret [4] [] (fr' := [(4, aB true)]) (L' := []) (by kernel_rfl) (by kernel_rfl) ?_
        exact retQ_mk (by kernel_rfl) (by kernel_rfl) (by kernel_rfl)
end Go.Proofs.Ytkkmiclmbhbmjaa.combNorms
