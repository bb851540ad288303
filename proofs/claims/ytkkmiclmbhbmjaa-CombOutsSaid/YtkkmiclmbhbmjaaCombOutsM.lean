/- What the functions that CombOuts calls compute, as models, and that they compute it: written by a program of mine. -/
import Derived.Test.YtkkmiclmbhbmjaaProg
import Derived.Test.YtkkmiclmbhbmjaaSl5
set_option linter.all false
set_option maxRecDepth 100000
namespace Go.Proofs.Ytkkmiclmbhbmjaa.combOuts
open Go Go.Sl
def comb_sizes_g7 (x54 : (List Int)) (v56 : (Int × (Int × (Int × Int)))) : Option Int :=
bif v56.1 == (4 : Int) then
((idx x54 v56.2.1).bind fun v88 =>
(idx x54 v56.2.2.1).bind fun v90 =>
some (imin (w64 ((w64 ((1 : Int) + v88)) + v90)) (301 : Int)))
else
(some (1 : Int))
@[reducible] def comb_sizes_s8 (a0 : (List (Int × (Int × (Int × Int))))) (i53 : Int) (x54 : (List Int)) (v : Int) : Fr × LL := ([(3, .one (.slc 32)), (6, aI v), (7, aD (.slice (.pair tI (.pair tI (.pair tI tI)))) a0), (8, aI (List.length a0 : Int)), (9, aI i53)], [(32, .seq tI x54)])
def comb_sizes_b9 (i53 : Int) (v56 : (Int × (Int × (Int × Int)))) (x54 : (List Int)) : Option (Flow (List Int) (List Int)) :=
(comb_sizes_g7 x54 v56).bind fun v92 =>
(ck ((List.length x54 : Int) + 1 ≤ 4294967296)).bind fun _ =>
some (.next (x54 ++ [v92]))
@[reducible] def comb_sizes_s10 (a0 : (List (Int × (Int × (Int × Int))))) (v : Int × (List Int)) : Fr × LL := ([(3, .one (.slc 32)), (7, aD (.slice (.pair tI (.pair tI (.pair tI tI)))) a0), (8, aI (List.length a0 : Int)), (9, aI v.1)], [(32, .seq tI v.2)])
@[reducible] def comb_sizes_s11 (v : (List Int)) : Fr × LL := ([(3, .one (.slc 32))], [(32, .seq tI v)])
def comb_sizes (a0 : (List (Int × (Int × (Int × Int))))) : Option (List Int) :=
(forL comb_sizes_b9 (fun x54 => x54) a0 0 []).bind fun v96 =>
some v96
theorem comb_sizes_ok {a0 : (List (Int × (Int × (Int × Int))))} {r : (List Int)} (h : comb_sizes a0 = some r) : FnC Try.prog 59 [aD (.slice (.pair tI (.pair tI (.pair tI tI)))) a0] [] (aD (.slice tI) r) [] := by
  refine fnC_of_W (B := bodyOf Try.f59) (n := 35) Try.func59 (by kernel_rfl) (by kernel_rfl) (by kernel_rfl) (by kernel_rfl) (by kernel_rfl) ?_
  intro K
  refine W_seq (by kernel_rfl) ?_
  refine W_run 1 [] [0] [] (fr' := [(0, aD (.slice (.pair tI (.pair tI (.pair tI tI)))) a0)]) (L' := []) (obs := []) (by kernel_rfl) (by kernel_rfl) (by kernel_rfl) allP0 ?_
  refine seqQ_norm ?_
  refine W_seq (by kernel_rfl) ?_
  refine W_run 1 [] [0, 3] [] (fr' := [(0, aD (.slice (.pair tI (.pair tI (.pair tI tI)))) a0), (3, .one (.nilS))]) (L' := []) (obs := []) (by kernel_rfl) (by kernel_rfl) (by kernel_rfl) allP0 ?_
  refine seqQ_norm ?_
  refine W_seq (by kernel_rfl) ?_
  refine W_seq (by kernel_rfl) ?_
  refine W_run 3 [] [3, 7, 8, 9] [] (fr' := [(3, .one (.nilS)), (7, aD (.slice (.pair tI (.pair tI (.pair tI tI)))) a0), (8, aI (List.length a0 : Int)), (9, aI (0 : Int))]) (L' := []) (obs := []) (by kernel_rfl) (by kernel_rfl) (by kernel_rfl) allP0 ?_
  refine seqQ_norm ?_
  refine W_block (id := 0) (by kernel_rfl) ?_
  obtain ⟨v96, h97, h⟩ := bind_of h
  refine W_len (t := 7) (u := (.pair tI (.pair tI (.pair tI tI)))) (xs := a0) (by kernel_rfl) (fun h100 => ?_)
  obtain ⟨h98, h99⟩ := forL_iter h100 h97
  refine W_mine 3 32 tI (by kernel_rfl) ?_
  refine W_weaken [3, 7, 8, 9] [32] (fr' := ((comb_sizes_s10 a0) ((0 : Int), [])).1) (L' := ((comb_sizes_s10 a0) ((0 : Int), [])).2) (by kernel_rfl) ?_
  refine W_cutK (W_loop (S := (comb_sizes_s10 a0)) (J := (exQ (.exit 0) comb_sizes_s11)) (by kernel_rfl) ?_ h98 _ v96 h99) ?_
  · rintro ⟨i53, x54⟩ s h
    refine W_seq (by kernel_rfl) ?_
    refine W_run 1 [] [3, 7, 8, 9, 10] [32] (fr' := [(3, .one (.slc 32)), (7, aD (.slice (.pair tI (.pair tI (.pair tI tI)))) a0), (8, aI (List.length a0 : Int)), (9, aI i53), (10, aB (decide (i53 < (List.length a0 : Int))))]) (L' := [(32, .seq tI x54)]) (obs := []) (by kernel_rfl) (by kernel_rfl) (by kernel_rfl) allP0 ?_
    refine seqQ_norm ?_
    refine W_seq (by kernel_rfl) ?_
    refine W_cond (o := .tmp 10) (b := decide (i53 < (List.length a0 : Int))) (by kernel_rfl) (by kernel_rfl) (fun h58 => ?_) (fun h58 => ?_)
    · replace h := stepL_true h58 h
      obtain ⟨v56, _, h57, h, rfl⟩ := h
      refine W_skip [3, 7, 8, 9] [32] (fr' := [(3, .one (.slc 32)), (7, aD (.slice (.pair tI (.pair tI (.pair tI tI)))) a0), (8, aI (List.length a0 : Int)), (9, aI i53)]) (L' := [(32, .seq tI x54)]) (by kernel_rfl) (by kernel_rfl) ?_
      refine seqQ_norm ?_
      refine W_seq (by kernel_rfl) ?_
      refine W_block (id := 1) (by kernel_rfl) ?_
      refine W_seq (by kernel_rfl) ?_
      refine W_run 4 [(1, .val (.dat (.pair tI (.pair tI (.pair tI tI))) v56)), (5, .typed)] [3, 5, 7, 8, 9] [32, 5] (fr' := [(3, .one (.slc 32)), (5, .one (.ptr 5 0)), (7, aD (.slice (.pair tI (.pair tI (.pair tI tI)))) a0), (8, aI (List.length a0 : Int)), (9, aI i53)]) (L' := [(32, .seq tI x54), (5, .one (.pair tI (.pair tI (.pair tI tI))) v56)]) (obs := [Idx a0 i53 v56, True]) (by kernel_rfl) (by kernel_rfl) (by kernel_rfl) (allP2 (Idx.of h57) (allP1 trivial)) ?_
      refine seqQ_norm ?_
      refine W_seq (by kernel_rfl) ?_
      refine W_run 1 [] [3, 5, 6, 7, 8, 9] [32, 5] (fr' := [(3, .one (.slc 32)), (5, .one (.ptr 5 0)), (6, aI (1 : Int)), (7, aD (.slice (.pair tI (.pair tI (.pair tI tI)))) a0), (8, aI (List.length a0 : Int)), (9, aI i53)]) (L' := [(32, .seq tI x54), (5, .one (.pair tI (.pair tI (.pair tI tI))) v56)]) (obs := []) (by kernel_rfl) (by kernel_rfl) (by kernel_rfl) allP0 ?_
      refine seqQ_norm ?_
      refine W_seq (by kernel_rfl) ?_
      obtain ⟨v92, h93, h⟩ := bind_of h
      refine W_cutK (Q' := (exQ .normal (comb_sizes_s8 a0 i53 x54)) v92) ?_ ?_
      · replace h := h93
        refine W_seq (by kernel_rfl) ?_
        refine W_run 3 [] [3, 5, 6, 7, 8, 9, 15] [32, 5] (fr' := [(3, .one (.slc 32)), (5, .one (.ptr 5 0)), (6, aI (1 : Int)), (7, aD (.slice (.pair tI (.pair tI (.pair tI tI)))) a0), (8, aI (List.length a0 : Int)), (9, aI i53), (15, aB (v56.1 == (4 : Int)))]) (L' := [(32, .seq tI x54), (5, .one (.pair tI (.pair tI (.pair tI tI))) v56)]) (obs := []) (by kernel_rfl) (by kernel_rfl) (by kernel_rfl) allP0 ?_
        refine seqQ_norm ?_
        refine W_cond (o := .tmp 15) (b := v56.1 == (4 : Int)) (by kernel_rfl) (by kernel_rfl) (fun h87 => ?_) (fun h87 => ?_)
        · replace h := ofT h87 h
          obtain ⟨v88, h89, h⟩ := bind_of h
          obtain ⟨v90, h91, h⟩ := bind_of h
          obtain rfl := Option.some.inj h
          refine W_draw2 13 [(9, .val (.dat tI v88)), (21, .val (.dat tI v90))] [] [3, 6, 7, 8, 9] [32] (fr' := [(3, .one (.slc 32)), (6, aI (imin (w64 ((w64 ((1 : Int) + v88)) + v90)) (301 : Int))), (7, aD (.slice (.pair tI (.pair tI (.pair tI tI)))) a0), (8, aI (List.length a0 : Int)), (9, aI i53)]) (L' := [(32, .seq tI x54)]) (out := [(16, .one (.slc 32)), (17, .one (.ptr 5 1)), (18, aI v56.2.1), (19, .one (.eptr 32 1 v56.2.1 0)), (20, aI v88), (21, aI (w64 ((1 : Int) + v88))), (22, .one (.slc 32)), (23, .one (.ptr 5 2)), (24, aI v56.2.2.1), (25, .one (.eptr 32 1 v56.2.2.1 0)), (26, aI v90), (27, aI (w64 ((w64 ((1 : Int) + v88)) + v90))), (28, aI (imin (w64 ((w64 ((1 : Int) + v88)) + v90)) (301 : Int)))]) (obs := [InR v56.2.1 (List.length x54), Idx x54 v56.2.1 v88, InR v56.2.2.1 (List.length x54), Idx x54 v56.2.2.1 v90]) (obs2 := []) (calls := []) (by kernel_rfl) (by kernel_rfl) (by kernel_rfl) (by kernel_rfl) (allP2 (InR.of h89) (allP2 (Idx.of h89) (allP2 (InR.of h91) (allP1 (Idx.of h91))))) allC0 (by kernel_rfl) allP0 ?_
          exact exQ_mk (by kernel_rfl) (by kernel_rfl)
        · replace h := ofF h87 h
          obtain rfl := Option.some.inj h
          refine W_skip [3, 6, 7, 8, 9] [32] (fr' := [(3, .one (.slc 32)), (6, aI (1 : Int)), (7, aD (.slice (.pair tI (.pair tI (.pair tI tI)))) a0), (8, aI (List.length a0 : Int)), (9, aI i53)]) (L' := [(32, .seq tI x54)]) (by kernel_rfl) (by kernel_rfl) ?_
          exact exQ_mk (by kernel_rfl) (by kernel_rfl)
      · intro e fr L hJ
        obtain ⟨rfl, rfl, rfl⟩ := hJ
        refine LT_keep [3, 6, 7, 8, 9] [32] (fr' := [(3, .one (.slc 32)), (6, aI v92), (7, aD (.slice (.pair tI (.pair tI (.pair tI tI)))) a0), (8, aI (List.length a0 : Int)), (9, aI i53)]) (L' := [(32, .seq tI x54)]) (by kernel_rfl) ?_
        refine seqQ_norm ?_
        obtain ⟨_, h94, h⟩ := bind_of h
        replace h94 := ck_some h94
        refine W_run 5 [] [3, 7, 8, 9] [32] (fr' := [(3, .one (.slc 32)), (7, aD (.slice (.pair tI (.pair tI (.pair tI tI)))) a0), (8, aI (List.length a0 : Int)), (9, aI i53)]) (L' := [(32, .seq tI (x54 ++ [v92]))]) (obs := [SmallLen (List.length x54 + List.length [v92])]) (by kernel_rfl) (by kernel_rfl) (by kernel_rfl) (allP1 h94) ?_
        refine blockQ_norm ?_
        refine seqQ_norm ?_
        obtain rfl := Option.some.inj h
        refine W_run 2 [] [3, 7, 8, 9] [32] (fr' := [(3, .one (.slc 32)), (7, aD (.slice (.pair tI (.pair tI (.pair tI tI)))) a0), (8, aI (List.length a0 : Int)), (9, aI (w64 (i53 + (1 : Int))))]) (L' := [(32, .seq tI (x54 ++ [v92]))]) (obs := []) (by kernel_rfl) (by kernel_rfl) (by kernel_rfl) allP0 ?_
        exact round_next' (by kernel_rfl) (by kernel_rfl)
    · obtain rfl := stepL_false h58 h
      refine W_exit (id := 0) [3] [32] (fr' := [(3, .one (.slc 32))]) (L' := [(32, .seq tI x54)]) (by kernel_rfl) (by kernel_rfl) ?_
      refine seqQ_exit ?_
      refine round_exit ?_
      exact exQ_mk (by kernel_rfl) (by kernel_rfl)
  · intro e fr L hJ
    obtain ⟨rfl, rfl, rfl⟩ := hJ
    refine LT_keep [3] [32] (fr' := [(3, .one (.slc 32))]) (L' := [(32, .seq tI v96)]) (by kernel_rfl) ?_
    refine blockQ_hit ?_
    refine seqQ_norm ?_
    refine W_seq (by kernel_rfl) ?_
    refine W_run 2 [] [2] [32] (fr' := [(2, .one (.slc 32))]) (L' := [(32, .seq tI v96)]) (obs := []) (by kernel_rfl) (by kernel_rfl) (by kernel_rfl) allP0 ?_
    refine seqQ_norm ?_
    obtain rfl := Option.some.inj h
    refine W_frz 32 (by kernel_rfl) ?_
    refine W_ret [2] [] (fr' := [(2, aD (.slice tI) v96)]) (L' := []) (by kernel_rfl) (by kernel_rfl) ?_
    exact retQ_mk (by kernel_rfl) (by kernel_rfl) (by kernel_rfl)

def comb_Check_g9 (i58 : Int) (v61 : (Int × (Int × (Int × Int)))) : Option Bool :=
bif v61.1 == (4 : Int) then
(bif decide ((imin v61.2.1 v61.2.2.1) < (0 : Int)) then
(some true)
else
(some (decide ((imax v61.2.1 v61.2.2.1) ≥ i58))))
else
(some false)
@[reducible] def comb_Check_s10 (a0 : (List (Int × (Int × (Int × Int))))) (i58 : Int) (v : Bool) : Fr × LL := ([(0, aD (.slice (.pair tI (.pair tI (.pair tI tI)))) a0), (13, aD (.slice (.pair tI (.pair tI (.pair tI tI)))) a0), (14, aI (List.length a0 : Int)), (15, aI i58), (43, aB v)], [])
@[reducible] def comb_Check_s11 (a0 : (List (Int × (Int × (Int × Int))))) (i58 : Int) (v61 : (Int × (Int × (Int × Int)))) (v : Bool) : Fr × LL := ([(0, aD (.slice (.pair tI (.pair tI (.pair tI tI)))) a0), (3, aI i58), (4, .one (.ptr 4 0)), (13, aD (.slice (.pair tI (.pair tI (.pair tI tI)))) a0), (14, aI (List.length a0 : Int)), (15, aI i58), (29, aB v)], [(4, .one (.pair tI (.pair tI (.pair tI tI))) v61)])
@[reducible] def comb_Check_s12 (a0 : (List (Int × (Int × (Int × Int))))) (i58 : Int) (v61 : (Int × (Int × (Int × Int)))) (v : Bool) : Fr × LL := ([(0, aD (.slice (.pair tI (.pair tI (.pair tI tI)))) a0), (3, aI i58), (4, .one (.ptr 4 0)), (13, aD (.slice (.pair tI (.pair tI (.pair tI tI)))) a0), (14, aI (List.length a0 : Int)), (15, aI i58), (20, aB v)], [(4, .one (.pair tI (.pair tI (.pair tI tI))) v61)])
def comb_Check_b13 (i58 : Int) (v61 : (Int × (Int × (Int × Int)))) (x59 : Unit) : Option (Flow Unit (Esc Int Unit)) :=
(bif decide (v61.1 < (1 : Int)) then
(some true)
else
(some (decide (v61.1 > (4 : Int))))).bind fun v67 =>
bif v67 then
(some (.done (.ret (6 : Int))))
else
((bif v61.1 == (3 : Int) then
(bif decide (v61.2.2.2 < (0 : Int)) then
(some true)
else
(some (decide (v61.2.2.2 > (1000 : Int)))))
else
(some false)).bind fun v76 =>
bif v76 then
(some (.done (.ret (4 : Int))))
else
((comb_Check_g9 i58 v61).bind fun v85 =>
bif v85 then
(some (.done (.ret (2 : Int))))
else
(some (.next ()))))
@[reducible] def comb_Check_s14 (a0 : (List (Int × (Int × (Int × Int))))) (v : Int × Unit) : Fr × LL := ([(0, aD (.slice (.pair tI (.pair tI (.pair tI tI)))) a0), (13, aD (.slice (.pair tI (.pair tI (.pair tI tI)))) a0), (14, aI (List.length a0 : Int)), (15, aI v.1)], [])
@[reducible] def comb_Check_s15 (v : Int) : Fr × LL := ([(2, aI v)], [])
@[reducible] def comb_Check_s16 (a0 : (List (Int × (Int × (Int × Int))))) (v : Unit) : Fr × LL := ([(0, aD (.slice (.pair tI (.pair tI (.pair tI tI)))) a0)], [])
def comb_Check (a0 : (List (Int × (Int × (Int × Int))))) : Option Int :=
bif (decide ((List.length a0 : Int) < (1 : Int))) || (decide ((List.length a0 : Int) > (40 : Int))) then
(some (1 : Int))
else
((forL comb_Check_b13 (fun x59 => (.brk ())) a0 0 ()).bind fun v89 =>
match v89 with
| .ret v94 =>
(some v94)
| .brk v95 =>
((comb_sizes a0).bind fun r96 =>
(idx r96 (w64 ((List.length a0 : Int) - (1 : Int)))).bind fun v98 =>
bif decide (v98 > (300 : Int)) then
(some (1 : Int))
else
(some (0 : Int))))
theorem comb_Check_ok {a0 : (List (Int × (Int × (Int × Int))))} {r : Int} (h : comb_Check a0 = some r) : FnC Try.prog 26 [aD (.slice (.pair tI (.pair tI (.pair tI tI)))) a0] [] (aI r) [] := by
  refine fnC_of_W (B := bodyOf Try.f26) (n := 73) Try.func26 (by kernel_rfl) (by kernel_rfl) (by kernel_rfl) (by kernel_rfl) (by kernel_rfl) ?_
  intro K
  refine W_seq (by kernel_rfl) ?_
  refine W_run 1 [] [0] [] (fr' := [(0, aD (.slice (.pair tI (.pair tI (.pair tI tI)))) a0)]) (L' := []) (obs := []) (by kernel_rfl) (by kernel_rfl) (by kernel_rfl) allP0 ?_
  refine seqQ_norm ?_
  refine W_seq (by kernel_rfl) ?_
  refine W_seq (by kernel_rfl) ?_
  refine W_run 8 [] [0, 12] [] (fr' := [(0, aD (.slice (.pair tI (.pair tI (.pair tI tI)))) a0), (12, aB ((decide ((List.length a0 : Int) < (1 : Int))) || (decide ((List.length a0 : Int) > (40 : Int)))))]) (L' := []) (obs := []) (by kernel_rfl) (by kernel_rfl) (by kernel_rfl) allP0 ?_
  refine seqQ_norm ?_
  refine W_cond (o := .tmp 12) (b := (decide ((List.length a0 : Int) < (1 : Int))) || (decide ((List.length a0 : Int) > (40 : Int)))) (by kernel_rfl) (by kernel_rfl) (fun h1 => ?_) (fun h1 => ?_)
  · replace h := ofT h1 h
    refine W_seq (by kernel_rfl) ?_
    refine W_run 1 [] [2] [] (fr' := [(2, aI (1 : Int))]) (L' := []) (obs := []) (by kernel_rfl) (by kernel_rfl) (by kernel_rfl) allP0 ?_
    refine seqQ_norm ?_
    obtain rfl := Option.some.inj h
    refine W_ret [2] [] (fr' := [(2, aI (1 : Int))]) (L' := []) (by kernel_rfl) (by kernel_rfl) ?_
    refine seqQ_ret ?_
    exact retQ_mk (by kernel_rfl) (by kernel_rfl) (by kernel_rfl)
  · replace h := ofF h1 h
    refine W_skip [0] [] (fr' := [(0, aD (.slice (.pair tI (.pair tI (.pair tI tI)))) a0)]) (L' := []) (by kernel_rfl) (by kernel_rfl) ?_
    refine seqQ_norm ?_
    refine W_seq (by kernel_rfl) ?_
    refine W_seq (by kernel_rfl) ?_
    refine W_run 3 [] [0, 13, 14, 15] [] (fr' := [(0, aD (.slice (.pair tI (.pair tI (.pair tI tI)))) a0), (13, aD (.slice (.pair tI (.pair tI (.pair tI tI)))) a0), (14, aI (List.length a0 : Int)), (15, aI (0 : Int))]) (L' := []) (obs := []) (by kernel_rfl) (by kernel_rfl) (by kernel_rfl) allP0 ?_
    refine seqQ_norm ?_
    refine W_block (id := 0) (by kernel_rfl) ?_
    obtain ⟨v89, h90, h⟩ := bind_of h
    refine W_len (t := 13) (u := (.pair tI (.pair tI (.pair tI tI)))) (xs := a0) (by kernel_rfl) (fun h93 => ?_)
    obtain ⟨h91, h92⟩ := forL_iter h93 h90
    refine W_weaken [0, 13, 14, 15] [] (fr' := ((comb_Check_s14 a0) ((0 : Int), ())).1) (L' := ((comb_Check_s14 a0) ((0 : Int), ())).2) (by kernel_rfl) ?_
    refine W_cutK (W_loop (S := (comb_Check_s14 a0)) (J := (escQ (exQ .ret comb_Check_s15) (exQ (.exit 0) (comb_Check_s16 a0)))) (by kernel_rfl) ?_ h91 _ v89 h92) ?_
    · rintro ⟨i58, x59⟩ s h
      refine W_seq (by kernel_rfl) ?_
      refine W_run 1 [] [0, 13, 14, 15, 16] [] (fr' := [(0, aD (.slice (.pair tI (.pair tI (.pair tI tI)))) a0), (13, aD (.slice (.pair tI (.pair tI (.pair tI tI)))) a0), (14, aI (List.length a0 : Int)), (15, aI i58), (16, aB (decide (i58 < (List.length a0 : Int))))]) (L' := []) (obs := []) (by kernel_rfl) (by kernel_rfl) (by kernel_rfl) allP0 ?_
      refine seqQ_norm ?_
      refine W_seq (by kernel_rfl) ?_
      refine W_cond (o := .tmp 16) (b := decide (i58 < (List.length a0 : Int))) (by kernel_rfl) (by kernel_rfl) (fun h63 => ?_) (fun h63 => ?_)
      · replace h := stepL_true h63 h
        obtain ⟨v61, _, h62, h, rfl⟩ := h
        refine W_skip [0, 13, 14, 15] [] (fr' := [(0, aD (.slice (.pair tI (.pair tI (.pair tI tI)))) a0), (13, aD (.slice (.pair tI (.pair tI (.pair tI tI)))) a0), (14, aI (List.length a0 : Int)), (15, aI i58)]) (L' := []) (by kernel_rfl) (by kernel_rfl) ?_
        refine seqQ_norm ?_
        refine W_seq (by kernel_rfl) ?_
        refine W_block (id := 1) (by kernel_rfl) ?_
        refine W_seq (by kernel_rfl) ?_
        refine W_run 6 [(3, .val (.dat (.pair tI (.pair tI (.pair tI tI))) v61)), (7, .typed)] [0, 3, 4, 13, 14, 15] [4] (fr' := [(0, aD (.slice (.pair tI (.pair tI (.pair tI tI)))) a0), (3, aI i58), (4, .one (.ptr 4 0)), (13, aD (.slice (.pair tI (.pair tI (.pair tI tI)))) a0), (14, aI (List.length a0 : Int)), (15, aI i58)]) (L' := [(4, .one (.pair tI (.pair tI (.pair tI tI))) v61)]) (obs := [Idx a0 i58 v61, True]) (by kernel_rfl) (by kernel_rfl) (by kernel_rfl) (allP2 (Idx.of h62) (allP1 trivial)) ?_
        refine seqQ_norm ?_
        refine W_block (id := 2) (by kernel_rfl) ?_
        refine W_seq (by kernel_rfl) ?_
        obtain ⟨v67, h68, h⟩ := bind_of h
        refine W_cutK (Q' := (exQ .normal (comb_Check_s12 a0 i58 v61)) v67) ?_ ?_
        · replace h := h68
          refine W_region (by kernel_rfl) ?_
          refine WO_run (j := 4) (k := 4) (orcs := []) (kF := [0, 3, 4, 13, 14, 15, 24]) (kL := [4]) (fr' := [(0, aD (.slice (.pair tI (.pair tI (.pair tI tI)))) a0), (3, aI i58), (4, .one (.ptr 4 0)), (13, aD (.slice (.pair tI (.pair tI (.pair tI tI)))) a0), (14, aI (List.length a0 : Int)), (15, aI i58), (24, aB (decide (v61.1 < (1 : Int))))]) (L' := [(4, .one (.pair tI (.pair tI (.pair tI tI))) v61)]) (obs := []) rfl (by kernel_rfl) allP0 ?_
          rcases Bool.eq_false_or_eq_true (decide (v61.1 < (1 : Int))) with h66 | h66
          · replace h := ofT h66 h
            refine WO_run (j := 9) (k := 5) (orcs := [(8, .known true), (10, .known true), (12, .known true), (15, .val (.dat .bool true))]) (kF := [0, 3, 4, 13, 14, 15, 20]) (kL := [4]) (fr' := [(0, aD (.slice (.pair tI (.pair tI (.pair tI tI)))) a0), (3, aI i58), (4, .one (.ptr 4 0)), (13, aD (.slice (.pair tI (.pair tI (.pair tI tI)))) a0), (14, aI (List.length a0 : Int)), (15, aI i58), (20, aB true)]) (L' := [(4, .one (.pair tI (.pair tI (.pair tI tI))) v61)]) (obs := [((decide (v61.1 < (1 : Int))) = true), ((decide (v61.1 < (1 : Int))) = true), ((decide (v61.1 < (1 : Int))) = true), ((decide (v61.1 < (1 : Int))) = true)]) rfl (by kernel_rfl) (allP2 h66 (allP2 h66 (allP2 h66 (allP1 h66)))) ?_
            obtain rfl := Option.some.inj h
            refine WO_fin [0, 3, 4, 13, 14, 15, 20] [4] (fr' := [(0, aD (.slice (.pair tI (.pair tI (.pair tI tI)))) a0), (3, aI i58), (4, .one (.ptr 4 0)), (13, aD (.slice (.pair tI (.pair tI (.pair tI tI)))) a0), (14, aI (List.length a0 : Int)), (15, aI i58), (20, aB true)]) (L' := [(4, .one (.pair tI (.pair tI (.pair tI tI))) v61)]) (by kernel_rfl) (by kernel_rfl) ?_
            exact exQ_mk (by kernel_rfl) (by kernel_rfl)
          · replace h := ofF h66 h
            refine WO_run (j := 9) (k := 5) (orcs := [(8, .known false), (10, .known false), (12, .known false), (15, .val (.dat .bool false))]) (kF := [0, 3, 4, 13, 14, 15, 20]) (kL := [4]) (fr' := [(0, aD (.slice (.pair tI (.pair tI (.pair tI tI)))) a0), (3, aI i58), (4, .one (.ptr 4 0)), (13, aD (.slice (.pair tI (.pair tI (.pair tI tI)))) a0), (14, aI (List.length a0 : Int)), (15, aI i58), (20, aB (decide (v61.1 > (4 : Int))))]) (L' := [(4, .one (.pair tI (.pair tI (.pair tI tI))) v61)]) (obs := [((decide (v61.1 < (1 : Int))) = false), ((decide (v61.1 < (1 : Int))) = false), ((decide (v61.1 < (1 : Int))) = false), ((decide (v61.1 < (1 : Int))) = false)]) rfl (by kernel_rfl) (allP2 h66 (allP2 h66 (allP2 h66 (allP1 h66)))) ?_
            obtain rfl := Option.some.inj h
            refine WO_fin [0, 3, 4, 13, 14, 15, 20] [4] (fr' := [(0, aD (.slice (.pair tI (.pair tI (.pair tI tI)))) a0), (3, aI i58), (4, .one (.ptr 4 0)), (13, aD (.slice (.pair tI (.pair tI (.pair tI tI)))) a0), (14, aI (List.length a0 : Int)), (15, aI i58), (20, aB (decide (v61.1 > (4 : Int))))]) (L' := [(4, .one (.pair tI (.pair tI (.pair tI tI))) v61)]) (by kernel_rfl) (by kernel_rfl) ?_
            exact exQ_mk (by kernel_rfl) (by kernel_rfl)
        · intro e fr L hJ
          obtain ⟨rfl, rfl, rfl⟩ := hJ
          refine LT_keep [0, 3, 4, 13, 14, 15, 20] [4] (fr' := [(0, aD (.slice (.pair tI (.pair tI (.pair tI tI)))) a0), (3, aI i58), (4, .one (.ptr 4 0)), (13, aD (.slice (.pair tI (.pair tI (.pair tI tI)))) a0), (14, aI (List.length a0 : Int)), (15, aI i58), (20, aB v67)]) (L' := [(4, .one (.pair tI (.pair tI (.pair tI tI))) v61)]) (by kernel_rfl) ?_
          refine seqQ_norm ?_
          refine W_cond (o := .tmp 20) (b := v67) (by kernel_rfl) (by kernel_rfl) (fun h69 => ?_) (fun h69 => ?_)
          · replace h := ofT h69 h
            refine W_seq (by kernel_rfl) ?_
            refine W_run 1 [] [2] [] (fr' := [(2, aI (6 : Int))]) (L' := []) (obs := []) (by kernel_rfl) (by kernel_rfl) (by kernel_rfl) allP0 ?_
            refine seqQ_norm ?_
            obtain rfl := Option.some.inj h
            refine W_ret [2] [] (fr' := [(2, aI (6 : Int))]) (L' := []) (by kernel_rfl) (by kernel_rfl) ?_
            refine blockQ_ret ?_
            refine blockQ_ret ?_
            refine seqQ_ret ?_
            refine round_ret ?_
            refine escQ_ret ?_
            exact exQ_mk (by kernel_rfl) (by kernel_rfl)
          · replace h := ofF h69 h
            refine W_seq (by kernel_rfl) ?_
            obtain ⟨v76, h77, h⟩ := bind_of h
            refine W_cutK (Q' := (exQ .normal (comb_Check_s11 a0 i58 v61)) v76) ?_ ?_
            · replace h := h77
              refine W_region (by kernel_rfl) ?_
              refine WO_run (j := 4) (k := 4) (orcs := []) (kF := [0, 3, 4, 13, 14, 15, 33]) (kL := [4]) (fr' := [(0, aD (.slice (.pair tI (.pair tI (.pair tI tI)))) a0), (3, aI i58), (4, .one (.ptr 4 0)), (13, aD (.slice (.pair tI (.pair tI (.pair tI tI)))) a0), (14, aI (List.length a0 : Int)), (15, aI i58), (33, aB (v61.1 == (3 : Int)))]) (L' := [(4, .one (.pair tI (.pair tI (.pair tI tI))) v61)]) (obs := []) rfl (by kernel_rfl) allP0 ?_
              rcases Bool.eq_false_or_eq_true (v61.1 == (3 : Int)) with h74 | h74
              · replace h := ofT h74 h
                refine WO_run (j := 8) (k := 4) (orcs := [(8, .known true), (10, .known true), (12, .known true), (14, .known true)]) (kF := [0, 3, 4, 13, 14, 15, 33, 37]) (kL := [4]) (fr' := [(0, aD (.slice (.pair tI (.pair tI (.pair tI tI)))) a0), (3, aI i58), (4, .one (.ptr 4 0)), (13, aD (.slice (.pair tI (.pair tI (.pair tI tI)))) a0), (14, aI (List.length a0 : Int)), (15, aI i58), (33, aB (v61.1 == (3 : Int))), (37, aB (decide (v61.2.2.2 < (0 : Int))))]) (L' := [(4, .one (.pair tI (.pair tI (.pair tI tI))) v61)]) (obs := [((v61.1 == (3 : Int)) = true), ((v61.1 == (3 : Int)) = true), ((v61.1 == (3 : Int)) = true), ((v61.1 == (3 : Int)) = true)]) rfl (by kernel_rfl) (allP2 h74 (allP2 h74 (allP2 h74 (allP1 h74)))) ?_
                rcases Bool.eq_false_or_eq_true (decide (v61.2.2.2 < (0 : Int))) with h75 | h75
                · replace h := ofT h75 h
                  refine WO_run (j := 14) (k := 6) (orcs := [(16, .known true), (18, .known true), (20, .known true), (22, .known true), (23, .val (.dat .bool true)), (25, .val (.dat .bool true))]) (kF := [0, 3, 4, 13, 14, 15, 29]) (kL := [4]) (fr' := [(0, aD (.slice (.pair tI (.pair tI (.pair tI tI)))) a0), (3, aI i58), (4, .one (.ptr 4 0)), (13, aD (.slice (.pair tI (.pair tI (.pair tI tI)))) a0), (14, aI (List.length a0 : Int)), (15, aI i58), (29, aB true)]) (L' := [(4, .one (.pair tI (.pair tI (.pair tI tI))) v61)]) (obs := [((decide (v61.2.2.2 < (0 : Int))) = true), ((decide (v61.2.2.2 < (0 : Int))) = true), ((decide (v61.2.2.2 < (0 : Int))) = true), ((v61.1 == (3 : Int)) = true), ((decide (v61.2.2.2 < (0 : Int))) = true), ((v61.1 == (3 : Int)) = true)]) rfl (by kernel_rfl) (allP2 h75 (allP2 h75 (allP2 h75 (allP2 h74 (allP2 h75 (allP1 h74)))))) ?_
                  obtain rfl := Option.some.inj h
                  refine WO_fin [0, 3, 4, 13, 14, 15, 29] [4] (fr' := [(0, aD (.slice (.pair tI (.pair tI (.pair tI tI)))) a0), (3, aI i58), (4, .one (.ptr 4 0)), (13, aD (.slice (.pair tI (.pair tI (.pair tI tI)))) a0), (14, aI (List.length a0 : Int)), (15, aI i58), (29, aB true)]) (L' := [(4, .one (.pair tI (.pair tI (.pair tI tI))) v61)]) (by kernel_rfl) (by kernel_rfl) ?_
                  exact exQ_mk (by kernel_rfl) (by kernel_rfl)
                · replace h := ofF h75 h
                  refine WO_run (j := 14) (k := 6) (orcs := [(16, .known false), (18, .known false), (20, .known false), (22, .known true), (23, .val (.dat .bool false)), (25, .val (.dat .bool true))]) (kF := [0, 3, 4, 13, 14, 15, 29]) (kL := [4]) (fr' := [(0, aD (.slice (.pair tI (.pair tI (.pair tI tI)))) a0), (3, aI i58), (4, .one (.ptr 4 0)), (13, aD (.slice (.pair tI (.pair tI (.pair tI tI)))) a0), (14, aI (List.length a0 : Int)), (15, aI i58), (29, aB (decide (v61.2.2.2 > (1000 : Int))))]) (L' := [(4, .one (.pair tI (.pair tI (.pair tI tI))) v61)]) (obs := [((decide (v61.2.2.2 < (0 : Int))) = false), ((decide (v61.2.2.2 < (0 : Int))) = false), ((decide (v61.2.2.2 < (0 : Int))) = false), ((v61.1 == (3 : Int)) = true), ((decide (v61.2.2.2 < (0 : Int))) = false), ((v61.1 == (3 : Int)) = true)]) rfl (by kernel_rfl) (allP2 h75 (allP2 h75 (allP2 h75 (allP2 h74 (allP2 h75 (allP1 h74)))))) ?_
                  obtain rfl := Option.some.inj h
                  refine WO_fin [0, 3, 4, 13, 14, 15, 29] [4] (fr' := [(0, aD (.slice (.pair tI (.pair tI (.pair tI tI)))) a0), (3, aI i58), (4, .one (.ptr 4 0)), (13, aD (.slice (.pair tI (.pair tI (.pair tI tI)))) a0), (14, aI (List.length a0 : Int)), (15, aI i58), (29, aB (decide (v61.2.2.2 > (1000 : Int))))]) (L' := [(4, .one (.pair tI (.pair tI (.pair tI tI))) v61)]) (by kernel_rfl) (by kernel_rfl) ?_
                  exact exQ_mk (by kernel_rfl) (by kernel_rfl)
              · replace h := ofF h74 h
                refine WO_run (j := 14) (k := 10) (orcs := [(8, .known false), (10, .known false), (12, .known false), (14, .known false), (16, .known true), (18, .known true), (20, .known true), (22, .known false), (25, .val (.dat .bool false))]) (kF := [0, 3, 4, 13, 14, 15, 29]) (kL := [4]) (fr' := [(0, aD (.slice (.pair tI (.pair tI (.pair tI tI)))) a0), (3, aI i58), (4, .one (.ptr 4 0)), (13, aD (.slice (.pair tI (.pair tI (.pair tI tI)))) a0), (14, aI (List.length a0 : Int)), (15, aI i58), (29, aB false)]) (L' := [(4, .one (.pair tI (.pair tI (.pair tI tI))) v61)]) (obs := [((v61.1 == (3 : Int)) = false), ((v61.1 == (3 : Int)) = false), ((v61.1 == (3 : Int)) = false), ((v61.1 == (3 : Int)) = false), ((v61.1 == (3 : Int)) = false), ((v61.1 == (3 : Int)) = false)]) rfl (by kernel_rfl) (allP2 h74 (allP2 h74 (allP2 h74 (allP2 h74 (allP2 h74 (allP1 h74)))))) ?_
                obtain rfl := Option.some.inj h
                refine WO_fin [0, 3, 4, 13, 14, 15, 29] [4] (fr' := [(0, aD (.slice (.pair tI (.pair tI (.pair tI tI)))) a0), (3, aI i58), (4, .one (.ptr 4 0)), (13, aD (.slice (.pair tI (.pair tI (.pair tI tI)))) a0), (14, aI (List.length a0 : Int)), (15, aI i58), (29, aB false)]) (L' := [(4, .one (.pair tI (.pair tI (.pair tI tI))) v61)]) (by kernel_rfl) (by kernel_rfl) ?_
                exact exQ_mk (by kernel_rfl) (by kernel_rfl)
            · intro e fr L hJ
              obtain ⟨rfl, rfl, rfl⟩ := hJ
              refine LT_keep [0, 3, 4, 13, 14, 15, 29] [4] (fr' := [(0, aD (.slice (.pair tI (.pair tI (.pair tI tI)))) a0), (3, aI i58), (4, .one (.ptr 4 0)), (13, aD (.slice (.pair tI (.pair tI (.pair tI tI)))) a0), (14, aI (List.length a0 : Int)), (15, aI i58), (29, aB v76)]) (L' := [(4, .one (.pair tI (.pair tI (.pair tI tI))) v61)]) (by kernel_rfl) ?_
              refine seqQ_norm ?_
              refine W_cond (o := .tmp 29) (b := v76) (by kernel_rfl) (by kernel_rfl) (fun h78 => ?_) (fun h78 => ?_)
              · replace h := ofT h78 h
                refine W_seq (by kernel_rfl) ?_
                refine W_run 1 [] [2] [] (fr' := [(2, aI (4 : Int))]) (L' := []) (obs := []) (by kernel_rfl) (by kernel_rfl) (by kernel_rfl) allP0 ?_
                refine seqQ_norm ?_
                obtain rfl := Option.some.inj h
                refine W_ret [2] [] (fr' := [(2, aI (4 : Int))]) (L' := []) (by kernel_rfl) (by kernel_rfl) ?_
                refine blockQ_ret ?_
                refine blockQ_ret ?_
                refine seqQ_ret ?_
                refine round_ret ?_
                refine escQ_ret ?_
                exact exQ_mk (by kernel_rfl) (by kernel_rfl)
              · replace h := ofF h78 h
                refine W_seq (by kernel_rfl) ?_
                obtain ⟨v85, h86, h⟩ := bind_of h
                refine W_cutK (Q' := (exQ .normal (comb_Check_s10 a0 i58)) v85) ?_ ?_
                · replace h := h86
                  refine W_region (by kernel_rfl) ?_
                  refine WO_run (j := 4) (k := 4) (orcs := []) (kF := [0, 3, 4, 13, 14, 15, 47]) (kL := [4]) (fr' := [(0, aD (.slice (.pair tI (.pair tI (.pair tI tI)))) a0), (3, aI i58), (4, .one (.ptr 4 0)), (13, aD (.slice (.pair tI (.pair tI (.pair tI tI)))) a0), (14, aI (List.length a0 : Int)), (15, aI i58), (47, aB (v61.1 == (4 : Int)))]) (L' := [(4, .one (.pair tI (.pair tI (.pair tI tI))) v61)]) (obs := []) rfl (by kernel_rfl) allP0 ?_
                  rcases Bool.eq_false_or_eq_true (v61.1 == (4 : Int)) with h83 | h83
                  · replace h := ofT h83 h
                    refine WO_run (j := 11) (k := 7) (orcs := [(8, .known true), (10, .known true), (12, .known true), (14, .known true), (16, .known true), (18, .known true), (20, .known true)]) (kF := [0, 3, 4, 13, 14, 15, 47, 54]) (kL := [4]) (fr' := [(0, aD (.slice (.pair tI (.pair tI (.pair tI tI)))) a0), (3, aI i58), (4, .one (.ptr 4 0)), (13, aD (.slice (.pair tI (.pair tI (.pair tI tI)))) a0), (14, aI (List.length a0 : Int)), (15, aI i58), (47, aB (v61.1 == (4 : Int))), (54, aB (decide ((imin v61.2.1 v61.2.2.1) < (0 : Int))))]) (L' := [(4, .one (.pair tI (.pair tI (.pair tI tI))) v61)]) (obs := [((v61.1 == (4 : Int)) = true), ((v61.1 == (4 : Int)) = true), ((v61.1 == (4 : Int)) = true), ((v61.1 == (4 : Int)) = true), ((v61.1 == (4 : Int)) = true), ((v61.1 == (4 : Int)) = true), ((v61.1 == (4 : Int)) = true)]) rfl (by kernel_rfl) (allP2 h83 (allP2 h83 (allP2 h83 (allP2 h83 (allP2 h83 (allP2 h83 (allP1 h83))))))) ?_
                    rcases Bool.eq_false_or_eq_true (decide ((imin v61.2.1 v61.2.2.1) < (0 : Int))) with h84 | h84
                    · replace h := ofT h84 h
                      refine WO_run (j := 21) (k := 10) (orcs := [(22, .known true), (24, .known true), (26, .known true), (28, .known true), (30, .known true), (32, .known true), (34, .known true), (36, .known true), (37, .val (.dat .bool true)), (39, .val (.dat .bool true))]) (kF := [0, 13, 14, 15, 43]) (kL := [4]) (fr' := [(0, aD (.slice (.pair tI (.pair tI (.pair tI tI)))) a0), (13, aD (.slice (.pair tI (.pair tI (.pair tI tI)))) a0), (14, aI (List.length a0 : Int)), (15, aI i58), (43, aB true)]) (L' := [(4, .one (.pair tI (.pair tI (.pair tI tI))) v61)]) (obs := [((decide ((imin v61.2.1 v61.2.2.1) < (0 : Int))) = true), ((decide ((imin v61.2.1 v61.2.2.1) < (0 : Int))) = true), ((decide ((imin v61.2.1 v61.2.2.1) < (0 : Int))) = true), ((decide ((imin v61.2.1 v61.2.2.1) < (0 : Int))) = true), ((decide ((imin v61.2.1 v61.2.2.1) < (0 : Int))) = true), ((decide ((imin v61.2.1 v61.2.2.1) < (0 : Int))) = true), ((decide ((imin v61.2.1 v61.2.2.1) < (0 : Int))) = true), ((v61.1 == (4 : Int)) = true), ((decide ((imin v61.2.1 v61.2.2.1) < (0 : Int))) = true), ((v61.1 == (4 : Int)) = true)]) rfl (by kernel_rfl) (allP2 h84 (allP2 h84 (allP2 h84 (allP2 h84 (allP2 h84 (allP2 h84 (allP2 h84 (allP2 h83 (allP2 h84 (allP1 h83)))))))))) ?_
                      obtain rfl := Option.some.inj h
                      refine WO_fin [0, 13, 14, 15, 43] [] (fr' := [(0, aD (.slice (.pair tI (.pair tI (.pair tI tI)))) a0), (13, aD (.slice (.pair tI (.pair tI (.pair tI tI)))) a0), (14, aI (List.length a0 : Int)), (15, aI i58), (43, aB true)]) (L' := []) (by kernel_rfl) (by kernel_rfl) ?_
                      exact exQ_mk (by kernel_rfl) (by kernel_rfl)
                    · replace h := ofF h84 h
                      refine WO_run (j := 21) (k := 10) (orcs := [(22, .known false), (24, .known false), (26, .known false), (28, .known false), (30, .known false), (32, .known false), (34, .known false), (36, .known true), (37, .val (.dat .bool false)), (39, .val (.dat .bool true))]) (kF := [0, 13, 14, 15, 43]) (kL := [4]) (fr' := [(0, aD (.slice (.pair tI (.pair tI (.pair tI tI)))) a0), (13, aD (.slice (.pair tI (.pair tI (.pair tI tI)))) a0), (14, aI (List.length a0 : Int)), (15, aI i58), (43, aB (decide ((imax v61.2.1 v61.2.2.1) ≥ i58)))]) (L' := [(4, .one (.pair tI (.pair tI (.pair tI tI))) v61)]) (obs := [((decide ((imin v61.2.1 v61.2.2.1) < (0 : Int))) = false), ((decide ((imin v61.2.1 v61.2.2.1) < (0 : Int))) = false), ((decide ((imin v61.2.1 v61.2.2.1) < (0 : Int))) = false), ((decide ((imin v61.2.1 v61.2.2.1) < (0 : Int))) = false), ((decide ((imin v61.2.1 v61.2.2.1) < (0 : Int))) = false), ((decide ((imin v61.2.1 v61.2.2.1) < (0 : Int))) = false), ((decide ((imin v61.2.1 v61.2.2.1) < (0 : Int))) = false), ((v61.1 == (4 : Int)) = true), ((decide ((imin v61.2.1 v61.2.2.1) < (0 : Int))) = false), ((v61.1 == (4 : Int)) = true)]) rfl (by kernel_rfl) (allP2 h84 (allP2 h84 (allP2 h84 (allP2 h84 (allP2 h84 (allP2 h84 (allP2 h84 (allP2 h83 (allP2 h84 (allP1 h83)))))))))) ?_
                      obtain rfl := Option.some.inj h
                      refine WO_fin [0, 13, 14, 15, 43] [] (fr' := [(0, aD (.slice (.pair tI (.pair tI (.pair tI tI)))) a0), (13, aD (.slice (.pair tI (.pair tI (.pair tI tI)))) a0), (14, aI (List.length a0 : Int)), (15, aI i58), (43, aB (decide ((imax v61.2.1 v61.2.2.1) ≥ i58)))]) (L' := []) (by kernel_rfl) (by kernel_rfl) ?_
                      exact exQ_mk (by kernel_rfl) (by kernel_rfl)
                  · replace h := ofF h83 h
                    refine WO_run (j := 21) (k := 17) (orcs := [(8, .known false), (10, .known false), (12, .known false), (14, .known false), (16, .known false), (18, .known false), (20, .known false), (22, .known true), (24, .known true), (26, .known true), (28, .known true), (30, .known true), (32, .known true), (34, .known true), (36, .known false), (39, .val (.dat .bool false))]) (kF := [0, 13, 14, 15, 43]) (kL := [4]) (fr' := [(0, aD (.slice (.pair tI (.pair tI (.pair tI tI)))) a0), (13, aD (.slice (.pair tI (.pair tI (.pair tI tI)))) a0), (14, aI (List.length a0 : Int)), (15, aI i58), (43, aB false)]) (L' := [(4, .one (.pair tI (.pair tI (.pair tI tI))) v61)]) (obs := [((v61.1 == (4 : Int)) = false), ((v61.1 == (4 : Int)) = false), ((v61.1 == (4 : Int)) = false), ((v61.1 == (4 : Int)) = false), ((v61.1 == (4 : Int)) = false), ((v61.1 == (4 : Int)) = false), ((v61.1 == (4 : Int)) = false), ((v61.1 == (4 : Int)) = false), ((v61.1 == (4 : Int)) = false)]) rfl (by kernel_rfl) (allP2 h83 (allP2 h83 (allP2 h83 (allP2 h83 (allP2 h83 (allP2 h83 (allP2 h83 (allP2 h83 (allP1 h83))))))))) ?_
                    obtain rfl := Option.some.inj h
                    refine WO_fin [0, 13, 14, 15, 43] [] (fr' := [(0, aD (.slice (.pair tI (.pair tI (.pair tI tI)))) a0), (13, aD (.slice (.pair tI (.pair tI (.pair tI tI)))) a0), (14, aI (List.length a0 : Int)), (15, aI i58), (43, aB false)]) (L' := []) (by kernel_rfl) (by kernel_rfl) ?_
                    exact exQ_mk (by kernel_rfl) (by kernel_rfl)
                · intro e fr L hJ
                  obtain ⟨rfl, rfl, rfl⟩ := hJ
                  refine LT_keep [0, 13, 14, 15, 43] [] (fr' := [(0, aD (.slice (.pair tI (.pair tI (.pair tI tI)))) a0), (13, aD (.slice (.pair tI (.pair tI (.pair tI tI)))) a0), (14, aI (List.length a0 : Int)), (15, aI i58), (43, aB v85)]) (L' := []) (by kernel_rfl) ?_
                  refine seqQ_norm ?_
                  refine W_cond (o := .tmp 43) (b := v85) (by kernel_rfl) (by kernel_rfl) (fun h87 => ?_) (fun h87 => ?_)
                  · replace h := ofT h87 h
                    refine W_seq (by kernel_rfl) ?_
                    refine W_run 1 [] [2] [] (fr' := [(2, aI (2 : Int))]) (L' := []) (obs := []) (by kernel_rfl) (by kernel_rfl) (by kernel_rfl) allP0 ?_
                    refine seqQ_norm ?_
                    obtain rfl := Option.some.inj h
                    refine W_ret [2] [] (fr' := [(2, aI (2 : Int))]) (L' := []) (by kernel_rfl) (by kernel_rfl) ?_
                    refine blockQ_ret ?_
                    refine blockQ_ret ?_
                    refine seqQ_ret ?_
                    refine round_ret ?_
                    refine escQ_ret ?_
                    exact exQ_mk (by kernel_rfl) (by kernel_rfl)
                  · replace h := ofF h87 h
                    refine W_skip [0, 13, 14, 15] [] (fr' := [(0, aD (.slice (.pair tI (.pair tI (.pair tI tI)))) a0), (13, aD (.slice (.pair tI (.pair tI (.pair tI tI)))) a0), (14, aI (List.length a0 : Int)), (15, aI i58)]) (L' := []) (by kernel_rfl) (by kernel_rfl) ?_
                    refine blockQ_norm ?_
                    refine blockQ_norm ?_
                    refine seqQ_norm ?_
                    obtain rfl := Option.some.inj h
                    refine W_run 2 [] [0, 13, 14, 15] [] (fr' := [(0, aD (.slice (.pair tI (.pair tI (.pair tI tI)))) a0), (13, aD (.slice (.pair tI (.pair tI (.pair tI tI)))) a0), (14, aI (List.length a0 : Int)), (15, aI (w64 (i58 + (1 : Int))))]) (L' := []) (obs := []) (by kernel_rfl) (by kernel_rfl) (by kernel_rfl) allP0 ?_
                    exact round_next' (by kernel_rfl) (by kernel_rfl)
      · obtain rfl := stepL_false h63 h
        refine W_exit (id := 0) [0] [] (fr' := [(0, aD (.slice (.pair tI (.pair tI (.pair tI tI)))) a0)]) (L' := []) (by kernel_rfl) (by kernel_rfl) ?_
        refine seqQ_exit ?_
        refine round_exit ?_
        refine escQ_brk ?_
        exact exQ_mk (by kernel_rfl) (by kernel_rfl)
    · intro e fr L hJ
      rcases v89 with v94 | v95
      · obtain ⟨rfl, rfl, rfl⟩ := hJ
        obtain rfl := Option.some.inj h
        refine LT_keep [2] [] (fr' := [(2, aI v94)]) (L' := []) (by kernel_rfl) ?_
        refine blockQ_ret ?_
        refine seqQ_ret ?_
        exact retQ_mk (by kernel_rfl) (by kernel_rfl) (by kernel_rfl)
      · obtain ⟨rfl, rfl, rfl⟩ := hJ
        refine LT_keep [0] [] (fr' := [(0, aD (.slice (.pair tI (.pair tI (.pair tI tI)))) a0)]) (L' := []) (by kernel_rfl) ?_
        refine blockQ_hit ?_
        refine seqQ_norm ?_
        refine W_seq (by kernel_rfl) ?_
        refine W_seq (by kernel_rfl) ?_
        refine W_region (by kernel_rfl) ?_
        refine WO_run (j := 1) (k := 1) (orcs := []) (kF := [0, 65]) (kL := []) (fr' := [(0, aD (.slice (.pair tI (.pair tI (.pair tI tI)))) a0), (65, aD (.slice (.pair tI (.pair tI (.pair tI tI)))) a0)]) (L' := []) (obs := []) rfl (by kernel_rfl) allP0 ?_
        obtain ⟨r96, h97, h⟩ := bind_of h
        refine WO_call0 (us := [none]) (d := 66) (p := True) (j := 2) rfl ⟨by kernel_rfl, by kernel_rfl, by kernel_rfl⟩ trivial (comb_sizes_ok h97) (by kernel_rfl) ?_
        obtain ⟨v98, h99, h⟩ := bind_of h
        refine WO_run (j := 8) (k := 6) (orcs := [(11, .val (.dat tI v98))]) (kF := [72]) (kL := []) (fr' := [(72, aB (decide (v98 > (300 : Int))))]) (L' := []) (obs := [Idx r96 (w64 ((List.length a0 : Int) - (1 : Int))) v98]) rfl (by kernel_rfl) (allP1 (Idx.of h99)) ?_
        refine WO_fin [72] [] (fr' := [(72, aB (decide (v98 > (300 : Int))))]) (L' := []) (by kernel_rfl) (by kernel_rfl) ?_
        refine seqQ_norm ?_
        refine W_cond (o := .tmp 72) (b := decide (v98 > (300 : Int))) (by kernel_rfl) (by kernel_rfl) (fun h100 => ?_) (fun h100 => ?_)
        · replace h := ofT h100 h
          refine W_seq (by kernel_rfl) ?_
          refine W_run 1 [] [2] [] (fr' := [(2, aI (1 : Int))]) (L' := []) (obs := []) (by kernel_rfl) (by kernel_rfl) (by kernel_rfl) allP0 ?_
          refine seqQ_norm ?_
          obtain rfl := Option.some.inj h
          refine W_ret [2] [] (fr' := [(2, aI (1 : Int))]) (L' := []) (by kernel_rfl) (by kernel_rfl) ?_
          refine seqQ_ret ?_
          exact retQ_mk (by kernel_rfl) (by kernel_rfl) (by kernel_rfl)
        · replace h := ofF h100 h
          refine W_skip [] [] (fr' := []) (L' := []) (by kernel_rfl) (by kernel_rfl) ?_
          refine seqQ_norm ?_
          refine W_seq (by kernel_rfl) ?_
          refine W_run 1 [] [2] [] (fr' := [(2, aI (0 : Int))]) (L' := []) (obs := []) (by kernel_rfl) (by kernel_rfl) (by kernel_rfl) allP0 ?_
          refine seqQ_norm ?_
          obtain rfl := Option.some.inj h
          refine W_ret [2] [] (fr' := [(2, aI (0 : Int))]) (L' := []) (by kernel_rfl) (by kernel_rfl) ?_
          exact retQ_mk (by kernel_rfl) (by kernel_rfl) (by kernel_rfl)

@[reducible] def comb_read_s9 (a0 : (List (Int × (Int × (Int × Int))))) (i73 : Int) (x74 : (List CT)) (v : (Int × (Int × (CT × CT)))) : Fr × LL := ([(3, .one (.slc 47)), (6, .one (.ptr 16 0)), (7, aD (.slice (.pair tI (.pair tI (.pair tI tI)))) a0), (8, aI (List.length a0 : Int)), (9, aI i73)], [(47, .seq .tree x74), (16, .one (.pair tI (.pair tI (.pair .tree .tree))) v)])
@[reducible] def comb_read_s10 (a0 : (List (Int × (Int × (Int × Int))))) (i73 : Int) (x74 : (List CT)) (v76 : (Int × (Int × (Int × Int)))) (v : (Int × (Int × (CT × CT)))) : Fr × LL := ([(3, .one (.slc 47)), (5, .one (.ptr 5 0)), (6, .one (.ptr 16 0)), (7, aD (.slice (.pair tI (.pair tI (.pair tI tI)))) a0), (8, aI (List.length a0 : Int)), (9, aI i73)], [(47, .seq .tree x74), (5, .one (.pair tI (.pair tI (.pair tI tI))) v76), (16, .one (.pair tI (.pair tI (.pair .tree .tree))) v)])
def comb_read_b11 (i73 : Int) (v76 : (Int × (Int × (Int × Int)))) (x74 : (List CT)) : Option (Flow (List CT) (List CT)) :=
(bif v76.1 == (3 : Int) then
(some (v76.1, v76.2.2.2, CT.nil, CT.nil))
else
(some (v76.1, (0 : Int), CT.nil, CT.nil))).bind fun v105 =>
(bif v76.1 == (4 : Int) then
((idx x74 v76.2.1).bind fun v118 =>
(idx x74 v76.2.2.1).bind fun v120 =>
some (v105.1, v105.2.1, v118, v120))
else
(some v105)).bind fun v122 =>
(ck ((List.length x74 : Int) + 1 ≤ 4294967296)).bind fun _ =>
some (.next (x74 ++ [CT.mk v122]))
@[reducible] def comb_read_s12 (a0 : (List (Int × (Int × (Int × Int))))) (v : Int × (List CT)) : Fr × LL := ([(3, .one (.slc 47)), (7, aD (.slice (.pair tI (.pair tI (.pair tI tI)))) a0), (8, aI (List.length a0 : Int)), (9, aI v.1)], [(47, .seq .tree v.2)])
@[reducible] def comb_read_s13 (v : (List CT)) : Fr × LL := ([(3, .one (.slc 47))], [(47, .seq .tree v)])
def comb_read (a0 : (List (Int × (Int × (Int × Int))))) : Option CT :=
(forL comb_read_b11 (fun x74 => x74) a0 0 []).bind fun v126 =>
(idx v126 (w64 ((List.length v126 : Int) - (1 : Int)))).bind fun v131 =>
some v131
theorem comb_read_ok {a0 : (List (Int × (Int × (Int × Int))))} {r : CT} (h : comb_read a0 = some r) : FnC Try.prog 61 [aD (.slice (.pair tI (.pair tI (.pair tI tI)))) a0] [] (aD .tree r) [] := by
  refine fnC_of_W (B := bodyOf Try.f61) (n := 55) Try.func61 (by kernel_rfl) (by kernel_rfl) (by kernel_rfl) (by kernel_rfl) (by kernel_rfl) ?_
  intro K
  refine W_seq (by kernel_rfl) ?_
  refine W_run 1 [] [0] [] (fr' := [(0, aD (.slice (.pair tI (.pair tI (.pair tI tI)))) a0)]) (L' := []) (obs := []) (by kernel_rfl) (by kernel_rfl) (by kernel_rfl) allP0 ?_
  refine seqQ_norm ?_
  refine W_seq (by kernel_rfl) ?_
  refine W_run 1 [] [0, 3] [] (fr' := [(0, aD (.slice (.pair tI (.pair tI (.pair tI tI)))) a0), (3, .one (.nilS))]) (L' := []) (obs := []) (by kernel_rfl) (by kernel_rfl) (by kernel_rfl) allP0 ?_
  refine seqQ_norm ?_
  refine W_seq (by kernel_rfl) ?_
  refine W_seq (by kernel_rfl) ?_
  refine W_run 3 [] [3, 7, 8, 9] [] (fr' := [(3, .one (.nilS)), (7, aD (.slice (.pair tI (.pair tI (.pair tI tI)))) a0), (8, aI (List.length a0 : Int)), (9, aI (0 : Int))]) (L' := []) (obs := []) (by kernel_rfl) (by kernel_rfl) (by kernel_rfl) allP0 ?_
  refine seqQ_norm ?_
  refine W_block (id := 0) (by kernel_rfl) ?_
  obtain ⟨v126, h127, h⟩ := bind_of h
  refine W_len (t := 7) (u := (.pair tI (.pair tI (.pair tI tI)))) (xs := a0) (by kernel_rfl) (fun h130 => ?_)
  obtain ⟨h128, h129⟩ := forL_iter h130 h127
  refine W_mine 3 47 .tree (by kernel_rfl) ?_
  refine W_weaken [3, 7, 8, 9] [47] (fr' := ((comb_read_s12 a0) ((0 : Int), [])).1) (L' := ((comb_read_s12 a0) ((0 : Int), [])).2) (by kernel_rfl) ?_
  refine W_cutK (W_loop (S := (comb_read_s12 a0)) (J := (exQ (.exit 0) comb_read_s13)) (by kernel_rfl) ?_ h128 _ v126 h129) ?_
  · rintro ⟨i73, x74⟩ s h
    refine W_seq (by kernel_rfl) ?_
    refine W_run 1 [] [3, 7, 8, 9, 10] [47] (fr' := [(3, .one (.slc 47)), (7, aD (.slice (.pair tI (.pair tI (.pair tI tI)))) a0), (8, aI (List.length a0 : Int)), (9, aI i73), (10, aB (decide (i73 < (List.length a0 : Int))))]) (L' := [(47, .seq .tree x74)]) (obs := []) (by kernel_rfl) (by kernel_rfl) (by kernel_rfl) allP0 ?_
    refine seqQ_norm ?_
    refine W_seq (by kernel_rfl) ?_
    refine W_cond (o := .tmp 10) (b := decide (i73 < (List.length a0 : Int))) (by kernel_rfl) (by kernel_rfl) (fun h78 => ?_) (fun h78 => ?_)
    · replace h := stepL_true h78 h
      obtain ⟨v76, _, h77, h, rfl⟩ := h
      refine W_skip [3, 7, 8, 9] [47] (fr' := [(3, .one (.slc 47)), (7, aD (.slice (.pair tI (.pair tI (.pair tI tI)))) a0), (8, aI (List.length a0 : Int)), (9, aI i73)]) (L' := [(47, .seq .tree x74)]) (by kernel_rfl) (by kernel_rfl) ?_
      refine seqQ_norm ?_
      refine W_seq (by kernel_rfl) ?_
      refine W_block (id := 1) (by kernel_rfl) ?_
      refine W_seq (by kernel_rfl) ?_
      refine W_run 4 [(1, .val (.dat (.pair tI (.pair tI (.pair tI tI))) v76)), (5, .typed)] [3, 5, 7, 8, 9] [47, 5] (fr' := [(3, .one (.slc 47)), (5, .one (.ptr 5 0)), (7, aD (.slice (.pair tI (.pair tI (.pair tI tI)))) a0), (8, aI (List.length a0 : Int)), (9, aI i73)]) (L' := [(47, .seq .tree x74), (5, .one (.pair tI (.pair tI (.pair tI tI))) v76)]) (obs := [Idx a0 i73 v76, True]) (by kernel_rfl) (by kernel_rfl) (by kernel_rfl) (allP2 (Idx.of h77) (allP1 trivial)) ?_
      refine seqQ_norm ?_
      refine W_seq (by kernel_rfl) ?_
      refine W_run 5 [] [3, 5, 6, 7, 8, 9] [47, 5, 16] (fr' := [(3, .one (.slc 47)), (5, .one (.ptr 5 0)), (6, .one (.ptr 16 0)), (7, aD (.slice (.pair tI (.pair tI (.pair tI tI)))) a0), (8, aI (List.length a0 : Int)), (9, aI i73)]) (L' := [(47, .seq .tree x74), (5, .one (.pair tI (.pair tI (.pair tI tI))) v76), (16, .one (.pair tI (.pair tI (.pair .tree .tree))) (v76.1, (0 : Int), CT.nil, CT.nil))]) (obs := []) (by kernel_rfl) (by kernel_rfl) (by kernel_rfl) allP0 ?_
      refine seqQ_norm ?_
      refine W_seq (by kernel_rfl) ?_
      obtain ⟨v105, h106, h⟩ := bind_of h
      refine W_cutK (Q' := (exQ .normal (comb_read_s10 a0 i73 x74 v76)) v105) ?_ ?_
      · replace h := h106
        refine W_seq (by kernel_rfl) ?_
        refine W_run 3 [] [3, 5, 6, 7, 8, 9, 19] [47, 5, 16] (fr' := [(3, .one (.slc 47)), (5, .one (.ptr 5 0)), (6, .one (.ptr 16 0)), (7, aD (.slice (.pair tI (.pair tI (.pair tI tI)))) a0), (8, aI (List.length a0 : Int)), (9, aI i73), (19, aB (v76.1 == (3 : Int)))]) (L' := [(47, .seq .tree x74), (5, .one (.pair tI (.pair tI (.pair tI tI))) v76), (16, .one (.pair tI (.pair tI (.pair .tree .tree))) (v76.1, (0 : Int), CT.nil, CT.nil))]) (obs := []) (by kernel_rfl) (by kernel_rfl) (by kernel_rfl) allP0 ?_
        refine seqQ_norm ?_
        refine W_cond (o := .tmp 19) (b := v76.1 == (3 : Int)) (by kernel_rfl) (by kernel_rfl) (fun h104 => ?_) (fun h104 => ?_)
        · replace h := ofT h104 h
          obtain rfl := Option.some.inj h
          refine W_run 6 [] [3, 5, 6, 7, 8, 9] [47, 5, 16] (fr' := [(3, .one (.slc 47)), (5, .one (.ptr 5 0)), (6, .one (.ptr 16 0)), (7, aD (.slice (.pair tI (.pair tI (.pair tI tI)))) a0), (8, aI (List.length a0 : Int)), (9, aI i73)]) (L' := [(47, .seq .tree x74), (5, .one (.pair tI (.pair tI (.pair tI tI))) v76), (16, .one (.pair tI (.pair tI (.pair .tree .tree))) (v76.1, v76.2.2.2, CT.nil, CT.nil))]) (obs := [True]) (by kernel_rfl) (by kernel_rfl) (by kernel_rfl) (allP1 trivial) ?_
          exact exQ_mk (by kernel_rfl) (by kernel_rfl)
        · replace h := ofF h104 h
          obtain rfl := Option.some.inj h
          refine W_skip [3, 5, 6, 7, 8, 9] [47, 5, 16] (fr' := [(3, .one (.slc 47)), (5, .one (.ptr 5 0)), (6, .one (.ptr 16 0)), (7, aD (.slice (.pair tI (.pair tI (.pair tI tI)))) a0), (8, aI (List.length a0 : Int)), (9, aI i73)]) (L' := [(47, .seq .tree x74), (5, .one (.pair tI (.pair tI (.pair tI tI))) v76), (16, .one (.pair tI (.pair tI (.pair .tree .tree))) (v76.1, (0 : Int), CT.nil, CT.nil))]) (by kernel_rfl) (by kernel_rfl) ?_
          exact exQ_mk (by kernel_rfl) (by kernel_rfl)
      · intro e fr L hJ
        obtain ⟨rfl, rfl, rfl⟩ := hJ
        refine LT_keep [3, 5, 6, 7, 8, 9] [47, 5, 16] (fr' := [(3, .one (.slc 47)), (5, .one (.ptr 5 0)), (6, .one (.ptr 16 0)), (7, aD (.slice (.pair tI (.pair tI (.pair tI tI)))) a0), (8, aI (List.length a0 : Int)), (9, aI i73)]) (L' := [(47, .seq .tree x74), (5, .one (.pair tI (.pair tI (.pair tI tI))) v76), (16, .one (.pair tI (.pair tI (.pair .tree .tree))) v105)]) (by kernel_rfl) ?_
        refine seqQ_norm ?_
        refine W_seq (by kernel_rfl) ?_
        obtain ⟨v122, h123, h⟩ := bind_of h
        refine W_cutK (Q' := (exQ .normal (comb_read_s9 a0 i73 x74)) v122) ?_ ?_
        · replace h := h123
          refine W_seq (by kernel_rfl) ?_
          refine W_run 3 [] [3, 5, 6, 7, 8, 9, 27] [47, 5, 16] (fr' := [(3, .one (.slc 47)), (5, .one (.ptr 5 0)), (6, .one (.ptr 16 0)), (7, aD (.slice (.pair tI (.pair tI (.pair tI tI)))) a0), (8, aI (List.length a0 : Int)), (9, aI i73), (27, aB (v76.1 == (4 : Int)))]) (L' := [(47, .seq .tree x74), (5, .one (.pair tI (.pair tI (.pair tI tI))) v76), (16, .one (.pair tI (.pair tI (.pair .tree .tree))) v105)]) (obs := []) (by kernel_rfl) (by kernel_rfl) (by kernel_rfl) allP0 ?_
          refine seqQ_norm ?_
          refine W_cond (o := .tmp 27) (b := v76.1 == (4 : Int)) (by kernel_rfl) (by kernel_rfl) (fun h117 => ?_) (fun h117 => ?_)
          · replace h := ofT h117 h
            obtain ⟨v118, h119, h⟩ := bind_of h
            obtain ⟨v120, h121, h⟩ := bind_of h
            obtain rfl := Option.some.inj h
            refine W_draw3 12 [1] [(13, .val (.dat .tree v118)), (23, .val (.dat .tree v120))] [] [3, 6, 7, 8, 9] [47, 16] (fr' := [(3, .one (.slc 47)), (6, .one (.ptr 16 0)), (7, aD (.slice (.pair tI (.pair tI (.pair tI tI)))) a0), (8, aI (List.length a0 : Int)), (9, aI i73)]) (L' := [(47, .seq .tree x74), (16, .one (.pair tI (.pair tI (.pair .tree .tree))) (v105.1, v105.2.1, v118, v120))]) (out := [(28, .one (.ptr 16 0)), (29, .one (.ptr 16 0)), (30, .one (.slc 47)), (31, .one (.ptr 5 1)), (32, aI v76.2.1), (33, .one (.eptr 47 1 v76.2.1 0)), (34, aD .tree v118), (35, .one (.slc 47)), (36, .one (.ptr 5 2)), (37, aI v76.2.2.1), (38, .one (.eptr 47 1 v76.2.2.1 0)), (39, aD .tree v120)]) (obs := [InR v76.2.1 (List.length x74), Idx x74 v76.2.1 v118, InR v76.2.2.1 (List.length x74), Idx x74 v76.2.2.1 v120]) (obs2 := [True, True]) (calls := []) (by kernel_rfl) (by kernel_rfl) (by kernel_rfl) (by kernel_rfl) (allP2 (InR.of h119) (allP2 (Idx.of h119) (allP2 (InR.of h121) (allP1 (Idx.of h121))))) allC0 (by kernel_rfl) (allP2 trivial (allP1 trivial)) ?_
            exact exQ_mk (by kernel_rfl) (by kernel_rfl)
          · replace h := ofF h117 h
            obtain rfl := Option.some.inj h
            refine W_skip [3, 6, 7, 8, 9] [47, 16] (fr' := [(3, .one (.slc 47)), (6, .one (.ptr 16 0)), (7, aD (.slice (.pair tI (.pair tI (.pair tI tI)))) a0), (8, aI (List.length a0 : Int)), (9, aI i73)]) (L' := [(47, .seq .tree x74), (16, .one (.pair tI (.pair tI (.pair .tree .tree))) v105)]) (by kernel_rfl) (by kernel_rfl) ?_
            exact exQ_mk (by kernel_rfl) (by kernel_rfl)
        · intro e fr L hJ
          obtain ⟨rfl, rfl, rfl⟩ := hJ
          refine LT_keep [3, 6, 7, 8, 9] [47, 16] (fr' := [(3, .one (.slc 47)), (6, .one (.ptr 16 0)), (7, aD (.slice (.pair tI (.pair tI (.pair tI tI)))) a0), (8, aI (List.length a0 : Int)), (9, aI i73)]) (L' := [(47, .seq .tree x74), (16, .one (.pair tI (.pair tI (.pair .tree .tree))) v122)]) (by kernel_rfl) ?_
          refine seqQ_norm ?_
          refine W_region (by kernel_rfl) ?_
          refine WO_run (j := 2) (k := 2) (orcs := []) (kF := [3, 7, 8, 9, 44, 45]) (kL := [16, 47]) (fr' := [(3, .one (.slc 47)), (7, aD (.slice (.pair tI (.pair tI (.pair tI tI)))) a0), (8, aI (List.length a0 : Int)), (9, aI i73), (44, .one (.slc 47)), (45, .one (.ptr 16 0))]) (L' := [(16, .one (.pair tI (.pair tI (.pair .tree .tree))) v122), (47, .seq .tree x74)]) (obs := []) rfl (by kernel_rfl) allP0 ?_
          refine WO_fz 16 (by kernel_rfl) ?_
          obtain ⟨_, h124, h⟩ := bind_of h
          replace h124 := ck_some h124
          refine WO_run (j := 5) (k := 3) (orcs := []) (kF := [3, 7, 8, 9]) (kL := [46, 47]) (fr' := [(3, .one (.slc 47)), (7, aD (.slice (.pair tI (.pair tI (.pair tI tI)))) a0), (8, aI (List.length a0 : Int)), (9, aI i73)]) (L' := [(46, .seq .tree [CT.mk v122]), (47, .seq .tree (x74 ++ [CT.mk v122]))]) (obs := [SmallLen (List.length x74 + List.length [CT.mk v122])]) rfl (by kernel_rfl) (allP1 h124) ?_
          refine WO_fin [3, 7, 8, 9] [47] (fr' := [(3, .one (.slc 47)), (7, aD (.slice (.pair tI (.pair tI (.pair tI tI)))) a0), (8, aI (List.length a0 : Int)), (9, aI i73)]) (L' := [(47, .seq .tree (x74 ++ [CT.mk v122]))]) (by kernel_rfl) (by kernel_rfl) ?_
          refine blockQ_norm ?_
          refine seqQ_norm ?_
          obtain rfl := Option.some.inj h
          refine W_run 2 [] [3, 7, 8, 9] [47] (fr' := [(3, .one (.slc 47)), (7, aD (.slice (.pair tI (.pair tI (.pair tI tI)))) a0), (8, aI (List.length a0 : Int)), (9, aI (w64 (i73 + (1 : Int))))]) (L' := [(47, .seq .tree (x74 ++ [CT.mk v122]))]) (obs := []) (by kernel_rfl) (by kernel_rfl) (by kernel_rfl) allP0 ?_
          exact round_next' (by kernel_rfl) (by kernel_rfl)
    · obtain rfl := stepL_false h78 h
      refine W_exit (id := 0) [3] [47] (fr' := [(3, .one (.slc 47))]) (L' := [(47, .seq .tree x74)]) (by kernel_rfl) (by kernel_rfl) ?_
      refine seqQ_exit ?_
      refine round_exit ?_
      exact exQ_mk (by kernel_rfl) (by kernel_rfl)
  · intro e fr L hJ
    obtain ⟨rfl, rfl, rfl⟩ := hJ
    refine LT_keep [3] [47] (fr' := [(3, .one (.slc 47))]) (L' := [(47, .seq .tree v126)]) (by kernel_rfl) ?_
    refine blockQ_hit ?_
    refine seqQ_norm ?_
    refine W_seq (by kernel_rfl) ?_
    obtain ⟨v131, h132, h⟩ := bind_of h
    refine W_run 7 [(11, .val (.dat .tree v131))] [2] [] (fr' := [(2, aD .tree v131)]) (L' := []) (obs := [InR (w64 ((List.length v126 : Int) - (1 : Int))) (List.length v126), Idx v126 (w64 ((List.length v126 : Int) - (1 : Int))) v131]) (by kernel_rfl) (by kernel_rfl) (by kernel_rfl) (allP2 (InR.of h132) (allP1 (Idx.of h132))) ?_
    refine seqQ_norm ?_
    obtain rfl := Option.some.inj h
    refine W_ret [2] [] (fr' := [(2, aD .tree v131)]) (L' := []) (by kernel_rfl) (by kernel_rfl) ?_
    exact retQ_mk (by kernel_rfl) (by kernel_rfl) (by kernel_rfl)

@[reducible] def comb_Tree_has_s1 (v : Bool) : Fr × LL := ([(4, aB v)], [])
@[reducible] def comb_Tree_has_s2 (v : Bool) : Fr × LL := ([(4, aB v)], [])
def comb_Tree_has_step (rf_comb_Tree_has : CT → Int → Option Bool) (fuel : Nat) (a0 : CT) (a1 : Int) : Option Bool :=
(CT.open a0).bind fun p1 =>
bif p1.1 == (4 : Int) then
(((rf_comb_Tree_has p1.2.2.1 a1).bind fun r14 =>
bif r14 then
(some true)
else
((rf_comb_Tree_has p1.2.2.2 a1).bind fun r17 =>
some r17)).bind fun v19 =>
some v19)
else
((bif p1.1 == (3 : Int) then
(some (p1.2.1 == a1))
else
(some false)).bind fun v24 =>
some v24)
def comb_Tree_has : Nat → CT → Int → Option Bool
  | 0 => fun _ _ => none
  | fuel + 1 => fun a0 a1 => comb_Tree_has_step (comb_Tree_has fuel) fuel a0 a1
theorem comb_Tree_has_step_ok {rf_comb_Tree_has : CT → Int → Option Bool} (ih_comb_Tree_has : ∀ {a0 : CT} {a1 : Int} {r : Bool}, rf_comb_Tree_has a0 a1 = some r → FnC Try.prog 86 [aD .tree a0, aI a1] [] (aB r) []) {fuel : Nat} {a0 : CT} {a1 : Int} {r : Bool} (h : comb_Tree_has_step rf_comb_Tree_has fuel a0 a1 = some r) : FnC Try.prog 86 [aD .tree a0, aI a1] [] (aB r) [] := by
  refine fnC_of_W (B := bodyOf Try.f86) (n := 37) Try.func86 (by kernel_rfl) (by kernel_rfl) (by kernel_rfl) (by kernel_rfl) (by kernel_rfl) ?_
  intro K
  refine W_seq (by kernel_rfl) ?_
  refine W_run 1 [] [0, 1] [] (fr' := [(0, aD .tree a0), (1, aI a1)]) (L' := []) (obs := []) (by kernel_rfl) (by kernel_rfl) (by kernel_rfl) allP0 ?_
  refine seqQ_norm ?_
  refine W_seq (by kernel_rfl) ?_
  refine W_seq (by kernel_rfl) ?_
  obtain ⟨p1, h2, h⟩ := bind_of h
  refine W_run 5 [(3, .val (.dat (.pair tI (.pair tI (.pair .tree .tree))) p1))] [0, 1, 9] [] (fr' := [(0, aD .tree a0), (1, aI a1), (9, aB (p1.1 == (4 : Int)))]) (L' := []) (obs := [CT.open a0 = some p1]) (by kernel_rfl) (by kernel_rfl) (by kernel_rfl) (allP1 h2) ?_
  refine seqQ_norm ?_
  refine W_cond (o := .tmp 9) (b := p1.1 == (4 : Int)) (by kernel_rfl) (by kernel_rfl) (fun h3 => ?_) (fun h3 => ?_)
  · replace h := ofT h3 h
    refine W_seq (by kernel_rfl) ?_
    obtain ⟨v19, h20, h⟩ := bind_of h
    refine W_cutK (Q' := (exQ .normal comb_Tree_has_s1) v19) ?_ ?_
    · replace h := h20
      refine W_region (by kernel_rfl) ?_
      refine WO_run (j := 5) (k := 5) (orcs := [(3, .val (.dat (.pair tI (.pair tI (.pair .tree .tree))) p1))]) (kF := [0, 1, 13, 14]) (kL := []) (fr' := [(0, aD .tree a0), (1, aI a1), (13, aD .tree p1.2.2.1), (14, aI a1)]) (L' := []) (obs := [CT.open a0 = some p1]) rfl (by kernel_rfl) (allP1 h2) ?_
      obtain ⟨r14, h15, h⟩ := bind_of h
      refine WO_call0 (us := [none, none]) (d := 15) (p := True) (j := 6) rfl ⟨by kernel_rfl, by kernel_rfl, by kernel_rfl⟩ trivial (ih_comb_Tree_has h15) (by kernel_rfl) ?_
      refine WO_run (j := 7) (k := 1) (orcs := []) (kF := [0, 1, 16]) (kL := []) (fr' := [(0, aD .tree a0), (1, aI a1), (16, aB r14)]) (L' := []) (obs := []) rfl (by kernel_rfl) allP0 ?_
      rcases Bool.eq_false_or_eq_true (r14) with h16 | h16
      · replace h := ofT h16 h
        refine WO_run (j := 15) (k := 8) (orcs := [(14, .known true), (16, .known true), (18, .known true), (20, .known true), (22, .known true), (24, .known true), (27, .val (.dat .bool true))]) (kF := [4]) (kL := []) (fr' := [(4, aB true)]) (L' := []) (obs := [(r14 = true), (r14 = true), (r14 = true), (r14 = true), (r14 = true), (r14 = true), (r14 = true)]) rfl (by kernel_rfl) (allP2 h16 (allP2 h16 (allP2 h16 (allP2 h16 (allP2 h16 (allP2 h16 (allP1 h16))))))) ?_
        obtain rfl := Option.some.inj h
        refine WO_fin [4] [] (fr' := [(4, aB true)]) (L' := []) (by kernel_rfl) (by kernel_rfl) ?_
        exact exQ_mk (by kernel_rfl) (by kernel_rfl)
      · replace h := ofF h16 h
        refine WO_run (j := 12) (k := 5) (orcs := [(14, .known false), (16, .known false), (17, .val (.dat (.pair tI (.pair tI (.pair .tree .tree))) p1)), (18, .known false), (20, .known false), (22, .known false)]) (kF := [16, 20, 21]) (kL := []) (fr' := [(16, aB r14), (20, aD .tree p1.2.2.2), (21, aI a1)]) (L' := []) (obs := [(r14 = false), (r14 = false), CT.open a0 = some p1, (r14 = false), (r14 = false), (r14 = false)]) rfl (by kernel_rfl) (allP2 h16 (allP2 h16 (allP2 h2 (allP2 h16 (allP2 h16 (allP1 h16)))))) ?_
        obtain ⟨r17, h18, h⟩ := bind_of h
        refine WO_call0 (us := [none, none]) (d := 22) (p := (r14 = false)) (j := 13) rfl ⟨by kernel_rfl, by kernel_rfl, by kernel_rfl⟩ h16 (ih_comb_Tree_has h18) (by kernel_rfl) ?_
        refine WO_run (j := 15) (k := 2) (orcs := [(27, .val (.dat .bool false))]) (kF := [4]) (kL := []) (fr' := [(4, aB r17)]) (L' := []) (obs := [(r14 = false)]) rfl (by kernel_rfl) (allP1 h16) ?_
        obtain rfl := Option.some.inj h
        refine WO_fin [4] [] (fr' := [(4, aB r17)]) (L' := []) (by kernel_rfl) (by kernel_rfl) ?_
        exact exQ_mk (by kernel_rfl) (by kernel_rfl)
    · intro e fr L hJ
      obtain ⟨rfl, rfl, rfl⟩ := hJ
      refine LT_keep [4] [] (fr' := [(4, aB v19)]) (L' := []) (by kernel_rfl) ?_
      refine seqQ_norm ?_
      obtain rfl := Option.some.inj h
      refine W_ret [4] [] (fr' := [(4, aB v19)]) (L' := []) (by kernel_rfl) (by kernel_rfl) ?_
      refine seqQ_ret ?_
      exact retQ_mk (by kernel_rfl) (by kernel_rfl) (by kernel_rfl)
  · replace h := ofF h3 h
    refine W_skip [0, 1] [] (fr' := [(0, aD .tree a0), (1, aI a1)]) (L' := []) (by kernel_rfl) (by kernel_rfl) ?_
    refine seqQ_norm ?_
    refine W_seq (by kernel_rfl) ?_
    obtain ⟨v24, h25, h⟩ := bind_of h
    refine W_cutK (Q' := (exQ .normal comb_Tree_has_s2) v24) ?_ ?_
    · replace h := h25
      refine W_region (by kernel_rfl) ?_
      refine WO_run (j := 6) (k := 6) (orcs := [(3, .val (.dat (.pair tI (.pair tI (.pair .tree .tree))) p1))]) (kF := [0, 1, 29]) (kL := []) (fr' := [(0, aD .tree a0), (1, aI a1), (29, aB (p1.1 == (3 : Int)))]) (L' := []) (obs := [CT.open a0 = some p1]) rfl (by kernel_rfl) (allP1 h2) ?_
      rcases Bool.eq_false_or_eq_true (p1.1 == (3 : Int)) with h23 | h23
      · replace h := ofT h23 h
        refine WO_run (j := 14) (k := 8) (orcs := [(12, .known true), (14, .known true), (15, .val (.dat (.pair tI (.pair tI (.pair .tree .tree))) p1)), (16, .known true), (18, .known true), (20, .known true), (22, .known true), (25, .val (.dat .bool true))]) (kF := [4]) (kL := []) (fr' := [(4, aB (p1.2.1 == a1))]) (L' := []) (obs := [((p1.1 == (3 : Int)) = true), ((p1.1 == (3 : Int)) = true), CT.open a0 = some p1, ((p1.1 == (3 : Int)) = true), ((p1.1 == (3 : Int)) = true), ((p1.1 == (3 : Int)) = true), ((p1.1 == (3 : Int)) = true), ((p1.1 == (3 : Int)) = true)]) rfl (by kernel_rfl) (allP2 h23 (allP2 h23 (allP2 h2 (allP2 h23 (allP2 h23 (allP2 h23 (allP2 h23 (allP1 h23)))))))) ?_
        obtain rfl := Option.some.inj h
        refine WO_fin [4] [] (fr' := [(4, aB (p1.2.1 == a1))]) (L' := []) (by kernel_rfl) (by kernel_rfl) ?_
        exact exQ_mk (by kernel_rfl) (by kernel_rfl)
      · replace h := ofF h23 h
        refine WO_run (j := 14) (k := 8) (orcs := [(12, .known false), (14, .known false), (16, .known false), (18, .known false), (20, .known false), (22, .known false), (25, .val (.dat .bool false))]) (kF := [4]) (kL := []) (fr' := [(4, aB false)]) (L' := []) (obs := [((p1.1 == (3 : Int)) = false), ((p1.1 == (3 : Int)) = false), ((p1.1 == (3 : Int)) = false), ((p1.1 == (3 : Int)) = false), ((p1.1 == (3 : Int)) = false), ((p1.1 == (3 : Int)) = false), ((p1.1 == (3 : Int)) = false)]) rfl (by kernel_rfl) (allP2 h23 (allP2 h23 (allP2 h23 (allP2 h23 (allP2 h23 (allP2 h23 (allP1 h23))))))) ?_
        obtain rfl := Option.some.inj h
        refine WO_fin [4] [] (fr' := [(4, aB false)]) (L' := []) (by kernel_rfl) (by kernel_rfl) ?_
        exact exQ_mk (by kernel_rfl) (by kernel_rfl)
    · intro e fr L hJ
      obtain ⟨rfl, rfl, rfl⟩ := hJ
      refine LT_keep [4] [] (fr' := [(4, aB v24)]) (L' := []) (by kernel_rfl) ?_
      refine seqQ_norm ?_
      obtain rfl := Option.some.inj h
      refine W_ret [4] [] (fr' := [(4, aB v24)]) (L' := []) (by kernel_rfl) (by kernel_rfl) ?_
      exact retQ_mk (by kernel_rfl) (by kernel_rfl) (by kernel_rfl)
theorem comb_Tree_has_ok : ∀ {fuel : Nat} {a0 : CT} {a1 : Int} {r : Bool}, comb_Tree_has fuel a0 a1 = some r → FnC Try.prog 86 [aD .tree a0, aI a1] [] (aB r) [] := by
  intro fuel
  induction fuel with
  | zero => intros a0 a1 r h; cases h
  | succ fuel ih => intros a0 a1 r h; exact comb_Tree_has_step_ok (fun h => ih h) (show comb_Tree_has_step (comb_Tree_has fuel) fuel a0 a1 = some r from h)

def comb_put (a0 : CT) (a1 : CT) : Option CT :=
some (CT.mk ((4 : Int), (0 : Int), a0, a1))
theorem comb_put_ok {a0 : CT} {a1 : CT} {r : CT} (h : comb_put a0 a1 = some r) : FnC Try.prog 85 [aD .tree a0, aD .tree a1] [] (aD .tree r) [] := by
  refine fnC_of_W (B := bodyOf Try.f85) (n := 9) Try.func85 (by kernel_rfl) (by kernel_rfl) (by kernel_rfl) (by kernel_rfl) (by kernel_rfl) ?_
  intro K
  refine W_seq (by kernel_rfl) ?_
  refine W_run 1 [] [0, 1] [] (fr' := [(0, aD .tree a0), (1, aD .tree a1)]) (L' := []) (obs := []) (by kernel_rfl) (by kernel_rfl) (by kernel_rfl) allP0 ?_
  refine seqQ_norm ?_
  refine W_seq (by kernel_rfl) ?_
  refine W_run 5 [] [4] [8] (fr' := [(4, .one (.ptr 8 0))]) (L' := [(8, .one (.pair tI (.pair tI (.pair .tree .tree))) ((4 : Int), (0 : Int), a0, a1))]) (obs := []) (by kernel_rfl) (by kernel_rfl) (by kernel_rfl) allP0 ?_
  refine seqQ_norm ?_
  obtain rfl := Option.some.inj h
  refine W_fz 8 (by kernel_rfl) ?_
  refine W_cnv 4 .tree (by kernel_rfl) ?_
  refine W_ret [4] [] (fr' := [(4, aD .tree (CT.mk ((4 : Int), (0 : Int), a0, a1)))]) (L' := []) (by kernel_rfl) (by kernel_rfl) ?_
  exact retQ_mk (by kernel_rfl) (by kernel_rfl) (by kernel_rfl)

def comb_Tree_out_step (rf_comb_Tree_out : CT → Int → Option CT) (fuel : Nat) (a0 : CT) (a1 : Int) : Option CT :=
(comb_Tree_has fuel a0 a1).bind fun r1 =>
bif !r1 then
((comb_put (CT.mk ((2 : Int), (0 : Int), CT.nil, CT.nil)) a0).bind fun r4 =>
some r4)
else
((CT.open a0).bind fun p6 =>
bif p6.1 == (3 : Int) then
((comb_put (CT.mk ((1 : Int), (0 : Int), CT.nil, CT.nil)) (CT.mk ((2 : Int), (0 : Int), CT.nil, CT.nil))).bind fun r9 =>
(comb_put r9 (CT.mk ((2 : Int), (0 : Int), CT.nil, CT.nil))).bind fun r11 =>
some r11)
else
((rf_comb_Tree_out p6.2.2.1 a1).bind fun r13 =>
(comb_put (CT.mk ((1 : Int), (0 : Int), CT.nil, CT.nil)) r13).bind fun r15 =>
(rf_comb_Tree_out p6.2.2.2 a1).bind fun r17 =>
(comb_put r15 r17).bind fun r19 =>
some r19))
def comb_Tree_out : Nat → CT → Int → Option CT
  | 0 => fun _ _ => none
  | fuel + 1 => fun a0 a1 => comb_Tree_out_step (comb_Tree_out fuel) fuel a0 a1
theorem comb_Tree_out_step_ok {rf_comb_Tree_out : CT → Int → Option CT} (ih_comb_Tree_out : ∀ {a0 : CT} {a1 : Int} {r : CT}, rf_comb_Tree_out a0 a1 = some r → FnC Try.prog 68 [aD .tree a0, aI a1] [] (aD .tree r) []) {fuel : Nat} {a0 : CT} {a1 : Int} {r : CT} (h : comb_Tree_out_step rf_comb_Tree_out fuel a0 a1 = some r) : FnC Try.prog 68 [aD .tree a0, aI a1] [] (aD .tree r) [] := by
  refine fnC_of_W (B := bodyOf Try.f68) (n := 45) Try.func68 (by kernel_rfl) (by kernel_rfl) (by kernel_rfl) (by kernel_rfl) (by kernel_rfl) ?_
  intro K
  refine W_seq (by kernel_rfl) ?_
  refine W_run 1 [] [0, 1] [] (fr' := [(0, aD .tree a0), (1, aI a1)]) (L' := []) (obs := []) (by kernel_rfl) (by kernel_rfl) (by kernel_rfl) allP0 ?_
  refine seqQ_norm ?_
  refine W_seq (by kernel_rfl) ?_
  refine W_run 6 [] [0, 1, 5, 6] [8, 10] (fr' := [(0, aD .tree a0), (1, aI a1), (5, .one (.ptr 8 0)), (6, .one (.ptr 10 0))]) (L' := [(8, .one (.pair tI (.pair tI (.pair .tree .tree))) ((1 : Int), (0 : Int), CT.nil, CT.nil)), (10, .one (.pair tI (.pair tI (.pair .tree .tree))) ((2 : Int), (0 : Int), CT.nil, CT.nil))]) (obs := []) (by kernel_rfl) (by kernel_rfl) (by kernel_rfl) allP0 ?_
  refine seqQ_norm ?_
  refine W_seq (by kernel_rfl) ?_
  refine W_block (id := 0) (by kernel_rfl) ?_
  refine W_seq (by kernel_rfl) ?_
  refine W_region (by kernel_rfl) ?_
  refine WO_run (j := 2) (k := 2) (orcs := []) (kF := [0, 1, 5, 6, 12, 13]) (kL := [8, 10]) (fr' := [(0, aD .tree a0), (1, aI a1), (5, .one (.ptr 8 0)), (6, .one (.ptr 10 0)), (12, aD .tree a0), (13, aI a1)]) (L' := [(8, .one (.pair tI (.pair tI (.pair .tree .tree))) ((1 : Int), (0 : Int), CT.nil, CT.nil)), (10, .one (.pair tI (.pair tI (.pair .tree .tree))) ((2 : Int), (0 : Int), CT.nil, CT.nil))]) (obs := []) rfl (by kernel_rfl) allP0 ?_
  obtain ⟨r1, h2, h⟩ := bind_of h
  refine WO_call0 (us := [none, none]) (d := 14) (p := True) (j := 3) rfl ⟨by kernel_rfl, by kernel_rfl, by kernel_rfl⟩ trivial (comb_Tree_has_ok h2) (by kernel_rfl) ?_
  refine WO_run (j := 5) (k := 2) (orcs := []) (kF := [0, 1, 5, 6, 11]) (kL := [8, 10]) (fr' := [(0, aD .tree a0), (1, aI a1), (5, .one (.ptr 8 0)), (6, .one (.ptr 10 0)), (11, aB (!r1))]) (L' := [(8, .one (.pair tI (.pair tI (.pair .tree .tree))) ((1 : Int), (0 : Int), CT.nil, CT.nil)), (10, .one (.pair tI (.pair tI (.pair .tree .tree))) ((2 : Int), (0 : Int), CT.nil, CT.nil))]) (obs := []) rfl (by kernel_rfl) allP0 ?_
  refine WO_fin [0, 1, 5, 6, 11] [8, 10] (fr' := [(0, aD .tree a0), (1, aI a1), (5, .one (.ptr 8 0)), (6, .one (.ptr 10 0)), (11, aB (!r1))]) (L' := [(8, .one (.pair tI (.pair tI (.pair .tree .tree))) ((1 : Int), (0 : Int), CT.nil, CT.nil)), (10, .one (.pair tI (.pair tI (.pair .tree .tree))) ((2 : Int), (0 : Int), CT.nil, CT.nil))]) (by kernel_rfl) (by kernel_rfl) ?_
  refine seqQ_norm ?_
  refine W_cond (o := .tmp 11) (b := !r1) (by kernel_rfl) (by kernel_rfl) (fun h3 => ?_) (fun h3 => ?_)
  · replace h := ofT h3 h
    refine W_seq (by kernel_rfl) ?_
    refine W_region (by kernel_rfl) ?_
    refine WO_run (j := 2) (k := 2) (orcs := []) (kF := [16, 17]) (kL := [8, 10]) (fr' := [(16, .one (.ptr 10 0)), (17, aD .tree a0)]) (L' := [(8, .one (.pair tI (.pair tI (.pair .tree .tree))) ((1 : Int), (0 : Int), CT.nil, CT.nil)), (10, .one (.pair tI (.pair tI (.pair .tree .tree))) ((2 : Int), (0 : Int), CT.nil, CT.nil))]) (obs := []) rfl (by kernel_rfl) allP0 ?_
    obtain ⟨r4, h5, h⟩ := bind_of h
    refine WO_fz 10 (by kernel_rfl) ?_
    refine WO_call0 (us := [some .tree, none]) (d := 18) (p := True) (j := 3) rfl ⟨by kernel_rfl, by kernel_rfl, by kernel_rfl⟩ trivial (comb_put_ok h5) (by kernel_rfl) ?_
    refine WO_run (j := 4) (k := 1) (orcs := []) (kF := [4]) (kL := [8]) (fr' := [(4, aD .tree r4)]) (L' := [(8, .one (.pair tI (.pair tI (.pair .tree .tree))) ((1 : Int), (0 : Int), CT.nil, CT.nil))]) (obs := []) rfl (by kernel_rfl) allP0 ?_
    refine WO_fin [4] [] (fr' := [(4, aD .tree r4)]) (L' := []) (by kernel_rfl) (by kernel_rfl) ?_
    refine seqQ_norm ?_
    obtain rfl := Option.some.inj h
    refine W_ret [4] [] (fr' := [(4, aD .tree r4)]) (L' := []) (by kernel_rfl) (by kernel_rfl) ?_
    refine blockQ_ret ?_
    refine seqQ_ret ?_
    exact retQ_mk (by kernel_rfl) (by kernel_rfl) (by kernel_rfl)
  · replace h := ofF h3 h
    refine W_seq (by kernel_rfl) ?_
    obtain ⟨p6, h7, h⟩ := bind_of h
    refine W_run 6 [(3, .val (.dat (.pair tI (.pair tI (.pair .tree .tree))) p6))] [0, 1, 5, 6, 19] [8, 10] (fr' := [(0, aD .tree a0), (1, aI a1), (5, .one (.ptr 8 0)), (6, .one (.ptr 10 0)), (19, aB (p6.1 == (3 : Int)))]) (L' := [(8, .one (.pair tI (.pair tI (.pair .tree .tree))) ((1 : Int), (0 : Int), CT.nil, CT.nil)), (10, .one (.pair tI (.pair tI (.pair .tree .tree))) ((2 : Int), (0 : Int), CT.nil, CT.nil))]) (obs := [CT.open a0 = some p6]) (by kernel_rfl) (by kernel_rfl) (by kernel_rfl) (allP1 h7) ?_
    refine seqQ_norm ?_
    refine W_cond (o := .tmp 19) (b := p6.1 == (3 : Int)) (by kernel_rfl) (by kernel_rfl) (fun h8 => ?_) (fun h8 => ?_)
    · replace h := ofT h8 h
      refine W_seq (by kernel_rfl) ?_
      refine W_region (by kernel_rfl) ?_
      refine WO_run (j := 2) (k := 2) (orcs := []) (kF := [6, 25, 26]) (kL := [8, 10]) (fr' := [(6, .one (.ptr 10 0)), (25, .one (.ptr 8 0)), (26, .one (.ptr 10 0))]) (L' := [(8, .one (.pair tI (.pair tI (.pair .tree .tree))) ((1 : Int), (0 : Int), CT.nil, CT.nil)), (10, .one (.pair tI (.pair tI (.pair .tree .tree))) ((2 : Int), (0 : Int), CT.nil, CT.nil))]) (obs := []) rfl (by kernel_rfl) allP0 ?_
      obtain ⟨r9, h10, h⟩ := bind_of h
      refine WO_fz 8 (by kernel_rfl) ?_
      refine WO_fz 10 (by kernel_rfl) ?_
      refine WO_call0 (us := [some .tree, some .tree]) (d := 27) (p := True) (j := 3) rfl ⟨by kernel_rfl, by kernel_rfl, by kernel_rfl⟩ trivial (comb_put_ok h10) (by kernel_rfl) ?_
      refine WO_run (j := 4) (k := 1) (orcs := []) (kF := [27, 28]) (kL := []) (fr' := [(27, aD .tree r9), (28, .one (.dptr (.pair tI (.pair tI (.pair .tree .tree))) ((2 : Int), (0 : Int), CT.nil, CT.nil)))]) (L' := []) (obs := []) rfl (by kernel_rfl) allP0 ?_
      obtain ⟨r11, h12, h⟩ := bind_of h
      refine WO_call0 (us := [none, some .tree]) (d := 29) (p := True) (j := 5) rfl ⟨by kernel_rfl, by kernel_rfl, by kernel_rfl⟩ trivial (comb_put_ok h12) (by kernel_rfl) ?_
      refine WO_run (j := 6) (k := 1) (orcs := []) (kF := [4]) (kL := []) (fr' := [(4, aD .tree r11)]) (L' := []) (obs := []) rfl (by kernel_rfl) allP0 ?_
      refine WO_fin [4] [] (fr' := [(4, aD .tree r11)]) (L' := []) (by kernel_rfl) (by kernel_rfl) ?_
      refine seqQ_norm ?_
      obtain rfl := Option.some.inj h
      refine W_ret [4] [] (fr' := [(4, aD .tree r11)]) (L' := []) (by kernel_rfl) (by kernel_rfl) ?_
      refine blockQ_ret ?_
      refine seqQ_ret ?_
      exact retQ_mk (by kernel_rfl) (by kernel_rfl) (by kernel_rfl)
    · replace h := ofF h8 h
      refine W_skip [0, 1, 5] [8] (fr' := [(0, aD .tree a0), (1, aI a1), (5, .one (.ptr 8 0))]) (L' := [(8, .one (.pair tI (.pair tI (.pair .tree .tree))) ((1 : Int), (0 : Int), CT.nil, CT.nil))]) (by kernel_rfl) (by kernel_rfl) ?_
      refine blockQ_norm ?_
      refine seqQ_norm ?_
      refine W_seq (by kernel_rfl) ?_
      refine W_fz 8 (by kernel_rfl) ?_
      obtain ⟨r13, h14, h⟩ := bind_of h
      obtain ⟨r15, h16, h⟩ := bind_of h
      obtain ⟨r17, h18, h⟩ := bind_of h
      obtain ⟨r19, h20, h⟩ := bind_of h
      refine W_draw2 15 [(5, .val (.dat (.pair tI (.pair tI (.pair .tree .tree))) p6)), (19, .val (.dat (.pair tI (.pair tI (.pair .tree .tree))) p6))] [(6, [none, none], aD .tree r13), (7, [some .tree, none], aD .tree r15), (13, [none, none], aD .tree r17), (14, [none, none], aD .tree r19)] [4] [] (fr' := [(4, aD .tree r19)]) (L' := []) (out := [(30, .one (.dptr (.pair tI (.pair tI (.pair .tree .tree))) ((1 : Int), (0 : Int), CT.nil, CT.nil))), (31, aD .tree a0), (32, .one (.dptr (.pair tI (.pair tI (.pair .tree .tree))) p6)), (33, .one (.dptr .tree p6.2.2.1)), (34, aD .tree p6.2.2.1), (35, aI a1), (36, aD .tree r13), (37, aD .tree r15), (38, aD .tree a0), (39, .one (.dptr (.pair tI (.pair tI (.pair .tree .tree))) p6)), (40, .one (.dptr .tree p6.2.2.2)), (41, aD .tree p6.2.2.2), (42, aI a1), (43, aD .tree r17), (44, aD .tree r19)]) (obs := [CT.open a0 = some p6, True, True, CT.open a0 = some p6, True, True]) (obs2 := []) (calls := [(68, [aD .tree p6.2.2.1, aI a1], aD .tree r13), (85, [aD .tree (CT.mk ((1 : Int), (0 : Int), CT.nil, CT.nil)), aD .tree r13], aD .tree r15), (68, [aD .tree p6.2.2.2, aI a1], aD .tree r17), (85, [aD .tree r15, aD .tree r17], aD .tree r19)]) (by kernel_rfl) (by kernel_rfl) (by kernel_rfl) (by kernel_rfl) (allP2 h7 (allP2 trivial (allP2 trivial (allP2 h7 (allP2 trivial (allP1 trivial)))))) (allC1 (by kernel_rfl) (ih_comb_Tree_out h14) (by kernel_rfl) (allC1 (by kernel_rfl) (comb_put_ok h16) (by kernel_rfl) (allC1 (by kernel_rfl) (ih_comb_Tree_out h18) (by kernel_rfl) (allC1 (by kernel_rfl) (comb_put_ok h20) (by kernel_rfl) allC0)))) (by kernel_rfl) allP0 ?_
      refine seqQ_norm ?_
      obtain rfl := Option.some.inj h
      refine W_ret [4] [] (fr' := [(4, aD .tree r19)]) (L' := []) (by kernel_rfl) (by kernel_rfl) ?_
      exact retQ_mk (by kernel_rfl) (by kernel_rfl) (by kernel_rfl)
theorem comb_Tree_out_ok : ∀ {fuel : Nat} {a0 : CT} {a1 : Int} {r : CT}, comb_Tree_out fuel a0 a1 = some r → FnC Try.prog 68 [aD .tree a0, aI a1] [] (aD .tree r) [] := by
  intro fuel
  induction fuel with
  | zero => intros a0 a1 r h; cases h
  | succ fuel ih => intros a0 a1 r h; exact comb_Tree_out_step_ok (fun h => ih h) (show comb_Tree_out_step (comb_Tree_out fuel) fuel a0 a1 = some r from h)

def comb_Tree_size_step (rf_comb_Tree_size : CT → Option Int) (fuel : Nat) (a0 : CT) : Option Int :=
(CT.open a0).bind fun p1 =>
bif p1.1 != (4 : Int) then
(some (1 : Int))
else
((rf_comb_Tree_size p1.2.2.1).bind fun r4 =>
(rf_comb_Tree_size p1.2.2.2).bind fun r6 =>
some (w64 ((w64 ((1 : Int) + r4)) + r6)))
def comb_Tree_size : Nat → CT → Option Int
  | 0 => fun _ => none
  | fuel + 1 => fun a0 => comb_Tree_size_step (comb_Tree_size fuel) fuel a0
theorem comb_Tree_size_step_ok {rf_comb_Tree_size : CT → Option Int} (ih_comb_Tree_size : ∀ {a0 : CT} {r : Int}, rf_comb_Tree_size a0 = some r → FnC Try.prog 66 [aD .tree a0] [] (aI r) []) {fuel : Nat} {a0 : CT} {r : Int} (h : comb_Tree_size_step rf_comb_Tree_size fuel a0 = some r) : FnC Try.prog 66 [aD .tree a0] [] (aI r) [] := by
  refine fnC_of_W (B := bodyOf Try.f66) (n := 20) Try.func66 (by kernel_rfl) (by kernel_rfl) (by kernel_rfl) (by kernel_rfl) (by kernel_rfl) ?_
  intro K
  refine W_seq (by kernel_rfl) ?_
  refine W_run 1 [] [0] [] (fr' := [(0, aD .tree a0)]) (L' := []) (obs := []) (by kernel_rfl) (by kernel_rfl) (by kernel_rfl) allP0 ?_
  refine seqQ_norm ?_
  refine W_seq (by kernel_rfl) ?_
  refine W_seq (by kernel_rfl) ?_
  obtain ⟨p1, h2, h⟩ := bind_of h
  refine W_run 5 [(3, .val (.dat (.pair tI (.pair tI (.pair .tree .tree))) p1))] [0, 7] [] (fr' := [(0, aD .tree a0), (7, aB (p1.1 != (4 : Int)))]) (L' := []) (obs := [CT.open a0 = some p1]) (by kernel_rfl) (by kernel_rfl) (by kernel_rfl) (allP1 h2) ?_
  refine seqQ_norm ?_
  refine W_cond (o := .tmp 7) (b := p1.1 != (4 : Int)) (by kernel_rfl) (by kernel_rfl) (fun h3 => ?_) (fun h3 => ?_)
  · replace h := ofT h3 h
    refine W_seq (by kernel_rfl) ?_
    refine W_run 1 [] [2] [] (fr' := [(2, aI (1 : Int))]) (L' := []) (obs := []) (by kernel_rfl) (by kernel_rfl) (by kernel_rfl) allP0 ?_
    refine seqQ_norm ?_
    obtain rfl := Option.some.inj h
    refine W_ret [2] [] (fr' := [(2, aI (1 : Int))]) (L' := []) (by kernel_rfl) (by kernel_rfl) ?_
    refine seqQ_ret ?_
    exact retQ_mk (by kernel_rfl) (by kernel_rfl) (by kernel_rfl)
  · replace h := ofF h3 h
    refine W_skip [0] [] (fr' := [(0, aD .tree a0)]) (L' := []) (by kernel_rfl) (by kernel_rfl) ?_
    refine seqQ_norm ?_
    refine W_seq (by kernel_rfl) ?_
    obtain ⟨r4, h5, h⟩ := bind_of h
    obtain ⟨r6, h7, h⟩ := bind_of h
    refine W_draw2 12 [(3, .val (.dat (.pair tI (.pair tI (.pair .tree .tree))) p1)), (15, .val (.dat (.pair tI (.pair tI (.pair .tree .tree))) p1))] [(4, [none], aI r4), (10, [none], aI r6)] [2] [] (fr' := [(2, aI (w64 ((w64 ((1 : Int) + r4)) + r6)))]) (L' := []) (out := [(8, aD .tree a0), (9, .one (.dptr (.pair tI (.pair tI (.pair .tree .tree))) p1)), (10, .one (.dptr .tree p1.2.2.1)), (11, aD .tree p1.2.2.1), (12, aI r4), (13, aI (w64 ((1 : Int) + r4))), (14, aD .tree a0), (15, .one (.dptr (.pair tI (.pair tI (.pair .tree .tree))) p1)), (16, .one (.dptr .tree p1.2.2.2)), (17, aD .tree p1.2.2.2), (18, aI r6), (19, aI (w64 ((w64 ((1 : Int) + r4)) + r6)))]) (obs := [CT.open a0 = some p1, True, CT.open a0 = some p1, True]) (obs2 := []) (calls := [(66, [aD .tree p1.2.2.1], aI r4), (66, [aD .tree p1.2.2.2], aI r6)]) (by kernel_rfl) (by kernel_rfl) (by kernel_rfl) (by kernel_rfl) (allP2 h2 (allP2 trivial (allP2 h2 (allP1 trivial)))) (allC1 (by kernel_rfl) (ih_comb_Tree_size h5) (by kernel_rfl) (allC1 (by kernel_rfl) (ih_comb_Tree_size h7) (by kernel_rfl) allC0)) (by kernel_rfl) allP0 ?_
    refine seqQ_norm ?_
    obtain rfl := Option.some.inj h
    refine W_ret [2] [] (fr' := [(2, aI (w64 ((w64 ((1 : Int) + r4)) + r6)))]) (L' := []) (by kernel_rfl) (by kernel_rfl) ?_
    exact retQ_mk (by kernel_rfl) (by kernel_rfl) (by kernel_rfl)
theorem comb_Tree_size_ok : ∀ {fuel : Nat} {a0 : CT} {r : Int}, comb_Tree_size fuel a0 = some r → FnC Try.prog 66 [aD .tree a0] [] (aI r) [] := by
  intro fuel
  induction fuel with
  | zero => intros a0 r h; cases h
  | succ fuel ih => intros a0 r h; exact comb_Tree_size_step_ok (fun h => ih h) (show comb_Tree_size_step (comb_Tree_size fuel) fuel a0 = some r from h)

def comb_Tree_write_i4_step (rf_comb_Tree_write_i4 : CT → (List (Int × (Int × (Int × Int)))) → Option ((List (Int × (Int × (Int × Int)))) × (List (Int × (Int × (Int × Int)))))) (fuel : Nat) (a0 : CT) (c0 : (List (Int × (Int × (Int × Int))))) : Option ((List (Int × (Int × (Int × Int)))) × (List (Int × (Int × (Int × Int))))) :=
(CT.open a0).bind fun p1 =>
bif p1.1 != (4 : Int) then
((ck ((List.length c0 : Int) + 1 ≤ 4294967296)).bind fun _ =>
some (c0 ++ [(p1.1, (0 : Int), (0 : Int), p1.2.1)], c0 ++ [(p1.1, (0 : Int), (0 : Int), p1.2.1)]))
else
((rf_comb_Tree_write_i4 p1.2.2.1 c0).bind fun r5 =>
(rf_comb_Tree_write_i4 p1.2.2.2 r5.2).bind fun r7 =>
(ck ((List.length r7.2 : Int) + 1 ≤ 4294967296)).bind fun _ =>
some (r7.2 ++ [((4 : Int), w64 ((List.length r5.2 : Int) - (1 : Int)), w64 ((List.length r7.2 : Int) - (1 : Int)), (0 : Int))], r7.2 ++ [((4 : Int), w64 ((List.length r5.2 : Int) - (1 : Int)), w64 ((List.length r7.2 : Int) - (1 : Int)), (0 : Int))]))
def comb_Tree_write_i4 : Nat → CT → (List (Int × (Int × (Int × Int)))) → Option ((List (Int × (Int × (Int × Int)))) × (List (Int × (Int × (Int × Int)))))
  | 0 => fun _ _ => none
  | fuel + 1 => fun a0 c0 => comb_Tree_write_i4_step (comb_Tree_write_i4 fuel) fuel a0 c0
theorem comb_Tree_write_i4_step_ok {rf_comb_Tree_write_i4 : CT → (List (Int × (Int × (Int × Int)))) → Option ((List (Int × (Int × (Int × Int)))) × (List (Int × (Int × (Int × Int)))))} (ih_comb_Tree_write_i4 : ∀ {a0 : CT} {c0 : (List (Int × (Int × (Int × Int))))} {r : ((List (Int × (Int × (Int × Int)))) × (List (Int × (Int × (Int × Int)))))}, rf_comb_Tree_write_i4 a0 c0 = some r → FnC Try.prog 67 [aD .tree a0, .one (.slc 2000)] [(2000, .seq (.pair tI (.pair tI (.pair tI tI))) c0)] (.one (.slc 2000)) [(2000, .seq (.pair tI (.pair tI (.pair tI tI))) r.2)]) {fuel : Nat} {a0 : CT} {c0 : (List (Int × (Int × (Int × Int))))} {r : ((List (Int × (Int × (Int × Int)))) × (List (Int × (Int × (Int × Int)))))} (h : comb_Tree_write_i4_step rf_comb_Tree_write_i4 fuel a0 c0 = some r) : FnC Try.prog 67 [aD .tree a0, .one (.slc 2000)] [(2000, .seq (.pair tI (.pair tI (.pair tI tI))) c0)] (.one (.slc 2000)) [(2000, .seq (.pair tI (.pair tI (.pair tI tI))) r.2)] := by
  refine fnC_of_W (B := bodyOf Try.f67) (n := 46) Try.func67 (by kernel_rfl) (by kernel_rfl) (by kernel_rfl) (by kernel_rfl) (by kernel_rfl) ?_
  intro K
  refine W_seq (by kernel_rfl) ?_
  refine W_run 1 [] [0, 1] [2000] (fr' := [(0, aD .tree a0), (1, .one (.slc 2000))]) (L' := [(2000, .seq (.pair tI (.pair tI (.pair tI tI))) c0)]) (obs := []) (by kernel_rfl) (by kernel_rfl) (by kernel_rfl) allP0 ?_
  refine seqQ_norm ?_
  refine W_seq (by kernel_rfl) ?_
  refine W_seq (by kernel_rfl) ?_
  obtain ⟨p1, h2, h⟩ := bind_of h
  refine W_run 5 [(3, .val (.dat (.pair tI (.pair tI (.pair .tree .tree))) p1))] [0, 1, 10] [2000] (fr' := [(0, aD .tree a0), (1, .one (.slc 2000)), (10, aB (p1.1 != (4 : Int)))]) (L' := [(2000, .seq (.pair tI (.pair tI (.pair tI tI))) c0)]) (obs := [CT.open a0 = some p1]) (by kernel_rfl) (by kernel_rfl) (by kernel_rfl) (allP1 h2) ?_
  refine seqQ_norm ?_
  refine W_cond (o := .tmp 10) (b := p1.1 != (4 : Int)) (by kernel_rfl) (by kernel_rfl) (fun h3 => ?_) (fun h3 => ?_)
  · replace h := ofT h3 h
    refine W_seq (by kernel_rfl) ?_
    obtain ⟨_, h4, h⟩ := bind_of h
    replace h4 := ck_some h4
    refine W_draw3 9 [0] [(5, .val (.dat (.pair tI (.pair tI (.pair .tree .tree))) p1)), (13, .val (.dat (.pair tI (.pair tI (.pair .tree .tree))) p1))] [] [4] [2000] (fr' := [(4, .one (.slc 2000))]) (L' := [(2000, .seq (.pair tI (.pair tI (.pair tI tI))) (c0 ++ [(p1.1, (0 : Int), (0 : Int), p1.2.1)]))]) (out := [(11, .one (.slc 2000)), (12, aD .tree a0), (13, .one (.dptr (.pair tI (.pair tI (.pair .tree .tree))) p1)), (14, .one (.dptr tI p1.1)), (15, aI p1.1), (16, aD .tree a0), (17, .one (.dptr (.pair tI (.pair tI (.pair .tree .tree))) p1)), (18, .one (.dptr tI p1.2.1)), (19, aI p1.2.1)]) (obs := [CT.open a0 = some p1, CT.open a0 = some p1]) (obs2 := [SmallLen (List.length c0 + List.length [(p1.1, (0 : Int), (0 : Int), p1.2.1)])]) (calls := []) (by kernel_rfl) (by kernel_rfl) (by kernel_rfl) (by kernel_rfl) (allP2 h2 (allP1 h2)) allC0 (by kernel_rfl) (allP1 h4) ?_
    refine seqQ_norm ?_
    obtain rfl := Option.some.inj h
    refine W_ret [4] [2000] (fr' := [(4, .one (.slc 2000))]) (L' := [(2000, .seq (.pair tI (.pair tI (.pair tI tI))) (c0 ++ [(p1.1, (0 : Int), (0 : Int), p1.2.1)]))]) (by kernel_rfl) (by kernel_rfl) ?_
    refine seqQ_ret ?_
    exact retQ_mk (by kernel_rfl) (by kernel_rfl) (by kernel_rfl)
  · replace h := ofF h3 h
    refine W_skip [0, 1] [2000] (fr' := [(0, aD .tree a0), (1, .one (.slc 2000))]) (L' := [(2000, .seq (.pair tI (.pair tI (.pair tI tI))) c0)]) (by kernel_rfl) (by kernel_rfl) ?_
    refine seqQ_norm ?_
    refine W_seq (by kernel_rfl) ?_
    refine W_region (by kernel_rfl) ?_
    refine WO_run (j := 5) (k := 5) (orcs := [(3, .val (.dat (.pair tI (.pair tI (.pair .tree .tree))) p1))]) (kF := [0, 1, 26, 27]) (kL := [2000]) (fr' := [(0, aD .tree a0), (1, .one (.slc 2000)), (26, aD .tree p1.2.2.1), (27, .one (.slc 2000))]) (L' := [(2000, .seq (.pair tI (.pair tI (.pair tI tI))) c0)]) (obs := [CT.open a0 = some p1]) rfl (by kernel_rfl) (allP1 h2) ?_
    obtain ⟨r5, h6, h⟩ := bind_of h
    refine WO_lend2 [(2000, 2000)] (us := [none, none]) (d := 28) (p := True) (j := 6) rfl ⟨by kernel_rfl, by kernel_rfl, by kernel_rfl⟩ trivial (ih_comb_Tree_write_i4 h6) (by kernel_rfl) (by kernel_rfl) ?_
    refine WO_run (j := 7) (k := 1) (orcs := []) (kF := [0, 1]) (kL := [2000]) (fr' := [(0, aD .tree a0), (1, .one (.slc 2000))]) (L' := [(2000, .seq (.pair tI (.pair tI (.pair tI tI))) r5.2)]) (obs := []) rfl (by kernel_rfl) allP0 ?_
    refine WO_fin [0, 1] [2000] (fr' := [(0, aD .tree a0), (1, .one (.slc 2000))]) (L' := [(2000, .seq (.pair tI (.pair tI (.pair tI tI))) r5.2)]) (by kernel_rfl) (by kernel_rfl) ?_
    refine seqQ_norm ?_
    refine W_seq (by kernel_rfl) ?_
    refine W_run 4 [] [0, 1, 5] [2000] (fr' := [(0, aD .tree a0), (1, .one (.slc 2000)), (5, aI (w64 ((List.length r5.2 : Int) - (1 : Int))))]) (L' := [(2000, .seq (.pair tI (.pair tI (.pair tI tI))) r5.2)]) (obs := []) (by kernel_rfl) (by kernel_rfl) (by kernel_rfl) allP0 ?_
    refine seqQ_norm ?_
    refine W_seq (by kernel_rfl) ?_
    refine W_region (by kernel_rfl) ?_
    refine WO_run (j := 5) (k := 5) (orcs := [(3, .val (.dat (.pair tI (.pair tI (.pair .tree .tree))) p1))]) (kF := [1, 5, 35, 36]) (kL := [2000]) (fr' := [(1, .one (.slc 2000)), (5, aI (w64 ((List.length r5.2 : Int) - (1 : Int)))), (35, aD .tree p1.2.2.2), (36, .one (.slc 2000))]) (L' := [(2000, .seq (.pair tI (.pair tI (.pair tI tI))) r5.2)]) (obs := [CT.open a0 = some p1]) rfl (by kernel_rfl) (allP1 h2) ?_
    obtain ⟨r7, h8, h⟩ := bind_of h
    refine WO_lend2 [(2000, 2000)] (us := [none, none]) (d := 37) (p := True) (j := 6) rfl ⟨by kernel_rfl, by kernel_rfl, by kernel_rfl⟩ trivial (ih_comb_Tree_write_i4 h8) (by kernel_rfl) (by kernel_rfl) ?_
    refine WO_run (j := 7) (k := 1) (orcs := []) (kF := [1, 5]) (kL := [2000]) (fr' := [(1, .one (.slc 2000)), (5, aI (w64 ((List.length r5.2 : Int) - (1 : Int))))]) (L' := [(2000, .seq (.pair tI (.pair tI (.pair tI tI))) r7.2)]) (obs := []) rfl (by kernel_rfl) allP0 ?_
    refine WO_fin [1, 5] [2000] (fr' := [(1, .one (.slc 2000)), (5, aI (w64 ((List.length r5.2 : Int) - (1 : Int))))]) (L' := [(2000, .seq (.pair tI (.pair tI (.pair tI tI))) r7.2)]) (by kernel_rfl) (by kernel_rfl) ?_
    refine seqQ_norm ?_
    refine W_seq (by kernel_rfl) ?_
    obtain ⟨_, h9, h⟩ := bind_of h
    replace h9 := ck_some h9
    refine W_run 9 [] [4] [2000] (fr' := [(4, .one (.slc 2000))]) (L' := [(2000, .seq (.pair tI (.pair tI (.pair tI tI))) (r7.2 ++ [((4 : Int), w64 ((List.length r5.2 : Int) - (1 : Int)), w64 ((List.length r7.2 : Int) - (1 : Int)), (0 : Int))]))]) (obs := [SmallLen (List.length r7.2 + List.length [((4 : Int), w64 ((List.length r5.2 : Int) - (1 : Int)), w64 ((List.length r7.2 : Int) - (1 : Int)), (0 : Int))])]) (by kernel_rfl) (by kernel_rfl) (by kernel_rfl) (allP1 h9) ?_
    refine seqQ_norm ?_
    obtain rfl := Option.some.inj h
    refine W_ret [4] [2000] (fr' := [(4, .one (.slc 2000))]) (L' := [(2000, .seq (.pair tI (.pair tI (.pair tI tI))) (r7.2 ++ [((4 : Int), w64 ((List.length r5.2 : Int) - (1 : Int)), w64 ((List.length r7.2 : Int) - (1 : Int)), (0 : Int))]))]) (by kernel_rfl) (by kernel_rfl) ?_
    exact retQ_mk (by kernel_rfl) (by kernel_rfl) (by kernel_rfl)
theorem comb_Tree_write_i4_ok : ∀ {fuel : Nat} {a0 : CT} {c0 : (List (Int × (Int × (Int × Int))))} {r : ((List (Int × (Int × (Int × Int)))) × (List (Int × (Int × (Int × Int)))))}, comb_Tree_write_i4 fuel a0 c0 = some r → FnC Try.prog 67 [aD .tree a0, .one (.slc 2000)] [(2000, .seq (.pair tI (.pair tI (.pair tI tI))) c0)] (.one (.slc 2000)) [(2000, .seq (.pair tI (.pair tI (.pair tI tI))) r.2)] := by
  intro fuel
  induction fuel with
  | zero => intros a0 c0 r h; cases h
  | succ fuel ih => intros a0 c0 r h; exact comb_Tree_write_i4_step_ok (fun h => ih h) (show comb_Tree_write_i4_step (comb_Tree_write_i4 fuel) fuel a0 c0 = some r from h)

def comb_Tree_write_step (rf_comb_Tree_write : CT → Option (List (Int × (Int × (Int × Int))))) (fuel : Nat) (a0 : CT) : Option (List (Int × (Int × (Int × Int)))) :=
(CT.open a0).bind fun p4 =>
bif p4.1 != (4 : Int) then
(some [(p4.1, (0 : Int), (0 : Int), p4.2.1)])
else
((rf_comb_Tree_write p4.2.2.1).bind fun r7 =>
(comb_Tree_write_i4 fuel p4.2.2.2 r7).bind fun r9 =>
(ck ((List.length r9.2 : Int) + 1 ≤ 4294967296)).bind fun _ =>
some (r9.2 ++ [((4 : Int), w64 ((List.length r7 : Int) - (1 : Int)), w64 ((List.length r9.2 : Int) - (1 : Int)), (0 : Int))]))
def comb_Tree_write : Nat → CT → Option (List (Int × (Int × (Int × Int))))
  | 0 => fun _ => none
  | fuel + 1 => fun a0 => comb_Tree_write_step (comb_Tree_write fuel) fuel a0
theorem comb_Tree_write_step_ok {rf_comb_Tree_write : CT → Option (List (Int × (Int × (Int × Int))))} (ih_comb_Tree_write : ∀ {a0 : CT} {r : (List (Int × (Int × (Int × Int))))}, rf_comb_Tree_write a0 = some r → FnC Try.prog 67 [aD .tree a0, .one (.nilS)] [] (.one (.slc 899)) [(899, .seq (.pair tI (.pair tI (.pair tI tI))) r)]) {fuel : Nat} {a0 : CT} {r : (List (Int × (Int × (Int × Int))))} (h : comb_Tree_write_step rf_comb_Tree_write fuel a0 = some r) : FnC Try.prog 67 [aD .tree a0, .one (.nilS)] [] (.one (.slc 899)) [(899, .seq (.pair tI (.pair tI (.pair tI tI))) r)] := by
  refine fnC_of_W (B := bodyOf Try.f67) (n := 46) Try.func67 (by kernel_rfl) (by kernel_rfl) (by kernel_rfl) (by kernel_rfl) (by kernel_rfl) ?_
  intro K
  refine W_seq (by kernel_rfl) ?_
  refine W_run 1 [] [0, 1] [] (fr' := [(0, aD .tree a0), (1, .one (.nilS))]) (L' := []) (obs := []) (by kernel_rfl) (by kernel_rfl) (by kernel_rfl) allP0 ?_
  refine seqQ_norm ?_
  refine W_seq (by kernel_rfl) ?_
  refine W_seq (by kernel_rfl) ?_
  obtain ⟨p4, h5, h⟩ := bind_of h
  refine W_run 5 [(3, .val (.dat (.pair tI (.pair tI (.pair .tree .tree))) p4))] [0, 1, 10] [] (fr' := [(0, aD .tree a0), (1, .one (.nilS)), (10, aB (p4.1 != (4 : Int)))]) (L' := []) (obs := [CT.open a0 = some p4]) (by kernel_rfl) (by kernel_rfl) (by kernel_rfl) (allP1 h5) ?_
  refine seqQ_norm ?_
  refine W_cond (o := .tmp 10) (b := p4.1 != (4 : Int)) (by kernel_rfl) (by kernel_rfl) (fun h6 => ?_) (fun h6 => ?_)
  · replace h := ofT h6 h
    refine W_seq (by kernel_rfl) ?_
    refine W_draw3 9 [0] [(5, .val (.dat (.pair tI (.pair tI (.pair .tree .tree))) p4)), (13, .val (.dat (.pair tI (.pair tI (.pair .tree .tree))) p4))] [] [4] [22] (fr' := [(4, .one (.slc 22))]) (L' := [(22, .seq (.pair tI (.pair tI (.pair tI tI))) [(p4.1, (0 : Int), (0 : Int), p4.2.1)])]) (out := [(11, .one (.nilS)), (12, aD .tree a0), (13, .one (.dptr (.pair tI (.pair tI (.pair .tree .tree))) p4)), (14, .one (.dptr tI p4.1)), (15, aI p4.1), (16, aD .tree a0), (17, .one (.dptr (.pair tI (.pair tI (.pair .tree .tree))) p4)), (18, .one (.dptr tI p4.2.1)), (19, aI p4.2.1)]) (obs := [CT.open a0 = some p4, CT.open a0 = some p4]) (obs2 := [SmallLen (List.length [(p4.1, (0 : Int), (0 : Int), p4.2.1)])]) (calls := []) (by kernel_rfl) (by kernel_rfl) (by kernel_rfl) (by kernel_rfl) (allP2 h5 (allP1 h5)) allC0 (by kernel_rfl) (allP1 (by unfold SmallLen; exact of_decide_eq_true (by kernel_rfl))) ?_
    refine seqQ_norm ?_
    obtain rfl := Option.some.inj h
    refine W_ren 22 899 (by kernel_rfl) ?_
    refine W_ret [4] [899] (fr' := [(4, .one (.slc 899))]) (L' := [(899, .seq (.pair tI (.pair tI (.pair tI tI))) [(p4.1, (0 : Int), (0 : Int), p4.2.1)])]) (by kernel_rfl) (by kernel_rfl) ?_
    refine seqQ_ret ?_
    exact retQ_mk (by kernel_rfl) (by kernel_rfl) (by kernel_rfl)
  · replace h := ofF h6 h
    refine W_skip [0, 1] [] (fr' := [(0, aD .tree a0), (1, .one (.nilS))]) (L' := []) (by kernel_rfl) (by kernel_rfl) ?_
    refine seqQ_norm ?_
    refine W_seq (by kernel_rfl) ?_
    refine W_region (by kernel_rfl) ?_
    refine WO_run (j := 5) (k := 5) (orcs := [(3, .val (.dat (.pair tI (.pair tI (.pair .tree .tree))) p4))]) (kF := [0, 1, 26, 27]) (kL := []) (fr' := [(0, aD .tree a0), (1, .one (.nilS)), (26, aD .tree p4.2.2.1), (27, .one (.nilS))]) (L' := []) (obs := [CT.open a0 = some p4]) rfl (by kernel_rfl) (allP1 h5) ?_
    obtain ⟨r7, h8, h⟩ := bind_of h
    refine WO_call1 (us := [none, none]) (d := 28) (t := 28) (p := True) (j := 6) rfl ⟨by kernel_rfl, by kernel_rfl, by kernel_rfl⟩ trivial (ih_comb_Tree_write h8) (by kernel_rfl) ?_
    refine WO_run (j := 7) (k := 1) (orcs := []) (kF := [0, 1]) (kL := [28]) (fr' := [(0, aD .tree a0), (1, .one (.slc 28))]) (L' := [(28, .seq (.pair tI (.pair tI (.pair tI tI))) r7)]) (obs := []) rfl (by kernel_rfl) allP0 ?_
    refine WO_fin [0, 1] [28] (fr' := [(0, aD .tree a0), (1, .one (.slc 28))]) (L' := [(28, .seq (.pair tI (.pair tI (.pair tI tI))) r7)]) (by kernel_rfl) (by kernel_rfl) ?_
    refine seqQ_norm ?_
    refine W_seq (by kernel_rfl) ?_
    refine W_run 4 [] [0, 1, 5] [28] (fr' := [(0, aD .tree a0), (1, .one (.slc 28)), (5, aI (w64 ((List.length r7 : Int) - (1 : Int))))]) (L' := [(28, .seq (.pair tI (.pair tI (.pair tI tI))) r7)]) (obs := []) (by kernel_rfl) (by kernel_rfl) (by kernel_rfl) allP0 ?_
    refine seqQ_norm ?_
    refine W_seq (by kernel_rfl) ?_
    refine W_region (by kernel_rfl) ?_
    refine WO_run (j := 5) (k := 5) (orcs := [(3, .val (.dat (.pair tI (.pair tI (.pair .tree .tree))) p4))]) (kF := [1, 5, 35, 36]) (kL := [28]) (fr' := [(1, .one (.slc 28)), (5, aI (w64 ((List.length r7 : Int) - (1 : Int)))), (35, aD .tree p4.2.2.2), (36, .one (.slc 28))]) (L' := [(28, .seq (.pair tI (.pair tI (.pair tI tI))) r7)]) (obs := [CT.open a0 = some p4]) rfl (by kernel_rfl) (allP1 h5) ?_
    obtain ⟨r9, h10, h⟩ := bind_of h
    refine WO_lend2 [(2000, 28)] (us := [none, none]) (d := 37) (p := True) (j := 6) rfl ⟨by kernel_rfl, by kernel_rfl, by kernel_rfl⟩ trivial (comb_Tree_write_i4_ok h10) (by kernel_rfl) (by kernel_rfl) ?_
    refine WO_run (j := 7) (k := 1) (orcs := []) (kF := [1, 5]) (kL := [28]) (fr' := [(1, .one (.slc 28)), (5, aI (w64 ((List.length r7 : Int) - (1 : Int))))]) (L' := [(28, .seq (.pair tI (.pair tI (.pair tI tI))) r9.2)]) (obs := []) rfl (by kernel_rfl) allP0 ?_
    refine WO_fin [1, 5] [28] (fr' := [(1, .one (.slc 28)), (5, aI (w64 ((List.length r7 : Int) - (1 : Int))))]) (L' := [(28, .seq (.pair tI (.pair tI (.pair tI tI))) r9.2)]) (by kernel_rfl) (by kernel_rfl) ?_
    refine seqQ_norm ?_
    refine W_seq (by kernel_rfl) ?_
    obtain ⟨_, h11, h⟩ := bind_of h
    replace h11 := ck_some h11
    refine W_run 9 [] [4] [28] (fr' := [(4, .one (.slc 28))]) (L' := [(28, .seq (.pair tI (.pair tI (.pair tI tI))) (r9.2 ++ [((4 : Int), w64 ((List.length r7 : Int) - (1 : Int)), w64 ((List.length r9.2 : Int) - (1 : Int)), (0 : Int))]))]) (obs := [SmallLen (List.length r9.2 + List.length [((4 : Int), w64 ((List.length r7 : Int) - (1 : Int)), w64 ((List.length r9.2 : Int) - (1 : Int)), (0 : Int))])]) (by kernel_rfl) (by kernel_rfl) (by kernel_rfl) (allP1 h11) ?_
    refine seqQ_norm ?_
    obtain rfl := Option.some.inj h
    refine W_ren 28 899 (by kernel_rfl) ?_
    refine W_ret [4] [899] (fr' := [(4, .one (.slc 899))]) (L' := [(899, .seq (.pair tI (.pair tI (.pair tI tI))) (r9.2 ++ [((4 : Int), w64 ((List.length r7 : Int) - (1 : Int)), w64 ((List.length r9.2 : Int) - (1 : Int)), (0 : Int))]))]) (by kernel_rfl) (by kernel_rfl) ?_
    exact retQ_mk (by kernel_rfl) (by kernel_rfl) (by kernel_rfl)
theorem comb_Tree_write_ok : ∀ {fuel : Nat} {a0 : CT} {r : (List (Int × (Int × (Int × Int))))}, comb_Tree_write fuel a0 = some r → FnC Try.prog 67 [aD .tree a0, .one (.nilS)] [] (.one (.slc 899)) [(899, .seq (.pair tI (.pair tI (.pair tI tI))) r)] := by
  intro fuel
  induction fuel with
  | zero => intros a0 r h; cases h
  | succ fuel ih => intros a0 r h; exact comb_Tree_write_step_ok (fun h => ih h) (show comb_Tree_write_step (comb_Tree_write fuel) fuel a0 = some r from h)

def comb_told (fuel : Nat) (a0 : CT) : Option ((List (Int × (Int × (Int × Int)))) × Int) :=
(comb_Tree_size fuel a0).bind fun r1 =>
bif decide (r1 > (300 : Int)) then
(some ([], (7 : Int)))
else
((comb_Tree_write fuel a0).bind fun r4 =>
some (r4, (0 : Int)))
theorem comb_told_ok {fuel : Nat} {a0 : CT} {r : ((List (Int × (Int × (Int × Int)))) × Int)} (h : comb_told fuel a0 = some r) : FnC Try.prog 63 [aD .tree a0] [] (.tup [.dat (.slice (.pair tI (.pair tI (.pair tI tI)))) r.1, .dat tI r.2]) [] := by
  refine fnC_of_W (B := bodyOf Try.f63) (n := 9) Try.func63 (by kernel_rfl) (by kernel_rfl) (by kernel_rfl) (by kernel_rfl) (by kernel_rfl) ?_
  intro K
  refine W_seq (by kernel_rfl) ?_
  refine W_run 2 [] [0] [] (fr' := [(0, aD .tree a0)]) (L' := []) (obs := []) (by kernel_rfl) (by kernel_rfl) (by kernel_rfl) allP0 ?_
  refine seqQ_norm ?_
  refine W_seq (by kernel_rfl) ?_
  refine W_seq (by kernel_rfl) ?_
  refine W_region (by kernel_rfl) ?_
  refine WO_run (j := 1) (k := 1) (orcs := []) (kF := [0, 4]) (kL := []) (fr' := [(0, aD .tree a0), (4, aD .tree a0)]) (L' := []) (obs := []) rfl (by kernel_rfl) allP0 ?_
  obtain ⟨r1, h2, h⟩ := bind_of h
  refine WO_call0 (us := [none]) (d := 5) (p := True) (j := 2) rfl ⟨by kernel_rfl, by kernel_rfl, by kernel_rfl⟩ trivial (comb_Tree_size_ok h2) (by kernel_rfl) ?_
  refine WO_run (j := 3) (k := 1) (orcs := []) (kF := [0, 6]) (kL := []) (fr' := [(0, aD .tree a0), (6, aB (decide (r1 > (300 : Int))))]) (L' := []) (obs := []) rfl (by kernel_rfl) allP0 ?_
  refine WO_fin [0, 6] [] (fr' := [(0, aD .tree a0), (6, aB (decide (r1 > (300 : Int))))]) (L' := []) (by kernel_rfl) (by kernel_rfl) ?_
  refine seqQ_norm ?_
  refine W_cond (o := .tmp 6) (b := decide (r1 > (300 : Int))) (by kernel_rfl) (by kernel_rfl) (fun h3 => ?_) (fun h3 => ?_)
  · replace h := ofT h3 h
    refine W_seq (by kernel_rfl) ?_
    refine W_run 2 [] [2, 3] [] (fr' := [(2, .one (.nilS)), (3, aI (7 : Int))]) (L' := []) (obs := []) (by kernel_rfl) (by kernel_rfl) (by kernel_rfl) allP0 ?_
    refine seqQ_norm ?_
    obtain rfl := Option.some.inj h
    refine W_cnv 2 (.slice (.pair tI (.pair tI (.pair tI tI)))) (by kernel_rfl) ?_
    refine W_ret [2, 3] [] (fr' := [(2, aD (.slice (.pair tI (.pair tI (.pair tI tI)))) []), (3, aI (7 : Int))]) (L' := []) (by kernel_rfl) (by kernel_rfl) ?_
    refine seqQ_ret ?_
    exact retQ_mk (by kernel_rfl) (by kernel_rfl) (by kernel_rfl)
  · replace h := ofF h3 h
    refine W_skip [0] [] (fr' := [(0, aD .tree a0)]) (L' := []) (by kernel_rfl) (by kernel_rfl) ?_
    refine seqQ_norm ?_
    refine W_seq (by kernel_rfl) ?_
    refine W_region (by kernel_rfl) ?_
    refine WO_run (j := 1) (k := 1) (orcs := []) (kF := [7]) (kL := []) (fr' := [(7, aD .tree a0)]) (L' := []) (obs := []) rfl (by kernel_rfl) allP0 ?_
    obtain ⟨r4, h5, h⟩ := bind_of h
    refine WO_call1 (us := [none, none]) (d := 8) (t := 8) (p := True) (j := 2) rfl ⟨by kernel_rfl, by kernel_rfl, by kernel_rfl⟩ trivial (comb_Tree_write_ok h5) (by kernel_rfl) ?_
    refine WO_run (j := 4) (k := 2) (orcs := []) (kF := [2, 3]) (kL := [8]) (fr' := [(2, .one (.slc 8)), (3, aI (0 : Int))]) (L' := [(8, .seq (.pair tI (.pair tI (.pair tI tI))) r4)]) (obs := []) rfl (by kernel_rfl) allP0 ?_
    refine WO_fin [2, 3] [8] (fr' := [(2, .one (.slc 8)), (3, aI (0 : Int))]) (L' := [(8, .seq (.pair tI (.pair tI (.pair tI tI))) r4)]) (by kernel_rfl) (by kernel_rfl) ?_
    refine seqQ_norm ?_
    obtain rfl := Option.some.inj h
    refine W_frz 8 (by kernel_rfl) ?_
    refine W_ret [2, 3] [] (fr' := [(2, aD (.slice (.pair tI (.pair tI (.pair tI tI)))) r4), (3, aI (0 : Int))]) (L' := []) (by kernel_rfl) (by kernel_rfl) ?_
    exact retQ_mk (by kernel_rfl) (by kernel_rfl) (by kernel_rfl)

def comb_Out (fuel : Nat) (a0 : (List (Int × (Int × (Int × Int))))) (a1 : Int) : Option ((List (Int × (Int × (Int × Int)))) × Int) :=
(comb_Check a0).bind fun r1 =>
bif r1 != (0 : Int) then
(some ([], r1))
else
(bif (decide (a1 < (0 : Int))) || (decide (a1 > (1000 : Int))) then
(some ([], (4 : Int)))
else
((comb_read a0).bind fun r5 =>
(comb_Tree_out fuel r5 a1).bind fun r7 =>
(comb_told fuel r7).bind fun r9 =>
some (r9.1, r9.2)))
theorem comb_Out_ok {fuel : Nat} {a0 : (List (Int × (Int × (Int × Int))))} {a1 : Int} {r : ((List (Int × (Int × (Int × Int)))) × Int)} (h : comb_Out fuel a0 a1 = some r) : FnC Try.prog 35 [aD (.slice (.pair tI (.pair tI (.pair tI tI)))) a0, aI a1] [] (.tup [.dat (.slice (.pair tI (.pair tI (.pair tI tI)))) r.1, .dat tI r.2]) [] := by
  refine fnC_of_W (B := bodyOf Try.f35) (n := 25) Try.func35 (by kernel_rfl) (by kernel_rfl) (by kernel_rfl) (by kernel_rfl) (by kernel_rfl) ?_
  intro K
  refine W_seq (by kernel_rfl) ?_
  refine W_run 2 [] [0, 1] [] (fr' := [(0, aD (.slice (.pair tI (.pair tI (.pair tI tI)))) a0), (1, aI a1)]) (L' := []) (obs := []) (by kernel_rfl) (by kernel_rfl) (by kernel_rfl) allP0 ?_
  refine seqQ_norm ?_
  refine W_seq (by kernel_rfl) ?_
  refine W_seq (by kernel_rfl) ?_
  refine W_region (by kernel_rfl) ?_
  refine WO_run (j := 1) (k := 1) (orcs := []) (kF := [0, 1, 7]) (kL := []) (fr' := [(0, aD (.slice (.pair tI (.pair tI (.pair tI tI)))) a0), (1, aI a1), (7, aD (.slice (.pair tI (.pair tI (.pair tI tI)))) a0)]) (L' := []) (obs := []) rfl (by kernel_rfl) allP0 ?_
  obtain ⟨r1, h2, h⟩ := bind_of h
  refine WO_call0 (us := [none]) (d := 8) (p := True) (j := 2) rfl ⟨by kernel_rfl, by kernel_rfl, by kernel_rfl⟩ trivial (comb_Check_ok h2) (by kernel_rfl) ?_
  refine WO_run (j := 3) (k := 1) (orcs := []) (kF := [0, 1, 6]) (kL := []) (fr' := [(0, aD (.slice (.pair tI (.pair tI (.pair tI tI)))) a0), (1, aI a1), (6, aI r1)]) (L' := []) (obs := []) rfl (by kernel_rfl) allP0 ?_
  refine WO_fin [0, 1, 6] [] (fr' := [(0, aD (.slice (.pair tI (.pair tI (.pair tI tI)))) a0), (1, aI a1), (6, aI r1)]) (L' := []) (by kernel_rfl) (by kernel_rfl) ?_
  refine seqQ_norm ?_
  refine W_seq (by kernel_rfl) ?_
  refine W_run 2 [] [0, 1, 6, 10] [] (fr' := [(0, aD (.slice (.pair tI (.pair tI (.pair tI tI)))) a0), (1, aI a1), (6, aI r1), (10, aB (r1 != (0 : Int)))]) (L' := []) (obs := []) (by kernel_rfl) (by kernel_rfl) (by kernel_rfl) allP0 ?_
  refine seqQ_norm ?_
  refine W_cond (o := .tmp 10) (b := r1 != (0 : Int)) (by kernel_rfl) (by kernel_rfl) (fun h3 => ?_) (fun h3 => ?_)
  · replace h := ofT h3 h
    refine W_seq (by kernel_rfl) ?_
    refine W_run 3 [] [4, 5] [] (fr' := [(4, .one (.nilS)), (5, aI r1)]) (L' := []) (obs := []) (by kernel_rfl) (by kernel_rfl) (by kernel_rfl) allP0 ?_
    refine seqQ_norm ?_
    obtain rfl := Option.some.inj h
    refine W_cnv 4 (.slice (.pair tI (.pair tI (.pair tI tI)))) (by kernel_rfl) ?_
    refine W_ret [4, 5] [] (fr' := [(4, aD (.slice (.pair tI (.pair tI (.pair tI tI)))) []), (5, aI r1)]) (L' := []) (by kernel_rfl) (by kernel_rfl) ?_
    refine seqQ_ret ?_
    exact retQ_mk (by kernel_rfl) (by kernel_rfl) (by kernel_rfl)
  · replace h := ofF h3 h
    refine W_skip [0, 1] [] (fr' := [(0, aD (.slice (.pair tI (.pair tI (.pair tI tI)))) a0), (1, aI a1)]) (L' := []) (by kernel_rfl) (by kernel_rfl) ?_
    refine seqQ_norm ?_
    refine W_seq (by kernel_rfl) ?_
    refine W_seq (by kernel_rfl) ?_
    refine W_run 6 [] [0, 1, 17] [] (fr' := [(0, aD (.slice (.pair tI (.pair tI (.pair tI tI)))) a0), (1, aI a1), (17, aB ((decide (a1 < (0 : Int))) || (decide (a1 > (1000 : Int)))))]) (L' := []) (obs := []) (by kernel_rfl) (by kernel_rfl) (by kernel_rfl) allP0 ?_
    refine seqQ_norm ?_
    refine W_cond (o := .tmp 17) (b := (decide (a1 < (0 : Int))) || (decide (a1 > (1000 : Int)))) (by kernel_rfl) (by kernel_rfl) (fun h4 => ?_) (fun h4 => ?_)
    · replace h := ofT h4 h
      refine W_seq (by kernel_rfl) ?_
      refine W_run 2 [] [4, 5] [] (fr' := [(4, .one (.nilS)), (5, aI (4 : Int))]) (L' := []) (obs := []) (by kernel_rfl) (by kernel_rfl) (by kernel_rfl) allP0 ?_
      refine seqQ_norm ?_
      obtain rfl := Option.some.inj h
      refine W_cnv 4 (.slice (.pair tI (.pair tI (.pair tI tI)))) (by kernel_rfl) ?_
      refine W_ret [4, 5] [] (fr' := [(4, aD (.slice (.pair tI (.pair tI (.pair tI tI)))) []), (5, aI (4 : Int))]) (L' := []) (by kernel_rfl) (by kernel_rfl) ?_
      refine seqQ_ret ?_
      exact retQ_mk (by kernel_rfl) (by kernel_rfl) (by kernel_rfl)
    · replace h := ofF h4 h
      refine W_skip [0, 1] [] (fr' := [(0, aD (.slice (.pair tI (.pair tI (.pair tI tI)))) a0), (1, aI a1)]) (L' := []) (by kernel_rfl) (by kernel_rfl) ?_
      refine seqQ_norm ?_
      refine W_seq (by kernel_rfl) ?_
      refine W_region (by kernel_rfl) ?_
      refine WO_run (j := 1) (k := 1) (orcs := []) (kF := [1, 18]) (kL := []) (fr' := [(1, aI a1), (18, aD (.slice (.pair tI (.pair tI (.pair tI tI)))) a0)]) (L' := []) (obs := []) rfl (by kernel_rfl) allP0 ?_
      obtain ⟨r5, h6, h⟩ := bind_of h
      refine WO_call0 (us := [none]) (d := 19) (p := True) (j := 2) rfl ⟨by kernel_rfl, by kernel_rfl, by kernel_rfl⟩ trivial (comb_read_ok h6) (by kernel_rfl) ?_
      refine WO_run (j := 3) (k := 1) (orcs := []) (kF := [19, 20]) (kL := []) (fr' := [(19, aD .tree r5), (20, aI a1)]) (L' := []) (obs := []) rfl (by kernel_rfl) allP0 ?_
      obtain ⟨r7, h8, h⟩ := bind_of h
      refine WO_call0 (us := [none, none]) (d := 21) (p := True) (j := 4) rfl ⟨by kernel_rfl, by kernel_rfl, by kernel_rfl⟩ trivial (comb_Tree_out_ok h8) (by kernel_rfl) ?_
      obtain ⟨r9, h10, h⟩ := bind_of h
      refine WO_call0 (us := [none]) (d := 22) (p := True) (j := 5) rfl ⟨by kernel_rfl, by kernel_rfl, by kernel_rfl⟩ trivial (comb_told_ok h10) (by kernel_rfl) ?_
      refine WO_run (j := 9) (k := 4) (orcs := []) (kF := [4, 5]) (kL := []) (fr' := [(4, aD (.slice (.pair tI (.pair tI (.pair tI tI)))) r9.1), (5, aI r9.2)]) (L' := []) (obs := []) rfl (by kernel_rfl) allP0 ?_
      refine WO_fin [4, 5] [] (fr' := [(4, aD (.slice (.pair tI (.pair tI (.pair tI tI)))) r9.1), (5, aI r9.2)]) (L' := []) (by kernel_rfl) (by kernel_rfl) ?_
      refine seqQ_norm ?_
      obtain rfl := Option.some.inj h
      refine W_ret [4, 5] [] (fr' := [(4, aD (.slice (.pair tI (.pair tI (.pair tI tI)))) r9.1), (5, aI r9.2)]) (L' := []) (by kernel_rfl) (by kernel_rfl) ?_
      exact retQ_mk (by kernel_rfl) (by kernel_rfl) (by kernel_rfl)

def ref_Within (a0 : Int) (a1 : Int) (a2 : Int) : Option Bool :=
some ((decide (a0 ≤ a1)) && (decide (a1 ≤ a2)))
theorem ref_Within_ok {a0 : Int} {a1 : Int} {a2 : Int} {r : Bool} (h : ref_Within a0 a1 a2 = some r) : FnC Try.prog 20 [aI a0, aI a1, aI a2] [] (aB r) [] := by
  refine fnC_of_W (B := bodyOf Try.f20) (n := 15) Try.func20 (by kernel_rfl) (by kernel_rfl) (by kernel_rfl) (by kernel_rfl) (by kernel_rfl) ?_
  intro K
  refine W_seq (by kernel_rfl) ?_
  refine W_run 1 [] [0, 1, 2] [] (fr' := [(0, aI a0), (1, aI a1), (2, aI a2)]) (L' := []) (obs := []) (by kernel_rfl) (by kernel_rfl) (by kernel_rfl) allP0 ?_
  refine seqQ_norm ?_
  refine W_seq (by kernel_rfl) ?_
  refine W_run 9 [] [6] [] (fr' := [(6, aB ((decide (a0 ≤ a1)) && (decide (a1 ≤ a2))))]) (L' := []) (obs := []) (by kernel_rfl) (by kernel_rfl) (by kernel_rfl) allP0 ?_
  refine seqQ_norm ?_
  obtain rfl := Option.some.inj h
  refine W_ret [6] [] (fr' := [(6, aB ((decide (a0 ≤ a1)) && (decide (a1 ≤ a2))))]) (L' := []) (by kernel_rfl) (by kernel_rfl) ?_
  exact retQ_mk (by kernel_rfl) (by kernel_rfl) (by kernel_rfl)

def ref_Inside_b1 (a0 : Int) (i11 : Int) (v14 : Int) (x12 : Unit) : Option (Flow Unit (Esc Bool Unit)) :=
bif (decide (v14 < (0 : Int))) || (decide (v14 ≥ a0)) then
(some (.done (.ret false)))
else
(some (.next ()))
@[reducible] def ref_Inside_s2 (a0 : Int) (a1 : (List Int)) (v : Int × Unit) : Fr × LL := ([(0, aI a0), (7, aD (.slice tI) a1), (8, aI (List.length a1 : Int)), (9, aI v.1)], [])
@[reducible] def ref_Inside_s3 (v : Bool) : Fr × LL := ([(4, aB v)], [])
@[reducible] def ref_Inside_s4 (v : Unit) : Fr × LL := ([], [])
def ref_Inside (a0 : Int) (a1 : (List Int)) : Option Bool :=
(forL (ref_Inside_b1 a0) (fun x12 => (.brk ())) a1 0 ()).bind fun v19 =>
match v19 with
| .ret v24 =>
(some v24)
| .brk v25 =>
(some true)
theorem ref_Inside_ok {a0 : Int} {a1 : (List Int)} {r : Bool} (h : ref_Inside a0 a1 = some r) : FnC Try.prog 60 [aI a0, aD (.slice tI) a1] [] (aB r) [] := by
  refine fnC_of_W (B := bodyOf Try.f60) (n := 21) Try.func60 (by kernel_rfl) (by kernel_rfl) (by kernel_rfl) (by kernel_rfl) (by kernel_rfl) ?_
  intro K
  refine W_seq (by kernel_rfl) ?_
  refine W_run 1 [] [0, 1] [] (fr' := [(0, aI a0), (1, aD (.slice tI) a1)]) (L' := []) (obs := []) (by kernel_rfl) (by kernel_rfl) (by kernel_rfl) allP0 ?_
  refine seqQ_norm ?_
  refine W_seq (by kernel_rfl) ?_
  refine W_seq (by kernel_rfl) ?_
  refine W_run 3 [] [0, 7, 8, 9] [] (fr' := [(0, aI a0), (7, aD (.slice tI) a1), (8, aI (List.length a1 : Int)), (9, aI (0 : Int))]) (L' := []) (obs := []) (by kernel_rfl) (by kernel_rfl) (by kernel_rfl) allP0 ?_
  refine seqQ_norm ?_
  refine W_block (id := 0) (by kernel_rfl) ?_
  obtain ⟨v19, h20, h⟩ := bind_of h
  refine W_len (t := 7) (u := tI) (xs := a1) (by kernel_rfl) (fun h23 => ?_)
  obtain ⟨h21, h22⟩ := forL_iter h23 h20
  refine W_weaken [0, 7, 8, 9] [] (fr' := ((ref_Inside_s2 a0 a1) ((0 : Int), ())).1) (L' := ((ref_Inside_s2 a0 a1) ((0 : Int), ())).2) (by kernel_rfl) ?_
  refine W_cutK (W_loop (S := (ref_Inside_s2 a0 a1)) (J := (escQ (exQ .ret ref_Inside_s3) (exQ (.exit 0) ref_Inside_s4))) (by kernel_rfl) ?_ h21 _ v19 h22) ?_
  · rintro ⟨i11, x12⟩ s h
    refine W_seq (by kernel_rfl) ?_
    refine W_run 1 [] [0, 7, 8, 9, 10] [] (fr' := [(0, aI a0), (7, aD (.slice tI) a1), (8, aI (List.length a1 : Int)), (9, aI i11), (10, aB (decide (i11 < (List.length a1 : Int))))]) (L' := []) (obs := []) (by kernel_rfl) (by kernel_rfl) (by kernel_rfl) allP0 ?_
    refine seqQ_norm ?_
    refine W_seq (by kernel_rfl) ?_
    refine W_cond (o := .tmp 10) (b := decide (i11 < (List.length a1 : Int))) (by kernel_rfl) (by kernel_rfl) (fun h16 => ?_) (fun h16 => ?_)
    · replace h := stepL_true h16 h
      obtain ⟨v14, _, h15, h, rfl⟩ := h
      refine W_skip [0, 7, 8, 9] [] (fr' := [(0, aI a0), (7, aD (.slice tI) a1), (8, aI (List.length a1 : Int)), (9, aI i11)]) (L' := []) (by kernel_rfl) (by kernel_rfl) ?_
      refine seqQ_norm ?_
      refine W_seq (by kernel_rfl) ?_
      refine W_block (id := 1) (by kernel_rfl) ?_
      refine W_seq (by kernel_rfl) ?_
      refine W_run 3 [(1, .val (.dat tI v14))] [0, 6, 7, 8, 9] [] (fr' := [(0, aI a0), (6, aI v14), (7, aD (.slice tI) a1), (8, aI (List.length a1 : Int)), (9, aI i11)]) (L' := []) (obs := [Idx a1 i11 v14]) (by kernel_rfl) (by kernel_rfl) (by kernel_rfl) (allP1 (Idx.of h15)) ?_
      refine seqQ_norm ?_
      refine W_seq (by kernel_rfl) ?_
      refine W_run 7 [] [0, 7, 8, 9, 19] [] (fr' := [(0, aI a0), (7, aD (.slice tI) a1), (8, aI (List.length a1 : Int)), (9, aI i11), (19, aB ((decide (v14 < (0 : Int))) || (decide (v14 ≥ a0))))]) (L' := []) (obs := []) (by kernel_rfl) (by kernel_rfl) (by kernel_rfl) allP0 ?_
      refine seqQ_norm ?_
      refine W_cond (o := .tmp 19) (b := (decide (v14 < (0 : Int))) || (decide (v14 ≥ a0))) (by kernel_rfl) (by kernel_rfl) (fun h17 => ?_) (fun h17 => ?_)
      · replace h := ofT h17 h
        refine W_seq (by kernel_rfl) ?_
        refine W_run 1 [] [4] [] (fr' := [(4, aB false)]) (L' := []) (obs := []) (by kernel_rfl) (by kernel_rfl) (by kernel_rfl) allP0 ?_
        refine seqQ_norm ?_
        obtain rfl := Option.some.inj h
        refine W_ret [4] [] (fr' := [(4, aB false)]) (L' := []) (by kernel_rfl) (by kernel_rfl) ?_
        refine blockQ_ret ?_
        refine seqQ_ret ?_
        refine round_ret ?_
        refine escQ_ret ?_
        exact exQ_mk (by kernel_rfl) (by kernel_rfl)
      · replace h := ofF h17 h
        refine W_skip [0, 7, 8, 9] [] (fr' := [(0, aI a0), (7, aD (.slice tI) a1), (8, aI (List.length a1 : Int)), (9, aI i11)]) (L' := []) (by kernel_rfl) (by kernel_rfl) ?_
        refine blockQ_norm ?_
        refine seqQ_norm ?_
        obtain rfl := Option.some.inj h
        refine W_run 2 [] [0, 7, 8, 9] [] (fr' := [(0, aI a0), (7, aD (.slice tI) a1), (8, aI (List.length a1 : Int)), (9, aI (w64 (i11 + (1 : Int))))]) (L' := []) (obs := []) (by kernel_rfl) (by kernel_rfl) (by kernel_rfl) allP0 ?_
        exact round_next' (by kernel_rfl) (by kernel_rfl)
    · obtain rfl := stepL_false h16 h
      refine W_exit (id := 0) [] [] (fr' := []) (L' := []) (by kernel_rfl) (by kernel_rfl) ?_
      refine seqQ_exit ?_
      refine round_exit ?_
      refine escQ_brk ?_
      exact exQ_mk (by kernel_rfl) (by kernel_rfl)
  · intro e fr L hJ
    rcases v19 with v24 | v25
    · obtain ⟨rfl, rfl, rfl⟩ := hJ
      obtain rfl := Option.some.inj h
      refine LT_keep [4] [] (fr' := [(4, aB v24)]) (L' := []) (by kernel_rfl) ?_
      refine blockQ_ret ?_
      refine seqQ_ret ?_
      exact retQ_mk (by kernel_rfl) (by kernel_rfl) (by kernel_rfl)
    · obtain ⟨rfl, rfl, rfl⟩ := hJ
      refine LT_keep [] [] (fr' := []) (L' := []) (by kernel_rfl) ?_
      refine blockQ_hit ?_
      refine seqQ_norm ?_
      refine W_seq (by kernel_rfl) ?_
      refine W_run 1 [] [4] [] (fr' := [(4, aB true)]) (L' := []) (obs := []) (by kernel_rfl) (by kernel_rfl) (by kernel_rfl) allP0 ?_
      refine seqQ_norm ?_
      obtain rfl := Option.some.inj h
      refine W_ret [4] [] (fr' := [(4, aB true)]) (L' := []) (by kernel_rfl) (by kernel_rfl) ?_
      exact retQ_mk (by kernel_rfl) (by kernel_rfl) (by kernel_rfl)

@[reducible] def ref_CombCheck_s5 (a0 : (List (Int × (Int × (Int × Int))))) (i66 : Int) (v : Bool) : Fr × LL := ([(0, aD (.slice (.pair tI (.pair tI (.pair tI tI)))) a0), (12, aD (.slice (.pair tI (.pair tI (.pair tI tI)))) a0), (13, aI (List.length a0 : Int)), (14, aI i66), (44, aB v)], [])
@[reducible] def ref_CombCheck_s6 (a0 : (List (Int × (Int × (Int × Int))))) (i66 : Int) (v69 : (Int × (Int × (Int × Int)))) (v : Bool) : Fr × LL := ([(0, aD (.slice (.pair tI (.pair tI (.pair tI tI)))) a0), (3, aI i66), (4, .one (.ptr 4 0)), (12, aD (.slice (.pair tI (.pair tI (.pair tI tI)))) a0), (13, aI (List.length a0 : Int)), (14, aI i66), (31, aB v)], [(4, .one (.pair tI (.pair tI (.pair tI tI))) v69)])
def ref_CombCheck_b7 (i66 : Int) (v69 : (Int × (Int × (Int × Int)))) (x67 : Unit) : Option (Flow Unit (Esc Int Unit)) :=
(ref_Within (1 : Int) v69.1 (4 : Int)).bind fun r72 =>
bif !r72 then
(some (.done (.ret (6 : Int))))
else
((bif v69.1 == (3 : Int) then
((ref_Within (0 : Int) v69.2.2.2 (1000 : Int)).bind fun r82 =>
some (!r82))
else
(some false)).bind fun v84 =>
bif v84 then
(some (.done (.ret (4 : Int))))
else
((bif v69.1 == (4 : Int) then
((ref_Inside i66 [v69.2.1, v69.2.2.1]).bind fun r94 =>
some (!r94))
else
(some false)).bind fun v96 =>
bif v96 then
(some (.done (.ret (2 : Int))))
else
(some (.next ()))))
@[reducible] def ref_CombCheck_s8 (a0 : (List (Int × (Int × (Int × Int))))) (v : Int × Unit) : Fr × LL := ([(0, aD (.slice (.pair tI (.pair tI (.pair tI tI)))) a0), (12, aD (.slice (.pair tI (.pair tI (.pair tI tI)))) a0), (13, aI (List.length a0 : Int)), (14, aI v.1)], [])
@[reducible] def ref_CombCheck_s9 (v : Int) : Fr × LL := ([(2, aI v)], [])
@[reducible] def ref_CombCheck_s10 (a0 : (List (Int × (Int × (Int × Int))))) (v : Unit) : Fr × LL := ([(0, aD (.slice (.pair tI (.pair tI (.pair tI tI)))) a0)], [])
def ref_CombCheck_g31 (i296 : Int) (x297 : (List Int)) (v299 : (Int × (Int × (Int × Int)))) : Option (List Int) :=
bif v299.1 == (4 : Int) then
((idx (List.set x297 (Int.toNat i296) (1 : Int)) v299.2.1).bind fun v375 =>
(idx (List.set x297 (Int.toNat i296) (1 : Int)) v299.2.2.1).bind fun v377 =>
(idx (List.set x297 (Int.toNat i296) (1 : Int)) i296).bind fun v379 =>
some (List.set (List.set x297 (Int.toNat i296) (1 : Int)) (Int.toNat i296) (w64 ((w64 ((1 : Int) + v375)) + v377))))
else
(some (List.set x297 (Int.toNat i296) (1 : Int)))
@[reducible] def ref_CombCheck_s32 (a0 : (List (Int × (Int × (Int × Int))))) (i296 : Int) (v : (List Int)) : Fr × LL := ([(0, aD (.slice (.pair tI (.pair tI (.pair tI tI)))) a0), (5, .one (.slc 48)), (6, aI i296), (49, aD (.slice (.pair tI (.pair tI (.pair tI tI)))) a0), (50, aI (List.length a0 : Int)), (51, aI i296)], [(48, .seq tI v)])
def ref_CombCheck_g33 (i296 : Int) (x297 : (List Int)) (v299 : (Int × (Int × (Int × Int)))) : Option (List Int) :=
(idx x297 i296).bind fun v358 =>
(ref_CombCheck_g31 i296 x297 v299).bind fun v381 =>
(idx v381 i296).bind fun v383 =>
bif decide (v383 > (300 : Int)) then
(some (List.set v381 (Int.toNat i296) (301 : Int)))
else
(some v381)
@[reducible] def ref_CombCheck_s34 (a0 : (List (Int × (Int × (Int × Int))))) (i296 : Int) (v : (List Int)) : Fr × LL := ([(0, aD (.slice (.pair tI (.pair tI (.pair tI tI)))) a0), (5, .one (.slc 48)), (49, aD (.slice (.pair tI (.pair tI (.pair tI tI)))) a0), (50, aI (List.length a0 : Int)), (51, aI i296)], [(48, .seq tI v)])
def ref_CombCheck_b35 (i296 : Int) (v299 : (Int × (Int × (Int × Int)))) (x297 : (List Int)) : Option (Flow (List Int) (List Int)) :=
(ref_CombCheck_g33 i296 x297 v299).bind fun v386 =>
some (.next v386)
@[reducible] def ref_CombCheck_s36 (a0 : (List (Int × (Int × (Int × Int))))) (v : Int × (List Int)) : Fr × LL := ([(0, aD (.slice (.pair tI (.pair tI (.pair tI tI)))) a0), (5, .one (.slc 48)), (49, aD (.slice (.pair tI (.pair tI (.pair tI tI)))) a0), (50, aI (List.length a0 : Int)), (51, aI v.1)], [(48, .seq tI v.2)])
@[reducible] def ref_CombCheck_s37 (a0 : (List (Int × (Int × (Int × Int))))) (v : (List Int)) : Fr × LL := ([(0, aD (.slice (.pair tI (.pair tI (.pair tI tI)))) a0), (5, .one (.slc 48))], [(48, .seq tI v)])
def ref_CombCheck (a0 : (List (Int × (Int × (Int × Int))))) : Option Int :=
(ref_Within (1 : Int) (List.length a0 : Int) (40 : Int)).bind fun r1 =>
bif !r1 then
(some (1 : Int))
else
((forL ref_CombCheck_b7 (fun x67 => (.brk ())) a0 0 ()).bind fun v100 =>
match v100 with
| .ret v105 =>
(some v105)
| .brk v106 =>
((ck (0 ≤ (List.length a0 : Int) ∧ (List.length a0 : Int) = (List.length a0 : Int) ∧ (List.length a0 : Int) ≤ 4294967296)).bind fun _ =>
(forL ref_CombCheck_b35 (fun x297 => x297) a0 0 (List.replicate (Int.toNat (List.length a0 : Int)) (0 : Int))).bind fun v389 =>
(idx v389 (w64 ((List.length a0 : Int) - (1 : Int)))).bind fun v394 =>
bif decide (v394 > (300 : Int)) then
(some (1 : Int))
else
(some (0 : Int))))
theorem ref_CombCheck_ok {a0 : (List (Int × (Int × (Int × Int))))} {r : Int} (h : ref_CombCheck a0 = some r) : FnC Try.prog 27 [aD (.slice (.pair tI (.pair tI (.pair tI tI)))) a0] [] (aI r) [] := by
  refine fnC_of_W (B := bodyOf Try.f27) (n := 93) Try.func27 (by kernel_rfl) (by kernel_rfl) (by kernel_rfl) (by kernel_rfl) (by kernel_rfl) ?_
  intro K
  refine W_seq (by kernel_rfl) ?_
  refine W_run 1 [] [0] [] (fr' := [(0, aD (.slice (.pair tI (.pair tI (.pair tI tI)))) a0)]) (L' := []) (obs := []) (by kernel_rfl) (by kernel_rfl) (by kernel_rfl) allP0 ?_
  refine seqQ_norm ?_
  refine W_seq (by kernel_rfl) ?_
  refine W_seq (by kernel_rfl) ?_
  refine W_region (by kernel_rfl) ?_
  refine WO_run (j := 2) (k := 2) (orcs := []) (kF := [0, 9]) (kL := []) (fr' := [(0, aD (.slice (.pair tI (.pair tI (.pair tI tI)))) a0), (9, aI (List.length a0 : Int))]) (L' := []) (obs := []) rfl (by kernel_rfl) allP0 ?_
  obtain ⟨r1, h2, h⟩ := bind_of h
  refine WO_call0 (us := [none, none, none]) (d := 10) (p := True) (j := 3) rfl ⟨by kernel_rfl, by kernel_rfl, by kernel_rfl⟩ trivial (ref_Within_ok h2) (by kernel_rfl) ?_
  refine WO_run (j := 4) (k := 1) (orcs := []) (kF := [0, 11]) (kL := []) (fr' := [(0, aD (.slice (.pair tI (.pair tI (.pair tI tI)))) a0), (11, aB (!r1))]) (L' := []) (obs := []) rfl (by kernel_rfl) allP0 ?_
  refine WO_fin [0, 11] [] (fr' := [(0, aD (.slice (.pair tI (.pair tI (.pair tI tI)))) a0), (11, aB (!r1))]) (L' := []) (by kernel_rfl) (by kernel_rfl) ?_
  refine seqQ_norm ?_
  refine W_cond (o := .tmp 11) (b := !r1) (by kernel_rfl) (by kernel_rfl) (fun h3 => ?_) (fun h3 => ?_)
  · replace h := ofT h3 h
    refine W_seq (by kernel_rfl) ?_
    refine W_run 1 [] [2] [] (fr' := [(2, aI (1 : Int))]) (L' := []) (obs := []) (by kernel_rfl) (by kernel_rfl) (by kernel_rfl) allP0 ?_
    refine seqQ_norm ?_
    obtain rfl := Option.some.inj h
    refine W_ret [2] [] (fr' := [(2, aI (1 : Int))]) (L' := []) (by kernel_rfl) (by kernel_rfl) ?_
    refine seqQ_ret ?_
    exact retQ_mk (by kernel_rfl) (by kernel_rfl) (by kernel_rfl)
  · replace h := ofF h3 h
    refine W_skip [0] [] (fr' := [(0, aD (.slice (.pair tI (.pair tI (.pair tI tI)))) a0)]) (L' := []) (by kernel_rfl) (by kernel_rfl) ?_
    refine seqQ_norm ?_
    refine W_seq (by kernel_rfl) ?_
    refine W_seq (by kernel_rfl) ?_
    refine W_run 3 [] [0, 12, 13, 14] [] (fr' := [(0, aD (.slice (.pair tI (.pair tI (.pair tI tI)))) a0), (12, aD (.slice (.pair tI (.pair tI (.pair tI tI)))) a0), (13, aI (List.length a0 : Int)), (14, aI (0 : Int))]) (L' := []) (obs := []) (by kernel_rfl) (by kernel_rfl) (by kernel_rfl) allP0 ?_
    refine seqQ_norm ?_
    refine W_block (id := 0) (by kernel_rfl) ?_
    obtain ⟨v100, h101, h⟩ := bind_of h
    refine W_len (t := 12) (u := (.pair tI (.pair tI (.pair tI tI)))) (xs := a0) (by kernel_rfl) (fun h104 => ?_)
    obtain ⟨h102, h103⟩ := forL_iter h104 h101
    refine W_weaken [0, 12, 13, 14] [] (fr' := ((ref_CombCheck_s8 a0) ((0 : Int), ())).1) (L' := ((ref_CombCheck_s8 a0) ((0 : Int), ())).2) (by kernel_rfl) ?_
    refine W_cutK (W_loop (S := (ref_CombCheck_s8 a0)) (J := (escQ (exQ .ret ref_CombCheck_s9) (exQ (.exit 0) (ref_CombCheck_s10 a0)))) (by kernel_rfl) ?_ h102 _ v100 h103) ?_
    · rintro ⟨i66, x67⟩ s h
      refine W_seq (by kernel_rfl) ?_
      refine W_run 1 [] [0, 12, 13, 14, 15] [] (fr' := [(0, aD (.slice (.pair tI (.pair tI (.pair tI tI)))) a0), (12, aD (.slice (.pair tI (.pair tI (.pair tI tI)))) a0), (13, aI (List.length a0 : Int)), (14, aI i66), (15, aB (decide (i66 < (List.length a0 : Int))))]) (L' := []) (obs := []) (by kernel_rfl) (by kernel_rfl) (by kernel_rfl) allP0 ?_
      refine seqQ_norm ?_
      refine W_seq (by kernel_rfl) ?_
      refine W_cond (o := .tmp 15) (b := decide (i66 < (List.length a0 : Int))) (by kernel_rfl) (by kernel_rfl) (fun h71 => ?_) (fun h71 => ?_)
      · replace h := stepL_true h71 h
        obtain ⟨v69, _, h70, h, rfl⟩ := h
        refine W_skip [0, 12, 13, 14] [] (fr' := [(0, aD (.slice (.pair tI (.pair tI (.pair tI tI)))) a0), (12, aD (.slice (.pair tI (.pair tI (.pair tI tI)))) a0), (13, aI (List.length a0 : Int)), (14, aI i66)]) (L' := []) (by kernel_rfl) (by kernel_rfl) ?_
        refine seqQ_norm ?_
        refine W_seq (by kernel_rfl) ?_
        refine W_block (id := 1) (by kernel_rfl) ?_
        refine W_seq (by kernel_rfl) ?_
        refine W_run 6 [(3, .val (.dat (.pair tI (.pair tI (.pair tI tI))) v69)), (7, .typed)] [0, 3, 4, 12, 13, 14] [4] (fr' := [(0, aD (.slice (.pair tI (.pair tI (.pair tI tI)))) a0), (3, aI i66), (4, .one (.ptr 4 0)), (12, aD (.slice (.pair tI (.pair tI (.pair tI tI)))) a0), (13, aI (List.length a0 : Int)), (14, aI i66)]) (L' := [(4, .one (.pair tI (.pair tI (.pair tI tI))) v69)]) (obs := [Idx a0 i66 v69, True]) (by kernel_rfl) (by kernel_rfl) (by kernel_rfl) (allP2 (Idx.of h70) (allP1 trivial)) ?_
        refine seqQ_norm ?_
        refine W_seq (by kernel_rfl) ?_
        refine W_seq (by kernel_rfl) ?_
        refine W_region (by kernel_rfl) ?_
        refine WO_run (j := 2) (k := 2) (orcs := []) (kF := [0, 3, 4, 12, 13, 14, 20]) (kL := [4]) (fr' := [(0, aD (.slice (.pair tI (.pair tI (.pair tI tI)))) a0), (3, aI i66), (4, .one (.ptr 4 0)), (12, aD (.slice (.pair tI (.pair tI (.pair tI tI)))) a0), (13, aI (List.length a0 : Int)), (14, aI i66), (20, aI v69.1)]) (L' := [(4, .one (.pair tI (.pair tI (.pair tI tI))) v69)]) (obs := []) rfl (by kernel_rfl) allP0 ?_
        obtain ⟨r72, h73, h⟩ := bind_of h
        refine WO_call0 (us := [none, none, none]) (d := 21) (p := True) (j := 3) rfl ⟨by kernel_rfl, by kernel_rfl, by kernel_rfl⟩ trivial (ref_Within_ok h73) (by kernel_rfl) ?_
        refine WO_run (j := 4) (k := 1) (orcs := []) (kF := [0, 3, 4, 12, 13, 14, 22]) (kL := [4]) (fr' := [(0, aD (.slice (.pair tI (.pair tI (.pair tI tI)))) a0), (3, aI i66), (4, .one (.ptr 4 0)), (12, aD (.slice (.pair tI (.pair tI (.pair tI tI)))) a0), (13, aI (List.length a0 : Int)), (14, aI i66), (22, aB (!r72))]) (L' := [(4, .one (.pair tI (.pair tI (.pair tI tI))) v69)]) (obs := []) rfl (by kernel_rfl) allP0 ?_
        refine WO_fin [0, 3, 4, 12, 13, 14, 22] [4] (fr' := [(0, aD (.slice (.pair tI (.pair tI (.pair tI tI)))) a0), (3, aI i66), (4, .one (.ptr 4 0)), (12, aD (.slice (.pair tI (.pair tI (.pair tI tI)))) a0), (13, aI (List.length a0 : Int)), (14, aI i66), (22, aB (!r72))]) (L' := [(4, .one (.pair tI (.pair tI (.pair tI tI))) v69)]) (by kernel_rfl) (by kernel_rfl) ?_
        refine seqQ_norm ?_
        refine W_cond (o := .tmp 22) (b := !r72) (by kernel_rfl) (by kernel_rfl) (fun h74 => ?_) (fun h74 => ?_)
        · replace h := ofT h74 h
          refine W_seq (by kernel_rfl) ?_
          refine W_run 1 [] [2] [] (fr' := [(2, aI (6 : Int))]) (L' := []) (obs := []) (by kernel_rfl) (by kernel_rfl) (by kernel_rfl) allP0 ?_
          refine seqQ_norm ?_
          obtain rfl := Option.some.inj h
          refine W_ret [2] [] (fr' := [(2, aI (6 : Int))]) (L' := []) (by kernel_rfl) (by kernel_rfl) ?_
          refine seqQ_ret ?_
          refine blockQ_ret ?_
          refine seqQ_ret ?_
          refine round_ret ?_
          refine escQ_ret ?_
          exact exQ_mk (by kernel_rfl) (by kernel_rfl)
        · replace h := ofF h74 h
          refine W_skip [0, 3, 4, 12, 13, 14] [4] (fr' := [(0, aD (.slice (.pair tI (.pair tI (.pair tI tI)))) a0), (3, aI i66), (4, .one (.ptr 4 0)), (12, aD (.slice (.pair tI (.pair tI (.pair tI tI)))) a0), (13, aI (List.length a0 : Int)), (14, aI i66)]) (L' := [(4, .one (.pair tI (.pair tI (.pair tI tI))) v69)]) (by kernel_rfl) (by kernel_rfl) ?_
          refine seqQ_norm ?_
          refine W_seq (by kernel_rfl) ?_
          refine W_seq (by kernel_rfl) ?_
          obtain ⟨v84, h85, h⟩ := bind_of h
          refine W_cutK (Q' := (exQ .normal (ref_CombCheck_s6 a0 i66 v69)) v84) ?_ ?_
          · replace h := h85
            refine W_region (by kernel_rfl) ?_
            refine WO_run (j := 4) (k := 4) (orcs := []) (kF := [0, 3, 4, 12, 13, 14, 26]) (kL := [4]) (fr' := [(0, aD (.slice (.pair tI (.pair tI (.pair tI tI)))) a0), (3, aI i66), (4, .one (.ptr 4 0)), (12, aD (.slice (.pair tI (.pair tI (.pair tI tI)))) a0), (13, aI (List.length a0 : Int)), (14, aI i66), (26, aB (v69.1 == (3 : Int)))]) (L' := [(4, .one (.pair tI (.pair tI (.pair tI tI))) v69)]) (obs := []) rfl (by kernel_rfl) allP0 ?_
            rcases Bool.eq_false_or_eq_true (v69.1 == (3 : Int)) with h81 | h81
            · replace h := ofT h81 h
              refine WO_run (j := 6) (k := 2) (orcs := [(8, .known true), (10, .known true)]) (kF := [0, 3, 4, 12, 13, 14, 26, 28]) (kL := [4]) (fr' := [(0, aD (.slice (.pair tI (.pair tI (.pair tI tI)))) a0), (3, aI i66), (4, .one (.ptr 4 0)), (12, aD (.slice (.pair tI (.pair tI (.pair tI tI)))) a0), (13, aI (List.length a0 : Int)), (14, aI i66), (26, aB (v69.1 == (3 : Int))), (28, aI v69.2.2.2)]) (L' := [(4, .one (.pair tI (.pair tI (.pair tI tI))) v69)]) (obs := [((v69.1 == (3 : Int)) = true), ((v69.1 == (3 : Int)) = true)]) rfl (by kernel_rfl) (allP2 h81 (allP1 h81)) ?_
              obtain ⟨r82, h83, h⟩ := bind_of h
              refine WO_call0 (us := [none, none, none]) (d := 29) (p := ((v69.1 == (3 : Int)) = true)) (j := 7) rfl ⟨by kernel_rfl, by kernel_rfl, by kernel_rfl⟩ h81 (ref_Within_ok h83) (by kernel_rfl) ?_
              refine WO_run (j := 9) (k := 2) (orcs := [(14, .known true), (17, .val (.dat .bool true))]) (kF := [0, 3, 4, 12, 13, 14, 31]) (kL := [4]) (fr' := [(0, aD (.slice (.pair tI (.pair tI (.pair tI tI)))) a0), (3, aI i66), (4, .one (.ptr 4 0)), (12, aD (.slice (.pair tI (.pair tI (.pair tI tI)))) a0), (13, aI (List.length a0 : Int)), (14, aI i66), (31, aB (!r82))]) (L' := [(4, .one (.pair tI (.pair tI (.pair tI tI))) v69)]) (obs := [((v69.1 == (3 : Int)) = true), ((v69.1 == (3 : Int)) = true)]) rfl (by kernel_rfl) (allP2 h81 (allP1 h81)) ?_
              obtain rfl := Option.some.inj h
              refine WO_fin [0, 3, 4, 12, 13, 14, 31] [4] (fr' := [(0, aD (.slice (.pair tI (.pair tI (.pair tI tI)))) a0), (3, aI i66), (4, .one (.ptr 4 0)), (12, aD (.slice (.pair tI (.pair tI (.pair tI tI)))) a0), (13, aI (List.length a0 : Int)), (14, aI i66), (31, aB (!r82))]) (L' := [(4, .one (.pair tI (.pair tI (.pair tI tI))) v69)]) (by kernel_rfl) (by kernel_rfl) ?_
              exact exQ_mk (by kernel_rfl) (by kernel_rfl)
            · replace h := ofF h81 h
              refine WO_run (j := 9) (k := 5) (orcs := [(8, .known false), (10, .known false), (12, .known false), (14, .known false), (17, .val (.dat .bool false))]) (kF := [0, 3, 4, 12, 13, 14, 31]) (kL := [4]) (fr' := [(0, aD (.slice (.pair tI (.pair tI (.pair tI tI)))) a0), (3, aI i66), (4, .one (.ptr 4 0)), (12, aD (.slice (.pair tI (.pair tI (.pair tI tI)))) a0), (13, aI (List.length a0 : Int)), (14, aI i66), (31, aB false)]) (L' := [(4, .one (.pair tI (.pair tI (.pair tI tI))) v69)]) (obs := [((v69.1 == (3 : Int)) = false), ((v69.1 == (3 : Int)) = false), ((v69.1 == (3 : Int)) = false), ((v69.1 == (3 : Int)) = false), ((v69.1 == (3 : Int)) = false)]) rfl (by kernel_rfl) (allP2 h81 (allP2 h81 (allP2 h81 (allP2 h81 (allP1 h81))))) ?_
              obtain rfl := Option.some.inj h
              refine WO_fin [0, 3, 4, 12, 13, 14, 31] [4] (fr' := [(0, aD (.slice (.pair tI (.pair tI (.pair tI tI)))) a0), (3, aI i66), (4, .one (.ptr 4 0)), (12, aD (.slice (.pair tI (.pair tI (.pair tI tI)))) a0), (13, aI (List.length a0 : Int)), (14, aI i66), (31, aB false)]) (L' := [(4, .one (.pair tI (.pair tI (.pair tI tI))) v69)]) (by kernel_rfl) (by kernel_rfl) ?_
              exact exQ_mk (by kernel_rfl) (by kernel_rfl)
          · intro e fr L hJ
            obtain ⟨rfl, rfl, rfl⟩ := hJ
            refine LT_keep [0, 3, 4, 12, 13, 14, 31] [4] (fr' := [(0, aD (.slice (.pair tI (.pair tI (.pair tI tI)))) a0), (3, aI i66), (4, .one (.ptr 4 0)), (12, aD (.slice (.pair tI (.pair tI (.pair tI tI)))) a0), (13, aI (List.length a0 : Int)), (14, aI i66), (31, aB v84)]) (L' := [(4, .one (.pair tI (.pair tI (.pair tI tI))) v69)]) (by kernel_rfl) ?_
            refine seqQ_norm ?_
            refine W_cond (o := .tmp 31) (b := v84) (by kernel_rfl) (by kernel_rfl) (fun h86 => ?_) (fun h86 => ?_)
            · replace h := ofT h86 h
              refine W_seq (by kernel_rfl) ?_
              refine W_run 1 [] [2] [] (fr' := [(2, aI (4 : Int))]) (L' := []) (obs := []) (by kernel_rfl) (by kernel_rfl) (by kernel_rfl) allP0 ?_
              refine seqQ_norm ?_
              obtain rfl := Option.some.inj h
              refine W_ret [2] [] (fr' := [(2, aI (4 : Int))]) (L' := []) (by kernel_rfl) (by kernel_rfl) ?_
              refine seqQ_ret ?_
              refine blockQ_ret ?_
              refine seqQ_ret ?_
              refine round_ret ?_
              refine escQ_ret ?_
              exact exQ_mk (by kernel_rfl) (by kernel_rfl)
            · replace h := ofF h86 h
              refine W_skip [0, 3, 4, 12, 13, 14] [4] (fr' := [(0, aD (.slice (.pair tI (.pair tI (.pair tI tI)))) a0), (3, aI i66), (4, .one (.ptr 4 0)), (12, aD (.slice (.pair tI (.pair tI (.pair tI tI)))) a0), (13, aI (List.length a0 : Int)), (14, aI i66)]) (L' := [(4, .one (.pair tI (.pair tI (.pair tI tI))) v69)]) (by kernel_rfl) (by kernel_rfl) ?_
              refine seqQ_norm ?_
              refine W_seq (by kernel_rfl) ?_
              obtain ⟨v96, h97, h⟩ := bind_of h
              refine W_cutK (Q' := (exQ .normal (ref_CombCheck_s5 a0 i66)) v96) ?_ ?_
              · replace h := h97
                refine W_region (by kernel_rfl) ?_
                refine WO_run (j := 4) (k := 4) (orcs := []) (kF := [0, 3, 4, 12, 13, 14, 35]) (kL := [4]) (fr' := [(0, aD (.slice (.pair tI (.pair tI (.pair tI tI)))) a0), (3, aI i66), (4, .one (.ptr 4 0)), (12, aD (.slice (.pair tI (.pair tI (.pair tI tI)))) a0), (13, aI (List.length a0 : Int)), (14, aI i66), (35, aB (v69.1 == (4 : Int)))]) (L' := [(4, .one (.pair tI (.pair tI (.pair tI tI))) v69)]) (obs := []) rfl (by kernel_rfl) allP0 ?_
                rcases Bool.eq_false_or_eq_true (v69.1 == (4 : Int)) with h93 | h93
                · replace h := ofT h93 h
                  refine WO_run (j := 10) (k := 6) (orcs := [(8, .known true), (10, .known true), (12, .known true), (14, .known true), (16, .known true), (18, .known true)]) (kF := [0, 12, 13, 14, 35, 36, 41]) (kL := [4, 41]) (fr' := [(0, aD (.slice (.pair tI (.pair tI (.pair tI tI)))) a0), (12, aD (.slice (.pair tI (.pair tI (.pair tI tI)))) a0), (13, aI (List.length a0 : Int)), (14, aI i66), (35, aB (v69.1 == (4 : Int))), (36, aI i66), (41, .one (.slc 41))]) (L' := [(4, .one (.pair tI (.pair tI (.pair tI tI))) v69), (41, .seq tI [v69.2.1, v69.2.2.1])]) (obs := [((v69.1 == (4 : Int)) = true), ((v69.1 == (4 : Int)) = true), ((v69.1 == (4 : Int)) = true), ((v69.1 == (4 : Int)) = true), ((v69.1 == (4 : Int)) = true), ((v69.1 == (4 : Int)) = true)]) rfl (by kernel_rfl) (allP2 h93 (allP2 h93 (allP2 h93 (allP2 h93 (allP2 h93 (allP1 h93)))))) ?_
                  obtain ⟨r94, h95, h⟩ := bind_of h
                  refine WO_frz 41 (by kernel_rfl) ?_
                  refine WO_call0 (us := [none, none]) (d := 42) (p := ((v69.1 == (4 : Int)) = true)) (j := 11) rfl ⟨by kernel_rfl, by kernel_rfl, by kernel_rfl⟩ h93 (ref_Inside_ok h95) (by kernel_rfl) ?_
                  refine WO_run (j := 13) (k := 2) (orcs := [(22, .known true), (25, .val (.dat .bool true))]) (kF := [0, 12, 13, 14, 44]) (kL := [4]) (fr' := [(0, aD (.slice (.pair tI (.pair tI (.pair tI tI)))) a0), (12, aD (.slice (.pair tI (.pair tI (.pair tI tI)))) a0), (13, aI (List.length a0 : Int)), (14, aI i66), (44, aB (!r94))]) (L' := [(4, .one (.pair tI (.pair tI (.pair tI tI))) v69)]) (obs := [((v69.1 == (4 : Int)) = true), ((v69.1 == (4 : Int)) = true)]) rfl (by kernel_rfl) (allP2 h93 (allP1 h93)) ?_
                  obtain rfl := Option.some.inj h
                  refine WO_fin [0, 12, 13, 14, 44] [] (fr' := [(0, aD (.slice (.pair tI (.pair tI (.pair tI tI)))) a0), (12, aD (.slice (.pair tI (.pair tI (.pair tI tI)))) a0), (13, aI (List.length a0 : Int)), (14, aI i66), (44, aB (!r94))]) (L' := []) (by kernel_rfl) (by kernel_rfl) ?_
                  exact exQ_mk (by kernel_rfl) (by kernel_rfl)
                · replace h := ofF h93 h
                  refine WO_run (j := 13) (k := 9) (orcs := [(8, .known false), (10, .known false), (12, .known false), (14, .known false), (16, .known false), (18, .known false), (20, .known false), (22, .known false), (25, .val (.dat .bool false))]) (kF := [0, 12, 13, 14, 44]) (kL := [4]) (fr' := [(0, aD (.slice (.pair tI (.pair tI (.pair tI tI)))) a0), (12, aD (.slice (.pair tI (.pair tI (.pair tI tI)))) a0), (13, aI (List.length a0 : Int)), (14, aI i66), (44, aB false)]) (L' := [(4, .one (.pair tI (.pair tI (.pair tI tI))) v69)]) (obs := [((v69.1 == (4 : Int)) = false), ((v69.1 == (4 : Int)) = false), ((v69.1 == (4 : Int)) = false), ((v69.1 == (4 : Int)) = false), ((v69.1 == (4 : Int)) = false), ((v69.1 == (4 : Int)) = false), ((v69.1 == (4 : Int)) = false), ((v69.1 == (4 : Int)) = false), ((v69.1 == (4 : Int)) = false)]) rfl (by kernel_rfl) (allP2 h93 (allP2 h93 (allP2 h93 (allP2 h93 (allP2 h93 (allP2 h93 (allP2 h93 (allP2 h93 (allP1 h93))))))))) ?_
                  obtain rfl := Option.some.inj h
                  refine WO_fin [0, 12, 13, 14, 44] [] (fr' := [(0, aD (.slice (.pair tI (.pair tI (.pair tI tI)))) a0), (12, aD (.slice (.pair tI (.pair tI (.pair tI tI)))) a0), (13, aI (List.length a0 : Int)), (14, aI i66), (44, aB false)]) (L' := []) (by kernel_rfl) (by kernel_rfl) ?_
                  exact exQ_mk (by kernel_rfl) (by kernel_rfl)
              · intro e fr L hJ
                obtain ⟨rfl, rfl, rfl⟩ := hJ
                refine LT_keep [0, 12, 13, 14, 44] [] (fr' := [(0, aD (.slice (.pair tI (.pair tI (.pair tI tI)))) a0), (12, aD (.slice (.pair tI (.pair tI (.pair tI tI)))) a0), (13, aI (List.length a0 : Int)), (14, aI i66), (44, aB v96)]) (L' := []) (by kernel_rfl) ?_
                refine seqQ_norm ?_
                refine W_cond (o := .tmp 44) (b := v96) (by kernel_rfl) (by kernel_rfl) (fun h98 => ?_) (fun h98 => ?_)
                · replace h := ofT h98 h
                  refine W_seq (by kernel_rfl) ?_
                  refine W_run 1 [] [2] [] (fr' := [(2, aI (2 : Int))]) (L' := []) (obs := []) (by kernel_rfl) (by kernel_rfl) (by kernel_rfl) allP0 ?_
                  refine seqQ_norm ?_
                  obtain rfl := Option.some.inj h
                  refine W_ret [2] [] (fr' := [(2, aI (2 : Int))]) (L' := []) (by kernel_rfl) (by kernel_rfl) ?_
                  refine blockQ_ret ?_
                  refine seqQ_ret ?_
                  refine round_ret ?_
                  refine escQ_ret ?_
                  exact exQ_mk (by kernel_rfl) (by kernel_rfl)
                · replace h := ofF h98 h
                  refine W_skip [0, 12, 13, 14] [] (fr' := [(0, aD (.slice (.pair tI (.pair tI (.pair tI tI)))) a0), (12, aD (.slice (.pair tI (.pair tI (.pair tI tI)))) a0), (13, aI (List.length a0 : Int)), (14, aI i66)]) (L' := []) (by kernel_rfl) (by kernel_rfl) ?_
                  refine blockQ_norm ?_
                  refine seqQ_norm ?_
                  obtain rfl := Option.some.inj h
                  refine W_run 2 [] [0, 12, 13, 14] [] (fr' := [(0, aD (.slice (.pair tI (.pair tI (.pair tI tI)))) a0), (12, aD (.slice (.pair tI (.pair tI (.pair tI tI)))) a0), (13, aI (List.length a0 : Int)), (14, aI (w64 (i66 + (1 : Int))))]) (L' := []) (obs := []) (by kernel_rfl) (by kernel_rfl) (by kernel_rfl) allP0 ?_
                  exact round_next' (by kernel_rfl) (by kernel_rfl)
      · obtain rfl := stepL_false h71 h
        refine W_exit (id := 0) [0] [] (fr' := [(0, aD (.slice (.pair tI (.pair tI (.pair tI tI)))) a0)]) (L' := []) (by kernel_rfl) (by kernel_rfl) ?_
        refine seqQ_exit ?_
        refine round_exit ?_
        refine escQ_brk ?_
        exact exQ_mk (by kernel_rfl) (by kernel_rfl)
    · intro e fr L hJ
      rcases v100 with v105 | v106
      · obtain ⟨rfl, rfl, rfl⟩ := hJ
        obtain rfl := Option.some.inj h
        refine LT_keep [2] [] (fr' := [(2, aI v105)]) (L' := []) (by kernel_rfl) ?_
        refine blockQ_ret ?_
        refine seqQ_ret ?_
        exact retQ_mk (by kernel_rfl) (by kernel_rfl) (by kernel_rfl)
      · obtain ⟨rfl, rfl, rfl⟩ := hJ
        refine LT_keep [0] [] (fr' := [(0, aD (.slice (.pair tI (.pair tI (.pair tI tI)))) a0)]) (L' := []) (by kernel_rfl) ?_
        refine blockQ_hit ?_
        refine seqQ_norm ?_
        refine W_seq (by kernel_rfl) ?_
        obtain ⟨_, h107, h⟩ := bind_of h
        replace h107 := ck_some h107
        refine W_run 4 [] [0, 5] [48] (fr' := [(0, aD (.slice (.pair tI (.pair tI (.pair tI tI)))) a0), (5, .one (.slc 48))]) (L' := [(48, .seq tI (List.replicate (Int.toNat (List.length a0 : Int)) (0 : Int)))]) (obs := [0 ≤ (List.length a0 : Int) ∧ (List.length a0 : Int) = (List.length a0 : Int) ∧ SmallLen (List.length a0 : Int)]) (by kernel_rfl) (by kernel_rfl) (by kernel_rfl) (allP1 h107) ?_
        refine seqQ_norm ?_
        refine W_seq (by kernel_rfl) ?_
        refine W_seq (by kernel_rfl) ?_
        refine W_run 3 [] [0, 5, 49, 50, 51] [48] (fr' := [(0, aD (.slice (.pair tI (.pair tI (.pair tI tI)))) a0), (5, .one (.slc 48)), (49, aD (.slice (.pair tI (.pair tI (.pair tI tI)))) a0), (50, aI (List.length a0 : Int)), (51, aI (0 : Int))]) (L' := [(48, .seq tI (List.replicate (Int.toNat (List.length a0 : Int)) (0 : Int)))]) (obs := []) (by kernel_rfl) (by kernel_rfl) (by kernel_rfl) allP0 ?_
        refine seqQ_norm ?_
        refine W_block (id := 2) (by kernel_rfl) ?_
        obtain ⟨v389, h390, h⟩ := bind_of h
        refine W_len (t := 49) (u := (.pair tI (.pair tI (.pair tI tI)))) (xs := a0) (by kernel_rfl) (fun h393 => ?_)
        obtain ⟨h391, h392⟩ := forL_iter h393 h390
        refine W_weaken [0, 5, 49, 50, 51] [48] (fr' := ((ref_CombCheck_s36 a0) ((0 : Int), List.replicate (Int.toNat (List.length a0 : Int)) (0 : Int))).1) (L' := ((ref_CombCheck_s36 a0) ((0 : Int), List.replicate (Int.toNat (List.length a0 : Int)) (0 : Int))).2) (by kernel_rfl) ?_
        refine W_cutK (W_loop (S := (ref_CombCheck_s36 a0)) (J := (exQ (.exit 2) (ref_CombCheck_s37 a0))) (by kernel_rfl) ?_ h391 _ v389 h392) ?_
        · rintro ⟨i296, x297⟩ s h
          refine W_seq (by kernel_rfl) ?_
          refine W_run 1 [] [0, 5, 49, 50, 51, 52] [48] (fr' := [(0, aD (.slice (.pair tI (.pair tI (.pair tI tI)))) a0), (5, .one (.slc 48)), (49, aD (.slice (.pair tI (.pair tI (.pair tI tI)))) a0), (50, aI (List.length a0 : Int)), (51, aI i296), (52, aB (decide (i296 < (List.length a0 : Int))))]) (L' := [(48, .seq tI x297)]) (obs := []) (by kernel_rfl) (by kernel_rfl) (by kernel_rfl) allP0 ?_
          refine seqQ_norm ?_
          refine W_seq (by kernel_rfl) ?_
          refine W_cond (o := .tmp 52) (b := decide (i296 < (List.length a0 : Int))) (by kernel_rfl) (by kernel_rfl) (fun h301 => ?_) (fun h301 => ?_)
          · replace h := stepL_true h301 h
            obtain ⟨v299, _, h300, h, rfl⟩ := h
            refine W_skip [0, 5, 49, 50, 51] [48] (fr' := [(0, aD (.slice (.pair tI (.pair tI (.pair tI tI)))) a0), (5, .one (.slc 48)), (49, aD (.slice (.pair tI (.pair tI (.pair tI tI)))) a0), (50, aI (List.length a0 : Int)), (51, aI i296)]) (L' := [(48, .seq tI x297)]) (by kernel_rfl) (by kernel_rfl) ?_
            refine seqQ_norm ?_
            refine W_seq (by kernel_rfl) ?_
            obtain ⟨v386, h387, h⟩ := bind_of h
            refine W_cutK (Q' := (exQ .normal (ref_CombCheck_s34 a0 i296)) v386) ?_ ?_
            · replace h := h387
              refine W_block (id := 3) (by kernel_rfl) ?_
              refine W_seq (by kernel_rfl) ?_
              refine W_run 6 [(3, .val (.dat (.pair tI (.pair tI (.pair tI tI))) v299)), (7, .typed)] [0, 5, 6, 7, 49, 50, 51] [48, 7] (fr' := [(0, aD (.slice (.pair tI (.pair tI (.pair tI tI)))) a0), (5, .one (.slc 48)), (6, aI i296), (7, .one (.ptr 7 0)), (49, aD (.slice (.pair tI (.pair tI (.pair tI tI)))) a0), (50, aI (List.length a0 : Int)), (51, aI i296)]) (L' := [(48, .seq tI x297), (7, .one (.pair tI (.pair tI (.pair tI tI))) v299)]) (obs := [Idx a0 i296 v299, True]) (by kernel_rfl) (by kernel_rfl) (by kernel_rfl) (allP2 (Idx.of h300) (allP1 trivial)) ?_
              refine seqQ_norm ?_
              refine W_seq (by kernel_rfl) ?_
              obtain ⟨v358, h359, h⟩ := bind_of h
              refine W_run 4 [] [0, 5, 6, 7, 49, 50, 51] [48, 7] (fr' := [(0, aD (.slice (.pair tI (.pair tI (.pair tI tI)))) a0), (5, .one (.slc 48)), (6, aI i296), (7, .one (.ptr 7 0)), (49, aD (.slice (.pair tI (.pair tI (.pair tI tI)))) a0), (50, aI (List.length a0 : Int)), (51, aI i296)]) (L' := [(48, .seq tI (List.set x297 (Int.toNat i296) (1 : Int))), (7, .one (.pair tI (.pair tI (.pair tI tI))) v299)]) (obs := [InR i296 (List.length x297), InR i296 (List.length x297)]) (by kernel_rfl) (by kernel_rfl) (by kernel_rfl) (allP2 (InR.of h359) (allP1 (InR.of h359))) ?_
              refine seqQ_norm ?_
              refine W_seq (by kernel_rfl) ?_
              obtain ⟨v381, h382, h⟩ := bind_of h
              refine W_cutK (Q' := (exQ .normal (ref_CombCheck_s32 a0 i296)) v381) ?_ ?_
              · replace h := h382
                refine W_seq (by kernel_rfl) ?_
                refine W_run 3 [] [0, 5, 6, 7, 49, 50, 51, 61] [48, 7] (fr' := [(0, aD (.slice (.pair tI (.pair tI (.pair tI tI)))) a0), (5, .one (.slc 48)), (6, aI i296), (7, .one (.ptr 7 0)), (49, aD (.slice (.pair tI (.pair tI (.pair tI tI)))) a0), (50, aI (List.length a0 : Int)), (51, aI i296), (61, aB (v299.1 == (4 : Int)))]) (L' := [(48, .seq tI (List.set x297 (Int.toNat i296) (1 : Int))), (7, .one (.pair tI (.pair tI (.pair tI tI))) v299)]) (obs := []) (by kernel_rfl) (by kernel_rfl) (by kernel_rfl) allP0 ?_
                refine seqQ_norm ?_
                refine W_cond (o := .tmp 61) (b := v299.1 == (4 : Int)) (by kernel_rfl) (by kernel_rfl) (fun h374 => ?_) (fun h374 => ?_)
                · replace h := ofT h374 h
                  obtain ⟨v375, h376, h⟩ := bind_of h
                  obtain ⟨v377, h378, h⟩ := bind_of h
                  obtain ⟨v379, h380, h⟩ := bind_of h
                  obtain rfl := Option.some.inj h
                  refine W_draw2 14 [(13, .val (.dat tI v375)), (25, .val (.dat tI v377))] [] [0, 5, 6, 49, 50, 51] [48] (fr' := [(0, aD (.slice (.pair tI (.pair tI (.pair tI tI)))) a0), (5, .one (.slc 48)), (6, aI i296), (49, aD (.slice (.pair tI (.pair tI (.pair tI tI)))) a0), (50, aI (List.length a0 : Int)), (51, aI i296)]) (L' := [(48, .seq tI (List.set (List.set x297 (Int.toNat i296) (1 : Int)) (Int.toNat i296) (w64 ((w64 ((1 : Int) + v375)) + v377))))]) (out := [(62, .one (.slc 48)), (63, aI i296), (64, .one (.slc 48)), (65, .one (.ptr 7 1)), (66, aI v299.2.1), (67, .one (.eptr 48 1 v299.2.1 0)), (68, aI v375), (69, aI (w64 ((1 : Int) + v375))), (70, .one (.slc 48)), (71, .one (.ptr 7 2)), (72, aI v299.2.2.1), (73, .one (.eptr 48 1 v299.2.2.1 0)), (74, aI v377), (75, aI (w64 ((w64 ((1 : Int) + v375)) + v377)))]) (obs := [InR v299.2.1 (List.length (List.set x297 (Int.toNat i296) (1 : Int))), Idx (List.set x297 (Int.toNat i296) (1 : Int)) v299.2.1 v375, InR v299.2.2.1 (List.length (List.set x297 (Int.toNat i296) (1 : Int))), Idx (List.set x297 (Int.toNat i296) (1 : Int)) v299.2.2.1 v377]) (obs2 := [InR i296 (List.length (List.set x297 (Int.toNat i296) (1 : Int))), InR i296 (List.length (List.set x297 (Int.toNat i296) (1 : Int)))]) (calls := []) (by kernel_rfl) (by kernel_rfl) (by kernel_rfl) (by kernel_rfl) (allP2 (InR.of h376) (allP2 (Idx.of h376) (allP2 (InR.of h378) (allP1 (Idx.of h378))))) allC0 (by kernel_rfl) (allP2 (InR.of h380) (allP1 (InR.of h380))) ?_
                  exact exQ_mk (by kernel_rfl) (by kernel_rfl)
                · replace h := ofF h374 h
                  obtain rfl := Option.some.inj h
                  refine W_skip [0, 5, 6, 49, 50, 51] [48] (fr' := [(0, aD (.slice (.pair tI (.pair tI (.pair tI tI)))) a0), (5, .one (.slc 48)), (6, aI i296), (49, aD (.slice (.pair tI (.pair tI (.pair tI tI)))) a0), (50, aI (List.length a0 : Int)), (51, aI i296)]) (L' := [(48, .seq tI (List.set x297 (Int.toNat i296) (1 : Int)))]) (by kernel_rfl) (by kernel_rfl) ?_
                  exact exQ_mk (by kernel_rfl) (by kernel_rfl)
              · intro e fr L hJ
                obtain ⟨rfl, rfl, rfl⟩ := hJ
                refine LT_keep [0, 5, 6, 49, 50, 51] [48] (fr' := [(0, aD (.slice (.pair tI (.pair tI (.pair tI tI)))) a0), (5, .one (.slc 48)), (6, aI i296), (49, aD (.slice (.pair tI (.pair tI (.pair tI tI)))) a0), (50, aI (List.length a0 : Int)), (51, aI i296)]) (L' := [(48, .seq tI v381)]) (by kernel_rfl) ?_
                refine seqQ_norm ?_
                refine W_seq (by kernel_rfl) ?_
                obtain ⟨v383, h384, h⟩ := bind_of h
                refine W_run 5 [(7, .val (.dat tI v383))] [0, 5, 6, 49, 50, 51, 81] [48] (fr' := [(0, aD (.slice (.pair tI (.pair tI (.pair tI tI)))) a0), (5, .one (.slc 48)), (6, aI i296), (49, aD (.slice (.pair tI (.pair tI (.pair tI tI)))) a0), (50, aI (List.length a0 : Int)), (51, aI i296), (81, aB (decide (v383 > (300 : Int))))]) (L' := [(48, .seq tI v381)]) (obs := [InR i296 (List.length v381), Idx v381 i296 v383]) (by kernel_rfl) (by kernel_rfl) (by kernel_rfl) (allP2 (InR.of h384) (allP1 (Idx.of h384))) ?_
                refine seqQ_norm ?_
                refine W_cond (o := .tmp 81) (b := decide (v383 > (300 : Int))) (by kernel_rfl) (by kernel_rfl) (fun h385 => ?_) (fun h385 => ?_)
                · replace h := ofT h385 h
                  obtain rfl := Option.some.inj h
                  refine W_run 4 [] [0, 5, 49, 50, 51] [48] (fr' := [(0, aD (.slice (.pair tI (.pair tI (.pair tI tI)))) a0), (5, .one (.slc 48)), (49, aD (.slice (.pair tI (.pair tI (.pair tI tI)))) a0), (50, aI (List.length a0 : Int)), (51, aI i296)]) (L' := [(48, .seq tI (List.set v381 (Int.toNat i296) (301 : Int)))]) (obs := [InR i296 (List.length v381), InR i296 (List.length v381)]) (by kernel_rfl) (by kernel_rfl) (by kernel_rfl) (allP2 (InR.of h384) (allP1 (InR.of h384))) ?_
                  refine blockQ_norm ?_
                  exact exQ_mk (by kernel_rfl) (by kernel_rfl)
                · replace h := ofF h385 h
                  obtain rfl := Option.some.inj h
                  refine W_skip [0, 5, 49, 50, 51] [48] (fr' := [(0, aD (.slice (.pair tI (.pair tI (.pair tI tI)))) a0), (5, .one (.slc 48)), (49, aD (.slice (.pair tI (.pair tI (.pair tI tI)))) a0), (50, aI (List.length a0 : Int)), (51, aI i296)]) (L' := [(48, .seq tI v381)]) (by kernel_rfl) (by kernel_rfl) ?_
                  refine blockQ_norm ?_
                  exact exQ_mk (by kernel_rfl) (by kernel_rfl)
            · intro e fr L hJ
              obtain ⟨rfl, rfl, rfl⟩ := hJ
              refine LT_keep [0, 5, 49, 50, 51] [48] (fr' := [(0, aD (.slice (.pair tI (.pair tI (.pair tI tI)))) a0), (5, .one (.slc 48)), (49, aD (.slice (.pair tI (.pair tI (.pair tI tI)))) a0), (50, aI (List.length a0 : Int)), (51, aI i296)]) (L' := [(48, .seq tI v386)]) (by kernel_rfl) ?_
              refine seqQ_norm ?_
              obtain rfl := Option.some.inj h
              refine W_run 2 [] [0, 5, 49, 50, 51] [48] (fr' := [(0, aD (.slice (.pair tI (.pair tI (.pair tI tI)))) a0), (5, .one (.slc 48)), (49, aD (.slice (.pair tI (.pair tI (.pair tI tI)))) a0), (50, aI (List.length a0 : Int)), (51, aI (w64 (i296 + (1 : Int))))]) (L' := [(48, .seq tI v386)]) (obs := []) (by kernel_rfl) (by kernel_rfl) (by kernel_rfl) allP0 ?_
              exact round_next' (by kernel_rfl) (by kernel_rfl)
          · obtain rfl := stepL_false h301 h
            refine W_exit (id := 2) [0, 5] [48] (fr' := [(0, aD (.slice (.pair tI (.pair tI (.pair tI tI)))) a0), (5, .one (.slc 48))]) (L' := [(48, .seq tI x297)]) (by kernel_rfl) (by kernel_rfl) ?_
            refine seqQ_exit ?_
            refine round_exit ?_
            exact exQ_mk (by kernel_rfl) (by kernel_rfl)
        · intro e fr L hJ
          obtain ⟨rfl, rfl, rfl⟩ := hJ
          refine LT_keep [0, 5] [48] (fr' := [(0, aD (.slice (.pair tI (.pair tI (.pair tI tI)))) a0), (5, .one (.slc 48))]) (L' := [(48, .seq tI v389)]) (by kernel_rfl) ?_
          refine blockQ_hit ?_
          refine seqQ_norm ?_
          refine W_seq (by kernel_rfl) ?_
          refine W_seq (by kernel_rfl) ?_
          obtain ⟨v394, h395, h⟩ := bind_of h
          refine W_run 7 [(11, .val (.dat tI v394))] [92] [] (fr' := [(92, aB (decide (v394 > (300 : Int))))]) (L' := []) (obs := [InR (w64 ((List.length a0 : Int) - (1 : Int))) (List.length v389), Idx v389 (w64 ((List.length a0 : Int) - (1 : Int))) v394]) (by kernel_rfl) (by kernel_rfl) (by kernel_rfl) (allP2 (InR.of h395) (allP1 (Idx.of h395))) ?_
          refine seqQ_norm ?_
          refine W_cond (o := .tmp 92) (b := decide (v394 > (300 : Int))) (by kernel_rfl) (by kernel_rfl) (fun h396 => ?_) (fun h396 => ?_)
          · replace h := ofT h396 h
            refine W_seq (by kernel_rfl) ?_
            refine W_run 1 [] [2] [] (fr' := [(2, aI (1 : Int))]) (L' := []) (obs := []) (by kernel_rfl) (by kernel_rfl) (by kernel_rfl) allP0 ?_
            refine seqQ_norm ?_
            obtain rfl := Option.some.inj h
            refine W_ret [2] [] (fr' := [(2, aI (1 : Int))]) (L' := []) (by kernel_rfl) (by kernel_rfl) ?_
            refine seqQ_ret ?_
            exact retQ_mk (by kernel_rfl) (by kernel_rfl) (by kernel_rfl)
          · replace h := ofF h396 h
            refine W_skip [] [] (fr' := []) (L' := []) (by kernel_rfl) (by kernel_rfl) ?_
            refine seqQ_norm ?_
            refine W_seq (by kernel_rfl) ?_
            refine W_run 1 [] [2] [] (fr' := [(2, aI (0 : Int))]) (L' := []) (obs := []) (by kernel_rfl) (by kernel_rfl) (by kernel_rfl) allP0 ?_
            refine seqQ_norm ?_
            obtain rfl := Option.some.inj h
            refine W_ret [2] [] (fr' := [(2, aI (0 : Int))]) (L' := []) (by kernel_rfl) (by kernel_rfl) ?_
            exact retQ_mk (by kernel_rfl) (by kernel_rfl) (by kernel_rfl)

@[reducible] def ref_Read_s1 (v : (Int × (Int × (CT × CT)))) : Fr × LL := ([(6, .one (.ptr 29 0))], [(29, .one (.pair tI (.pair tI (.pair .tree .tree))) v)])
def ref_Read_step (rf_ref_Read : (List (Int × (Int × (Int × Int)))) → Int → Option CT) (fuel : Nat) (a0 : (List (Int × (Int × (Int × Int))))) (a1 : Int) : Option CT :=
(idx a0 a1).bind fun v1 =>
bif v1.1 == (4 : Int) then
((rf_ref_Read a0 v1.2.1).bind fun r4 =>
(rf_ref_Read a0 v1.2.2.1).bind fun r6 =>
some (CT.mk (v1.1, (0 : Int), r4, r6)))
else
((bif v1.1 == (3 : Int) then
(some (v1.1, v1.2.2.2, CT.nil, CT.nil))
else
(some (v1.1, (0 : Int), CT.nil, CT.nil))).bind fun v11 =>
some (CT.mk v11))
def ref_Read : Nat → (List (Int × (Int × (Int × Int)))) → Int → Option CT
  | 0 => fun _ _ => none
  | fuel + 1 => fun a0 a1 => ref_Read_step (ref_Read fuel) fuel a0 a1
theorem ref_Read_step_ok {rf_ref_Read : (List (Int × (Int × (Int × Int)))) → Int → Option CT} (ih_ref_Read : ∀ {a0 : (List (Int × (Int × (Int × Int))))} {a1 : Int} {r : CT}, rf_ref_Read a0 a1 = some r → FnC Try.prog 30 [aD (.slice (.pair tI (.pair tI (.pair tI tI)))) a0, aI a1] [] (aD .tree r) []) {fuel : Nat} {a0 : (List (Int × (Int × (Int × Int))))} {a1 : Int} {r : CT} (h : ref_Read_step rf_ref_Read fuel a0 a1 = some r) : FnC Try.prog 30 [aD (.slice (.pair tI (.pair tI (.pair tI tI)))) a0, aI a1] [] (aD .tree r) [] := by
  refine fnC_of_W (B := bodyOf Try.f30) (n := 39) Try.func30 (by kernel_rfl) (by kernel_rfl) (by kernel_rfl) (by kernel_rfl) (by kernel_rfl) ?_
  intro K
  refine W_seq (by kernel_rfl) ?_
  refine W_run 1 [] [0, 1] [] (fr' := [(0, aD (.slice (.pair tI (.pair tI (.pair tI tI)))) a0), (1, aI a1)]) (L' := []) (obs := []) (by kernel_rfl) (by kernel_rfl) (by kernel_rfl) allP0 ?_
  refine seqQ_norm ?_
  refine W_seq (by kernel_rfl) ?_
  obtain ⟨v1, h2, h⟩ := bind_of h
  refine W_run 6 [(5, .val (.dat (.pair tI (.pair tI (.pair tI tI))) v1)), (9, .typed)] [0, 5] [5] (fr' := [(0, aD (.slice (.pair tI (.pair tI (.pair tI tI)))) a0), (5, .one (.ptr 5 0))]) (L' := [(5, .one (.pair tI (.pair tI (.pair tI tI))) v1)]) (obs := [Idx a0 a1 v1, True]) (by kernel_rfl) (by kernel_rfl) (by kernel_rfl) (allP2 (Idx.of h2) (allP1 trivial)) ?_
  refine seqQ_norm ?_
  refine W_seq (by kernel_rfl) ?_
  refine W_seq (by kernel_rfl) ?_
  refine W_run 3 [] [0, 5, 13] [5] (fr' := [(0, aD (.slice (.pair tI (.pair tI (.pair tI tI)))) a0), (5, .one (.ptr 5 0)), (13, aB (v1.1 == (4 : Int)))]) (L' := [(5, .one (.pair tI (.pair tI (.pair tI tI))) v1)]) (obs := []) (by kernel_rfl) (by kernel_rfl) (by kernel_rfl) allP0 ?_
  refine seqQ_norm ?_
  refine W_cond (o := .tmp 13) (b := v1.1 == (4 : Int)) (by kernel_rfl) (by kernel_rfl) (fun h3 => ?_) (fun h3 => ?_)
  · replace h := ofT h3 h
    refine W_seq (by kernel_rfl) ?_
    obtain ⟨r4, h5, h⟩ := bind_of h
    obtain ⟨r6, h7, h⟩ := bind_of h
    refine W_draw3 10 [] [] [(5, [none, none], aD .tree r4), (9, [none, none], aD .tree r6)] [4] [25] (fr' := [(4, .one (.ptr 25 0))]) (L' := [(25, .one (.pair tI (.pair tI (.pair .tree .tree))) (v1.1, (0 : Int), r4, r6))]) (out := [(14, .one (.ptr 5 0)), (15, aI v1.1), (16, aD (.slice (.pair tI (.pair tI (.pair tI tI)))) a0), (17, .one (.ptr 5 1)), (18, aI v1.2.1), (19, aD .tree r4), (20, aD (.slice (.pair tI (.pair tI (.pair tI tI)))) a0), (21, .one (.ptr 5 2)), (22, aI v1.2.2.1), (23, aD .tree r6)]) (obs := [True, True]) (obs2 := []) (calls := [(30, [aD (.slice (.pair tI (.pair tI (.pair tI tI)))) a0, aI v1.2.1], aD .tree r4), (30, [aD (.slice (.pair tI (.pair tI (.pair tI tI)))) a0, aI v1.2.2.1], aD .tree r6)]) (by kernel_rfl) (by kernel_rfl) (by kernel_rfl) (by kernel_rfl) (allP2 trivial (allP1 trivial)) (allC1 (by kernel_rfl) (ih_ref_Read h5) (by kernel_rfl) (allC1 (by kernel_rfl) (ih_ref_Read h7) (by kernel_rfl) allC0)) (by kernel_rfl) allP0 ?_
    refine seqQ_norm ?_
    obtain rfl := Option.some.inj h
    refine W_fz 25 (by kernel_rfl) ?_
    refine W_cnv 4 .tree (by kernel_rfl) ?_
    refine W_ret [4] [] (fr' := [(4, aD .tree (CT.mk (v1.1, (0 : Int), r4, r6)))]) (L' := []) (by kernel_rfl) (by kernel_rfl) ?_
    refine seqQ_ret ?_
    exact retQ_mk (by kernel_rfl) (by kernel_rfl) (by kernel_rfl)
  · replace h := ofF h3 h
    refine W_skip [5] [5] (fr' := [(5, .one (.ptr 5 0))]) (L' := [(5, .one (.pair tI (.pair tI (.pair tI tI))) v1)]) (by kernel_rfl) (by kernel_rfl) ?_
    refine seqQ_norm ?_
    refine W_seq (by kernel_rfl) ?_
    refine W_run 5 [] [5, 6] [5, 29] (fr' := [(5, .one (.ptr 5 0)), (6, .one (.ptr 29 0))]) (L' := [(5, .one (.pair tI (.pair tI (.pair tI tI))) v1), (29, .one (.pair tI (.pair tI (.pair .tree .tree))) (v1.1, (0 : Int), CT.nil, CT.nil))]) (obs := []) (by kernel_rfl) (by kernel_rfl) (by kernel_rfl) allP0 ?_
    refine seqQ_norm ?_
    refine W_seq (by kernel_rfl) ?_
    obtain ⟨v11, h12, h⟩ := bind_of h
    refine W_cutK (Q' := (exQ .normal ref_Read_s1) v11) ?_ ?_
    · replace h := h12
      refine W_seq (by kernel_rfl) ?_
      refine W_run 3 [] [5, 6, 32] [5, 29] (fr' := [(5, .one (.ptr 5 0)), (6, .one (.ptr 29 0)), (32, aB (v1.1 == (3 : Int)))]) (L' := [(5, .one (.pair tI (.pair tI (.pair tI tI))) v1), (29, .one (.pair tI (.pair tI (.pair .tree .tree))) (v1.1, (0 : Int), CT.nil, CT.nil))]) (obs := []) (by kernel_rfl) (by kernel_rfl) (by kernel_rfl) allP0 ?_
      refine seqQ_norm ?_
      refine W_cond (o := .tmp 32) (b := v1.1 == (3 : Int)) (by kernel_rfl) (by kernel_rfl) (fun h10 => ?_) (fun h10 => ?_)
      · replace h := ofT h10 h
        obtain rfl := Option.some.inj h
        refine W_run 6 [] [6] [29] (fr' := [(6, .one (.ptr 29 0))]) (L' := [(29, .one (.pair tI (.pair tI (.pair .tree .tree))) (v1.1, v1.2.2.2, CT.nil, CT.nil))]) (obs := [True]) (by kernel_rfl) (by kernel_rfl) (by kernel_rfl) (allP1 trivial) ?_
        exact exQ_mk (by kernel_rfl) (by kernel_rfl)
      · replace h := ofF h10 h
        obtain rfl := Option.some.inj h
        refine W_skip [6] [29] (fr' := [(6, .one (.ptr 29 0))]) (L' := [(29, .one (.pair tI (.pair tI (.pair .tree .tree))) (v1.1, (0 : Int), CT.nil, CT.nil))]) (by kernel_rfl) (by kernel_rfl) ?_
        exact exQ_mk (by kernel_rfl) (by kernel_rfl)
    · intro e fr L hJ
      obtain ⟨rfl, rfl, rfl⟩ := hJ
      refine LT_keep [6] [29] (fr' := [(6, .one (.ptr 29 0))]) (L' := [(29, .one (.pair tI (.pair tI (.pair .tree .tree))) v11)]) (by kernel_rfl) ?_
      refine seqQ_norm ?_
      refine W_seq (by kernel_rfl) ?_
      refine W_run 2 [] [4] [29] (fr' := [(4, .one (.ptr 29 0))]) (L' := [(29, .one (.pair tI (.pair tI (.pair .tree .tree))) v11)]) (obs := []) (by kernel_rfl) (by kernel_rfl) (by kernel_rfl) allP0 ?_
      refine seqQ_norm ?_
      obtain rfl := Option.some.inj h
      refine W_fz 29 (by kernel_rfl) ?_
      refine W_cnv 4 .tree (by kernel_rfl) ?_
      refine W_ret [4] [] (fr' := [(4, aD .tree (CT.mk v11))]) (L' := []) (by kernel_rfl) (by kernel_rfl) ?_
      exact retQ_mk (by kernel_rfl) (by kernel_rfl) (by kernel_rfl)
theorem ref_Read_ok : ∀ {fuel : Nat} {a0 : (List (Int × (Int × (Int × Int))))} {a1 : Int} {r : CT}, ref_Read fuel a0 a1 = some r → FnC Try.prog 30 [aD (.slice (.pair tI (.pair tI (.pair tI tI)))) a0, aI a1] [] (aD .tree r) [] := by
  intro fuel
  induction fuel with
  | zero => intros a0 a1 r h; cases h
  | succ fuel ih => intros a0 a1 r h; exact ref_Read_step_ok (fun h => ih h) (show ref_Read_step (ref_Read fuel) fuel a0 a1 = some r from h)

@[reducible] def ref_Stands_s1 (v : Bool) : Fr × LL := ([(4, aB v)], [])
@[reducible] def ref_Stands_s2 (v : Bool) : Fr × LL := ([(4, aB v)], [])
def ref_Stands_step (rf_ref_Stands : CT → Int → Option Bool) (fuel : Nat) (a0 : CT) (a1 : Int) : Option Bool :=
(CT.open a0).bind fun p1 =>
bif p1.1 == (4 : Int) then
(((rf_ref_Stands p1.2.2.1 a1).bind fun r14 =>
bif r14 then
(some true)
else
((rf_ref_Stands p1.2.2.2 a1).bind fun r17 =>
some r17)).bind fun v19 =>
some v19)
else
((bif p1.1 == (3 : Int) then
(some (p1.2.1 == a1))
else
(some false)).bind fun v24 =>
some v24)
def ref_Stands : Nat → CT → Int → Option Bool
  | 0 => fun _ _ => none
  | fuel + 1 => fun a0 a1 => ref_Stands_step (ref_Stands fuel) fuel a0 a1
theorem ref_Stands_step_ok {rf_ref_Stands : CT → Int → Option Bool} (ih_ref_Stands : ∀ {a0 : CT} {a1 : Int} {r : Bool}, rf_ref_Stands a0 a1 = some r → FnC Try.prog 69 [aD .tree a0, aI a1] [] (aB r) []) {fuel : Nat} {a0 : CT} {a1 : Int} {r : Bool} (h : ref_Stands_step rf_ref_Stands fuel a0 a1 = some r) : FnC Try.prog 69 [aD .tree a0, aI a1] [] (aB r) [] := by
  refine fnC_of_W (B := bodyOf Try.f69) (n := 37) Try.func69 (by kernel_rfl) (by kernel_rfl) (by kernel_rfl) (by kernel_rfl) (by kernel_rfl) ?_
  intro K
  refine W_seq (by kernel_rfl) ?_
  refine W_run 1 [] [0, 1] [] (fr' := [(0, aD .tree a0), (1, aI a1)]) (L' := []) (obs := []) (by kernel_rfl) (by kernel_rfl) (by kernel_rfl) allP0 ?_
  refine seqQ_norm ?_
  refine W_seq (by kernel_rfl) ?_
  refine W_seq (by kernel_rfl) ?_
  obtain ⟨p1, h2, h⟩ := bind_of h
  refine W_run 5 [(3, .val (.dat (.pair tI (.pair tI (.pair .tree .tree))) p1))] [0, 1, 9] [] (fr' := [(0, aD .tree a0), (1, aI a1), (9, aB (p1.1 == (4 : Int)))]) (L' := []) (obs := [CT.open a0 = some p1]) (by kernel_rfl) (by kernel_rfl) (by kernel_rfl) (allP1 h2) ?_
  refine seqQ_norm ?_
  refine W_cond (o := .tmp 9) (b := p1.1 == (4 : Int)) (by kernel_rfl) (by kernel_rfl) (fun h3 => ?_) (fun h3 => ?_)
  · replace h := ofT h3 h
    refine W_seq (by kernel_rfl) ?_
    obtain ⟨v19, h20, h⟩ := bind_of h
    refine W_cutK (Q' := (exQ .normal ref_Stands_s1) v19) ?_ ?_
    · replace h := h20
      refine W_region (by kernel_rfl) ?_
      refine WO_run (j := 5) (k := 5) (orcs := [(3, .val (.dat (.pair tI (.pair tI (.pair .tree .tree))) p1))]) (kF := [0, 1, 13, 14]) (kL := []) (fr' := [(0, aD .tree a0), (1, aI a1), (13, aD .tree p1.2.2.1), (14, aI a1)]) (L' := []) (obs := [CT.open a0 = some p1]) rfl (by kernel_rfl) (allP1 h2) ?_
      obtain ⟨r14, h15, h⟩ := bind_of h
      refine WO_call0 (us := [none, none]) (d := 15) (p := True) (j := 6) rfl ⟨by kernel_rfl, by kernel_rfl, by kernel_rfl⟩ trivial (ih_ref_Stands h15) (by kernel_rfl) ?_
      refine WO_run (j := 7) (k := 1) (orcs := []) (kF := [0, 1, 16]) (kL := []) (fr' := [(0, aD .tree a0), (1, aI a1), (16, aB r14)]) (L' := []) (obs := []) rfl (by kernel_rfl) allP0 ?_
      rcases Bool.eq_false_or_eq_true (r14) with h16 | h16
      · replace h := ofT h16 h
        refine WO_run (j := 15) (k := 8) (orcs := [(14, .known true), (16, .known true), (18, .known true), (20, .known true), (22, .known true), (24, .known true), (27, .val (.dat .bool true))]) (kF := [4]) (kL := []) (fr' := [(4, aB true)]) (L' := []) (obs := [(r14 = true), (r14 = true), (r14 = true), (r14 = true), (r14 = true), (r14 = true), (r14 = true)]) rfl (by kernel_rfl) (allP2 h16 (allP2 h16 (allP2 h16 (allP2 h16 (allP2 h16 (allP2 h16 (allP1 h16))))))) ?_
        obtain rfl := Option.some.inj h
        refine WO_fin [4] [] (fr' := [(4, aB true)]) (L' := []) (by kernel_rfl) (by kernel_rfl) ?_
        exact exQ_mk (by kernel_rfl) (by kernel_rfl)
      · replace h := ofF h16 h
        refine WO_run (j := 12) (k := 5) (orcs := [(14, .known false), (16, .known false), (17, .val (.dat (.pair tI (.pair tI (.pair .tree .tree))) p1)), (18, .known false), (20, .known false), (22, .known false)]) (kF := [16, 20, 21]) (kL := []) (fr' := [(16, aB r14), (20, aD .tree p1.2.2.2), (21, aI a1)]) (L' := []) (obs := [(r14 = false), (r14 = false), CT.open a0 = some p1, (r14 = false), (r14 = false), (r14 = false)]) rfl (by kernel_rfl) (allP2 h16 (allP2 h16 (allP2 h2 (allP2 h16 (allP2 h16 (allP1 h16)))))) ?_
        obtain ⟨r17, h18, h⟩ := bind_of h
        refine WO_call0 (us := [none, none]) (d := 22) (p := (r14 = false)) (j := 13) rfl ⟨by kernel_rfl, by kernel_rfl, by kernel_rfl⟩ h16 (ih_ref_Stands h18) (by kernel_rfl) ?_
        refine WO_run (j := 15) (k := 2) (orcs := [(27, .val (.dat .bool false))]) (kF := [4]) (kL := []) (fr' := [(4, aB r17)]) (L' := []) (obs := [(r14 = false)]) rfl (by kernel_rfl) (allP1 h16) ?_
        obtain rfl := Option.some.inj h
        refine WO_fin [4] [] (fr' := [(4, aB r17)]) (L' := []) (by kernel_rfl) (by kernel_rfl) ?_
        exact exQ_mk (by kernel_rfl) (by kernel_rfl)
    · intro e fr L hJ
      obtain ⟨rfl, rfl, rfl⟩ := hJ
      refine LT_keep [4] [] (fr' := [(4, aB v19)]) (L' := []) (by kernel_rfl) ?_
      refine seqQ_norm ?_
      obtain rfl := Option.some.inj h
      refine W_ret [4] [] (fr' := [(4, aB v19)]) (L' := []) (by kernel_rfl) (by kernel_rfl) ?_
      refine seqQ_ret ?_
      exact retQ_mk (by kernel_rfl) (by kernel_rfl) (by kernel_rfl)
  · replace h := ofF h3 h
    refine W_skip [0, 1] [] (fr' := [(0, aD .tree a0), (1, aI a1)]) (L' := []) (by kernel_rfl) (by kernel_rfl) ?_
    refine seqQ_norm ?_
    refine W_seq (by kernel_rfl) ?_
    obtain ⟨v24, h25, h⟩ := bind_of h
    refine W_cutK (Q' := (exQ .normal ref_Stands_s2) v24) ?_ ?_
    · replace h := h25
      refine W_region (by kernel_rfl) ?_
      refine WO_run (j := 6) (k := 6) (orcs := [(3, .val (.dat (.pair tI (.pair tI (.pair .tree .tree))) p1))]) (kF := [0, 1, 29]) (kL := []) (fr' := [(0, aD .tree a0), (1, aI a1), (29, aB (p1.1 == (3 : Int)))]) (L' := []) (obs := [CT.open a0 = some p1]) rfl (by kernel_rfl) (allP1 h2) ?_
      rcases Bool.eq_false_or_eq_true (p1.1 == (3 : Int)) with h23 | h23
      · replace h := ofT h23 h
        refine WO_run (j := 14) (k := 8) (orcs := [(12, .known true), (14, .known true), (15, .val (.dat (.pair tI (.pair tI (.pair .tree .tree))) p1)), (16, .known true), (18, .known true), (20, .known true), (22, .known true), (25, .val (.dat .bool true))]) (kF := [4]) (kL := []) (fr' := [(4, aB (p1.2.1 == a1))]) (L' := []) (obs := [((p1.1 == (3 : Int)) = true), ((p1.1 == (3 : Int)) = true), CT.open a0 = some p1, ((p1.1 == (3 : Int)) = true), ((p1.1 == (3 : Int)) = true), ((p1.1 == (3 : Int)) = true), ((p1.1 == (3 : Int)) = true), ((p1.1 == (3 : Int)) = true)]) rfl (by kernel_rfl) (allP2 h23 (allP2 h23 (allP2 h2 (allP2 h23 (allP2 h23 (allP2 h23 (allP2 h23 (allP1 h23)))))))) ?_
        obtain rfl := Option.some.inj h
        refine WO_fin [4] [] (fr' := [(4, aB (p1.2.1 == a1))]) (L' := []) (by kernel_rfl) (by kernel_rfl) ?_
        exact exQ_mk (by kernel_rfl) (by kernel_rfl)
      · replace h := ofF h23 h
        refine WO_run (j := 14) (k := 8) (orcs := [(12, .known false), (14, .known false), (16, .known false), (18, .known false), (20, .known false), (22, .known false), (25, .val (.dat .bool false))]) (kF := [4]) (kL := []) (fr' := [(4, aB false)]) (L' := []) (obs := [((p1.1 == (3 : Int)) = false), ((p1.1 == (3 : Int)) = false), ((p1.1 == (3 : Int)) = false), ((p1.1 == (3 : Int)) = false), ((p1.1 == (3 : Int)) = false), ((p1.1 == (3 : Int)) = false), ((p1.1 == (3 : Int)) = false)]) rfl (by kernel_rfl) (allP2 h23 (allP2 h23 (allP2 h23 (allP2 h23 (allP2 h23 (allP2 h23 (allP1 h23))))))) ?_
        obtain rfl := Option.some.inj h
        refine WO_fin [4] [] (fr' := [(4, aB false)]) (L' := []) (by kernel_rfl) (by kernel_rfl) ?_
        exact exQ_mk (by kernel_rfl) (by kernel_rfl)
    · intro e fr L hJ
      obtain ⟨rfl, rfl, rfl⟩ := hJ
      refine LT_keep [4] [] (fr' := [(4, aB v24)]) (L' := []) (by kernel_rfl) ?_
      refine seqQ_norm ?_
      obtain rfl := Option.some.inj h
      refine W_ret [4] [] (fr' := [(4, aB v24)]) (L' := []) (by kernel_rfl) (by kernel_rfl) ?_
      exact retQ_mk (by kernel_rfl) (by kernel_rfl) (by kernel_rfl)
theorem ref_Stands_ok : ∀ {fuel : Nat} {a0 : CT} {a1 : Int} {r : Bool}, ref_Stands fuel a0 a1 = some r → FnC Try.prog 69 [aD .tree a0, aI a1] [] (aB r) [] := by
  intro fuel
  induction fuel with
  | zero => intros a0 a1 r h; cases h
  | succ fuel ih => intros a0 a1 r h; exact ref_Stands_step_ok (fun h => ih h) (show ref_Stands_step (ref_Stands fuel) fuel a0 a1 = some r from h)

def ref_Put (a0 : CT) (a1 : CT) : Option CT :=
some (CT.mk ((4 : Int), (0 : Int), a0, a1))
theorem ref_Put_ok {a0 : CT} {a1 : CT} {r : CT} (h : ref_Put a0 a1 = some r) : FnC Try.prog 65 [aD .tree a0, aD .tree a1] [] (aD .tree r) [] := by
  refine fnC_of_W (B := bodyOf Try.f65) (n := 9) Try.func65 (by kernel_rfl) (by kernel_rfl) (by kernel_rfl) (by kernel_rfl) (by kernel_rfl) ?_
  intro K
  refine W_seq (by kernel_rfl) ?_
  refine W_run 1 [] [0, 1] [] (fr' := [(0, aD .tree a0), (1, aD .tree a1)]) (L' := []) (obs := []) (by kernel_rfl) (by kernel_rfl) (by kernel_rfl) allP0 ?_
  refine seqQ_norm ?_
  refine W_seq (by kernel_rfl) ?_
  refine W_run 5 [] [4] [8] (fr' := [(4, .one (.ptr 8 0))]) (L' := [(8, .one (.pair tI (.pair tI (.pair .tree .tree))) ((4 : Int), (0 : Int), a0, a1))]) (obs := []) (by kernel_rfl) (by kernel_rfl) (by kernel_rfl) allP0 ?_
  refine seqQ_norm ?_
  obtain rfl := Option.some.inj h
  refine W_fz 8 (by kernel_rfl) ?_
  refine W_cnv 4 .tree (by kernel_rfl) ?_
  refine W_ret [4] [] (fr' := [(4, aD .tree (CT.mk ((4 : Int), (0 : Int), a0, a1)))]) (L' := []) (by kernel_rfl) (by kernel_rfl) ?_
  exact retQ_mk (by kernel_rfl) (by kernel_rfl) (by kernel_rfl)

def ref_Outed_step (rf_ref_Outed : CT → Int → Option CT) (fuel : Nat) (a0 : CT) (a1 : Int) : Option CT :=
(ref_Stands fuel a0 a1).bind fun r1 =>
bif !r1 then
((ref_Put (CT.mk ((2 : Int), (0 : Int), CT.nil, CT.nil)) a0).bind fun r4 =>
some r4)
else
((CT.open a0).bind fun p6 =>
bif p6.1 == (3 : Int) then
((ref_Put (CT.mk ((1 : Int), (0 : Int), CT.nil, CT.nil)) (CT.mk ((2 : Int), (0 : Int), CT.nil, CT.nil))).bind fun r9 =>
(ref_Put r9 (CT.mk ((2 : Int), (0 : Int), CT.nil, CT.nil))).bind fun r11 =>
some r11)
else
((rf_ref_Outed p6.2.2.1 a1).bind fun r13 =>
(ref_Put (CT.mk ((1 : Int), (0 : Int), CT.nil, CT.nil)) r13).bind fun r15 =>
(rf_ref_Outed p6.2.2.2 a1).bind fun r17 =>
(ref_Put r15 r17).bind fun r19 =>
some r19))
def ref_Outed : Nat → CT → Int → Option CT
  | 0 => fun _ _ => none
  | fuel + 1 => fun a0 a1 => ref_Outed_step (ref_Outed fuel) fuel a0 a1
theorem ref_Outed_step_ok {rf_ref_Outed : CT → Int → Option CT} (ih_ref_Outed : ∀ {a0 : CT} {a1 : Int} {r : CT}, rf_ref_Outed a0 a1 = some r → FnC Try.prog 36 [aD .tree a0, aI a1] [] (aD .tree r) []) {fuel : Nat} {a0 : CT} {a1 : Int} {r : CT} (h : ref_Outed_step rf_ref_Outed fuel a0 a1 = some r) : FnC Try.prog 36 [aD .tree a0, aI a1] [] (aD .tree r) [] := by
  refine fnC_of_W (B := bodyOf Try.f36) (n := 42) Try.func36 (by kernel_rfl) (by kernel_rfl) (by kernel_rfl) (by kernel_rfl) (by kernel_rfl) ?_
  intro K
  refine W_seq (by kernel_rfl) ?_
  refine W_run 1 [] [0, 1] [] (fr' := [(0, aD .tree a0), (1, aI a1)]) (L' := []) (obs := []) (by kernel_rfl) (by kernel_rfl) (by kernel_rfl) allP0 ?_
  refine seqQ_norm ?_
  refine W_seq (by kernel_rfl) ?_
  refine W_seq (by kernel_rfl) ?_
  refine W_region (by kernel_rfl) ?_
  refine WO_run (j := 2) (k := 2) (orcs := []) (kF := [0, 1, 5, 6]) (kL := []) (fr' := [(0, aD .tree a0), (1, aI a1), (5, aD .tree a0), (6, aI a1)]) (L' := []) (obs := []) rfl (by kernel_rfl) allP0 ?_
  obtain ⟨r1, h2, h⟩ := bind_of h
  refine WO_call0 (us := [none, none]) (d := 7) (p := True) (j := 3) rfl ⟨by kernel_rfl, by kernel_rfl, by kernel_rfl⟩ trivial (ref_Stands_ok h2) (by kernel_rfl) ?_
  refine WO_run (j := 4) (k := 1) (orcs := []) (kF := [0, 1, 8]) (kL := []) (fr' := [(0, aD .tree a0), (1, aI a1), (8, aB (!r1))]) (L' := []) (obs := []) rfl (by kernel_rfl) allP0 ?_
  refine WO_fin [0, 1, 8] [] (fr' := [(0, aD .tree a0), (1, aI a1), (8, aB (!r1))]) (L' := []) (by kernel_rfl) (by kernel_rfl) ?_
  refine seqQ_norm ?_
  refine W_cond (o := .tmp 8) (b := !r1) (by kernel_rfl) (by kernel_rfl) (fun h3 => ?_) (fun h3 => ?_)
  · replace h := ofT h3 h
    refine W_seq (by kernel_rfl) ?_
    refine W_region (by kernel_rfl) ?_
    refine WO_run (j := 3) (k := 3) (orcs := []) (kF := [10, 11]) (kL := [10]) (fr' := [(10, .one (.ptr 10 0)), (11, aD .tree a0)]) (L' := [(10, .one (.pair tI (.pair tI (.pair .tree .tree))) ((2 : Int), (0 : Int), CT.nil, CT.nil))]) (obs := []) rfl (by kernel_rfl) allP0 ?_
    obtain ⟨r4, h5, h⟩ := bind_of h
    refine WO_fz 10 (by kernel_rfl) ?_
    refine WO_call0 (us := [some .tree, none]) (d := 12) (p := True) (j := 4) rfl ⟨by kernel_rfl, by kernel_rfl, by kernel_rfl⟩ trivial (ref_Put_ok h5) (by kernel_rfl) ?_
    refine WO_run (j := 5) (k := 1) (orcs := []) (kF := [4]) (kL := []) (fr' := [(4, aD .tree r4)]) (L' := []) (obs := []) rfl (by kernel_rfl) allP0 ?_
    refine WO_fin [4] [] (fr' := [(4, aD .tree r4)]) (L' := []) (by kernel_rfl) (by kernel_rfl) ?_
    refine seqQ_norm ?_
    obtain rfl := Option.some.inj h
    refine W_ret [4] [] (fr' := [(4, aD .tree r4)]) (L' := []) (by kernel_rfl) (by kernel_rfl) ?_
    refine seqQ_ret ?_
    exact retQ_mk (by kernel_rfl) (by kernel_rfl) (by kernel_rfl)
  · replace h := ofF h3 h
    refine W_skip [0, 1] [] (fr' := [(0, aD .tree a0), (1, aI a1)]) (L' := []) (by kernel_rfl) (by kernel_rfl) ?_
    refine seqQ_norm ?_
    refine W_seq (by kernel_rfl) ?_
    refine W_seq (by kernel_rfl) ?_
    obtain ⟨p6, h7, h⟩ := bind_of h
    refine W_run 5 [(3, .val (.dat (.pair tI (.pair tI (.pair .tree .tree))) p6))] [0, 1, 17] [] (fr' := [(0, aD .tree a0), (1, aI a1), (17, aB (p6.1 == (3 : Int)))]) (L' := []) (obs := [CT.open a0 = some p6]) (by kernel_rfl) (by kernel_rfl) (by kernel_rfl) (allP1 h7) ?_
    refine seqQ_norm ?_
    refine W_cond (o := .tmp 17) (b := p6.1 == (3 : Int)) (by kernel_rfl) (by kernel_rfl) (fun h8 => ?_) (fun h8 => ?_)
    · replace h := ofT h8 h
      refine W_seq (by kernel_rfl) ?_
      refine W_region (by kernel_rfl) ?_
      refine WO_run (j := 4) (k := 4) (orcs := []) (kF := [19, 21]) (kL := [19, 21]) (fr' := [(19, .one (.ptr 19 0)), (21, .one (.ptr 21 0))]) (L' := [(19, .one (.pair tI (.pair tI (.pair .tree .tree))) ((1 : Int), (0 : Int), CT.nil, CT.nil)), (21, .one (.pair tI (.pair tI (.pair .tree .tree))) ((2 : Int), (0 : Int), CT.nil, CT.nil))]) (obs := []) rfl (by kernel_rfl) allP0 ?_
      obtain ⟨r9, h10, h⟩ := bind_of h
      refine WO_fz 19 (by kernel_rfl) ?_
      refine WO_fz 21 (by kernel_rfl) ?_
      refine WO_call0 (us := [some .tree, some .tree]) (d := 22) (p := True) (j := 5) rfl ⟨by kernel_rfl, by kernel_rfl, by kernel_rfl⟩ trivial (ref_Put_ok h10) (by kernel_rfl) ?_
      refine WO_run (j := 7) (k := 2) (orcs := []) (kF := [22, 24]) (kL := [24]) (fr' := [(22, aD .tree r9), (24, .one (.ptr 24 0))]) (L' := [(24, .one (.pair tI (.pair tI (.pair .tree .tree))) ((2 : Int), (0 : Int), CT.nil, CT.nil))]) (obs := []) rfl (by kernel_rfl) allP0 ?_
      obtain ⟨r11, h12, h⟩ := bind_of h
      refine WO_fz 24 (by kernel_rfl) ?_
      refine WO_call0 (us := [none, some .tree]) (d := 25) (p := True) (j := 8) rfl ⟨by kernel_rfl, by kernel_rfl, by kernel_rfl⟩ trivial (ref_Put_ok h12) (by kernel_rfl) ?_
      refine WO_run (j := 9) (k := 1) (orcs := []) (kF := [4]) (kL := []) (fr' := [(4, aD .tree r11)]) (L' := []) (obs := []) rfl (by kernel_rfl) allP0 ?_
      refine WO_fin [4] [] (fr' := [(4, aD .tree r11)]) (L' := []) (by kernel_rfl) (by kernel_rfl) ?_
      refine seqQ_norm ?_
      obtain rfl := Option.some.inj h
      refine W_ret [4] [] (fr' := [(4, aD .tree r11)]) (L' := []) (by kernel_rfl) (by kernel_rfl) ?_
      refine seqQ_ret ?_
      exact retQ_mk (by kernel_rfl) (by kernel_rfl) (by kernel_rfl)
    · replace h := ofF h8 h
      refine W_skip [0, 1] [] (fr' := [(0, aD .tree a0), (1, aI a1)]) (L' := []) (by kernel_rfl) (by kernel_rfl) ?_
      refine seqQ_norm ?_
      refine W_seq (by kernel_rfl) ?_
      obtain ⟨r13, h14, h⟩ := bind_of h
      obtain ⟨r15, h16, h⟩ := bind_of h
      obtain ⟨r17, h18, h⟩ := bind_of h
      obtain ⟨r19, h20, h⟩ := bind_of h
      refine W_draw5 16 [] [(7, .val (.dat (.pair tI (.pair tI (.pair .tree .tree))) p6)), (21, .val (.dat (.pair tI (.pair tI (.pair .tree .tree))) p6))] [(7, [none, none], aD .tree r13), (8, [some .tree, none], aD .tree r15), (14, [none, none], aD .tree r17), (15, [none, none], aD .tree r19)] [4] [] (fr' := [(4, aD .tree r19)]) (L' := []) (out := [(26, aD (.pair tI (.pair tI (.pair .tree .tree))) ((1 : Int), (0 : Int), CT.nil, CT.nil)), (27, .one (.dptr (.pair tI (.pair tI (.pair .tree .tree))) ((1 : Int), (0 : Int), CT.nil, CT.nil))), (28, aD .tree a0), (29, .one (.dptr (.pair tI (.pair tI (.pair .tree .tree))) p6)), (30, .one (.dptr .tree p6.2.2.1)), (31, aD .tree p6.2.2.1), (32, aI a1), (33, aD .tree r13), (34, aD .tree r15), (35, aD .tree a0), (36, .one (.dptr (.pair tI (.pair tI (.pair .tree .tree))) p6)), (37, .one (.dptr .tree p6.2.2.2)), (38, aD .tree p6.2.2.2), (39, aI a1), (40, aD .tree r17), (41, aD .tree r19)]) (obs := [True, CT.open a0 = some p6, True, True, CT.open a0 = some p6, True, True]) (obs2 := []) (calls := [(36, [aD .tree p6.2.2.1, aI a1], aD .tree r13), (65, [aD .tree (CT.mk ((1 : Int), (0 : Int), CT.nil, CT.nil)), aD .tree r13], aD .tree r15), (36, [aD .tree p6.2.2.2, aI a1], aD .tree r17), (65, [aD .tree r15, aD .tree r17], aD .tree r19)]) (by kernel_rfl) (by kernel_rfl) (by kernel_rfl) (by kernel_rfl) (allP2 trivial (allP2 h7 (allP2 trivial (allP2 trivial (allP2 h7 (allP2 trivial (allP1 trivial))))))) (allD2 [] _ _ (by kernel_rfl) (ih_ref_Outed h14) (by kernel_rfl) (by kernel_rfl) (by kernel_rfl) (by kernel_rfl) (allD2 [] _ _ (by kernel_rfl) (ref_Put_ok h16) (by kernel_rfl) (by kernel_rfl) (by kernel_rfl) (by kernel_rfl) (allD2 [] _ _ (by kernel_rfl) (ih_ref_Outed h18) (by kernel_rfl) (by kernel_rfl) (by kernel_rfl) (by kernel_rfl) (allD2 [] _ _ (by kernel_rfl) (ref_Put_ok h20) (by kernel_rfl) (by kernel_rfl) (by kernel_rfl) (by kernel_rfl) allD0)))) (by kernel_rfl) allP0 ?_
      refine seqQ_norm ?_
      obtain rfl := Option.some.inj h
      refine W_ret [4] [] (fr' := [(4, aD .tree r19)]) (L' := []) (by kernel_rfl) (by kernel_rfl) ?_
      exact retQ_mk (by kernel_rfl) (by kernel_rfl) (by kernel_rfl)
theorem ref_Outed_ok : ∀ {fuel : Nat} {a0 : CT} {a1 : Int} {r : CT}, ref_Outed fuel a0 a1 = some r → FnC Try.prog 36 [aD .tree a0, aI a1] [] (aD .tree r) [] := by
  intro fuel
  induction fuel with
  | zero => intros a0 a1 r h; cases h
  | succ fuel ih => intros a0 a1 r h; exact ref_Outed_step_ok (fun h => ih h) (show ref_Outed_step (ref_Outed fuel) fuel a0 a1 = some r from h)

def ref_Nodes_step (rf_ref_Nodes : CT → Option Int) (fuel : Nat) (a0 : CT) : Option Int :=
(CT.open a0).bind fun p1 =>
bif p1.1 != (4 : Int) then
(some (1 : Int))
else
((rf_ref_Nodes p1.2.2.1).bind fun r4 =>
(rf_ref_Nodes p1.2.2.2).bind fun r6 =>
some (w64 ((w64 ((1 : Int) + r4)) + r6)))
def ref_Nodes : Nat → CT → Option Int
  | 0 => fun _ => none
  | fuel + 1 => fun a0 => ref_Nodes_step (ref_Nodes fuel) fuel a0
theorem ref_Nodes_step_ok {rf_ref_Nodes : CT → Option Int} (ih_ref_Nodes : ∀ {a0 : CT} {r : Int}, rf_ref_Nodes a0 = some r → FnC Try.prog 31 [aD .tree a0] [] (aI r) []) {fuel : Nat} {a0 : CT} {r : Int} (h : ref_Nodes_step rf_ref_Nodes fuel a0 = some r) : FnC Try.prog 31 [aD .tree a0] [] (aI r) [] := by
  refine fnC_of_W (B := bodyOf Try.f31) (n := 20) Try.func31 (by kernel_rfl) (by kernel_rfl) (by kernel_rfl) (by kernel_rfl) (by kernel_rfl) ?_
  intro K
  refine W_seq (by kernel_rfl) ?_
  refine W_run 1 [] [0] [] (fr' := [(0, aD .tree a0)]) (L' := []) (obs := []) (by kernel_rfl) (by kernel_rfl) (by kernel_rfl) allP0 ?_
  refine seqQ_norm ?_
  refine W_seq (by kernel_rfl) ?_
  refine W_seq (by kernel_rfl) ?_
  obtain ⟨p1, h2, h⟩ := bind_of h
  refine W_run 5 [(3, .val (.dat (.pair tI (.pair tI (.pair .tree .tree))) p1))] [0, 7] [] (fr' := [(0, aD .tree a0), (7, aB (p1.1 != (4 : Int)))]) (L' := []) (obs := [CT.open a0 = some p1]) (by kernel_rfl) (by kernel_rfl) (by kernel_rfl) (allP1 h2) ?_
  refine seqQ_norm ?_
  refine W_cond (o := .tmp 7) (b := p1.1 != (4 : Int)) (by kernel_rfl) (by kernel_rfl) (fun h3 => ?_) (fun h3 => ?_)
  · replace h := ofT h3 h
    refine W_seq (by kernel_rfl) ?_
    refine W_run 1 [] [2] [] (fr' := [(2, aI (1 : Int))]) (L' := []) (obs := []) (by kernel_rfl) (by kernel_rfl) (by kernel_rfl) allP0 ?_
    refine seqQ_norm ?_
    obtain rfl := Option.some.inj h
    refine W_ret [2] [] (fr' := [(2, aI (1 : Int))]) (L' := []) (by kernel_rfl) (by kernel_rfl) ?_
    refine seqQ_ret ?_
    exact retQ_mk (by kernel_rfl) (by kernel_rfl) (by kernel_rfl)
  · replace h := ofF h3 h
    refine W_skip [0] [] (fr' := [(0, aD .tree a0)]) (L' := []) (by kernel_rfl) (by kernel_rfl) ?_
    refine seqQ_norm ?_
    refine W_seq (by kernel_rfl) ?_
    obtain ⟨r4, h5, h⟩ := bind_of h
    obtain ⟨r6, h7, h⟩ := bind_of h
    refine W_draw2 12 [(3, .val (.dat (.pair tI (.pair tI (.pair .tree .tree))) p1)), (15, .val (.dat (.pair tI (.pair tI (.pair .tree .tree))) p1))] [(4, [none], aI r4), (10, [none], aI r6)] [2] [] (fr' := [(2, aI (w64 ((w64 ((1 : Int) + r4)) + r6)))]) (L' := []) (out := [(8, aD .tree a0), (9, .one (.dptr (.pair tI (.pair tI (.pair .tree .tree))) p1)), (10, .one (.dptr .tree p1.2.2.1)), (11, aD .tree p1.2.2.1), (12, aI r4), (13, aI (w64 ((1 : Int) + r4))), (14, aD .tree a0), (15, .one (.dptr (.pair tI (.pair tI (.pair .tree .tree))) p1)), (16, .one (.dptr .tree p1.2.2.2)), (17, aD .tree p1.2.2.2), (18, aI r6), (19, aI (w64 ((w64 ((1 : Int) + r4)) + r6)))]) (obs := [CT.open a0 = some p1, True, CT.open a0 = some p1, True]) (obs2 := []) (calls := [(31, [aD .tree p1.2.2.1], aI r4), (31, [aD .tree p1.2.2.2], aI r6)]) (by kernel_rfl) (by kernel_rfl) (by kernel_rfl) (by kernel_rfl) (allP2 h2 (allP2 trivial (allP2 h2 (allP1 trivial)))) (allC1 (by kernel_rfl) (ih_ref_Nodes h5) (by kernel_rfl) (allC1 (by kernel_rfl) (ih_ref_Nodes h7) (by kernel_rfl) allC0)) (by kernel_rfl) allP0 ?_
    refine seqQ_norm ?_
    obtain rfl := Option.some.inj h
    refine W_ret [2] [] (fr' := [(2, aI (w64 ((w64 ((1 : Int) + r4)) + r6)))]) (L' := []) (by kernel_rfl) (by kernel_rfl) ?_
    exact retQ_mk (by kernel_rfl) (by kernel_rfl) (by kernel_rfl)
theorem ref_Nodes_ok : ∀ {fuel : Nat} {a0 : CT} {r : Int}, ref_Nodes fuel a0 = some r → FnC Try.prog 31 [aD .tree a0] [] (aI r) [] := by
  intro fuel
  induction fuel with
  | zero => intros a0 r h; cases h
  | succ fuel ih => intros a0 r h; exact ref_Nodes_step_ok (fun h => ih h) (show ref_Nodes_step (ref_Nodes fuel) fuel a0 = some r from h)

def ref_Write_step (rf_ref_Write : CT → (List (Int × (Int × (Int × Int)))) → Option (List (Int × (Int × (Int × Int))))) (fuel : Nat) (a0 : CT) (a1 : (List (Int × (Int × (Int × Int))))) : Option (List (Int × (Int × (Int × Int)))) :=
(CT.open a0).bind fun p1 =>
bif p1.1 != (4 : Int) then
((ck ((0 : Int) + (List.length a1 : Int) ≤ 4294967296)).bind fun _ =>
(ck ((List.length ([] ++ a1) : Int) + 1 ≤ 4294967296)).bind fun _ =>
some (([] ++ a1) ++ [(p1.1, (0 : Int), (0 : Int), p1.2.1)]))
else
((rf_ref_Write p1.2.2.1 a1).bind fun r6 =>
(rf_ref_Write p1.2.2.2 r6).bind fun r8 =>
(ck ((0 : Int) + (List.length r8 : Int) ≤ 4294967296)).bind fun _ =>
(ck ((List.length ([] ++ r8) : Int) + 1 ≤ 4294967296)).bind fun _ =>
some (([] ++ r8) ++ [((4 : Int), w64 ((List.length r6 : Int) - (1 : Int)), w64 ((List.length r8 : Int) - (1 : Int)), (0 : Int))]))
def ref_Write : Nat → CT → (List (Int × (Int × (Int × Int)))) → Option (List (Int × (Int × (Int × Int))))
  | 0 => fun _ _ => none
  | fuel + 1 => fun a0 a1 => ref_Write_step (ref_Write fuel) fuel a0 a1
theorem ref_Write_step_ok {rf_ref_Write : CT → (List (Int × (Int × (Int × Int)))) → Option (List (Int × (Int × (Int × Int))))} (ih_ref_Write : ∀ {a0 : CT} {a1 : (List (Int × (Int × (Int × Int))))} {r : (List (Int × (Int × (Int × Int))))}, rf_ref_Write a0 a1 = some r → FnC Try.prog 33 [aD .tree a0, aD (.slice (.pair tI (.pair tI (.pair tI tI)))) a1] [] (aD (.slice (.pair tI (.pair tI (.pair tI tI)))) r) []) {fuel : Nat} {a0 : CT} {a1 : (List (Int × (Int × (Int × Int))))} {r : (List (Int × (Int × (Int × Int))))} (h : ref_Write_step rf_ref_Write fuel a0 a1 = some r) : FnC Try.prog 33 [aD .tree a0, aD (.slice (.pair tI (.pair tI (.pair tI tI)))) a1] [] (aD (.slice (.pair tI (.pair tI (.pair tI tI)))) r) [] := by
  refine fnC_of_W (B := bodyOf Try.f33) (n := 50) Try.func33 (by kernel_rfl) (by kernel_rfl) (by kernel_rfl) (by kernel_rfl) (by kernel_rfl) ?_
  intro K
  refine W_seq (by kernel_rfl) ?_
  refine W_run 1 [] [0, 1] [] (fr' := [(0, aD .tree a0), (1, aD (.slice (.pair tI (.pair tI (.pair tI tI)))) a1)]) (L' := []) (obs := []) (by kernel_rfl) (by kernel_rfl) (by kernel_rfl) allP0 ?_
  refine seqQ_norm ?_
  refine W_seq (by kernel_rfl) ?_
  refine W_seq (by kernel_rfl) ?_
  obtain ⟨p1, h2, h⟩ := bind_of h
  refine W_run 5 [(3, .val (.dat (.pair tI (.pair tI (.pair .tree .tree))) p1))] [0, 1, 10] [] (fr' := [(0, aD .tree a0), (1, aD (.slice (.pair tI (.pair tI (.pair tI tI)))) a1), (10, aB (p1.1 != (4 : Int)))]) (L' := []) (obs := [CT.open a0 = some p1]) (by kernel_rfl) (by kernel_rfl) (by kernel_rfl) (allP1 h2) ?_
  refine seqQ_norm ?_
  refine W_cond (o := .tmp 10) (b := p1.1 != (4 : Int)) (by kernel_rfl) (by kernel_rfl) (fun h3 => ?_) (fun h3 => ?_)
  · replace h := ofT h3 h
    refine W_seq (by kernel_rfl) ?_
    obtain ⟨_, h4, h⟩ := bind_of h
    replace h4 := ck_some h4
    refine W_drawC5 13 [(0, [11], [(11, .seq (.pair tI (.pair tI (.pair tI tI))) [])]), (2, [11], [(11, .seq (.pair tI (.pair tI (.pair tI tI))) ([] ++ a1))])] [] [(0, .one (.slc 11)), (2, .one (.slc 11))] [(9, .val (.dat (.pair tI (.pair tI (.pair .tree .tree))) p1)), (17, .val (.dat (.pair tI (.pair tI (.pair .tree .tree))) p1))] [] [13, 23] [11] (out := [(11, .one (.slc 11)), (12, aD (.slice (.pair tI (.pair tI (.pair tI tI)))) a1), (13, .one (.slc 11)), (14, aD .tree a0), (15, .one (.dptr (.pair tI (.pair tI (.pair .tree .tree))) p1)), (16, .one (.dptr tI p1.1)), (17, aI p1.1), (18, aD .tree a0), (19, .one (.dptr (.pair tI (.pair tI (.pair .tree .tree))) p1)), (20, .one (.dptr tI p1.2.1)), (21, aI p1.2.1), (22, aD (.pair tI (.pair tI (.pair tI tI))) (p1.1, (0 : Int), (0 : Int), p1.2.1)), (23, aD (.slice (.pair tI (.pair tI (.pair tI tI)))) [(p1.1, (0 : Int), (0 : Int), p1.2.1)])]) (obs := [CT.open a0 = some p1, CT.open a0 = some p1, True]) (calls := []) (fr' := [(13, .one (.slc 11)), (23, aD (.slice (.pair tI (.pair tI (.pair tI tI)))) [(p1.1, (0 : Int), (0 : Int), p1.2.1)])]) (L' := [(11, .seq (.pair tI (.pair tI (.pair tI tI))) ([] ++ a1))]) (by kernel_rfl) (by kernel_rfl) (by kernel_rfl) (by kernel_rfl) (by kernel_rfl) (allP2 h2 (allP2 h2 (allP1 trivial))) allD0 (chDo (ty := false) (d := 11) (nm := 11) (ob := .seq (.pair tI (.pair tI (.pair tI tI))) []) (av := .one (.slc 11)) (p := True) (by kernel_rfl) trivial (by kernel_rfl) (chDo (ty := false) (d := 13) (nm := 11) (ob := .seq (.pair tI (.pair tI (.pair tI tI))) ([] ++ a1)) (av := .one (.slc 11)) (p := SmallLen (List.length ([] : (List (Int × (Int × (Int × Int))))) + List.length a1)) (by kernel_rfl) h4 (by kernel_rfl) chNil)) mkNil (by kernel_rfl) ?_
    obtain ⟨_, h5, h⟩ := bind_of h
    replace h5 := ck_some h5
    refine WO_run (j := 15) (k := 2) (orcs := []) (kF := [4]) (kL := [11]) (fr' := [(4, .one (.slc 11))]) (L' := [(11, .seq (.pair tI (.pair tI (.pair tI tI))) (([] ++ a1) ++ [(p1.1, (0 : Int), (0 : Int), p1.2.1)]))]) (obs := [SmallLen (List.length ([] ++ a1) + List.length [(p1.1, (0 : Int), (0 : Int), p1.2.1)])]) rfl (by kernel_rfl) (allP1 h5) ?_
    refine WO_fin [4] [11] (fr' := [(4, .one (.slc 11))]) (L' := [(11, .seq (.pair tI (.pair tI (.pair tI tI))) (([] ++ a1) ++ [(p1.1, (0 : Int), (0 : Int), p1.2.1)]))]) (by kernel_rfl) (by kernel_rfl) ?_
    refine ⟨rfl, ?_⟩
    refine seqQ_norm ?_
    obtain rfl := Option.some.inj h
    refine W_frz 11 (by kernel_rfl) ?_
    refine W_ret [4] [] (fr' := [(4, aD (.slice (.pair tI (.pair tI (.pair tI tI)))) (([] ++ a1) ++ [(p1.1, (0 : Int), (0 : Int), p1.2.1)]))]) (L' := []) (by kernel_rfl) (by kernel_rfl) ?_
    refine seqQ_ret ?_
    exact retQ_mk (by kernel_rfl) (by kernel_rfl) (by kernel_rfl)
  · replace h := ofF h3 h
    refine W_skip [0, 1] [] (fr' := [(0, aD .tree a0), (1, aD (.slice (.pair tI (.pair tI (.pair tI tI)))) a1)]) (L' := []) (by kernel_rfl) (by kernel_rfl) ?_
    refine seqQ_norm ?_
    refine W_seq (by kernel_rfl) ?_
    refine W_region (by kernel_rfl) ?_
    refine WO_run (j := 5) (k := 5) (orcs := [(3, .val (.dat (.pair tI (.pair tI (.pair .tree .tree))) p1))]) (kF := [0, 1, 28, 29]) (kL := []) (fr' := [(0, aD .tree a0), (1, aD (.slice (.pair tI (.pair tI (.pair tI tI)))) a1), (28, aD .tree p1.2.2.1), (29, aD (.slice (.pair tI (.pair tI (.pair tI tI)))) a1)]) (L' := []) (obs := [CT.open a0 = some p1]) rfl (by kernel_rfl) (allP1 h2) ?_
    obtain ⟨r6, h7, h⟩ := bind_of h
    refine WO_call0 (us := [none, none]) (d := 30) (p := True) (j := 6) rfl ⟨by kernel_rfl, by kernel_rfl, by kernel_rfl⟩ trivial (ih_ref_Write h7) (by kernel_rfl) ?_
    refine WO_run (j := 7) (k := 1) (orcs := []) (kF := [0, 1]) (kL := []) (fr' := [(0, aD .tree a0), (1, aD (.slice (.pair tI (.pair tI (.pair tI tI)))) r6)]) (L' := []) (obs := []) rfl (by kernel_rfl) allP0 ?_
    refine WO_fin [0, 1] [] (fr' := [(0, aD .tree a0), (1, aD (.slice (.pair tI (.pair tI (.pair tI tI)))) r6)]) (L' := []) (by kernel_rfl) (by kernel_rfl) ?_
    refine seqQ_norm ?_
    refine W_seq (by kernel_rfl) ?_
    refine W_run 4 [] [0, 1, 5] [] (fr' := [(0, aD .tree a0), (1, aD (.slice (.pair tI (.pair tI (.pair tI tI)))) r6), (5, aI (w64 ((List.length r6 : Int) - (1 : Int))))]) (L' := []) (obs := []) (by kernel_rfl) (by kernel_rfl) (by kernel_rfl) allP0 ?_
    refine seqQ_norm ?_
    refine W_seq (by kernel_rfl) ?_
    refine W_region (by kernel_rfl) ?_
    refine WO_run (j := 5) (k := 5) (orcs := [(3, .val (.dat (.pair tI (.pair tI (.pair .tree .tree))) p1))]) (kF := [1, 5, 37, 38]) (kL := []) (fr' := [(1, aD (.slice (.pair tI (.pair tI (.pair tI tI)))) r6), (5, aI (w64 ((List.length r6 : Int) - (1 : Int)))), (37, aD .tree p1.2.2.2), (38, aD (.slice (.pair tI (.pair tI (.pair tI tI)))) r6)]) (L' := []) (obs := [CT.open a0 = some p1]) rfl (by kernel_rfl) (allP1 h2) ?_
    obtain ⟨r8, h9, h⟩ := bind_of h
    refine WO_call0 (us := [none, none]) (d := 39) (p := True) (j := 6) rfl ⟨by kernel_rfl, by kernel_rfl, by kernel_rfl⟩ trivial (ih_ref_Write h9) (by kernel_rfl) ?_
    refine WO_run (j := 7) (k := 1) (orcs := []) (kF := [1, 5]) (kL := []) (fr' := [(1, aD (.slice (.pair tI (.pair tI (.pair tI tI)))) r8), (5, aI (w64 ((List.length r6 : Int) - (1 : Int))))]) (L' := []) (obs := []) rfl (by kernel_rfl) allP0 ?_
    refine WO_fin [1, 5] [] (fr' := [(1, aD (.slice (.pair tI (.pair tI (.pair tI tI)))) r8), (5, aI (w64 ((List.length r6 : Int) - (1 : Int))))]) (L' := []) (by kernel_rfl) (by kernel_rfl) ?_
    refine seqQ_norm ?_
    refine W_seq (by kernel_rfl) ?_
    obtain ⟨_, h10, h⟩ := bind_of h
    replace h10 := ck_some h10
    obtain ⟨_, h11, h⟩ := bind_of h
    replace h11 := ck_some h11
    refine W_run 11 [] [4] [40] (fr' := [(4, .one (.slc 40))]) (L' := [(40, .seq (.pair tI (.pair tI (.pair tI tI))) (([] ++ r8) ++ [((4 : Int), w64 ((List.length r6 : Int) - (1 : Int)), w64 ((List.length r8 : Int) - (1 : Int)), (0 : Int))]))]) (obs := [SmallLen (List.length ([] : (List (Int × (Int × (Int × Int))))) + List.length r8), SmallLen (List.length ([] ++ r8) + List.length [((4 : Int), w64 ((List.length r6 : Int) - (1 : Int)), w64 ((List.length r8 : Int) - (1 : Int)), (0 : Int))])]) (by kernel_rfl) (by kernel_rfl) (by kernel_rfl) (allP2 h10 (allP1 h11)) ?_
    refine seqQ_norm ?_
    obtain rfl := Option.some.inj h
    refine W_frz 40 (by kernel_rfl) ?_
    refine W_ret [4] [] (fr' := [(4, aD (.slice (.pair tI (.pair tI (.pair tI tI)))) (([] ++ r8) ++ [((4 : Int), w64 ((List.length r6 : Int) - (1 : Int)), w64 ((List.length r8 : Int) - (1 : Int)), (0 : Int))]))]) (L' := []) (by kernel_rfl) (by kernel_rfl) ?_
    exact retQ_mk (by kernel_rfl) (by kernel_rfl) (by kernel_rfl)
theorem ref_Write_ok : ∀ {fuel : Nat} {a0 : CT} {a1 : (List (Int × (Int × (Int × Int))))} {r : (List (Int × (Int × (Int × Int))))}, ref_Write fuel a0 a1 = some r → FnC Try.prog 33 [aD .tree a0, aD (.slice (.pair tI (.pair tI (.pair tI tI)))) a1] [] (aD (.slice (.pair tI (.pair tI (.pair tI tI)))) r) [] := by
  intro fuel
  induction fuel with
  | zero => intros a0 a1 r h; cases h
  | succ fuel ih => intros a0 a1 r h; exact ref_Write_step_ok (fun h => ih h) (show ref_Write_step (ref_Write fuel) fuel a0 a1 = some r from h)

def ref_Combs_b1 (a1 : (List (Int × (Int × (Int × Int))))) (i16 : Int) (v19 : (Int × (Int × (Int × Int)))) (x17 : Unit) : Option (Flow Unit (Esc Bool Unit)) :=
(idx a1 i16).bind fun v22 =>
bif !(deqT (.pair tI (.pair tI (.pair tI tI))) v19 v22) then
(some (.done (.ret false)))
else
(some (.next ()))
@[reducible] def ref_Combs_s2 (a0 : (List (Int × (Int × (Int × Int))))) (a1 : (List (Int × (Int × (Int × Int))))) (v : Int × Unit) : Fr × LL := ([(0, aD (.slice (.pair tI (.pair tI (.pair tI tI)))) a0), (1, aD (.slice (.pair tI (.pair tI (.pair tI tI)))) a1), (5, aI v.1)], [])
@[reducible] def ref_Combs_s3 (v : Bool) : Fr × LL := ([(4, aB v)], [])
@[reducible] def ref_Combs_s4 (v : Unit) : Fr × LL := ([], [])
def ref_Combs (a0 : (List (Int × (Int × (Int × Int))))) (a1 : (List (Int × (Int × (Int × Int))))) : Option Bool :=
bif (List.length a0 : Int) != (List.length a1 : Int) then
(some false)
else
((forL (ref_Combs_b1 a1) (fun x17 => (.brk ())) a0 0 ()).bind fun v26 =>
match v26 with
| .ret v31 =>
(some v31)
| .brk v32 =>
(some true))
theorem ref_Combs_ok {a0 : (List (Int × (Int × (Int × Int))))} {a1 : (List (Int × (Int × (Int × Int))))} {r : Bool} (h : ref_Combs a0 a1 = some r) : FnC Try.prog 32 [aD (.slice (.pair tI (.pair tI (.pair tI tI)))) a0, aD (.slice (.pair tI (.pair tI (.pair tI tI)))) a1] [] (aB r) [] := by
  refine fnC_of_W (B := bodyOf Try.f32) (n := 26) Try.func32 (by kernel_rfl) (by kernel_rfl) (by kernel_rfl) (by kernel_rfl) (by kernel_rfl) ?_
  intro K
  refine W_seq (by kernel_rfl) ?_
  refine W_run 1 [] [0, 1] [] (fr' := [(0, aD (.slice (.pair tI (.pair tI (.pair tI tI)))) a0), (1, aD (.slice (.pair tI (.pair tI (.pair tI tI)))) a1)]) (L' := []) (obs := []) (by kernel_rfl) (by kernel_rfl) (by kernel_rfl) allP0 ?_
  refine seqQ_norm ?_
  refine W_seq (by kernel_rfl) ?_
  refine W_seq (by kernel_rfl) ?_
  refine W_run 5 [] [0, 1, 10] [] (fr' := [(0, aD (.slice (.pair tI (.pair tI (.pair tI tI)))) a0), (1, aD (.slice (.pair tI (.pair tI (.pair tI tI)))) a1), (10, aB ((List.length a0 : Int) != (List.length a1 : Int)))]) (L' := []) (obs := []) (by kernel_rfl) (by kernel_rfl) (by kernel_rfl) allP0 ?_
  refine seqQ_norm ?_
  refine W_cond (o := .tmp 10) (b := (List.length a0 : Int) != (List.length a1 : Int)) (by kernel_rfl) (by kernel_rfl) (fun h1 => ?_) (fun h1 => ?_)
  · replace h := ofT h1 h
    refine W_seq (by kernel_rfl) ?_
    refine W_run 1 [] [4] [] (fr' := [(4, aB false)]) (L' := []) (obs := []) (by kernel_rfl) (by kernel_rfl) (by kernel_rfl) allP0 ?_
    refine seqQ_norm ?_
    obtain rfl := Option.some.inj h
    refine W_ret [4] [] (fr' := [(4, aB false)]) (L' := []) (by kernel_rfl) (by kernel_rfl) ?_
    refine seqQ_ret ?_
    exact retQ_mk (by kernel_rfl) (by kernel_rfl) (by kernel_rfl)
  · replace h := ofF h1 h
    refine W_skip [0, 1] [] (fr' := [(0, aD (.slice (.pair tI (.pair tI (.pair tI tI)))) a0), (1, aD (.slice (.pair tI (.pair tI (.pair tI tI)))) a1)]) (L' := []) (by kernel_rfl) (by kernel_rfl) ?_
    refine seqQ_norm ?_
    refine W_seq (by kernel_rfl) ?_
    refine W_seq (by kernel_rfl) ?_
    refine W_run 1 [] [0, 1, 5] [] (fr' := [(0, aD (.slice (.pair tI (.pair tI (.pair tI tI)))) a0), (1, aD (.slice (.pair tI (.pair tI (.pair tI tI)))) a1), (5, aI (0 : Int))]) (L' := []) (obs := []) (by kernel_rfl) (by kernel_rfl) (by kernel_rfl) allP0 ?_
    refine seqQ_norm ?_
    refine W_block (id := 0) (by kernel_rfl) ?_
    obtain ⟨v26, h27, h⟩ := bind_of h
    refine W_len (t := 0) (u := (.pair tI (.pair tI (.pair tI tI)))) (xs := a0) (by kernel_rfl) (fun h30 => ?_)
    obtain ⟨h28, h29⟩ := forL_iter h30 h27
    refine W_weaken [0, 1, 5] [] (fr' := ((ref_Combs_s2 a0 a1) ((0 : Int), ())).1) (L' := ((ref_Combs_s2 a0 a1) ((0 : Int), ())).2) (by kernel_rfl) ?_
    refine W_cutK (W_loop (S := (ref_Combs_s2 a0 a1)) (J := (escQ (exQ .ret ref_Combs_s3) (exQ (.exit 0) ref_Combs_s4))) (by kernel_rfl) ?_ h28 _ v26 h29) ?_
    · rintro ⟨i16, x17⟩ s h
      refine W_seq (by kernel_rfl) ?_
      refine W_seq (by kernel_rfl) ?_
      refine W_run 4 [] [0, 1, 5, 14] [] (fr' := [(0, aD (.slice (.pair tI (.pair tI (.pair tI tI)))) a0), (1, aD (.slice (.pair tI (.pair tI (.pair tI tI)))) a1), (5, aI i16), (14, aB (decide (i16 < (List.length a0 : Int))))]) (L' := []) (obs := []) (by kernel_rfl) (by kernel_rfl) (by kernel_rfl) allP0 ?_
      refine seqQ_norm ?_
      refine W_cond (o := .tmp 14) (b := decide (i16 < (List.length a0 : Int))) (by kernel_rfl) (by kernel_rfl) (fun h21 => ?_) (fun h21 => ?_)
      · replace h := stepL_true h21 h
        obtain ⟨v19, _, h20, h, rfl⟩ := h
        refine W_skip [0, 1, 5] [] (fr' := [(0, aD (.slice (.pair tI (.pair tI (.pair tI tI)))) a0), (1, aD (.slice (.pair tI (.pair tI (.pair tI tI)))) a1), (5, aI i16)]) (L' := []) (by kernel_rfl) (by kernel_rfl) ?_
        refine seqQ_norm ?_
        refine W_seq (by kernel_rfl) ?_
        refine W_block (id := 1) (by kernel_rfl) ?_
        refine W_seq (by kernel_rfl) ?_
        obtain ⟨v22, h23, h⟩ := bind_of h
        refine W_draw2 9 [(5, .val (.dat (.pair tI (.pair tI (.pair tI tI))) v19)), (13, .val (.dat (.pair tI (.pair tI (.pair tI tI))) v22))] [] [0, 1, 5, 25] [] (fr' := [(0, aD (.slice (.pair tI (.pair tI (.pair tI tI)))) a0), (1, aD (.slice (.pair tI (.pair tI (.pair tI tI)))) a1), (5, aI i16), (25, aB (!(deqT (.pair tI (.pair tI (.pair tI tI))) v19 v22)))]) (L' := []) (out := [(17, aD (.slice (.pair tI (.pair tI (.pair tI tI)))) a0), (18, aI i16), (19, .one (.dptr (.pair tI (.pair tI (.pair tI tI))) v19)), (20, aD (.pair tI (.pair tI (.pair tI tI))) v19), (21, aD (.slice (.pair tI (.pair tI (.pair tI tI)))) a1), (22, aI i16), (23, .one (.dptr (.pair tI (.pair tI (.pair tI tI))) v22)), (24, aD (.pair tI (.pair tI (.pair tI tI))) v22), (25, aB (!(deqT (.pair tI (.pair tI (.pair tI tI))) v19 v22)))]) (obs := [Idx a0 i16 v19, Idx a1 i16 v22]) (obs2 := []) (calls := []) (by kernel_rfl) (by kernel_rfl) (by kernel_rfl) (by kernel_rfl) (allP2 (Idx.of h20) (allP1 (Idx.of h23))) allC0 (by kernel_rfl) allP0 ?_
        refine seqQ_norm ?_
        refine W_cond (o := .tmp 25) (b := !(deqT (.pair tI (.pair tI (.pair tI tI))) v19 v22)) (by kernel_rfl) (by kernel_rfl) (fun h24 => ?_) (fun h24 => ?_)
        · replace h := ofT h24 h
          refine W_seq (by kernel_rfl) ?_
          refine W_run 1 [] [4] [] (fr' := [(4, aB false)]) (L' := []) (obs := []) (by kernel_rfl) (by kernel_rfl) (by kernel_rfl) allP0 ?_
          refine seqQ_norm ?_
          obtain rfl := Option.some.inj h
          refine W_ret [4] [] (fr' := [(4, aB false)]) (L' := []) (by kernel_rfl) (by kernel_rfl) ?_
          refine blockQ_ret ?_
          refine seqQ_ret ?_
          refine round_ret ?_
          refine escQ_ret ?_
          exact exQ_mk (by kernel_rfl) (by kernel_rfl)
        · replace h := ofF h24 h
          refine W_skip [0, 1, 5] [] (fr' := [(0, aD (.slice (.pair tI (.pair tI (.pair tI tI)))) a0), (1, aD (.slice (.pair tI (.pair tI (.pair tI tI)))) a1), (5, aI i16)]) (L' := []) (by kernel_rfl) (by kernel_rfl) ?_
          refine blockQ_norm ?_
          refine seqQ_norm ?_
          obtain rfl := Option.some.inj h
          refine W_run 3 [] [0, 1, 5] [] (fr' := [(0, aD (.slice (.pair tI (.pair tI (.pair tI tI)))) a0), (1, aD (.slice (.pair tI (.pair tI (.pair tI tI)))) a1), (5, aI (w64 (i16 + (1 : Int))))]) (L' := []) (obs := []) (by kernel_rfl) (by kernel_rfl) (by kernel_rfl) allP0 ?_
          exact round_next' (by kernel_rfl) (by kernel_rfl)
      · obtain rfl := stepL_false h21 h
        refine W_exit (id := 0) [] [] (fr' := []) (L' := []) (by kernel_rfl) (by kernel_rfl) ?_
        refine seqQ_exit ?_
        refine round_exit ?_
        refine escQ_brk ?_
        exact exQ_mk (by kernel_rfl) (by kernel_rfl)
    · intro e fr L hJ
      rcases v26 with v31 | v32
      · obtain ⟨rfl, rfl, rfl⟩ := hJ
        obtain rfl := Option.some.inj h
        refine LT_keep [4] [] (fr' := [(4, aB v31)]) (L' := []) (by kernel_rfl) ?_
        refine blockQ_ret ?_
        refine seqQ_ret ?_
        exact retQ_mk (by kernel_rfl) (by kernel_rfl) (by kernel_rfl)
      · obtain ⟨rfl, rfl, rfl⟩ := hJ
        refine LT_keep [] [] (fr' := []) (L' := []) (by kernel_rfl) ?_
        refine blockQ_hit ?_
        refine seqQ_norm ?_
        refine W_seq (by kernel_rfl) ?_
        refine W_run 1 [] [4] [] (fr' := [(4, aB true)]) (L' := []) (obs := []) (by kernel_rfl) (by kernel_rfl) (by kernel_rfl) allP0 ?_
        refine seqQ_norm ?_
        obtain rfl := Option.some.inj h
        refine W_ret [4] [] (fr' := [(4, aB true)]) (L' := []) (by kernel_rfl) (by kernel_rfl) ?_
        exact retQ_mk (by kernel_rfl) (by kernel_rfl) (by kernel_rfl)

@[reducible] def law_CombOuts_s3 (a0 : (List (Int × (Int × (Int × Int))))) (a1 : Int) (r1 : ((List (Int × (Int × (Int × Int)))) × Int)) (r3 : Int) (v : Bool) : Fr × LL := ([(0, aD (.slice (.pair tI (.pair tI (.pair tI tI)))) a0), (1, aI a1), (5, aD (.slice (.pair tI (.pair tI (.pair tI tI)))) r1.1), (6, aI r1.2), (7, aI r3), (23, aB v)], [])
def law_CombOuts_g4 (a1 : Int) (r3 : Int) : Option Int :=
(bif r3 == (0 : Int) then
((ref_Within (0 : Int) a1 (1000 : Int)).bind fun r36 =>
some (!r36))
else
(some false)).bind fun v38 =>
bif v38 then
(some (4 : Int))
else
(some r3)
@[reducible] def law_CombOuts_s5 (v : Bool) : Fr × LL := ([(4, aB v)], [])
@[reducible] def law_CombOuts_s6 (a0 : (List (Int × (Int × (Int × Int))))) (a1 : Int) (r1 : ((List (Int × (Int × (Int × Int)))) × Int)) (v : Int) : Fr × LL := ([(0, aD (.slice (.pair tI (.pair tI (.pair tI tI)))) a0), (1, aI a1), (5, aD (.slice (.pair tI (.pair tI (.pair tI tI)))) r1.1), (6, aI r1.2), (7, aI v)], [])
def law_CombOuts (fuel : Nat) (a0 : (List (Int × (Int × (Int × Int))))) (a1 : Int) : Option Bool :=
(comb_Out fuel a0 a1).bind fun r1 =>
(ref_CombCheck a0).bind fun r3 =>
(law_CombOuts_g4 a1 r3).bind fun v41 =>
bif v41 != (0 : Int) then
(some ((r1.2 == v41) && ((List.length r1.1 : Int) == (0 : Int))))
else
((ref_Read fuel a0 (w64 ((List.length a0 : Int) - (1 : Int)))).bind fun r44 =>
(ref_Outed fuel r44 a1).bind fun r46 =>
(ref_Nodes fuel r46).bind fun r48 =>
bif decide (r48 > (300 : Int)) then
(some ((r1.2 == (7 : Int)) && ((List.length r1.1 : Int) == (0 : Int))))
else
((bif r1.2 == (0 : Int) then
((ref_Write fuel r46 []).bind fun r62 =>
(ref_Combs r1.1 r62).bind fun r64 =>
some r64)
else
(some false)).bind fun v66 =>
some v66))
theorem law_CombOuts_ok {fuel : Nat} {a0 : (List (Int × (Int × (Int × Int))))} {a1 : Int} {r : Bool} (h : law_CombOuts fuel a0 a1 = some r) : FnC Try.prog 10 [aD (.slice (.pair tI (.pair tI (.pair tI tI)))) a0, aI a1] [] (aB r) [] := by
  refine fnC_of_W (B := bodyOf Try.f10) (n := 59) Try.func10 (by kernel_rfl) (by kernel_rfl) (by kernel_rfl) (by kernel_rfl) (by kernel_rfl) ?_
  intro K
  refine W_seq (by kernel_rfl) ?_
  refine W_run 1 [] [0, 1] [] (fr' := [(0, aD (.slice (.pair tI (.pair tI (.pair tI tI)))) a0), (1, aI a1)]) (L' := []) (obs := []) (by kernel_rfl) (by kernel_rfl) (by kernel_rfl) allP0 ?_
  refine seqQ_norm ?_
  refine W_seq (by kernel_rfl) ?_
  refine W_region (by kernel_rfl) ?_
  refine WO_run (j := 2) (k := 2) (orcs := []) (kF := [0, 1, 10, 11]) (kL := []) (fr' := [(0, aD (.slice (.pair tI (.pair tI (.pair tI tI)))) a0), (1, aI a1), (10, aD (.slice (.pair tI (.pair tI (.pair tI tI)))) a0), (11, aI a1)]) (L' := []) (obs := []) rfl (by kernel_rfl) allP0 ?_
  obtain ⟨r1, h2, h⟩ := bind_of h
  refine WO_call0 (us := [none, none]) (d := 12) (p := True) (j := 3) rfl ⟨by kernel_rfl, by kernel_rfl, by kernel_rfl⟩ trivial (comb_Out_ok h2) (by kernel_rfl) ?_
  refine WO_run (j := 8) (k := 5) (orcs := []) (kF := [0, 1, 5, 6]) (kL := []) (fr' := [(0, aD (.slice (.pair tI (.pair tI (.pair tI tI)))) a0), (1, aI a1), (5, aD (.slice (.pair tI (.pair tI (.pair tI tI)))) r1.1), (6, aI r1.2)]) (L' := []) (obs := []) rfl (by kernel_rfl) allP0 ?_
  refine WO_fin [0, 1, 5, 6] [] (fr' := [(0, aD (.slice (.pair tI (.pair tI (.pair tI tI)))) a0), (1, aI a1), (5, aD (.slice (.pair tI (.pair tI (.pair tI tI)))) r1.1), (6, aI r1.2)]) (L' := []) (by kernel_rfl) (by kernel_rfl) ?_
  refine seqQ_norm ?_
  refine W_seq (by kernel_rfl) ?_
  refine W_region (by kernel_rfl) ?_
  refine WO_run (j := 1) (k := 1) (orcs := []) (kF := [0, 1, 5, 6, 15]) (kL := []) (fr' := [(0, aD (.slice (.pair tI (.pair tI (.pair tI tI)))) a0), (1, aI a1), (5, aD (.slice (.pair tI (.pair tI (.pair tI tI)))) r1.1), (6, aI r1.2), (15, aD (.slice (.pair tI (.pair tI (.pair tI tI)))) a0)]) (L' := []) (obs := []) rfl (by kernel_rfl) allP0 ?_
  obtain ⟨r3, h4, h⟩ := bind_of h
  refine WO_call0 (us := [none]) (d := 16) (p := True) (j := 2) rfl ⟨by kernel_rfl, by kernel_rfl, by kernel_rfl⟩ trivial (ref_CombCheck_ok h4) (by kernel_rfl) ?_
  refine WO_run (j := 3) (k := 1) (orcs := []) (kF := [0, 1, 5, 6, 7]) (kL := []) (fr' := [(0, aD (.slice (.pair tI (.pair tI (.pair tI tI)))) a0), (1, aI a1), (5, aD (.slice (.pair tI (.pair tI (.pair tI tI)))) r1.1), (6, aI r1.2), (7, aI r3)]) (L' := []) (obs := []) rfl (by kernel_rfl) allP0 ?_
  refine WO_fin [0, 1, 5, 6, 7] [] (fr' := [(0, aD (.slice (.pair tI (.pair tI (.pair tI tI)))) a0), (1, aI a1), (5, aD (.slice (.pair tI (.pair tI (.pair tI tI)))) r1.1), (6, aI r1.2), (7, aI r3)]) (L' := []) (by kernel_rfl) (by kernel_rfl) ?_
  refine seqQ_norm ?_
  refine W_seq (by kernel_rfl) ?_
  obtain ⟨v41, h42, h⟩ := bind_of h
  refine W_cutK (Q' := (exQ .normal (law_CombOuts_s6 a0 a1 r1)) v41) ?_ ?_
  · replace h := h42
    refine W_seq (by kernel_rfl) ?_
    obtain ⟨v38, h39, h⟩ := bind_of h
    refine W_cutK (Q' := (exQ .normal (law_CombOuts_s3 a0 a1 r1 r3)) v38) ?_ ?_
    · replace h := h39
      refine W_region (by kernel_rfl) ?_
      refine WO_run (j := 3) (k := 3) (orcs := []) (kF := [0, 1, 5, 6, 7, 19]) (kL := []) (fr' := [(0, aD (.slice (.pair tI (.pair tI (.pair tI tI)))) a0), (1, aI a1), (5, aD (.slice (.pair tI (.pair tI (.pair tI tI)))) r1.1), (6, aI r1.2), (7, aI r3), (19, aB (r3 == (0 : Int)))]) (L' := []) (obs := []) rfl (by kernel_rfl) allP0 ?_
      rcases Bool.eq_false_or_eq_true (r3 == (0 : Int)) with h35 | h35
      · replace h := ofT h35 h
        refine WO_run (j := 4) (k := 1) (orcs := [(6, .known true)]) (kF := [0, 1, 5, 6, 7, 19, 20]) (kL := []) (fr' := [(0, aD (.slice (.pair tI (.pair tI (.pair tI tI)))) a0), (1, aI a1), (5, aD (.slice (.pair tI (.pair tI (.pair tI tI)))) r1.1), (6, aI r1.2), (7, aI r3), (19, aB (r3 == (0 : Int))), (20, aI a1)]) (L' := []) (obs := [((r3 == (0 : Int)) = true)]) rfl (by kernel_rfl) (allP1 h35) ?_
        obtain ⟨r36, h37, h⟩ := bind_of h
        refine WO_call0 (us := [none, none, none]) (d := 21) (p := ((r3 == (0 : Int)) = true)) (j := 5) rfl ⟨by kernel_rfl, by kernel_rfl, by kernel_rfl⟩ h35 (ref_Within_ok h37) (by kernel_rfl) ?_
        refine WO_run (j := 7) (k := 2) (orcs := [(10, .known true), (13, .val (.dat .bool true))]) (kF := [0, 1, 5, 6, 7, 23]) (kL := []) (fr' := [(0, aD (.slice (.pair tI (.pair tI (.pair tI tI)))) a0), (1, aI a1), (5, aD (.slice (.pair tI (.pair tI (.pair tI tI)))) r1.1), (6, aI r1.2), (7, aI r3), (23, aB (!r36))]) (L' := []) (obs := [((r3 == (0 : Int)) = true), ((r3 == (0 : Int)) = true)]) rfl (by kernel_rfl) (allP2 h35 (allP1 h35)) ?_
        obtain rfl := Option.some.inj h
        refine WO_fin [0, 1, 5, 6, 7, 23] [] (fr' := [(0, aD (.slice (.pair tI (.pair tI (.pair tI tI)))) a0), (1, aI a1), (5, aD (.slice (.pair tI (.pair tI (.pair tI tI)))) r1.1), (6, aI r1.2), (7, aI r3), (23, aB (!r36))]) (L' := []) (by kernel_rfl) (by kernel_rfl) ?_
        exact exQ_mk (by kernel_rfl) (by kernel_rfl)
      · replace h := ofF h35 h
        refine WO_run (j := 7) (k := 4) (orcs := [(6, .known false), (8, .known false), (10, .known false), (13, .val (.dat .bool false))]) (kF := [0, 1, 5, 6, 7, 23]) (kL := []) (fr' := [(0, aD (.slice (.pair tI (.pair tI (.pair tI tI)))) a0), (1, aI a1), (5, aD (.slice (.pair tI (.pair tI (.pair tI tI)))) r1.1), (6, aI r1.2), (7, aI r3), (23, aB false)]) (L' := []) (obs := [((r3 == (0 : Int)) = false), ((r3 == (0 : Int)) = false), ((r3 == (0 : Int)) = false), ((r3 == (0 : Int)) = false)]) rfl (by kernel_rfl) (allP2 h35 (allP2 h35 (allP2 h35 (allP1 h35)))) ?_
        obtain rfl := Option.some.inj h
        refine WO_fin [0, 1, 5, 6, 7, 23] [] (fr' := [(0, aD (.slice (.pair tI (.pair tI (.pair tI tI)))) a0), (1, aI a1), (5, aD (.slice (.pair tI (.pair tI (.pair tI tI)))) r1.1), (6, aI r1.2), (7, aI r3), (23, aB false)]) (L' := []) (by kernel_rfl) (by kernel_rfl) ?_
        exact exQ_mk (by kernel_rfl) (by kernel_rfl)
    · intro e fr L hJ
      obtain ⟨rfl, rfl, rfl⟩ := hJ
      refine LT_keep [0, 1, 5, 6, 7, 23] [] (fr' := [(0, aD (.slice (.pair tI (.pair tI (.pair tI tI)))) a0), (1, aI a1), (5, aD (.slice (.pair tI (.pair tI (.pair tI tI)))) r1.1), (6, aI r1.2), (7, aI r3), (23, aB v38)]) (L' := []) (by kernel_rfl) ?_
      refine seqQ_norm ?_
      refine W_cond (o := .tmp 23) (b := v38) (by kernel_rfl) (by kernel_rfl) (fun h40 => ?_) (fun h40 => ?_)
      · replace h := ofT h40 h
        obtain rfl := Option.some.inj h
        refine W_run 1 [] [0, 1, 5, 6, 7] [] (fr' := [(0, aD (.slice (.pair tI (.pair tI (.pair tI tI)))) a0), (1, aI a1), (5, aD (.slice (.pair tI (.pair tI (.pair tI tI)))) r1.1), (6, aI r1.2), (7, aI (4 : Int))]) (L' := []) (obs := []) (by kernel_rfl) (by kernel_rfl) (by kernel_rfl) allP0 ?_
        exact exQ_mk (by kernel_rfl) (by kernel_rfl)
      · replace h := ofF h40 h
        obtain rfl := Option.some.inj h
        refine W_skip [0, 1, 5, 6, 7] [] (fr' := [(0, aD (.slice (.pair tI (.pair tI (.pair tI tI)))) a0), (1, aI a1), (5, aD (.slice (.pair tI (.pair tI (.pair tI tI)))) r1.1), (6, aI r1.2), (7, aI r3)]) (L' := []) (by kernel_rfl) (by kernel_rfl) ?_
        exact exQ_mk (by kernel_rfl) (by kernel_rfl)
  · intro e fr L hJ
    obtain ⟨rfl, rfl, rfl⟩ := hJ
    refine LT_keep [0, 1, 5, 6, 7] [] (fr' := [(0, aD (.slice (.pair tI (.pair tI (.pair tI tI)))) a0), (1, aI a1), (5, aD (.slice (.pair tI (.pair tI (.pair tI tI)))) r1.1), (6, aI r1.2), (7, aI v41)]) (L' := []) (by kernel_rfl) ?_
    refine seqQ_norm ?_
    refine W_seq (by kernel_rfl) ?_
    refine W_seq (by kernel_rfl) ?_
    refine W_run 2 [] [0, 1, 5, 6, 7, 25] [] (fr' := [(0, aD (.slice (.pair tI (.pair tI (.pair tI tI)))) a0), (1, aI a1), (5, aD (.slice (.pair tI (.pair tI (.pair tI tI)))) r1.1), (6, aI r1.2), (7, aI v41), (25, aB (v41 != (0 : Int)))]) (L' := []) (obs := []) (by kernel_rfl) (by kernel_rfl) (by kernel_rfl) allP0 ?_
    refine seqQ_norm ?_
    refine W_cond (o := .tmp 25) (b := v41 != (0 : Int)) (by kernel_rfl) (by kernel_rfl) (fun h43 => ?_) (fun h43 => ?_)
    · replace h := ofT h43 h
      refine W_seq (by kernel_rfl) ?_
      refine W_run 9 [] [4] [] (fr' := [(4, aB ((r1.2 == v41) && ((List.length r1.1 : Int) == (0 : Int))))]) (L' := []) (obs := []) (by kernel_rfl) (by kernel_rfl) (by kernel_rfl) allP0 ?_
      refine seqQ_norm ?_
      obtain rfl := Option.some.inj h
      refine W_ret [4] [] (fr' := [(4, aB ((r1.2 == v41) && ((List.length r1.1 : Int) == (0 : Int))))]) (L' := []) (by kernel_rfl) (by kernel_rfl) ?_
      refine seqQ_ret ?_
      exact retQ_mk (by kernel_rfl) (by kernel_rfl) (by kernel_rfl)
    · replace h := ofF h43 h
      refine W_skip [0, 1, 5, 6] [] (fr' := [(0, aD (.slice (.pair tI (.pair tI (.pair tI tI)))) a0), (1, aI a1), (5, aD (.slice (.pair tI (.pair tI (.pair tI tI)))) r1.1), (6, aI r1.2)]) (L' := []) (by kernel_rfl) (by kernel_rfl) ?_
      refine seqQ_norm ?_
      refine W_seq (by kernel_rfl) ?_
      refine W_region (by kernel_rfl) ?_
      refine WO_run (j := 4) (k := 4) (orcs := []) (kF := [1, 5, 6, 34, 37]) (kL := []) (fr' := [(1, aI a1), (5, aD (.slice (.pair tI (.pair tI (.pair tI tI)))) r1.1), (6, aI r1.2), (34, aD (.slice (.pair tI (.pair tI (.pair tI tI)))) a0), (37, aI (w64 ((List.length a0 : Int) - (1 : Int))))]) (L' := []) (obs := []) rfl (by kernel_rfl) allP0 ?_
      obtain ⟨r44, h45, h⟩ := bind_of h
      refine WO_call0 (us := [none, none]) (d := 38) (p := True) (j := 5) rfl ⟨by kernel_rfl, by kernel_rfl, by kernel_rfl⟩ trivial (ref_Read_ok h45) (by kernel_rfl) ?_
      refine WO_run (j := 6) (k := 1) (orcs := []) (kF := [5, 6, 38, 39]) (kL := []) (fr' := [(5, aD (.slice (.pair tI (.pair tI (.pair tI tI)))) r1.1), (6, aI r1.2), (38, aD .tree r44), (39, aI a1)]) (L' := []) (obs := []) rfl (by kernel_rfl) allP0 ?_
      obtain ⟨r46, h47, h⟩ := bind_of h
      refine WO_call0 (us := [none, none]) (d := 40) (p := True) (j := 7) rfl ⟨by kernel_rfl, by kernel_rfl, by kernel_rfl⟩ trivial (ref_Outed_ok h47) (by kernel_rfl) ?_
      refine WO_run (j := 8) (k := 1) (orcs := []) (kF := [5, 6, 8]) (kL := []) (fr' := [(5, aD (.slice (.pair tI (.pair tI (.pair tI tI)))) r1.1), (6, aI r1.2), (8, aD .tree r46)]) (L' := []) (obs := []) rfl (by kernel_rfl) allP0 ?_
      refine WO_fin [5, 6, 8] [] (fr' := [(5, aD (.slice (.pair tI (.pair tI (.pair tI tI)))) r1.1), (6, aI r1.2), (8, aD .tree r46)]) (L' := []) (by kernel_rfl) (by kernel_rfl) ?_
      refine seqQ_norm ?_
      refine W_seq (by kernel_rfl) ?_
      refine W_seq (by kernel_rfl) ?_
      refine W_region (by kernel_rfl) ?_
      refine WO_run (j := 1) (k := 1) (orcs := []) (kF := [5, 6, 8, 41]) (kL := []) (fr' := [(5, aD (.slice (.pair tI (.pair tI (.pair tI tI)))) r1.1), (6, aI r1.2), (8, aD .tree r46), (41, aD .tree r46)]) (L' := []) (obs := []) rfl (by kernel_rfl) allP0 ?_
      obtain ⟨r48, h49, h⟩ := bind_of h
      refine WO_call0 (us := [none]) (d := 42) (p := True) (j := 2) rfl ⟨by kernel_rfl, by kernel_rfl, by kernel_rfl⟩ trivial (ref_Nodes_ok h49) (by kernel_rfl) ?_
      refine WO_run (j := 3) (k := 1) (orcs := []) (kF := [5, 6, 8, 43]) (kL := []) (fr' := [(5, aD (.slice (.pair tI (.pair tI (.pair tI tI)))) r1.1), (6, aI r1.2), (8, aD .tree r46), (43, aB (decide (r48 > (300 : Int))))]) (L' := []) (obs := []) rfl (by kernel_rfl) allP0 ?_
      refine WO_fin [5, 6, 8, 43] [] (fr' := [(5, aD (.slice (.pair tI (.pair tI (.pair tI tI)))) r1.1), (6, aI r1.2), (8, aD .tree r46), (43, aB (decide (r48 > (300 : Int))))]) (L' := []) (by kernel_rfl) (by kernel_rfl) ?_
      refine seqQ_norm ?_
      refine W_cond (o := .tmp 43) (b := decide (r48 > (300 : Int))) (by kernel_rfl) (by kernel_rfl) (fun h50 => ?_) (fun h50 => ?_)
      · replace h := ofT h50 h
        refine W_seq (by kernel_rfl) ?_
        refine W_run 8 [] [4] [] (fr' := [(4, aB ((r1.2 == (7 : Int)) && ((List.length r1.1 : Int) == (0 : Int))))]) (L' := []) (obs := []) (by kernel_rfl) (by kernel_rfl) (by kernel_rfl) allP0 ?_
        refine seqQ_norm ?_
        obtain rfl := Option.some.inj h
        refine W_ret [4] [] (fr' := [(4, aB ((r1.2 == (7 : Int)) && ((List.length r1.1 : Int) == (0 : Int))))]) (L' := []) (by kernel_rfl) (by kernel_rfl) ?_
        refine seqQ_ret ?_
        exact retQ_mk (by kernel_rfl) (by kernel_rfl) (by kernel_rfl)
      · replace h := ofF h50 h
        refine W_skip [5, 6, 8] [] (fr' := [(5, aD (.slice (.pair tI (.pair tI (.pair tI tI)))) r1.1), (6, aI r1.2), (8, aD .tree r46)]) (L' := []) (by kernel_rfl) (by kernel_rfl) ?_
        refine seqQ_norm ?_
        refine W_seq (by kernel_rfl) ?_
        obtain ⟨v66, h67, h⟩ := bind_of h
        refine W_cutK (Q' := (exQ .normal law_CombOuts_s5) v66) ?_ ?_
        · replace h := h67
          refine W_region (by kernel_rfl) ?_
          refine WO_run (j := 3) (k := 3) (orcs := []) (kF := [5, 8, 53]) (kL := []) (fr' := [(5, aD (.slice (.pair tI (.pair tI (.pair tI tI)))) r1.1), (8, aD .tree r46), (53, aB (r1.2 == (0 : Int)))]) (L' := []) (obs := []) rfl (by kernel_rfl) allP0 ?_
          rcases Bool.eq_false_or_eq_true (r1.2 == (0 : Int)) with h61 | h61
          · replace h := ofT h61 h
            refine WO_run (j := 5) (k := 2) (orcs := [(6, .known true), (8, .known true)]) (kF := [53, 54, 55]) (kL := []) (fr' := [(53, aB (r1.2 == (0 : Int))), (54, aD (.slice (.pair tI (.pair tI (.pair tI tI)))) r1.1), (55, aD .tree r46)]) (L' := []) (obs := [((r1.2 == (0 : Int)) = true), ((r1.2 == (0 : Int)) = true)]) rfl (by kernel_rfl) (allP2 h61 (allP1 h61)) ?_
            obtain ⟨r62, h63, h⟩ := bind_of h
            refine WO_call0 (us := [none, some (.slice (.pair tI (.pair tI (.pair tI tI))))]) (d := 56) (p := ((r1.2 == (0 : Int)) = true)) (j := 6) rfl ⟨by kernel_rfl, by kernel_rfl, by kernel_rfl⟩ h61 (ref_Write_ok h63) (by kernel_rfl) ?_
            obtain ⟨r64, h65, h⟩ := bind_of h
            refine WO_call0 (us := [none, none]) (d := 57) (p := ((r1.2 == (0 : Int)) = true)) (j := 7) rfl ⟨by kernel_rfl, by kernel_rfl, by kernel_rfl⟩ h61 (ref_Combs_ok h65) (by kernel_rfl) ?_
            refine WO_run (j := 9) (k := 2) (orcs := [(15, .val (.dat .bool true))]) (kF := [4]) (kL := []) (fr' := [(4, aB r64)]) (L' := []) (obs := [((r1.2 == (0 : Int)) = true)]) rfl (by kernel_rfl) (allP1 h61) ?_
            obtain rfl := Option.some.inj h
            refine WO_fin [4] [] (fr' := [(4, aB r64)]) (L' := []) (by kernel_rfl) (by kernel_rfl) ?_
            exact exQ_mk (by kernel_rfl) (by kernel_rfl)
          · replace h := ofF h61 h
            refine WO_run (j := 9) (k := 6) (orcs := [(6, .known false), (8, .known false), (10, .known false), (12, .known false), (15, .val (.dat .bool false))]) (kF := [4]) (kL := []) (fr' := [(4, aB false)]) (L' := []) (obs := [((r1.2 == (0 : Int)) = false), ((r1.2 == (0 : Int)) = false), ((r1.2 == (0 : Int)) = false), ((r1.2 == (0 : Int)) = false), ((r1.2 == (0 : Int)) = false)]) rfl (by kernel_rfl) (allP2 h61 (allP2 h61 (allP2 h61 (allP2 h61 (allP1 h61))))) ?_
            obtain rfl := Option.some.inj h
            refine WO_fin [4] [] (fr' := [(4, aB false)]) (L' := []) (by kernel_rfl) (by kernel_rfl) ?_
            exact exQ_mk (by kernel_rfl) (by kernel_rfl)
        · intro e fr L hJ
          obtain ⟨rfl, rfl, rfl⟩ := hJ
          refine LT_keep [4] [] (fr' := [(4, aB v66)]) (L' := []) (by kernel_rfl) ?_
          refine seqQ_norm ?_
          obtain rfl := Option.some.inj h
          refine W_ret [4] [] (fr' := [(4, aB v66)]) (L' := []) (by kernel_rfl) (by kernel_rfl) ?_
          exact retQ_mk (by kernel_rfl) (by kernel_rfl) (by kernel_rfl)
end Go.Proofs.Ytkkmiclmbhbmjaa.combOuts
