/- What the functions that TopFaces calls compute, as models, and that they compute it: written by a program of mine. -/
import Derived.Test.YtnblafiefaalgaaProg
import Derived.Test.YtnblafiefaalgaaTopFacesM2
set_option linter.all false
set_option maxRecDepth 100000
namespace Go.Proofs.Ytnblafiefaalgaa.topFaces
open Go Go.Sl
def gate_All_g11 (a1 : (List Bool)) (x168 : (List Bool)) (v170 : (Int × (Int × Int))) : Option Bool :=
bif v170.1 == (1 : Int) then
((idx a1 v170.2.1).bind fun v267 =>
some v267)
else
(bif v170.1 == (2 : Int) then
((idx x168 v170.2.1).bind fun v270 =>
some (!v270))
else
(bif v170.1 == (3 : Int) then
((idx x168 v170.2.1).bind fun v273 =>
bif v273 then
((idx x168 v170.2.2).bind fun v276 =>
some v276)
else
(some false))
else
(bif v170.1 == (4 : Int) then
((idx x168 v170.2.1).bind fun v279 =>
bif v279 then
(some true)
else
((idx x168 v170.2.2).bind fun v282 =>
some v282))
else
(some false))))
@[reducible] def gate_All_s12 (a0 : (List (Int × (Int × Int)))) (a1 : (List Bool)) (i167 : Int) (x168 : (List Bool)) (v : Bool) : Fr × LL := ([(1, aD (.slice .bool) a1), (5, .one (.slc 63)), (8, aB v), (9, aD (.slice t3) a0), (10, aI (List.length a0 : Int)), (11, aI i167)], [(63, .seq .bool x168)])
def gate_All_b13 (a1 : (List Bool)) (i167 : Int) (v170 : (Int × (Int × Int))) (x168 : (List Bool)) : Option (Flow (List Bool) (List Bool)) :=
(gate_All_g11 a1 x168 v170).bind fun v284 =>
(ck ((List.length x168 : Int) + 1 ≤ 4294967296)).bind fun _ =>
some (.next (x168 ++ [v284]))
@[reducible] def gate_All_s14 (a0 : (List (Int × (Int × Int)))) (a1 : (List Bool)) (v : Int × (List Bool)) : Fr × LL := ([(1, aD (.slice .bool) a1), (5, .one (.slc 63)), (9, aD (.slice t3) a0), (10, aI (List.length a0 : Int)), (11, aI v.1)], [(63, .seq .bool v.2)])
@[reducible] def gate_All_s15 (v : (List Bool)) : Fr × LL := ([(5, .one (.slc 63))], [(63, .seq .bool v)])
def gate_All (a0 : (List (Int × (Int × Int)))) (a1 : (List Bool)) : Option (List Bool) :=
(forL (gate_All_b13 a1) (fun x168 => x168) a0 0 []).bind fun v288 =>
some v288
theorem gate_All_ok {a0 : (List (Int × (Int × Int)))} {a1 : (List Bool)} {r : (List Bool)} (h : gate_All a0 a1 = some r) : FnC Try.prog 63 [aD (.slice t3) a0, aD (.slice .bool) a1] [] (aD (.slice .bool) r) [] := by
 refine fnC_of_W (B := bodyOf Try.f63) (n := 66) Try.func63 (by kernel_rfl) (by kernel_rfl) (by kernel_rfl) (by kernel_rfl) (by kernel_rfl) ?_
 intro K
 refine sr [(0, aD (.slice t3) a0), (1, aD (.slice .bool) a1)] [] (by kernel_rfl) ?_
 refine srL [(0, aD (.slice t3) a0), (1, aD (.slice .bool) a1), (5, .one (.nilS))] (by kernel_rfl) ?_
 refine W_seq (by kernel_rfl) ?_
 refine srL [(1, aD (.slice .bool) a1), (5, .one (.nilS)), (9, aD (.slice t3) a0), (10, aI (List.length a0 : Int)), (11, aI (0 : Int))] (by kernel_rfl) ?_
 refine W_block (id := 0) (by kernel_rfl) ?_
 obtain ⟨v288, h289, h⟩ := bind_of h
 refine W_len (t := 9) (u := t3) (xs := a0) (by kernel_rfl) (fun h292 => ?_)
 obtain ⟨h290, h291⟩ := forL_iter h292 h289
 refine W_mine 5 63 .bool (by kernel_rfl) ?_
 refine W_weaken [1, 5, 9, 10, 11] [63] (fr' := ((gate_All_s14 a0 a1) ((0 : Int), [])).1) (L' := ((gate_All_s14 a0 a1) ((0 : Int), [])).2) (by kernel_rfl) ?_
 refine W_cutK (W_loop (S := (gate_All_s14 a0 a1)) (J := (exQ (.exit 0) gate_All_s15)) (by kernel_rfl) ?_ h290 _ v288 h291) ?_
 ·rintro ⟨i167, x168⟩ s h
  refine sr [(1, aD (.slice .bool) a1), (5, .one (.slc 63)), (9, aD (.slice t3) a0), (10, aI (List.length a0 : Int)), (11, aI i167), (12, aB (decide (i167 < (List.length a0 : Int))))] [(63, .seq .bool x168)] (by kernel_rfl) ?_
  refine W_seq (by kernel_rfl) ?_
  refine W_cond (o := .tmp 12) (b := decide (i167 < (List.length a0 : Int))) (by kernel_rfl) (by kernel_rfl) (fun h172 => ?_) (fun h172 => ?_)
  ·replace h := stepL_true h172 h
   obtain ⟨v170, _, h171, h, rfl⟩ := h
   refine wkL [(1, aD (.slice .bool) a1), (5, .one (.slc 63)), (9, aD (.slice t3) a0), (10, aI (List.length a0 : Int)), (11, aI i167)] (by kernel_rfl) ?_
   refine seqQ_norm ?_
   refine W_seq (by kernel_rfl) ?_
   refine W_block (id := 1) (by kernel_rfl) ?_
   refine sro [(1, .val (.dat t3 v170)), (5, .typed)] [(1, aD (.slice .bool) a1), (5, .one (.slc 63)), (7, .one (.ptr 7 0)), (9, aD (.slice t3) a0), (10, aI (List.length a0 : Int)), (11, aI i167)] [(63, .seq .bool x168), (7, .one t3 v170)] [Idx a0 i167 v170, True] (by kernel_rfl) (allP2 (Idx.of h171) (allP1 trivial)) ?_
   refine srL [(1, aD (.slice .bool) a1), (5, .one (.slc 63)), (7, .one (.ptr 7 0)), (8, aB false), (9, aD (.slice t3) a0), (10, aI (List.length a0 : Int)), (11, aI i167)] (by kernel_rfl) ?_
   refine W_seq (by kernel_rfl) ?_
   obtain ⟨v284, h285, h⟩ := bind_of h
   refine W_cutK (Q' := (exQ .normal (gate_All_s12 a0 a1 i167 x168)) v284) ?_ ?_
   ·replace h := h285
    refine sr [(1, aD (.slice .bool) a1), (5, .one (.slc 63)), (7, .one (.ptr 7 0)), (8, aB false), (9, aD (.slice t3) a0), (10, aI (List.length a0 : Int)), (11, aI i167), (16, aI v170.1)] [(63, .seq .bool x168), (7, .one t3 v170)] (by kernel_rfl) ?_
    refine W_block (id := 2) (by kernel_rfl) ?_
    refine srL [(1, aD (.slice .bool) a1), (5, .one (.slc 63)), (7, .one (.ptr 7 0)), (8, aB false), (9, aD (.slice t3) a0), (10, aI (List.length a0 : Int)), (11, aI i167), (16, aI v170.1), (17, aB (v170.1 == (1 : Int)))] (by kernel_rfl) ?_
    refine W_cond (o := .tmp 17) (b := v170.1 == (1 : Int)) (by kernel_rfl) (by kernel_rfl) (fun h266 => ?_) (fun h266 => ?_)
    ·replace h := ofT h266 h
     obtain ⟨v267, h268, h⟩ := bind_of h
     obtain rfl := Option.some.inj h
     refine W_run 6 [(7, .val (.dat .bool v267))] [1, 5, 8, 9, 10, 11] [63] (fr' := [(1, aD (.slice .bool) a1), (5, .one (.slc 63)), (8, aB v267), (9, aD (.slice t3) a0), (10, aI (List.length a0 : Int)), (11, aI i167)]) (L' := [(63, .seq .bool x168)]) (obs := [Idx a1 v170.2.1 v267]) (by kernel_rfl) (by kernel_rfl) (by kernel_rfl) (allP1 (Idx.of h268)) ?_
     refine blockQ_norm ?_
     exact exM (by kernel_rfl)
    ·replace h := ofF h266 h
     refine srL [(1, aD (.slice .bool) a1), (5, .one (.slc 63)), (7, .one (.ptr 7 0)), (8, aB false), (9, aD (.slice t3) a0), (10, aI (List.length a0 : Int)), (11, aI i167), (16, aI v170.1), (24, aB (v170.1 == (2 : Int)))] (by kernel_rfl) ?_
     refine W_cond (o := .tmp 24) (b := v170.1 == (2 : Int)) (by kernel_rfl) (by kernel_rfl) (fun h269 => ?_) (fun h269 => ?_)
     ·replace h := ofT h269 h
      obtain ⟨v270, h271, h⟩ := bind_of h
      obtain rfl := Option.some.inj h
      refine W_run 7 [(9, .val (.dat .bool v270))] [1, 5, 8, 9, 10, 11] [63] (fr' := [(1, aD (.slice .bool) a1), (5, .one (.slc 63)), (8, aB (!v270)), (9, aD (.slice t3) a0), (10, aI (List.length a0 : Int)), (11, aI i167)]) (L' := [(63, .seq .bool x168)]) (obs := [InR v170.2.1 (List.length x168), Idx x168 v170.2.1 v270]) (by kernel_rfl) (by kernel_rfl) (by kernel_rfl) (allP2 (InR.of h271) (allP1 (Idx.of h271))) ?_
      refine blockQ_norm ?_
      exact exM (by kernel_rfl)
     ·replace h := ofF h269 h
      refine srL [(1, aD (.slice .bool) a1), (5, .one (.slc 63)), (7, .one (.ptr 7 0)), (8, aB false), (9, aD (.slice t3) a0), (10, aI (List.length a0 : Int)), (11, aI i167), (16, aI v170.1), (32, aB (v170.1 == (3 : Int)))] (by kernel_rfl) ?_
      refine W_cond (o := .tmp 32) (b := v170.1 == (3 : Int)) (by kernel_rfl) (by kernel_rfl) (fun h272 => ?_) (fun h272 => ?_)
      ·replace h := ofT h272 h
       obtain ⟨v273, h274, h⟩ := bind_of h
       refine W_region (by kernel_rfl) ?_
       refine woo 6 [(9, .val (.dat .bool v273))] [(1, aD (.slice .bool) a1), (5, .one (.slc 63)), (7, .one (.ptr 7 0)), (8, aB false), (9, aD (.slice t3) a0), (10, aI (List.length a0 : Int)), (11, aI i167), (39, aB v273)] [(7, .one t3 v170), (63, .seq .bool x168)] [InR v170.2.1 (List.length x168), Idx x168 v170.2.1 v273] (by kernel_rfl) (allP2 (InR.of h274) (allP1 (Idx.of h274))) ?_
       rcases Bool.eq_false_or_eq_true (v273) with h275 | h275
       ·replace h := ofT h275 h
        obtain ⟨v276, h277, h⟩ := bind_of h
        refine woo 13 [(12, .known true), (14, .known true), (16, .known true), (18, .known true), (20, .known true), (21, .val (.dat .bool v276)), (23, .val (.dat .bool true))] [(1, aD (.slice .bool) a1), (5, .one (.slc 63)), (8, aB v276), (9, aD (.slice t3) a0), (10, aI (List.length a0 : Int)), (11, aI i167)] [(7, .one t3 v170), (63, .seq .bool x168)] [(v273 = true), (v273 = true), (v273 = true), (v273 = true), InR v170.2.2 (List.length x168), (v273 = true), Idx x168 v170.2.2 v276, (v273 = true)] (by kernel_rfl) (allP2 h275 (allP2 h275 (allP2 h275 (allP2 h275 (allP2 (InR.of h277) (allP2 h275 (allP2 (Idx.of h277) (allP1 h275)))))))) ?_
        obtain rfl := Option.some.inj h
        refine wf [(1, aD (.slice .bool) a1), (5, .one (.slc 63)), (8, aB v276), (9, aD (.slice t3) a0), (10, aI (List.length a0 : Int)), (11, aI i167)] [(63, .seq .bool x168)] (by kernel_rfl) ?_
        refine blockQ_norm ?_
        exact exM (by kernel_rfl)
       ·replace h := ofF h275 h
        refine woo 13 [(12, .known false), (14, .known false), (16, .known false), (18, .known false), (20, .known false), (23, .val (.dat .bool false))] [(1, aD (.slice .bool) a1), (5, .one (.slc 63)), (8, aB false), (9, aD (.slice t3) a0), (10, aI (List.length a0 : Int)), (11, aI i167)] [(7, .one t3 v170), (63, .seq .bool x168)] [(v273 = false), (v273 = false), (v273 = false), (v273 = false), (v273 = false), (v273 = false)] (by kernel_rfl) (allP2 h275 (allP2 h275 (allP2 h275 (allP2 h275 (allP2 h275 (allP1 h275)))))) ?_
        obtain rfl := Option.some.inj h
        refine wf [(1, aD (.slice .bool) a1), (5, .one (.slc 63)), (8, aB false), (9, aD (.slice t3) a0), (10, aI (List.length a0 : Int)), (11, aI i167)] [(63, .seq .bool x168)] (by kernel_rfl) ?_
        refine blockQ_norm ?_
        exact exM (by kernel_rfl)
      ·replace h := ofF h272 h
       refine srL [(1, aD (.slice .bool) a1), (5, .one (.slc 63)), (7, .one (.ptr 7 0)), (8, aB false), (9, aD (.slice t3) a0), (10, aI (List.length a0 : Int)), (11, aI i167), (46, aB (v170.1 == (4 : Int)))] (by kernel_rfl) ?_
       refine W_cond (o := .tmp 46) (b := v170.1 == (4 : Int)) (by kernel_rfl) (by kernel_rfl) (fun h278 => ?_) (fun h278 => ?_)
       ·replace h := ofT h278 h
        obtain ⟨v279, h280, h⟩ := bind_of h
        refine W_region (by kernel_rfl) ?_
        refine woo 6 [(9, .val (.dat .bool v279))] [(1, aD (.slice .bool) a1), (5, .one (.slc 63)), (7, .one (.ptr 7 0)), (8, aB false), (9, aD (.slice t3) a0), (10, aI (List.length a0 : Int)), (11, aI i167), (53, aB v279)] [(7, .one t3 v170), (63, .seq .bool x168)] [InR v170.2.1 (List.length x168), Idx x168 v170.2.1 v279] (by kernel_rfl) (allP2 (InR.of h280) (allP1 (Idx.of h280))) ?_
        rcases Bool.eq_false_or_eq_true (v279) with h281 | h281
        ·replace h := ofT h281 h
         refine woo 13 [(12, .known true), (14, .known true), (16, .known true), (18, .known true), (20, .known true), (23, .val (.dat .bool true))] [(1, aD (.slice .bool) a1), (5, .one (.slc 63)), (8, aB true), (9, aD (.slice t3) a0), (10, aI (List.length a0 : Int)), (11, aI i167)] [(7, .one t3 v170), (63, .seq .bool x168)] [(v279 = true), (v279 = true), (v279 = true), (v279 = true), (v279 = true), (v279 = true)] (by kernel_rfl) (allP2 h281 (allP2 h281 (allP2 h281 (allP2 h281 (allP2 h281 (allP1 h281)))))) ?_
         obtain rfl := Option.some.inj h
         refine wf [(1, aD (.slice .bool) a1), (5, .one (.slc 63)), (8, aB true), (9, aD (.slice t3) a0), (10, aI (List.length a0 : Int)), (11, aI i167)] [(63, .seq .bool x168)] (by kernel_rfl) ?_
         refine blockQ_norm ?_
         exact exM (by kernel_rfl)
        ·replace h := ofF h281 h
         obtain ⟨v282, h283, h⟩ := bind_of h
         refine woo 13 [(12, .known false), (14, .known false), (16, .known false), (18, .known false), (20, .known false), (21, .val (.dat .bool v282)), (23, .val (.dat .bool false))] [(1, aD (.slice .bool) a1), (5, .one (.slc 63)), (8, aB v282), (9, aD (.slice t3) a0), (10, aI (List.length a0 : Int)), (11, aI i167)] [(7, .one t3 v170), (63, .seq .bool x168)] [(v279 = false), (v279 = false), (v279 = false), (v279 = false), InR v170.2.2 (List.length x168), (v279 = false), Idx x168 v170.2.2 v282, (v279 = false)] (by kernel_rfl) (allP2 h281 (allP2 h281 (allP2 h281 (allP2 h281 (allP2 (InR.of h283) (allP2 h281 (allP2 (Idx.of h283) (allP1 h281)))))))) ?_
         obtain rfl := Option.some.inj h
         refine wf [(1, aD (.slice .bool) a1), (5, .one (.slc 63)), (8, aB v282), (9, aD (.slice t3) a0), (10, aI (List.length a0 : Int)), (11, aI i167)] [(63, .seq .bool x168)] (by kernel_rfl) ?_
         refine blockQ_norm ?_
         exact exM (by kernel_rfl)
       ·replace h := ofF h278 h
        obtain rfl := Option.some.inj h
        refine wk [(1, aD (.slice .bool) a1), (5, .one (.slc 63)), (8, aB false), (9, aD (.slice t3) a0), (10, aI (List.length a0 : Int)), (11, aI i167)] [(63, .seq .bool x168)] (by kernel_rfl) ?_
        refine blockQ_norm ?_
        exact exM (by kernel_rfl)
   ·intro e fr L hJ
    obtain ⟨rfl, rfl, rfl⟩ := hJ
    refine ltk [(1, aD (.slice .bool) a1), (5, .one (.slc 63)), (8, aB v284), (9, aD (.slice t3) a0), (10, aI (List.length a0 : Int)), (11, aI i167)] [(63, .seq .bool x168)] (by kernel_rfl) ?_
    refine seqQ_norm ?_
    obtain ⟨_, h286, h⟩ := bind_of h
    replace h286 := ck_some h286
    refine W_run 5 [] [1, 5, 9, 10, 11] [63] (fr' := [(1, aD (.slice .bool) a1), (5, .one (.slc 63)), (9, aD (.slice t3) a0), (10, aI (List.length a0 : Int)), (11, aI i167)]) (L' := [(63, .seq .bool (x168 ++ [v284]))]) (obs := [SmallLen (List.length x168 + List.length [v284])]) (by kernel_rfl) (by kernel_rfl) (by kernel_rfl) (allP1 h286) ?_
    refine blockQ_norm ?_
    refine seqQ_norm ?_
    obtain rfl := Option.some.inj h
    refine swL [(1, aD (.slice .bool) a1), (5, .one (.slc 63)), (9, aD (.slice t3) a0), (10, aI (List.length a0 : Int)), (11, aI (w64 (i167 + (1 : Int))))] (by kernel_rfl) ?_
    exact round_next' (by kernel_rfl) (by kernel_rfl)
  ·obtain rfl := stepL_false h172 h
   refine wxL 0 [(5, .one (.slc 63))] (by kernel_rfl) ?_
   refine seqQ_exit ?_
   refine round_exit ?_
   exact exM (by kernel_rfl)
 ·intro e fr L hJ
  obtain ⟨rfl, rfl, rfl⟩ := hJ
  refine ltk [(5, .one (.slc 63))] [(63, .seq .bool v288)] (by kernel_rfl) ?_
  refine blockQ_hit ?_
  refine seqQ_norm ?_
  refine sr [(4, .one (.slc 63))] [(63, .seq .bool v288)] (by kernel_rfl) ?_
  obtain rfl := Option.some.inj h
  refine W_frz 63 (by kernel_rfl) ?_
  refine wt [(4, aD (.slice .bool) v288)] [] (by kernel_rfl) ?_
  exact retM (by kernel_rfl)

def whole_Ask_b1 (a1 : Int) (r1 : ((List (Int × (Int × Int))) × Int)) (i22 : Int) (x23 : (List Bool)) : Option (Flow (List Bool) (List Bool)) :=
(whole_word a1 i22).bind fun r26 =>
(gate_All r1.1 r26).bind fun r28 =>
(idx r28 (w64 ((List.length r28 : Int) - (1 : Int)))).bind fun v30 =>
(ck ((List.length x23 : Int) + 1 ≤ 4294967296)).bind fun _ =>
some (.next (x23 ++ [v30]))
@[reducible] def whole_Ask_s2 (a1 : Int) (r1 : ((List (Int × (Int × Int))) × Int)) (v : Int × (List Bool)) : Fr × LL := ([(1, aI a1), (8, aD (.slice t3) r1.1), (10, .one (.slc 41)), (24, aI (bShl .i64 (1 : Int) a1)), (25, aI v.1)], [(41, .seq .bool v.2)])
@[reducible] def whole_Ask_s3 (v : (List Bool)) : Fr × LL := ([(10, .one (.slc 41))], [(41, .seq .bool v)])
def whole_Ask (fuel : Nat) (a0 : (Int × (Int × (List (List (Int × (Int × Int))))))) (a1 : Int) (a2 : Int) : Option ((List Bool) × Int) :=
(unroll_Build fuel a0 a1 a2).bind fun r1 =>
bif r1.2 != (0 : Int) then
(some ([], r1.2))
else
((ck (0 ≤ a1)).bind fun _ =>
(forI (0 : Int) (bShl .i64 (1 : Int) a1) (whole_Ask_b1 a1 r1) (fun x23 => x23) []).bind fun v34 =>
some (v34, (0 : Int)))
theorem whole_Ask_ok {fuel : Nat} {a0 : (Int × (Int × (List (List (Int × (Int × Int))))))} {a1 : Int} {a2 : Int} {r : ((List Bool) × Int)} (h : whole_Ask fuel a0 a1 a2 = some r) : FnC Try.prog 28 [aD tM a0, aI a1, aI a2] [] (.tup [.dat (.slice .bool) r.1, .dat tI r.2]) [] := by
 refine fnC_of_W (B := bodyOf Try.f28) (n := 44) Try.func28 (by kernel_rfl) (by kernel_rfl) (by kernel_rfl) (by kernel_rfl) (by kernel_rfl) ?_
 intro K
 refine sr [(1, aI a1), (2, aI a2), (3, .one (.ptr 3 0))] [(3, .one tM a0)] (by kernel_rfl) ?_
 refine W_seq (by kernel_rfl) ?_
 refine W_region (by kernel_rfl) ?_
 refine woL 3 [(1, aI a1), (14, aD tM a0), (15, aI a1), (16, aI a2)] (by kernel_rfl) ?_
 obtain ⟨r1, h2, h⟩ := bind_of h
 refine WO_call0 (us := [none, none, none]) (d := 17) (p := True) (j := 4) rfl ⟨by kernel_rfl, by kernel_rfl, by kernel_rfl⟩ trivial (unroll_Build_ok h2) (by kernel_rfl) ?_
 refine wo 9 [(1, aI a1), (8, aD (.slice t3) r1.1), (9, aI r1.2)] [(3, .one tM a0)] (by kernel_rfl) ?_
 refine wf [(1, aI a1), (8, aD (.slice t3) r1.1), (9, aI r1.2)] [] (by kernel_rfl) ?_
 refine seqQ_norm ?_
 refine W_seq (by kernel_rfl) ?_
 refine srL [(1, aI a1), (8, aD (.slice t3) r1.1), (9, aI r1.2), (21, aB (r1.2 != (0 : Int)))] (by kernel_rfl) ?_
 refine W_cond (o := .tmp 21) (b := r1.2 != (0 : Int)) (by kernel_rfl) (by kernel_rfl) (fun h3 => ?_) (fun h3 => ?_)
 ·replace h := ofT h3 h
  refine srL [(6, .one (.nilS)), (7, aI r1.2)] (by kernel_rfl) ?_
  obtain rfl := Option.some.inj h
  refine W_cnv 6 (.slice .bool) (by kernel_rfl) ?_
  refine wt [(6, aD (.slice .bool) []), (7, aI r1.2)] [] (by kernel_rfl) ?_
  refine seqQ_ret ?_
  exact retM (by kernel_rfl)
 ·replace h := ofF h3 h
  refine wkL [(1, aI a1), (8, aD (.slice t3) r1.1)] (by kernel_rfl) ?_
  refine seqQ_norm ?_
  refine srL [(1, aI a1), (8, aD (.slice t3) r1.1), (10, .one (.nilS))] (by kernel_rfl) ?_
  refine W_seq (by kernel_rfl) ?_
  refine W_seq (by kernel_rfl) ?_
  obtain ⟨_, h4, h⟩ := bind_of h
  replace h4 := ck_some h4
  refine W_run 3 [] [1, 8, 10, 24, 25] [] (fr' := [(1, aI a1), (8, aD (.slice t3) r1.1), (10, .one (.nilS)), (24, aI (bShl .i64 (1 : Int) a1)), (25, aI (0 : Int))]) (L' := []) (obs := [(0 ≤ a1)]) (by kernel_rfl) (by kernel_rfl) (by kernel_rfl) (allP1 h4) ?_
  refine seqQ_norm ?_
  refine W_block (id := 0) (by kernel_rfl) ?_
  obtain ⟨v34, h35, h⟩ := bind_of h
  obtain ⟨h36, h37⟩ := forI_iter h35
  refine W_mine 10 41 .bool (by kernel_rfl) ?_
  refine W_weaken [1, 8, 10, 24, 25] [41] (fr' := ((whole_Ask_s2 a1 r1) ((0 : Int), [])).1) (L' := ((whole_Ask_s2 a1 r1) ((0 : Int), [])).2) (by kernel_rfl) ?_
  refine W_cutK (W_loop (S := (whole_Ask_s2 a1 r1)) (J := (exQ (.exit 0) whole_Ask_s3)) (by kernel_rfl) ?_ h36 _ v34 h37) ?_
  ·rintro ⟨i22, x23⟩ s h
   refine sr [(1, aI a1), (8, aD (.slice t3) r1.1), (10, .one (.slc 41)), (24, aI (bShl .i64 (1 : Int) a1)), (25, aI i22), (26, aB (decide (i22 < (bShl .i64 (1 : Int) a1))))] [(41, .seq .bool x23)] (by kernel_rfl) ?_
   refine W_seq (by kernel_rfl) ?_
   refine W_cond (o := .tmp 26) (b := decide (i22 < (bShl .i64 (1 : Int) a1))) (by kernel_rfl) (by kernel_rfl) (fun h25 => ?_) (fun h25 => ?_)
   ·replace h := stepI_true h25 h
    obtain ⟨_, h, rfl⟩ := h
    refine wkL [(1, aI a1), (8, aD (.slice t3) r1.1), (10, .one (.slc 41)), (24, aI (bShl .i64 (1 : Int) a1)), (25, aI i22)] (by kernel_rfl) ?_
    refine seqQ_norm ?_
    refine W_seq (by kernel_rfl) ?_
    refine W_block (id := 1) (by kernel_rfl) ?_
    refine srL [(1, aI a1), (8, aD (.slice t3) r1.1), (10, .one (.slc 41)), (11, aI i22), (24, aI (bShl .i64 (1 : Int) a1)), (25, aI i22)] (by kernel_rfl) ?_
    refine W_seq (by kernel_rfl) ?_
    refine W_region (by kernel_rfl) ?_
    refine woL 3 [(1, aI a1), (8, aD (.slice t3) r1.1), (10, .one (.slc 41)), (24, aI (bShl .i64 (1 : Int) a1)), (25, aI i22), (28, aD (.slice t3) r1.1), (29, aI a1), (30, aI i22)] (by kernel_rfl) ?_
    obtain ⟨r26, h27, h⟩ := bind_of h
    refine WO_call0 (us := [none, none]) (d := 31) (p := True) (j := 4) rfl ⟨by kernel_rfl, by kernel_rfl, by kernel_rfl⟩ trivial (whole_word_ok h27) (by kernel_rfl) ?_
    obtain ⟨r28, h29, h⟩ := bind_of h
    refine WO_call0 (us := [none, none]) (d := 32) (p := True) (j := 5) rfl ⟨by kernel_rfl, by kernel_rfl, by kernel_rfl⟩ trivial (gate_All_ok h29) (by kernel_rfl) ?_
    refine wo 6 [(1, aI a1), (8, aD (.slice t3) r1.1), (10, .one (.slc 41)), (12, aD (.slice .bool) r28), (24, aI (bShl .i64 (1 : Int) a1)), (25, aI i22)] [(41, .seq .bool x23)] (by kernel_rfl) ?_
    refine wfL [(1, aI a1), (8, aD (.slice t3) r1.1), (10, .one (.slc 41)), (12, aD (.slice .bool) r28), (24, aI (bShl .i64 (1 : Int) a1)), (25, aI i22)] (by kernel_rfl) ?_
    refine seqQ_norm ?_
    obtain ⟨v30, h31, h⟩ := bind_of h
    obtain ⟨_, h32, h⟩ := bind_of h
    replace h32 := ck_some h32
    refine W_run 10 [(11, .val (.dat .bool v30))] [1, 8, 10, 24, 25] [41] (fr' := [(1, aI a1), (8, aD (.slice t3) r1.1), (10, .one (.slc 41)), (24, aI (bShl .i64 (1 : Int) a1)), (25, aI i22)]) (L' := [(41, .seq .bool (x23 ++ [v30]))]) (obs := [Idx r28 (w64 ((List.length r28 : Int) - (1 : Int))) v30, SmallLen (List.length x23 + List.length [v30])]) (by kernel_rfl) (by kernel_rfl) (by kernel_rfl) (allP2 (Idx.of h31) (allP1 h32)) ?_
    refine blockQ_norm ?_
    refine seqQ_norm ?_
    obtain rfl := Option.some.inj h
    refine swL [(1, aI a1), (8, aD (.slice t3) r1.1), (10, .one (.slc 41)), (24, aI (bShl .i64 (1 : Int) a1)), (25, aI (w64 (i22 + (1 : Int))))] (by kernel_rfl) ?_
    exact round_next' (by kernel_rfl) (by kernel_rfl)
   ·obtain rfl := stepI_false h25 h
    refine wxL 0 [(10, .one (.slc 41))] (by kernel_rfl) ?_
    refine seqQ_exit ?_
    refine round_exit ?_
    exact exM (by kernel_rfl)
  ·intro e fr L hJ
   obtain ⟨rfl, rfl, rfl⟩ := hJ
   refine ltk [(10, .one (.slc 41))] [(41, .seq .bool v34)] (by kernel_rfl) ?_
   refine blockQ_hit ?_
   refine seqQ_norm ?_
   refine sr [(6, .one (.slc 41)), (7, aI (0 : Int))] [(41, .seq .bool v34)] (by kernel_rfl) ?_
   obtain rfl := Option.some.inj h
   refine W_frz 41 (by kernel_rfl) ?_
   refine wt [(6, aD (.slice .bool) v34), (7, aI (0 : Int))] [] (by kernel_rfl) ?_
   exact retM (by kernel_rfl)

def whole_Some_b1 (a1 : Int) (i18 : Int) (v21 : Bool) (x19 : Unit) : Option (Flow Unit (Esc (Bool × (List Bool) × Int) Unit)) :=
bif v21 then
((whole_word a1 i18).bind fun r25 =>
some (.done (.ret (true, r25, (0 : Int)))))
else
(some (.next ()))
@[reducible] def whole_Some_s2 (a1 : Int) (r1 : ((List Bool) × Int)) (v : Int × Unit) : Fr × LL := ([(1, aI a1), (23, aD (.slice .bool) r1.1), (24, aI (List.length r1.1 : Int)), (25, aI v.1)], [])
@[reducible] def whole_Some_s3 (v : (Bool × (List Bool) × Int)) : Fr × LL := ([(6, aB v.1), (7, aD (.slice .bool) v.2.1), (8, aI v.2.2)], [])
@[reducible] def whole_Some_s4 (v : Unit) : Fr × LL := ([], [])
def whole_Some (fuel : Nat) (a0 : (Int × (Int × (List (List (Int × (Int × Int))))))) (a1 : Int) (a2 : Int) : Option (Bool × (List Bool) × Int) :=
(whole_Ask fuel a0 a1 a2).bind fun r1 =>
bif r1.2 != (0 : Int) then
(some (false, [], r1.2))
else
((forL (whole_Some_b1 a1) (fun x19 => (.brk ())) r1.1 0 ()).bind fun v28 =>
match v28 with
| .ret v33 =>
(some (v33.1, v33.2.1, v33.2.2))
| .brk v34 =>
(some (false, [], (0 : Int))))
theorem whole_Some_ok {fuel : Nat} {a0 : (Int × (Int × (List (List (Int × (Int × Int))))))} {a1 : Int} {a2 : Int} {r : (Bool × (List Bool) × Int)} (h : whole_Some fuel a0 a1 a2 = some r) : FnC Try.prog 29 [aD tM a0, aI a1, aI a2] [] (.tup [.dat .bool r.1, .dat (.slice .bool) r.2.1, .dat tI r.2.2]) [] := by
 refine fnC_of_W (B := bodyOf Try.f29) (n := 35) Try.func29 (by kernel_rfl) (by kernel_rfl) (by kernel_rfl) (by kernel_rfl) (by kernel_rfl) ?_
 intro K
 refine sr [(1, aI a1), (2, aI a2), (3, .one (.ptr 3 0))] [(3, .one tM a0)] (by kernel_rfl) ?_
 refine W_seq (by kernel_rfl) ?_
 refine W_region (by kernel_rfl) ?_
 refine woL 3 [(1, aI a1), (14, aD tM a0), (15, aI a1), (16, aI a2)] (by kernel_rfl) ?_
 obtain ⟨r1, h2, h⟩ := bind_of h
 refine WO_call0 (us := [none, none, none]) (d := 17) (p := True) (j := 4) rfl ⟨by kernel_rfl, by kernel_rfl, by kernel_rfl⟩ trivial (whole_Ask_ok h2) (by kernel_rfl) ?_
 refine wo 9 [(1, aI a1), (9, aD (.slice .bool) r1.1), (10, aI r1.2)] [(3, .one tM a0)] (by kernel_rfl) ?_
 refine wf [(1, aI a1), (9, aD (.slice .bool) r1.1), (10, aI r1.2)] [] (by kernel_rfl) ?_
 refine seqQ_norm ?_
 refine W_seq (by kernel_rfl) ?_
 refine srL [(1, aI a1), (9, aD (.slice .bool) r1.1), (10, aI r1.2), (21, aB (r1.2 != (0 : Int)))] (by kernel_rfl) ?_
 refine W_cond (o := .tmp 21) (b := r1.2 != (0 : Int)) (by kernel_rfl) (by kernel_rfl) (fun h3 => ?_) (fun h3 => ?_)
 ·replace h := ofT h3 h
  refine srL [(6, aB false), (7, .one (.nilS)), (8, aI r1.2)] (by kernel_rfl) ?_
  obtain rfl := Option.some.inj h
  refine W_cnv 7 (.slice .bool) (by kernel_rfl) ?_
  refine wt [(6, aB false), (7, aD (.slice .bool) []), (8, aI r1.2)] [] (by kernel_rfl) ?_
  refine seqQ_ret ?_
  exact retM (by kernel_rfl)
 ·replace h := ofF h3 h
  refine wkL [(1, aI a1), (9, aD (.slice .bool) r1.1)] (by kernel_rfl) ?_
  refine seqQ_norm ?_
  refine W_seq (by kernel_rfl) ?_
  refine srL [(1, aI a1), (23, aD (.slice .bool) r1.1), (24, aI (List.length r1.1 : Int)), (25, aI (0 : Int))] (by kernel_rfl) ?_
  refine W_block (id := 0) (by kernel_rfl) ?_
  obtain ⟨v28, h29, h⟩ := bind_of h
  refine W_len (t := 23) (u := .bool) (xs := r1.1) (by kernel_rfl) (fun h32 => ?_)
  obtain ⟨h30, h31⟩ := forL_iter h32 h29
  refine W_weaken [1, 23, 24, 25] [] (fr' := ((whole_Some_s2 a1 r1) ((0 : Int), ())).1) (L' := ((whole_Some_s2 a1 r1) ((0 : Int), ())).2) (by kernel_rfl) ?_
  refine W_cutK (W_loop (S := (whole_Some_s2 a1 r1)) (J := (escQ (exQ .ret whole_Some_s3) (exQ (.exit 0) whole_Some_s4))) (by kernel_rfl) ?_ h30 _ v28 h31) ?_
  ·rintro ⟨i18, x19⟩ s h
   refine sr [(1, aI a1), (23, aD (.slice .bool) r1.1), (24, aI (List.length r1.1 : Int)), (25, aI i18), (26, aB (decide (i18 < (List.length r1.1 : Int))))] [] (by kernel_rfl) ?_
   refine W_seq (by kernel_rfl) ?_
   refine W_cond (o := .tmp 26) (b := decide (i18 < (List.length r1.1 : Int))) (by kernel_rfl) (by kernel_rfl) (fun h23 => ?_) (fun h23 => ?_)
   ·replace h := stepL_true h23 h
    obtain ⟨v21, _, h22, h, rfl⟩ := h
    refine wkL [(1, aI a1), (23, aD (.slice .bool) r1.1), (24, aI (List.length r1.1 : Int)), (25, aI i18)] (by kernel_rfl) ?_
    refine seqQ_norm ?_
    refine W_seq (by kernel_rfl) ?_
    refine W_block (id := 1) (by kernel_rfl) ?_
    refine sro [(3, .val (.dat .bool v21))] [(1, aI a1), (11, aI i18), (12, aB v21), (23, aD (.slice .bool) r1.1), (24, aI (List.length r1.1 : Int)), (25, aI i18)] [] [Idx r1.1 i18 v21] (by kernel_rfl) (allP1 (Idx.of h22)) ?_
    refine srL [(1, aI a1), (11, aI i18), (23, aD (.slice .bool) r1.1), (24, aI (List.length r1.1 : Int)), (25, aI i18), (30, aB v21)] (by kernel_rfl) ?_
    refine W_cond (o := .tmp 30) (b := v21) (by kernel_rfl) (by kernel_rfl) (fun h24 => ?_) (fun h24 => ?_)
    ·replace h := ofT h24 h
     refine W_seq (by kernel_rfl) ?_
     refine W_region (by kernel_rfl) ?_
     refine woL 2 [(31, aI a1), (32, aI i18)] (by kernel_rfl) ?_
     obtain ⟨r25, h26, h⟩ := bind_of h
     refine WO_call0 (us := [none, none]) (d := 33) (p := True) (j := 3) rfl ⟨by kernel_rfl, by kernel_rfl, by kernel_rfl⟩ trivial (whole_word_ok h26) (by kernel_rfl) ?_
     refine wo 6 [(6, aB true), (7, aD (.slice .bool) r25), (8, aI (0 : Int))] [] (by kernel_rfl) ?_
     refine wfL [(6, aB true), (7, aD (.slice .bool) r25), (8, aI (0 : Int))] (by kernel_rfl) ?_
     refine seqQ_norm ?_
     obtain rfl := Option.some.inj h
     refine wtL [(6, aB true), (7, aD (.slice .bool) r25), (8, aI (0 : Int))] (by kernel_rfl) ?_
     refine blockQ_ret ?_
     refine seqQ_ret ?_
     refine round_ret ?_
     refine escQ_ret ?_
     exact exM (by kernel_rfl)
    ·replace h := ofF h24 h
     refine wkL [(1, aI a1), (23, aD (.slice .bool) r1.1), (24, aI (List.length r1.1 : Int)), (25, aI i18)] (by kernel_rfl) ?_
     refine blockQ_norm ?_
     refine seqQ_norm ?_
     obtain rfl := Option.some.inj h
     refine swL [(1, aI a1), (23, aD (.slice .bool) r1.1), (24, aI (List.length r1.1 : Int)), (25, aI (w64 (i18 + (1 : Int))))] (by kernel_rfl) ?_
     exact round_next' (by kernel_rfl) (by kernel_rfl)
   ·obtain rfl := stepL_false h23 h
    refine wxL 0 [] (by kernel_rfl) ?_
    refine seqQ_exit ?_
    refine round_exit ?_
    refine escQ_brk ?_
    exact exM (by kernel_rfl)
  ·intro e fr L hJ
   rcases v28 with v33 | v34
   ·obtain ⟨rfl, rfl, rfl⟩ := hJ
    obtain rfl := Option.some.inj h
    refine ltk [(6, aB v33.1), (7, aD (.slice .bool) v33.2.1), (8, aI v33.2.2)] [] (by kernel_rfl) ?_
    refine blockQ_ret ?_
    refine seqQ_ret ?_
    exact retM (by kernel_rfl)
   ·obtain ⟨rfl, rfl, rfl⟩ := hJ
    refine ltk [] [] (by kernel_rfl) ?_
    refine blockQ_hit ?_
    refine seqQ_norm ?_
    refine sr [(6, aB false), (7, .one (.nilS)), (8, aI (0 : Int))] [] (by kernel_rfl) ?_
    obtain rfl := Option.some.inj h
    refine W_cnv 7 (.slice .bool) (by kernel_rfl) ?_
    refine wt [(6, aB false), (7, aD (.slice .bool) []), (8, aI (0 : Int))] [] (by kernel_rfl) ?_
    exact retM (by kernel_rfl)

def ref_Within (a0 : Int) (a1 : Int) (a2 : Int) : Option Bool :=
some ((decide (a0 ≤ a1)) && (decide (a1 ≤ a2)))
theorem ref_Within_ok {a0 : Int} {a1 : Int} {a2 : Int} {r : Bool} (h : ref_Within a0 a1 a2 = some r) : FnC Try.prog 16 [aI a0, aI a1, aI a2] [] (aB r) [] := by
 refine fnC_of_W (B := bodyOf Try.f16) (n := 15) Try.func16 (by kernel_rfl) (by kernel_rfl) (by kernel_rfl) (by kernel_rfl) (by kernel_rfl) ?_
 intro K
 refine sr [(0, aI a0), (1, aI a1), (2, aI a2)] [] (by kernel_rfl) ?_
 refine srL [(6, aB ((decide (a0 ≤ a1)) && (decide (a1 ≤ a2))))] (by kernel_rfl) ?_
 obtain rfl := Option.some.inj h
 refine wtL [(6, aB ((decide (a0 ≤ a1)) && (decide (a1 ≤ a2))))] (by kernel_rfl) ?_
 exact retM (by kernel_rfl)

def ref_Inside_b1 (a0 : Int) (i11 : Int) (v14 : Int) (x12 : Unit) : Option (Flow Unit (Esc Bool Unit)) :=
bif (decide (v14 < (0 : Int))) || (decide (v14 ≥ a0)) then
(some (.done (.ret false)))
else
(some (.next ()))
@[reducible] def ref_Inside_s2 (a0 : Int) (a1 : (List Int)) (v : Int × Unit) : Fr × LL := ([(0, aI a0), (7, aD (.slice tI) a1), (8, aI (List.length a1 : Int)), (9, aI v.1)], [])
@[reducible] def ref_Inside_s3 (v : Bool) : Fr × LL := ([(4, aB v)], [])
@[reducible] def ref_Inside_s4 (v : Unit) : Fr × LL := ([], [])
def ref_Inside (a0 : Int) (a1 : (List Int)) : Option Bool :=
(forL (ref_Inside_b1 a0) (fun x12 => (.brk ())) a1 0 ()).bind fun v19 =>
match v19 with
| .ret v24 =>
(some v24)
| .brk v25 =>
(some true)
theorem ref_Inside_ok {a0 : Int} {a1 : (List Int)} {r : Bool} (h : ref_Inside a0 a1 = some r) : FnC Try.prog 51 [aI a0, aD (.slice tI) a1] [] (aB r) [] := by
 refine fnC_of_W (B := bodyOf Try.f51) (n := 21) Try.func51 (by kernel_rfl) (by kernel_rfl) (by kernel_rfl) (by kernel_rfl) (by kernel_rfl) ?_
 intro K
 refine sr [(0, aI a0), (1, aD (.slice tI) a1)] [] (by kernel_rfl) ?_
 refine W_seq (by kernel_rfl) ?_
 refine srL [(0, aI a0), (7, aD (.slice tI) a1), (8, aI (List.length a1 : Int)), (9, aI (0 : Int))] (by kernel_rfl) ?_
 refine W_block (id := 0) (by kernel_rfl) ?_
 obtain ⟨v19, h20, h⟩ := bind_of h
 refine W_len (t := 7) (u := tI) (xs := a1) (by kernel_rfl) (fun h23 => ?_)
 obtain ⟨h21, h22⟩ := forL_iter h23 h20
 refine W_weaken [0, 7, 8, 9] [] (fr' := ((ref_Inside_s2 a0 a1) ((0 : Int), ())).1) (L' := ((ref_Inside_s2 a0 a1) ((0 : Int), ())).2) (by kernel_rfl) ?_
 refine W_cutK (W_loop (S := (ref_Inside_s2 a0 a1)) (J := (escQ (exQ .ret ref_Inside_s3) (exQ (.exit 0) ref_Inside_s4))) (by kernel_rfl) ?_ h21 _ v19 h22) ?_
 ·rintro ⟨i11, x12⟩ s h
  refine sr [(0, aI a0), (7, aD (.slice tI) a1), (8, aI (List.length a1 : Int)), (9, aI i11), (10, aB (decide (i11 < (List.length a1 : Int))))] [] (by kernel_rfl) ?_
  refine W_seq (by kernel_rfl) ?_
  refine W_cond (o := .tmp 10) (b := decide (i11 < (List.length a1 : Int))) (by kernel_rfl) (by kernel_rfl) (fun h16 => ?_) (fun h16 => ?_)
  ·replace h := stepL_true h16 h
   obtain ⟨v14, _, h15, h, rfl⟩ := h
   refine wkL [(0, aI a0), (7, aD (.slice tI) a1), (8, aI (List.length a1 : Int)), (9, aI i11)] (by kernel_rfl) ?_
   refine seqQ_norm ?_
   refine W_seq (by kernel_rfl) ?_
   refine W_block (id := 1) (by kernel_rfl) ?_
   refine sro [(1, .val (.dat tI v14))] [(0, aI a0), (6, aI v14), (7, aD (.slice tI) a1), (8, aI (List.length a1 : Int)), (9, aI i11)] [] [Idx a1 i11 v14] (by kernel_rfl) (allP1 (Idx.of h15)) ?_
   refine srL [(0, aI a0), (7, aD (.slice tI) a1), (8, aI (List.length a1 : Int)), (9, aI i11), (19, aB ((decide (v14 < (0 : Int))) || (decide (v14 ≥ a0))))] (by kernel_rfl) ?_
   refine W_cond (o := .tmp 19) (b := (decide (v14 < (0 : Int))) || (decide (v14 ≥ a0))) (by kernel_rfl) (by kernel_rfl) (fun h17 => ?_) (fun h17 => ?_)
   ·replace h := ofT h17 h
    refine srL [(4, aB false)] (by kernel_rfl) ?_
    obtain rfl := Option.some.inj h
    refine wtL [(4, aB false)] (by kernel_rfl) ?_
    refine blockQ_ret ?_
    refine seqQ_ret ?_
    refine round_ret ?_
    refine escQ_ret ?_
    exact exM (by kernel_rfl)
   ·replace h := ofF h17 h
    refine wkL [(0, aI a0), (7, aD (.slice tI) a1), (8, aI (List.length a1 : Int)), (9, aI i11)] (by kernel_rfl) ?_
    refine blockQ_norm ?_
    refine seqQ_norm ?_
    obtain rfl := Option.some.inj h
    refine swL [(0, aI a0), (7, aD (.slice tI) a1), (8, aI (List.length a1 : Int)), (9, aI (w64 (i11 + (1 : Int))))] (by kernel_rfl) ?_
    exact round_next' (by kernel_rfl) (by kernel_rfl)
  ·obtain rfl := stepL_false h16 h
   refine wxL 0 [] (by kernel_rfl) ?_
   refine seqQ_exit ?_
   refine round_exit ?_
   refine escQ_brk ?_
   exact exM (by kernel_rfl)
 ·intro e fr L hJ
  rcases v19 with v24 | v25
  ·obtain ⟨rfl, rfl, rfl⟩ := hJ
   obtain rfl := Option.some.inj h
   refine ltk [(4, aB v24)] [] (by kernel_rfl) ?_
   refine blockQ_ret ?_
   refine seqQ_ret ?_
   exact retM (by kernel_rfl)
  ·obtain ⟨rfl, rfl, rfl⟩ := hJ
   refine ltk [] [] (by kernel_rfl) ?_
   refine blockQ_hit ?_
   refine seqQ_norm ?_
   refine sr [(4, aB true)] [] (by kernel_rfl) ?_
   obtain rfl := Option.some.inj h
   refine wtL [(4, aB true)] (by kernel_rfl) ?_
   exact retM (by kernel_rfl)

def ref_MachineCheck_b1 (a0 : (Int × (Int × (List (List (Int × (Int × Int))))))) (i30 : Int) (v33 : (List (Int × (Int × Int)))) (x31 : Unit) : Option (Flow Unit (Esc Int Unit)) :=
bif (List.length v33 : Int) != a0.2.1 then
(some (.done (.ret (3 : Int))))
else
(some (.next ()))
@[reducible] def ref_MachineCheck_s2 (a0 : (Int × (Int × (List (List (Int × (Int × Int))))))) (v : Int × Unit) : Fr × LL := ([(1, .one (.ptr 1 0)), (26, aD (.slice (.slice t3)) a0.2.2), (27, aI (List.length a0.2.2 : Int)), (28, aI v.1)], [(1, .one tM a0)])
@[reducible] def ref_MachineCheck_s3 (v : Int) : Fr × LL := ([(2, aI v)], [])
@[reducible] def ref_MachineCheck_s4 (a0 : (Int × (Int × (List (List (Int × (Int × Int))))))) (v : Unit) : Fr × LL := ([(1, .one (.ptr 1 0))], [(1, .one tM a0)])
def ref_MachineCheck_b11 (a0 : (Int × (Int × (List (List (Int × (Int × Int))))))) (i183 : Int) (v186 : (Int × (Int × Int))) (x184 : Unit) : Option (Flow Unit (Esc Int Unit)) :=
(ref_Inside a0.2.1 [v186.1]).bind fun r189 =>
bif !r189 then
(some (.done (.ret (2 : Int))))
else
((ref_Within (-1 : Int) v186.2.1 (1 : Int)).bind fun r192 =>
bif !r192 then
(some (.done (.ret (4 : Int))))
else
((ref_Inside (w64 (a0.1 + (1 : Int))) [v186.2.2]).bind fun r195 =>
bif !r195 then
(some (.done (.ret (2 : Int))))
else
(some (.next ()))))
@[reducible] def ref_MachineCheck_s12 (a0 : (Int × (Int × (List (List (Int × (Int × Int))))))) (i151 : Int) (v154 : (List (Int × (Int × Int)))) (v : Int × Unit) : Fr × LL := ([(1, .one (.ptr 1 0)), (39, aD (.slice (.slice t3)) a0.2.2), (40, aI (List.length a0.2.2 : Int)), (41, aI i151), (45, aD (.slice t3) v154), (46, aI (List.length v154 : Int)), (47, aI v.1)], [(1, .one tM a0)])
@[reducible] def ref_MachineCheck_s13 (v : Int) : Fr × LL := ([(2, aI v)], [])
@[reducible] def ref_MachineCheck_s14 (a0 : (Int × (Int × (List (List (Int × (Int × Int))))))) (i151 : Int) (v : Unit) : Fr × LL := ([(1, .one (.ptr 1 0)), (39, aD (.slice (.slice t3)) a0.2.2), (40, aI (List.length a0.2.2 : Int)), (41, aI i151)], [(1, .one tM a0)])
def ref_MachineCheck_b15 (a0 : (Int × (Int × (List (List (Int × (Int × Int))))))) (i151 : Int) (v154 : (List (Int × (Int × Int)))) (x152 : Unit) : Option (Flow Unit (Esc Int Unit)) :=
(forL (ref_MachineCheck_b11 a0) (fun x184 => (.brk ())) v154 0 ()).bind fun v199 =>
match v199 with
| .ret v204 =>
(some (.done (.ret v204)))
| .brk v205 =>
(some (.next ()))
@[reducible] def ref_MachineCheck_s16 (a0 : (Int × (Int × (List (List (Int × (Int × Int))))))) (v : Int × Unit) : Fr × LL := ([(1, .one (.ptr 1 0)), (39, aD (.slice (.slice t3)) a0.2.2), (40, aI (List.length a0.2.2 : Int)), (41, aI v.1)], [(1, .one tM a0)])
@[reducible] def ref_MachineCheck_s17 (v : Int) : Fr × LL := ([(2, aI v)], [])
@[reducible] def ref_MachineCheck_s18 (v : Unit) : Fr × LL := ([], [])
@[reducible] def ref_MachineCheck_s19 (a0 : (Int × (Int × (List (List (Int × (Int × Int))))))) (v : Bool) : Fr × LL := ([(1, .one (.ptr 1 0)), (18, aB v)], [(1, .one tM a0)])
def ref_MachineCheck (a0 : (Int × (Int × (List (List (Int × (Int × Int))))))) : Option Int :=
((ref_Within (1 : Int) a0.1 (5 : Int)).bind fun r11 =>
bif !r11 then
(some true)
else
((ref_Within (2 : Int) a0.2.1 (4 : Int)).bind fun r14 =>
some (!r14))).bind fun v16 =>
bif v16 then
(some (1 : Int))
else
(bif (List.length a0.2.2 : Int) != a0.1 then
(some (3 : Int))
else
((forL (ref_MachineCheck_b1 a0) (fun x31 => (.brk ())) a0.2.2 0 ()).bind fun v38 =>
match v38 with
| .ret v43 =>
(some v43)
| .brk v44 =>
((forL (ref_MachineCheck_b15 a0) (fun x152 => (.brk ())) a0.2.2 0 ()).bind fun v207 =>
match v207 with
| .ret v212 =>
(some v212)
| .brk v213 =>
(some (0 : Int)))))
theorem ref_MachineCheck_ok {a0 : (Int × (Int × (List (List (Int × (Int × Int))))))} {r : Int} (h : ref_MachineCheck a0 = some r) : FnC Try.prog 18 [aD tM a0] [] (aI r) [] := by
 refine fnC_of_W (B := bodyOf Try.f18) (n := 72) Try.func18 (by kernel_rfl) (by kernel_rfl) (by kernel_rfl) (by kernel_rfl) (by kernel_rfl) ?_
 intro K
 refine sr [(1, .one (.ptr 1 0))] [(1, .one tM a0)] (by kernel_rfl) ?_
 refine W_seq (by kernel_rfl) ?_
 refine W_seq (by kernel_rfl) ?_
 obtain ⟨v16, h17, h⟩ := bind_of h
 refine W_cutK (Q' := (exQ .normal (ref_MachineCheck_s19 a0)) v16) ?_ ?_
 ·replace h := h17
  refine W_region (by kernel_rfl) ?_
  refine wo 2 [(1, .one (.ptr 1 0)), (10, aI a0.1)] [(1, .one tM a0)] (by kernel_rfl) ?_
  obtain ⟨r11, h12, h⟩ := bind_of h
  refine WO_call0 (us := [none, none, none]) (d := 11) (p := True) (j := 3) rfl ⟨by kernel_rfl, by kernel_rfl, by kernel_rfl⟩ trivial (ref_Within_ok h12) (by kernel_rfl) ?_
  refine wo 5 [(1, .one (.ptr 1 0)), (13, aB (!r11))] [(1, .one tM a0)] (by kernel_rfl) ?_
  rcases Bool.eq_false_or_eq_true (!r11) with h13 | h13
  ·replace h := ofT h13 h
   refine woo 10 [(10, .known true), (12, .known true), (14, .known true), (16, .known true), (19, .val (.dat .bool true))] [(1, .one (.ptr 1 0)), (18, aB true)] [(1, .one tM a0)] [((!r11) = true), ((!r11) = true), ((!r11) = true), ((!r11) = true), ((!r11) = true)] (by kernel_rfl) (allP2 h13 (allP2 h13 (allP2 h13 (allP2 h13 (allP1 h13))))) ?_
   obtain rfl := Option.some.inj h
   refine wfL [(1, .one (.ptr 1 0)), (18, aB true)] (by kernel_rfl) ?_
   exact exM (by kernel_rfl)
  ·replace h := ofF h13 h
   refine woo 7 [(10, .known false), (12, .known false)] [(1, .one (.ptr 1 0)), (13, aB (!r11)), (15, aI a0.2.1)] [(1, .one tM a0)] [((!r11) = false), ((!r11) = false)] (by kernel_rfl) (allP2 h13 (allP1 h13)) ?_
   obtain ⟨r14, h15, h⟩ := bind_of h
   refine WO_call0 (us := [none, none, none]) (d := 16) (p := ((!r11) = false)) (j := 8) rfl ⟨by kernel_rfl, by kernel_rfl, by kernel_rfl⟩ h13 (ref_Within_ok h15) (by kernel_rfl) ?_
   refine woo 10 [(16, .known false), (19, .val (.dat .bool false))] [(1, .one (.ptr 1 0)), (18, aB (!r14))] [(1, .one tM a0)] [((!r11) = false), ((!r11) = false)] (by kernel_rfl) (allP2 h13 (allP1 h13)) ?_
   obtain rfl := Option.some.inj h
   refine wfL [(1, .one (.ptr 1 0)), (18, aB (!r14))] (by kernel_rfl) ?_
   exact exM (by kernel_rfl)
 ·intro e fr L hJ
  obtain ⟨rfl, rfl, rfl⟩ := hJ
  refine ltk [(1, .one (.ptr 1 0)), (18, aB v16)] [(1, .one tM a0)] (by kernel_rfl) ?_
  refine seqQ_norm ?_
  refine W_cond (o := .tmp 18) (b := v16) (by kernel_rfl) (by kernel_rfl) (fun h18 => ?_) (fun h18 => ?_)
  ·replace h := ofT h18 h
   refine sr [(2, aI (1 : Int))] [] (by kernel_rfl) ?_
   obtain rfl := Option.some.inj h
   refine wtL [(2, aI (1 : Int))] (by kernel_rfl) ?_
   refine seqQ_ret ?_
   exact retM (by kernel_rfl)
  ·replace h := ofF h18 h
   refine wkL [(1, .one (.ptr 1 0))] (by kernel_rfl) ?_
   refine seqQ_norm ?_
   refine W_seq (by kernel_rfl) ?_
   refine srL [(1, .one (.ptr 1 0)), (24, aB ((List.length a0.2.2 : Int) != a0.1))] (by kernel_rfl) ?_
   refine W_cond (o := .tmp 24) (b := (List.length a0.2.2 : Int) != a0.1) (by kernel_rfl) (by kernel_rfl) (fun h19 => ?_) (fun h19 => ?_)
   ·replace h := ofT h19 h
    refine sr [(2, aI (3 : Int))] [] (by kernel_rfl) ?_
    obtain rfl := Option.some.inj h
    refine wtL [(2, aI (3 : Int))] (by kernel_rfl) ?_
    refine seqQ_ret ?_
    exact retM (by kernel_rfl)
   ·replace h := ofF h19 h
    refine wkL [(1, .one (.ptr 1 0))] (by kernel_rfl) ?_
    refine seqQ_norm ?_
    refine W_seq (by kernel_rfl) ?_
    refine srL [(1, .one (.ptr 1 0)), (26, aD (.slice (.slice t3)) a0.2.2), (27, aI (List.length a0.2.2 : Int)), (28, aI (0 : Int))] (by kernel_rfl) ?_
    refine W_block (id := 0) (by kernel_rfl) ?_
    obtain ⟨v38, h39, h⟩ := bind_of h
    refine W_len (t := 26) (u := (.slice t3)) (xs := a0.2.2) (by kernel_rfl) (fun h42 => ?_)
    obtain ⟨h40, h41⟩ := forL_iter h42 h39
    refine W_weaken [1, 26, 27, 28] [1] (fr' := ((ref_MachineCheck_s2 a0) ((0 : Int), ())).1) (L' := ((ref_MachineCheck_s2 a0) ((0 : Int), ())).2) (by kernel_rfl) ?_
    refine W_cutK (W_loop (S := (ref_MachineCheck_s2 a0)) (J := (escQ (exQ .ret ref_MachineCheck_s3) (exQ (.exit 0) (ref_MachineCheck_s4 a0)))) (by kernel_rfl) ?_ h40 _ v38 h41) ?_
    ·rintro ⟨i30, x31⟩ s h
     refine sr [(1, .one (.ptr 1 0)), (26, aD (.slice (.slice t3)) a0.2.2), (27, aI (List.length a0.2.2 : Int)), (28, aI i30), (29, aB (decide (i30 < (List.length a0.2.2 : Int))))] [(1, .one tM a0)] (by kernel_rfl) ?_
     refine W_seq (by kernel_rfl) ?_
     refine W_cond (o := .tmp 29) (b := decide (i30 < (List.length a0.2.2 : Int))) (by kernel_rfl) (by kernel_rfl) (fun h35 => ?_) (fun h35 => ?_)
     ·replace h := stepL_true h35 h
      obtain ⟨v33, _, h34, h, rfl⟩ := h
      refine wkL [(1, .one (.ptr 1 0)), (26, aD (.slice (.slice t3)) a0.2.2), (27, aI (List.length a0.2.2 : Int)), (28, aI i30)] (by kernel_rfl) ?_
      refine seqQ_norm ?_
      refine W_seq (by kernel_rfl) ?_
      refine W_block (id := 1) (by kernel_rfl) ?_
      refine sro [(1, .val (.dat (.slice t3) v33))] [(1, .one (.ptr 1 0)), (4, aD (.slice t3) v33), (26, aD (.slice (.slice t3)) a0.2.2), (27, aI (List.length a0.2.2 : Int)), (28, aI i30)] [(1, .one tM a0)] [Idx a0.2.2 i30 v33] (by kernel_rfl) (allP1 (Idx.of h34)) ?_
      refine srL [(1, .one (.ptr 1 0)), (26, aD (.slice (.slice t3)) a0.2.2), (27, aI (List.length a0.2.2 : Int)), (28, aI i30), (36, aB ((List.length v33 : Int) != a0.2.1))] (by kernel_rfl) ?_
      refine W_cond (o := .tmp 36) (b := (List.length v33 : Int) != a0.2.1) (by kernel_rfl) (by kernel_rfl) (fun h36 => ?_) (fun h36 => ?_)
      ·replace h := ofT h36 h
       refine sr [(2, aI (3 : Int))] [] (by kernel_rfl) ?_
       obtain rfl := Option.some.inj h
       refine wtL [(2, aI (3 : Int))] (by kernel_rfl) ?_
       refine blockQ_ret ?_
       refine seqQ_ret ?_
       refine round_ret ?_
       refine escQ_ret ?_
       exact exM (by kernel_rfl)
      ·replace h := ofF h36 h
       refine wkL [(1, .one (.ptr 1 0)), (26, aD (.slice (.slice t3)) a0.2.2), (27, aI (List.length a0.2.2 : Int)), (28, aI i30)] (by kernel_rfl) ?_
       refine blockQ_norm ?_
       refine seqQ_norm ?_
       obtain rfl := Option.some.inj h
       refine swL [(1, .one (.ptr 1 0)), (26, aD (.slice (.slice t3)) a0.2.2), (27, aI (List.length a0.2.2 : Int)), (28, aI (w64 (i30 + (1 : Int))))] (by kernel_rfl) ?_
       exact round_next' (by kernel_rfl) (by kernel_rfl)
     ·obtain rfl := stepL_false h35 h
      refine wxL 0 [(1, .one (.ptr 1 0))] (by kernel_rfl) ?_
      refine seqQ_exit ?_
      refine round_exit ?_
      refine escQ_brk ?_
      exact exM (by kernel_rfl)
    ·intro e fr L hJ
     rcases v38 with v43 | v44
     ·obtain ⟨rfl, rfl, rfl⟩ := hJ
      obtain rfl := Option.some.inj h
      refine ltk [(2, aI v43)] [] (by kernel_rfl) ?_
      refine blockQ_ret ?_
      refine seqQ_ret ?_
      exact retM (by kernel_rfl)
     ·obtain ⟨rfl, rfl, rfl⟩ := hJ
      refine ltk [(1, .one (.ptr 1 0))] [(1, .one tM a0)] (by kernel_rfl) ?_
      refine blockQ_hit ?_
      refine seqQ_norm ?_
      refine W_seq (by kernel_rfl) ?_
      refine sr [(1, .one (.ptr 1 0)), (39, aD (.slice (.slice t3)) a0.2.2), (40, aI (List.length a0.2.2 : Int)), (41, aI (0 : Int))] [(1, .one tM a0)] (by kernel_rfl) ?_
      refine W_block (id := 2) (by kernel_rfl) ?_
      obtain ⟨v207, h208, h⟩ := bind_of h
      refine W_len (t := 39) (u := (.slice t3)) (xs := a0.2.2) (by kernel_rfl) (fun h211 => ?_)
      obtain ⟨h209, h210⟩ := forL_iter h211 h208
      refine W_weaken [1, 39, 40, 41] [1] (fr' := ((ref_MachineCheck_s16 a0) ((0 : Int), ())).1) (L' := ((ref_MachineCheck_s16 a0) ((0 : Int), ())).2) (by kernel_rfl) ?_
      refine W_cutK (W_loop (S := (ref_MachineCheck_s16 a0)) (J := (escQ (exQ .ret ref_MachineCheck_s17) (exQ (.exit 2) ref_MachineCheck_s18))) (by kernel_rfl) ?_ h209 _ v207 h210) ?_
      ·rintro ⟨i151, x152⟩ s h
       refine sr [(1, .one (.ptr 1 0)), (39, aD (.slice (.slice t3)) a0.2.2), (40, aI (List.length a0.2.2 : Int)), (41, aI i151), (42, aB (decide (i151 < (List.length a0.2.2 : Int))))] [(1, .one tM a0)] (by kernel_rfl) ?_
       refine W_seq (by kernel_rfl) ?_
       refine W_cond (o := .tmp 42) (b := decide (i151 < (List.length a0.2.2 : Int))) (by kernel_rfl) (by kernel_rfl) (fun h156 => ?_) (fun h156 => ?_)
       ·replace h := stepL_true h156 h
        obtain ⟨v154, _, h155, h, rfl⟩ := h
        refine wkL [(1, .one (.ptr 1 0)), (39, aD (.slice (.slice t3)) a0.2.2), (40, aI (List.length a0.2.2 : Int)), (41, aI i151)] (by kernel_rfl) ?_
        refine seqQ_norm ?_
        refine W_seq (by kernel_rfl) ?_
        refine W_block (id := 3) (by kernel_rfl) ?_
        refine sro [(1, .val (.dat (.slice t3) v154))] [(1, .one (.ptr 1 0)), (6, aD (.slice t3) v154), (39, aD (.slice (.slice t3)) a0.2.2), (40, aI (List.length a0.2.2 : Int)), (41, aI i151)] [(1, .one tM a0)] [Idx a0.2.2 i151 v154] (by kernel_rfl) (allP1 (Idx.of h155)) ?_
        refine srL [(1, .one (.ptr 1 0)), (39, aD (.slice (.slice t3)) a0.2.2), (40, aI (List.length a0.2.2 : Int)), (41, aI i151), (45, aD (.slice t3) v154), (46, aI (List.length v154 : Int)), (47, aI (0 : Int))] (by kernel_rfl) ?_
        refine W_block (id := 4) (by kernel_rfl) ?_
        obtain ⟨v199, h200, h⟩ := bind_of h
        refine W_len (t := 45) (u := t3) (xs := v154) (by kernel_rfl) (fun h203 => ?_)
        obtain ⟨h201, h202⟩ := forL_iter h203 h200
        refine W_weaken [1, 39, 40, 41, 45, 46, 47] [1] (fr' := ((ref_MachineCheck_s12 a0 i151 v154) ((0 : Int), ())).1) (L' := ((ref_MachineCheck_s12 a0 i151 v154) ((0 : Int), ())).2) (by kernel_rfl) ?_
        refine W_cutK (W_loop (S := (ref_MachineCheck_s12 a0 i151 v154)) (J := (escQ (exQ .ret ref_MachineCheck_s13) (exQ (.exit 4) (ref_MachineCheck_s14 a0 i151)))) (by kernel_rfl) ?_ h201 _ v199 h202) ?_
        ·rintro ⟨i183, x184⟩ s h
         refine sr [(1, .one (.ptr 1 0)), (39, aD (.slice (.slice t3)) a0.2.2), (40, aI (List.length a0.2.2 : Int)), (41, aI i151), (45, aD (.slice t3) v154), (46, aI (List.length v154 : Int)), (47, aI i183), (48, aB (decide (i183 < (List.length v154 : Int))))] [(1, .one tM a0)] (by kernel_rfl) ?_
         refine W_seq (by kernel_rfl) ?_
         refine W_cond (o := .tmp 48) (b := decide (i183 < (List.length v154 : Int))) (by kernel_rfl) (by kernel_rfl) (fun h188 => ?_) (fun h188 => ?_)
         ·replace h := stepL_true h188 h
          obtain ⟨v186, _, h187, h, rfl⟩ := h
          refine wkL [(1, .one (.ptr 1 0)), (39, aD (.slice (.slice t3)) a0.2.2), (40, aI (List.length a0.2.2 : Int)), (41, aI i151), (45, aD (.slice t3) v154), (46, aI (List.length v154 : Int)), (47, aI i183)] (by kernel_rfl) ?_
          refine seqQ_norm ?_
          refine W_seq (by kernel_rfl) ?_
          refine W_block (id := 5) (by kernel_rfl) ?_
          refine sro [(1, .val (.dat t3 v186)), (5, .typed)] [(1, .one (.ptr 1 0)), (8, .one (.ptr 8 0)), (39, aD (.slice (.slice t3)) a0.2.2), (40, aI (List.length a0.2.2 : Int)), (41, aI i151), (45, aD (.slice t3) v154), (46, aI (List.length v154 : Int)), (47, aI i183)] [(1, .one tM a0), (8, .one t3 v186)] [Idx v154 i183 v186, True] (by kernel_rfl) (allP2 (Idx.of h187) (allP1 trivial)) ?_
          refine W_seq (by kernel_rfl) ?_
          refine W_seq (by kernel_rfl) ?_
          refine W_region (by kernel_rfl) ?_
          refine wo 5 [(1, .one (.ptr 1 0)), (8, .one (.ptr 8 0)), (39, aD (.slice (.slice t3)) a0.2.2), (40, aI (List.length a0.2.2 : Int)), (41, aI i151), (45, aD (.slice t3) v154), (46, aI (List.length v154 : Int)), (47, aI i183), (52, aI a0.2.1), (55, .one (.slc 55))] [(1, .one tM a0), (8, .one t3 v186), (55, .seq tI [v186.1])] (by kernel_rfl) ?_
          obtain ⟨r189, h190, h⟩ := bind_of h
          refine WO_frz 55 (by kernel_rfl) ?_
          refine WO_call0 (us := [none, none]) (d := 56) (p := True) (j := 6) rfl ⟨by kernel_rfl, by kernel_rfl, by kernel_rfl⟩ trivial (ref_Inside_ok h190) (by kernel_rfl) ?_
          refine wo 7 [(1, .one (.ptr 1 0)), (8, .one (.ptr 8 0)), (39, aD (.slice (.slice t3)) a0.2.2), (40, aI (List.length a0.2.2 : Int)), (41, aI i151), (45, aD (.slice t3) v154), (46, aI (List.length v154 : Int)), (47, aI i183), (57, aB (!r189))] [(1, .one tM a0), (8, .one t3 v186)] (by kernel_rfl) ?_
          refine wfL [(1, .one (.ptr 1 0)), (8, .one (.ptr 8 0)), (39, aD (.slice (.slice t3)) a0.2.2), (40, aI (List.length a0.2.2 : Int)), (41, aI i151), (45, aD (.slice t3) v154), (46, aI (List.length v154 : Int)), (47, aI i183), (57, aB (!r189))] (by kernel_rfl) ?_
          refine seqQ_norm ?_
          refine W_cond (o := .tmp 57) (b := !r189) (by kernel_rfl) (by kernel_rfl) (fun h191 => ?_) (fun h191 => ?_)
          ·replace h := ofT h191 h
           refine sr [(2, aI (2 : Int))] [] (by kernel_rfl) ?_
           obtain rfl := Option.some.inj h
           refine wtL [(2, aI (2 : Int))] (by kernel_rfl) ?_
           refine seqQ_ret ?_
           refine blockQ_ret ?_
           refine seqQ_ret ?_
           refine round_ret ?_
           refine escQ_ret ?_
           exact exM (by kernel_rfl)
          ·replace h := ofF h191 h
           refine wkL [(1, .one (.ptr 1 0)), (8, .one (.ptr 8 0)), (39, aD (.slice (.slice t3)) a0.2.2), (40, aI (List.length a0.2.2 : Int)), (41, aI i151), (45, aD (.slice t3) v154), (46, aI (List.length v154 : Int)), (47, aI i183)] (by kernel_rfl) ?_
           refine seqQ_norm ?_
           refine W_seq (by kernel_rfl) ?_
           refine W_seq (by kernel_rfl) ?_
           refine W_region (by kernel_rfl) ?_
           refine woL 2 [(1, .one (.ptr 1 0)), (8, .one (.ptr 8 0)), (39, aD (.slice (.slice t3)) a0.2.2), (40, aI (List.length a0.2.2 : Int)), (41, aI i151), (45, aD (.slice t3) v154), (46, aI (List.length v154 : Int)), (47, aI i183), (59, aI v186.2.1)] (by kernel_rfl) ?_
           obtain ⟨r192, h193, h⟩ := bind_of h
           refine WO_call0 (us := [none, none, none]) (d := 60) (p := True) (j := 3) rfl ⟨by kernel_rfl, by kernel_rfl, by kernel_rfl⟩ trivial (ref_Within_ok h193) (by kernel_rfl) ?_
           refine wo 4 [(1, .one (.ptr 1 0)), (8, .one (.ptr 8 0)), (39, aD (.slice (.slice t3)) a0.2.2), (40, aI (List.length a0.2.2 : Int)), (41, aI i151), (45, aD (.slice t3) v154), (46, aI (List.length v154 : Int)), (47, aI i183), (61, aB (!r192))] [(1, .one tM a0), (8, .one t3 v186)] (by kernel_rfl) ?_
           refine wfL [(1, .one (.ptr 1 0)), (8, .one (.ptr 8 0)), (39, aD (.slice (.slice t3)) a0.2.2), (40, aI (List.length a0.2.2 : Int)), (41, aI i151), (45, aD (.slice t3) v154), (46, aI (List.length v154 : Int)), (47, aI i183), (61, aB (!r192))] (by kernel_rfl) ?_
           refine seqQ_norm ?_
           refine W_cond (o := .tmp 61) (b := !r192) (by kernel_rfl) (by kernel_rfl) (fun h194 => ?_) (fun h194 => ?_)
           ·replace h := ofT h194 h
            refine sr [(2, aI (4 : Int))] [] (by kernel_rfl) ?_
            obtain rfl := Option.some.inj h
            refine wtL [(2, aI (4 : Int))] (by kernel_rfl) ?_
            refine seqQ_ret ?_
            refine blockQ_ret ?_
            refine seqQ_ret ?_
            refine round_ret ?_
            refine escQ_ret ?_
            exact exM (by kernel_rfl)
           ·replace h := ofF h194 h
            refine wkL [(1, .one (.ptr 1 0)), (8, .one (.ptr 8 0)), (39, aD (.slice (.slice t3)) a0.2.2), (40, aI (List.length a0.2.2 : Int)), (41, aI i151), (45, aD (.slice t3) v154), (46, aI (List.length v154 : Int)), (47, aI i183)] (by kernel_rfl) ?_
            refine seqQ_norm ?_
            refine W_seq (by kernel_rfl) ?_
            refine W_region (by kernel_rfl) ?_
            refine wo 6 [(1, .one (.ptr 1 0)), (39, aD (.slice (.slice t3)) a0.2.2), (40, aI (List.length a0.2.2 : Int)), (41, aI i151), (45, aD (.slice t3) v154), (46, aI (List.length v154 : Int)), (47, aI i183), (64, aI (w64 (a0.1 + (1 : Int)))), (67, .one (.slc 67))] [(1, .one tM a0), (8, .one t3 v186), (67, .seq tI [v186.2.2])] (by kernel_rfl) ?_
            obtain ⟨r195, h196, h⟩ := bind_of h
            refine WO_frz 67 (by kernel_rfl) ?_
            refine WO_call0 (us := [none, none]) (d := 68) (p := True) (j := 7) rfl ⟨by kernel_rfl, by kernel_rfl, by kernel_rfl⟩ trivial (ref_Inside_ok h196) (by kernel_rfl) ?_
            refine wo 8 [(1, .one (.ptr 1 0)), (39, aD (.slice (.slice t3)) a0.2.2), (40, aI (List.length a0.2.2 : Int)), (41, aI i151), (45, aD (.slice t3) v154), (46, aI (List.length v154 : Int)), (47, aI i183), (69, aB (!r195))] [(1, .one tM a0), (8, .one t3 v186)] (by kernel_rfl) ?_
            refine wf [(1, .one (.ptr 1 0)), (39, aD (.slice (.slice t3)) a0.2.2), (40, aI (List.length a0.2.2 : Int)), (41, aI i151), (45, aD (.slice t3) v154), (46, aI (List.length v154 : Int)), (47, aI i183), (69, aB (!r195))] [(1, .one tM a0)] (by kernel_rfl) ?_
            refine seqQ_norm ?_
            refine W_cond (o := .tmp 69) (b := !r195) (by kernel_rfl) (by kernel_rfl) (fun h197 => ?_) (fun h197 => ?_)
            ·replace h := ofT h197 h
             refine sr [(2, aI (2 : Int))] [] (by kernel_rfl) ?_
             obtain rfl := Option.some.inj h
             refine wtL [(2, aI (2 : Int))] (by kernel_rfl) ?_
             refine blockQ_ret ?_
             refine seqQ_ret ?_
             refine round_ret ?_
             refine escQ_ret ?_
             exact exM (by kernel_rfl)
            ·replace h := ofF h197 h
             refine wkL [(1, .one (.ptr 1 0)), (39, aD (.slice (.slice t3)) a0.2.2), (40, aI (List.length a0.2.2 : Int)), (41, aI i151), (45, aD (.slice t3) v154), (46, aI (List.length v154 : Int)), (47, aI i183)] (by kernel_rfl) ?_
             refine blockQ_norm ?_
             refine seqQ_norm ?_
             obtain rfl := Option.some.inj h
             refine swL [(1, .one (.ptr 1 0)), (39, aD (.slice (.slice t3)) a0.2.2), (40, aI (List.length a0.2.2 : Int)), (41, aI i151), (45, aD (.slice t3) v154), (46, aI (List.length v154 : Int)), (47, aI (w64 (i183 + (1 : Int))))] (by kernel_rfl) ?_
             exact round_next' (by kernel_rfl) (by kernel_rfl)
         ·obtain rfl := stepL_false h188 h
          refine wxL 4 [(1, .one (.ptr 1 0)), (39, aD (.slice (.slice t3)) a0.2.2), (40, aI (List.length a0.2.2 : Int)), (41, aI i151)] (by kernel_rfl) ?_
          refine seqQ_exit ?_
          refine round_exit ?_
          refine escQ_brk ?_
          exact exM (by kernel_rfl)
        ·intro e fr L hJ
         rcases v199 with v204 | v205
         ·obtain ⟨rfl, rfl, rfl⟩ := hJ
          obtain rfl := Option.some.inj h
          refine ltk [(2, aI v204)] [] (by kernel_rfl) ?_
          refine blockQ_ret ?_
          refine blockQ_ret ?_
          refine seqQ_ret ?_
          refine round_ret ?_
          refine escQ_ret ?_
          exact exM (by kernel_rfl)
         ·obtain ⟨rfl, rfl, rfl⟩ := hJ
          refine ltk [(1, .one (.ptr 1 0)), (39, aD (.slice (.slice t3)) a0.2.2), (40, aI (List.length a0.2.2 : Int)), (41, aI i151)] [(1, .one tM a0)] (by kernel_rfl) ?_
          refine blockQ_hit ?_
          refine blockQ_norm ?_
          refine seqQ_norm ?_
          obtain rfl := Option.some.inj h
          refine sw [(1, .one (.ptr 1 0)), (39, aD (.slice (.slice t3)) a0.2.2), (40, aI (List.length a0.2.2 : Int)), (41, aI (w64 (i151 + (1 : Int))))] [(1, .one tM a0)] (by kernel_rfl) ?_
          exact round_next' (by kernel_rfl) (by kernel_rfl)
       ·obtain rfl := stepL_false h156 h
        refine wx 2 [] [] (by kernel_rfl) ?_
        refine seqQ_exit ?_
        refine round_exit ?_
        refine escQ_brk ?_
        exact exM (by kernel_rfl)
      ·intro e fr L hJ
       rcases v207 with v212 | v213
       ·obtain ⟨rfl, rfl, rfl⟩ := hJ
        obtain rfl := Option.some.inj h
        refine ltk [(2, aI v212)] [] (by kernel_rfl) ?_
        refine blockQ_ret ?_
        refine seqQ_ret ?_
        exact retM (by kernel_rfl)
       ·obtain ⟨rfl, rfl, rfl⟩ := hJ
        refine ltk [] [] (by kernel_rfl) ?_
        refine blockQ_hit ?_
        refine seqQ_norm ?_
        refine sr [(2, aI (0 : Int))] [] (by kernel_rfl) ?_
        obtain rfl := Option.some.inj h
        refine wtL [(2, aI (0 : Int))] (by kernel_rfl) ?_
        exact retM (by kernel_rfl)

@[reducible] def ref_UnrollCheck_s1 (a1 : Int) (a2 : Int) (v : Bool) : Fr × LL := ([(1, aI a1), (2, aI a2), (20, aB v)], [])
def ref_UnrollCheck (a0 : (Int × (Int × (List (List (Int × (Int × Int))))))) (a1 : Int) (a2 : Int) : Option Int :=
(ref_MachineCheck a0).bind fun r1 =>
bif r1 != (0 : Int) then
(some r1)
else
((bif a0.2.1 != (2 : Int) then
(some true)
else
(some (decide (a0.1 > (2 : Int))))).bind fun v7 =>
bif v7 then
(some (3 : Int))
else
((ref_Within (1 : Int) a1 (5 : Int)).bind fun r10 =>
bif !r10 then
(some (1 : Int))
else
((ref_Within (0 : Int) a2 (6 : Int)).bind fun r13 =>
bif !r13 then
(some (7 : Int))
else
(some (0 : Int)))))
theorem ref_UnrollCheck_ok {a0 : (Int × (Int × (List (List (Int × (Int × Int))))))} {a1 : Int} {a2 : Int} {r : Int} (h : ref_UnrollCheck a0 a1 a2 = some r) : FnC Try.prog 30 [aD tM a0, aI a1, aI a2] [] (aI r) [] := by
 refine fnC_of_W (B := bodyOf Try.f30) (n := 27) Try.func30 (by kernel_rfl) (by kernel_rfl) (by kernel_rfl) (by kernel_rfl) (by kernel_rfl) ?_
 intro K
 refine sr [(1, aI a1), (2, aI a2), (3, .one (.ptr 3 0))] [(3, .one tM a0)] (by kernel_rfl) ?_
 refine W_seq (by kernel_rfl) ?_
 refine W_region (by kernel_rfl) ?_
 refine woL 1 [(1, aI a1), (2, aI a2), (3, .one (.ptr 3 0)), (8, aD tM a0)] (by kernel_rfl) ?_
 obtain ⟨r1, h2, h⟩ := bind_of h
 refine WO_call0 (us := [none]) (d := 9) (p := True) (j := 2) rfl ⟨by kernel_rfl, by kernel_rfl, by kernel_rfl⟩ trivial (ref_MachineCheck_ok h2) (by kernel_rfl) ?_
 refine wo 3 [(1, aI a1), (2, aI a2), (3, .one (.ptr 3 0)), (7, aI r1)] [(3, .one tM a0)] (by kernel_rfl) ?_
 refine wfL [(1, aI a1), (2, aI a2), (3, .one (.ptr 3 0)), (7, aI r1)] (by kernel_rfl) ?_
 refine seqQ_norm ?_
 refine W_seq (by kernel_rfl) ?_
 refine srL [(1, aI a1), (2, aI a2), (3, .one (.ptr 3 0)), (7, aI r1), (11, aB (r1 != (0 : Int)))] (by kernel_rfl) ?_
 refine W_cond (o := .tmp 11) (b := r1 != (0 : Int)) (by kernel_rfl) (by kernel_rfl) (fun h3 => ?_) (fun h3 => ?_)
 ·replace h := ofT h3 h
  refine sr [(6, aI r1)] [] (by kernel_rfl) ?_
  obtain rfl := Option.some.inj h
  refine wtL [(6, aI r1)] (by kernel_rfl) ?_
  refine seqQ_ret ?_
  exact retM (by kernel_rfl)
 ·replace h := ofF h3 h
  refine wkL [(1, aI a1), (2, aI a2), (3, .one (.ptr 3 0))] (by kernel_rfl) ?_
  refine seqQ_norm ?_
  refine W_seq (by kernel_rfl) ?_
  refine W_seq (by kernel_rfl) ?_
  obtain ⟨v7, h8, h⟩ := bind_of h
  refine W_cutK (Q' := (exQ .normal (ref_UnrollCheck_s1 a1 a2)) v7) ?_ ?_
  ·replace h := h8
   refine W_region (by kernel_rfl) ?_
   refine wo 4 [(1, aI a1), (2, aI a2), (3, .one (.ptr 3 0)), (16, aB (a0.2.1 != (2 : Int)))] [(3, .one tM a0)] (by kernel_rfl) ?_
   rcases Bool.eq_false_or_eq_true (a0.2.1 != (2 : Int)) with h6 | h6
   ·replace h := ofT h6 h
    refine woo 8 [(8, .known true), (10, .known true), (12, .known true), (15, .val (.dat .bool true))] [(1, aI a1), (2, aI a2), (20, aB true)] [(3, .one tM a0)] [((a0.2.1 != (2 : Int)) = true), ((a0.2.1 != (2 : Int)) = true), ((a0.2.1 != (2 : Int)) = true), ((a0.2.1 != (2 : Int)) = true)] (by kernel_rfl) (allP2 h6 (allP2 h6 (allP2 h6 (allP1 h6)))) ?_
    obtain rfl := Option.some.inj h
    refine wf [(1, aI a1), (2, aI a2), (20, aB true)] [] (by kernel_rfl) ?_
    exact exM (by kernel_rfl)
   ·replace h := ofF h6 h
    refine woo 8 [(8, .known false), (10, .known false), (12, .known false), (15, .val (.dat .bool false))] [(1, aI a1), (2, aI a2), (20, aB (decide (a0.1 > (2 : Int))))] [(3, .one tM a0)] [((a0.2.1 != (2 : Int)) = false), ((a0.2.1 != (2 : Int)) = false), ((a0.2.1 != (2 : Int)) = false), ((a0.2.1 != (2 : Int)) = false)] (by kernel_rfl) (allP2 h6 (allP2 h6 (allP2 h6 (allP1 h6)))) ?_
    obtain rfl := Option.some.inj h
    refine wf [(1, aI a1), (2, aI a2), (20, aB (decide (a0.1 > (2 : Int))))] [] (by kernel_rfl) ?_
    exact exM (by kernel_rfl)
  ·intro e fr L hJ
   obtain ⟨rfl, rfl, rfl⟩ := hJ
   refine ltk [(1, aI a1), (2, aI a2), (20, aB v7)] [] (by kernel_rfl) ?_
   refine seqQ_norm ?_
   refine W_cond (o := .tmp 20) (b := v7) (by kernel_rfl) (by kernel_rfl) (fun h9 => ?_) (fun h9 => ?_)
   ·replace h := ofT h9 h
    refine srL [(6, aI (3 : Int))] (by kernel_rfl) ?_
    obtain rfl := Option.some.inj h
    refine wtL [(6, aI (3 : Int))] (by kernel_rfl) ?_
    refine seqQ_ret ?_
    exact retM (by kernel_rfl)
   ·replace h := ofF h9 h
    refine wkL [(1, aI a1), (2, aI a2)] (by kernel_rfl) ?_
    refine seqQ_norm ?_
    refine W_seq (by kernel_rfl) ?_
    refine W_seq (by kernel_rfl) ?_
    refine W_region (by kernel_rfl) ?_
    refine woL 1 [(2, aI a2), (21, aI a1)] (by kernel_rfl) ?_
    obtain ⟨r10, h11, h⟩ := bind_of h
    refine WO_call0 (us := [none, none, none]) (d := 22) (p := True) (j := 2) rfl ⟨by kernel_rfl, by kernel_rfl, by kernel_rfl⟩ trivial (ref_Within_ok h11) (by kernel_rfl) ?_
    refine wo 3 [(2, aI a2), (23, aB (!r10))] [] (by kernel_rfl) ?_
    refine wfL [(2, aI a2), (23, aB (!r10))] (by kernel_rfl) ?_
    refine seqQ_norm ?_
    refine W_cond (o := .tmp 23) (b := !r10) (by kernel_rfl) (by kernel_rfl) (fun h12 => ?_) (fun h12 => ?_)
    ·replace h := ofT h12 h
     refine srL [(6, aI (1 : Int))] (by kernel_rfl) ?_
     obtain rfl := Option.some.inj h
     refine wtL [(6, aI (1 : Int))] (by kernel_rfl) ?_
     refine seqQ_ret ?_
     exact retM (by kernel_rfl)
    ·replace h := ofF h12 h
     refine wkL [(2, aI a2)] (by kernel_rfl) ?_
     refine seqQ_norm ?_
     refine W_seq (by kernel_rfl) ?_
     refine W_seq (by kernel_rfl) ?_
     refine W_region (by kernel_rfl) ?_
     refine woL 1 [(24, aI a2)] (by kernel_rfl) ?_
     obtain ⟨r13, h14, h⟩ := bind_of h
     refine WO_call0 (us := [none, none, none]) (d := 25) (p := True) (j := 2) rfl ⟨by kernel_rfl, by kernel_rfl, by kernel_rfl⟩ trivial (ref_Within_ok h14) (by kernel_rfl) ?_
     refine wo 3 [(26, aB (!r13))] [] (by kernel_rfl) ?_
     refine wfL [(26, aB (!r13))] (by kernel_rfl) ?_
     refine seqQ_norm ?_
     refine W_cond (o := .tmp 26) (b := !r13) (by kernel_rfl) (by kernel_rfl) (fun h15 => ?_) (fun h15 => ?_)
     ·replace h := ofT h15 h
      refine srL [(6, aI (7 : Int))] (by kernel_rfl) ?_
      obtain rfl := Option.some.inj h
      refine wtL [(6, aI (7 : Int))] (by kernel_rfl) ?_
      refine seqQ_ret ?_
      exact retM (by kernel_rfl)
     ·replace h := ofF h15 h
      refine wkL [] (by kernel_rfl) ?_
      refine seqQ_norm ?_
      refine srL [(6, aI (0 : Int))] (by kernel_rfl) ?_
      obtain rfl := Option.some.inj h
      refine wtL [(6, aI (0 : Int))] (by kernel_rfl) ?_
      exact retM (by kernel_rfl)

def ref_Bit (a0 : Int) (a1 : Int) : Option Bool :=
bif (decide (a1 ≥ (0 : Int))) && (decide (a1 < (63 : Int))) then
((ck (0 ≤ IntKind.wrap .u64 (a1))).bind fun _ =>
some ((bAnd .i64 a0 (bShl .i64 (1 : Int) (IntKind.wrap .u64 (a1)))) != (0 : Int)))
else
(some false)
theorem ref_Bit_ok {a0 : Int} {a1 : Int} {r : Bool} (h : ref_Bit a0 a1 = some r) : FnC Try.prog 61 [aI a0, aI a1] [] (aB r) [] := by
 refine fnC_of_W (B := bodyOf Try.f61) (n := 19) Try.func61 (by kernel_rfl) (by kernel_rfl) (by kernel_rfl) (by kernel_rfl) (by kernel_rfl) ?_
 intro K
 refine sr [(0, aI a0), (1, aI a1)] [] (by kernel_rfl) ?_
 refine W_seq (by kernel_rfl) ?_
 refine W_region (by kernel_rfl) ?_
 refine woL 7 [(0, aI a0), (1, aI a1), (11, aB ((decide (a1 ≥ (0 : Int))) && (decide (a1 < (63 : Int)))))] (by kernel_rfl) ?_
 rcases Bool.eq_false_or_eq_true ((decide (a1 ≥ (0 : Int))) && (decide (a1 < (63 : Int)))) with h1 | h1
 ·replace h := ofT h1 h
  obtain ⟨_, h2, h⟩ := bind_of h
  replace h2 := ck_some h2
  refine woo 15 [(14, .known true), (16, .known true), (18, .known true), (20, .known true), (22, .known true), (24, .known true), (27, .val (.dat .bool true))] [(4, aB ((bAnd .i64 a0 (bShl .i64 (1 : Int) (IntKind.wrap .u64 (a1)))) != (0 : Int)))] [] [(((decide (a1 ≥ (0 : Int))) && (decide (a1 < (63 : Int)))) = true), (((decide (a1 ≥ (0 : Int))) && (decide (a1 < (63 : Int)))) = true), (((decide (a1 ≥ (0 : Int))) && (decide (a1 < (63 : Int)))) = true), (((decide (a1 ≥ (0 : Int))) && (decide (a1 < (63 : Int)))) = true), (0 ≤ IntKind.wrap .u64 (a1)), (((decide (a1 ≥ (0 : Int))) && (decide (a1 < (63 : Int)))) = true), (((decide (a1 ≥ (0 : Int))) && (decide (a1 < (63 : Int)))) = true), (((decide (a1 ≥ (0 : Int))) && (decide (a1 < (63 : Int)))) = true)] (by kernel_rfl) (allP2 h1 (allP2 h1 (allP2 h1 (allP2 h1 (allP2 h2 (allP2 h1 (allP2 h1 (allP1 h1)))))))) ?_
  refine wfL [(4, aB ((bAnd .i64 a0 (bShl .i64 (1 : Int) (IntKind.wrap .u64 (a1)))) != (0 : Int)))] (by kernel_rfl) ?_
  refine seqQ_norm ?_
  obtain rfl := Option.some.inj h
  refine wtL [(4, aB ((bAnd .i64 a0 (bShl .i64 (1 : Int) (IntKind.wrap .u64 (a1)))) != (0 : Int)))] (by kernel_rfl) ?_
  exact retM (by kernel_rfl)
 ·replace h := ofF h1 h
  refine woo 15 [(14, .known false), (16, .known false), (18, .known false), (20, .known false), (22, .known false), (24, .known false), (27, .val (.dat .bool false))] [(4, aB false)] [] [(((decide (a1 ≥ (0 : Int))) && (decide (a1 < (63 : Int)))) = false), (((decide (a1 ≥ (0 : Int))) && (decide (a1 < (63 : Int)))) = false), (((decide (a1 ≥ (0 : Int))) && (decide (a1 < (63 : Int)))) = false), (((decide (a1 ≥ (0 : Int))) && (decide (a1 < (63 : Int)))) = false), (((decide (a1 ≥ (0 : Int))) && (decide (a1 < (63 : Int)))) = false), (((decide (a1 ≥ (0 : Int))) && (decide (a1 < (63 : Int)))) = false), (((decide (a1 ≥ (0 : Int))) && (decide (a1 < (63 : Int)))) = false)] (by kernel_rfl) (allP2 h1 (allP2 h1 (allP2 h1 (allP2 h1 (allP2 h1 (allP2 h1 (allP1 h1))))))) ?_
  refine wfL [(4, aB false)] (by kernel_rfl) ?_
  refine seqQ_norm ?_
  obtain rfl := Option.some.inj h
  refine wtL [(4, aB false)] (by kernel_rfl) ?_
  exact retM (by kernel_rfl)

def ref_Bits_b1 (a1 : Int) (i10 : Int) (x11 : (List Bool)) : Option (Flow (List Bool) (List Bool)) :=
(ref_Bit a1 i10).bind fun r14 =>
(ck ((List.length x11 : Int) + 1 ≤ 4294967296)).bind fun _ =>
some (.next (x11 ++ [r14]))
@[reducible] def ref_Bits_s2 (a0 : Int) (a1 : Int) (v : Int × (List Bool)) : Fr × LL := ([(0, aI a0), (1, aI a1), (5, .one (.slc 17)), (6, aI v.1)], [(17, .seq .bool v.2)])
@[reducible] def ref_Bits_s3 (v : (List Bool)) : Fr × LL := ([(5, .one (.slc 17))], [(17, .seq .bool v)])
def ref_Bits (a0 : Int) (a1 : Int) : Option (List Bool) :=
(forI (0 : Int) a0 (ref_Bits_b1 a1) (fun x11 => x11) []).bind fun v18 =>
some v18
theorem ref_Bits_ok {a0 : Int} {a1 : Int} {r : (List Bool)} (h : ref_Bits a0 a1 = some r) : FnC Try.prog 32 [aI a0, aI a1] [] (aD (.slice .bool) r) [] := by
 refine fnC_of_W (B := bodyOf Try.f32) (n := 19) Try.func32 (by kernel_rfl) (by kernel_rfl) (by kernel_rfl) (by kernel_rfl) (by kernel_rfl) ?_
 intro K
 refine sr [(0, aI a0), (1, aI a1)] [] (by kernel_rfl) ?_
 refine srL [(0, aI a0), (1, aI a1), (5, .one (.nilS))] (by kernel_rfl) ?_
 refine W_seq (by kernel_rfl) ?_
 refine srL [(0, aI a0), (1, aI a1), (5, .one (.nilS)), (6, aI (0 : Int))] (by kernel_rfl) ?_
 refine W_block (id := 0) (by kernel_rfl) ?_
 obtain ⟨v18, h19, h⟩ := bind_of h
 obtain ⟨h20, h21⟩ := forI_iter h19
 refine W_mine 5 17 .bool (by kernel_rfl) ?_
 refine W_weaken [0, 1, 5, 6] [17] (fr' := ((ref_Bits_s2 a0 a1) ((0 : Int), [])).1) (L' := ((ref_Bits_s2 a0 a1) ((0 : Int), [])).2) (by kernel_rfl) ?_
 refine W_cutK (W_loop (S := (ref_Bits_s2 a0 a1)) (J := (exQ (.exit 0) ref_Bits_s3)) (by kernel_rfl) ?_ h20 _ v18 h21) ?_
 ·rintro ⟨i10, x11⟩ s h
  refine W_seq (by kernel_rfl) ?_
  refine sr [(0, aI a0), (1, aI a1), (5, .one (.slc 17)), (6, aI i10), (9, aB (decide (i10 < a0)))] [(17, .seq .bool x11)] (by kernel_rfl) ?_
  refine W_cond (o := .tmp 9) (b := decide (i10 < a0)) (by kernel_rfl) (by kernel_rfl) (fun h13 => ?_) (fun h13 => ?_)
  ·replace h := stepI_true h13 h
   obtain ⟨_, h, rfl⟩ := h
   refine wkL [(0, aI a0), (1, aI a1), (5, .one (.slc 17)), (6, aI i10)] (by kernel_rfl) ?_
   refine seqQ_norm ?_
   refine W_seq (by kernel_rfl) ?_
   refine W_block (id := 1) (by kernel_rfl) ?_
   refine W_region (by kernel_rfl) ?_
   refine woL 3 [(0, aI a0), (1, aI a1), (5, .one (.slc 17)), (6, aI i10), (12, .one (.slc 17)), (13, aI a1), (14, aI i10)] (by kernel_rfl) ?_
   obtain ⟨r14, h15, h⟩ := bind_of h
   refine WO_call0 (us := [none, none]) (d := 15) (p := True) (j := 4) rfl ⟨by kernel_rfl, by kernel_rfl, by kernel_rfl⟩ trivial (ref_Bit_ok h15) (by kernel_rfl) ?_
   obtain ⟨_, h16, h⟩ := bind_of h
   replace h16 := ck_some h16
   refine woo 7 [] [(0, aI a0), (1, aI a1), (5, .one (.slc 17)), (6, aI i10)] [(16, .seq .bool [r14]), (17, .seq .bool (x11 ++ [r14]))] [SmallLen (List.length x11 + List.length [r14])] (by kernel_rfl) (allP1 h16) ?_
   refine wf [(0, aI a0), (1, aI a1), (5, .one (.slc 17)), (6, aI i10)] [(17, .seq .bool (x11 ++ [r14]))] (by kernel_rfl) ?_
   refine blockQ_norm ?_
   refine seqQ_norm ?_
   obtain rfl := Option.some.inj h
   refine swL [(0, aI a0), (1, aI a1), (5, .one (.slc 17)), (6, aI (w64 (i10 + (1 : Int))))] (by kernel_rfl) ?_
   exact round_next' (by kernel_rfl) (by kernel_rfl)
  ·obtain rfl := stepI_false h13 h
   refine wxL 0 [(5, .one (.slc 17))] (by kernel_rfl) ?_
   refine seqQ_exit ?_
   refine round_exit ?_
   exact exM (by kernel_rfl)
 ·intro e fr L hJ
  obtain ⟨rfl, rfl, rfl⟩ := hJ
  refine ltk [(5, .one (.slc 17))] [(17, .seq .bool v18)] (by kernel_rfl) ?_
  refine blockQ_hit ?_
  refine seqQ_norm ?_
  refine sr [(4, .one (.slc 17))] [(17, .seq .bool v18)] (by kernel_rfl) ?_
  obtain rfl := Option.some.inj h
  refine W_frz 17 (by kernel_rfl) ?_
  refine wt [(4, aD (.slice .bool) v18)] [] (by kernel_rfl) ?_
  exact retM (by kernel_rfl)

def tape_Tape_Put (a1 : Int) (a2 : Int) (c0 : (Option (List (Int × Int)))) : Option (Option (List (Int × Int))) :=
bif a2 == (0 : Int) then
(some (Option.map (fun l => mDel (deqT tI) l a1) c0))
else
((ck (Option.isSome c0 = true)).bind fun _ =>
some (Option.map (fun l => mPut (deqT tI) l a1 a2) c0))
theorem tape_Tape_Put_ok {a1 : Int} {a2 : Int} {c0 : (Option (List (Int × Int)))} {r : (Option (List (Int × Int)))} (h : tape_Tape_Put a1 a2 c0 = some r) : FnC Try.prog 66 [.one (.slc 1000), aI a1, aI a2] [(1000, .map tI tI c0)] (.tup []) [(1000, .map tI tI r)] := by
 refine fnC_of_W (B := bodyOf Try.f66) (n := 13) Try.func66 (by kernel_rfl) (by kernel_rfl) (by kernel_rfl) (by kernel_rfl) (by kernel_rfl) ?_
 intro K
 refine W_seq (by kernel_rfl) ?_
 refine sr [(0, .one (.slc 1000)), (1, aI a1), (2, aI a2), (7, aB (a2 == (0 : Int)))] [(1000, .map tI tI c0)] (by kernel_rfl) ?_
 refine W_cond (o := .tmp 7) (b := a2 == (0 : Int)) (by kernel_rfl) (by kernel_rfl) (fun h1 => ?_) (fun h1 => ?_)
 ·replace h := ofT h1 h
  refine sr [] [(1000, .map tI tI (Option.map (fun l => mDel (deqT tI) l a1) c0))] (by kernel_rfl) ?_
  obtain rfl := Option.some.inj h
  refine wtL [] (by kernel_rfl) ?_
  refine seqQ_ret ?_
  exact retM (by kernel_rfl)
 ·replace h := ofF h1 h
  refine wkL [(0, .one (.slc 1000)), (1, aI a1), (2, aI a2)] (by kernel_rfl) ?_
  refine seqQ_norm ?_
  obtain ⟨_, h2, h⟩ := bind_of h
  replace h2 := ck_some h2
  obtain rfl := Option.some.inj h
  refine W_run 4 [] [] [1000] (fr' := []) (L' := [(1000, .map tI tI (Option.map (fun l => mPut (deqT tI) l a1 a2) c0))]) (obs := [Option.isSome c0 = true]) (by kernel_rfl) (by kernel_rfl) (by kernel_rfl) (allP1 h2) ?_
  exact ⟨.inr rfl, by kernel_rfl, by kernel_rfl, by kernel_rfl⟩

def tape_Step (a0 : (Int × (Int × (List (List (Int × (Int × Int))))))) (a2 : Int) (a3 : Int) (c0 : (Option (List (Int × Int)))) : Option (Int × Int × (Option (List (Int × Int)))) :=
(idx a0.2.2 a2).bind fun v1 =>
(idx v1 (Option.getD (mGet (deqT tI) (Option.getD c0 []) a3) (0 : Int))).bind fun v3 =>
(tape_Tape_Put a3 v3.1 c0).bind fun r5 =>
some (v3.2.2, w64 (a3 + v3.2.1), r5)
theorem tape_Step_ok {a0 : (Int × (Int × (List (List (Int × (Int × Int))))))} {a2 : Int} {a3 : Int} {c0 : (Option (List (Int × Int)))} {r : (Int × Int × (Option (List (Int × Int))))} (h : tape_Step a0 a2 a3 c0 = some r) : FnC Try.prog 67 [aD tM a0, .one (.slc 1000), aI a2, aI a3] [(1000, .map tI tI c0)] (.tup [.dat tI r.1, .dat tI r.2.1]) [(1000, .map tI tI r.2.2)] := by
 refine fnC_of_W (B := bodyOf Try.f67) (n := 32) Try.func67 (by kernel_rfl) (by kernel_rfl) (by kernel_rfl) (by kernel_rfl) (by kernel_rfl) ?_
 intro K
 refine sr [(1, .one (.slc 1000)), (2, aI a2), (3, aI a3), (4, .one (.ptr 4 0))] [(1000, .map tI tI c0), (4, .one tM a0)] (by kernel_rfl) ?_
 refine W_seq (by kernel_rfl) ?_
 obtain ⟨v1, h2, h⟩ := bind_of h
 obtain ⟨v3, h4, h⟩ := bind_of h
 refine W_drawC5 11 [] [(10, 10, .one t3 ((0 : Int), (0 : Int), (0 : Int)))] [(10, .one (.ptr 10 0))] [(7, .val (.dat (.slice t3) v1)), (17, .val (.dat t3 v3))] [] [1, 3, 10, 20] [4, 10, 1000] (out := [(11, .one (.ptr 4 2)), (12, aD (.slice (.slice t3)) a0.2.2), (13, aI a2), (14, .one (.dptr (.slice t3) v1)), (15, aD (.slice t3) v1), (16, .one (.slc 1000)), (17, aI a3), (18, aI (Option.getD (mGet (deqT tI) (Option.getD c0 []) a3) (0 : Int))), (19, .one (.dptr t3 v3)), (20, aD t3 v3), (10, .one (.ptr 10 0))]) (obs := [Idx a0.2.2 a2 v1, Idx v1 (Option.getD (mGet (deqT tI) (Option.getD c0 []) a3) (0 : Int)) v3]) (calls := []) (fr' := [(1, .one (.slc 1000)), (3, aI a3), (10, .one (.ptr 10 0)), (20, aD t3 v3)]) (L' := [(4, .one tM a0), (10, .one t3 ((0 : Int), (0 : Int), (0 : Int))), (1000, .map tI tI c0)]) (by kernel_rfl) (by kernel_rfl) (by kernel_rfl) (by kernel_rfl) (by kernel_rfl) (allP2 (Idx.of h2) (allP1 (Idx.of h4))) allD0 chNil (mkDo (ty := true) (av := .one (.ptr 10 0)) (p := True) (by kernel_rfl) trivial (by kernel_rfl) mkNil) (by kernel_rfl) ?_
 refine woo 12 [] [(1, .one (.slc 1000)), (3, aI a3), (10, .one (.ptr 10 0))] [(4, .one tM a0), (10, .one t3 v3), (1000, .map tI tI c0)] [True] (by kernel_rfl) (allP1 trivial) ?_
 refine wf [(1, .one (.slc 1000)), (3, aI a3), (10, .one (.ptr 10 0))] [(1000, .map tI tI c0), (10, .one t3 v3)] (by kernel_rfl) ?_
 refine ⟨rfl, ?_⟩
 refine seqQ_norm ?_
 refine W_seq (by kernel_rfl) ?_
 refine W_region (by kernel_rfl) ?_
 refine wo 4 [(3, aI a3), (10, .one (.ptr 10 0)), (21, .one (.slc 1000)), (22, aI a3), (24, aI v3.1)] [(10, .one t3 v3), (1000, .map tI tI c0)] (by kernel_rfl) ?_
 obtain ⟨r5, h6, h⟩ := bind_of h
 refine WO_lend [(1000, 1000)] (us := [none, none, none]) (d := 25) (p := True) (j := 5) rfl ⟨by kernel_rfl, by kernel_rfl, by kernel_rfl⟩ trivial (tape_Tape_Put_ok h6) (by kernel_rfl) (by kernel_rfl) ?_
 refine wf [(3, aI a3), (10, .one (.ptr 10 0))] [(10, .one t3 v3), (1000, .map tI tI r5)] (by kernel_rfl) ?_
 refine seqQ_norm ?_
 refine W_seq (by kernel_rfl) ?_
 refine W_draw2 7 [] [] [8, 9] [1000] (fr' := [(8, aI v3.2.2), (9, aI (w64 (a3 + v3.2.1)))]) (L' := [(1000, .map tI tI r5)]) (out := [(26, .one (.ptr 10 2)), (27, aI v3.2.2), (28, aI a3), (29, .one (.ptr 10 1)), (30, aI v3.2.1), (31, aI (w64 (a3 + v3.2.1))), (8, aI v3.2.2)]) (obs := []) (obs2 := []) (calls := []) (by kernel_rfl) (by kernel_rfl) (by kernel_rfl) (by kernel_rfl) allP0 allC0 (by kernel_rfl) allP0 ?_
 refine seqQ_norm ?_
 obtain rfl := Option.some.inj h
 refine wt [(8, aI v3.2.2), (9, aI (w64 (a3 + v3.2.1)))] [(1000, .map tI tI r5)] (by kernel_rfl) ?_
 exact retM (by kernel_rfl)

@[reducible] def unroll_Ask_s4 (a0 : (Int × (Int × (List (List (Int × (Int × Int))))))) (a1 : Int) (a2 : Int) (a3 : (List Bool)) (i43 : Int) (v : (Option (List (Int × Int)))) : Fr × LL := ([(1, aI a1), (2, aI a2), (4, .one (.ptr 4 0)), (11, .one (.slc 27)), (28, aD (.slice .bool) a3), (29, aI (List.length a3 : Int)), (30, aI i43)], [(4, .one tM a0), (27, .map tI tI v)])
def unroll_Ask_b5 (i43 : Int) (v46 : Bool) (x44 : (Option (List (Int × Int)))) : Option (Flow (Option (List (Int × Int))) (Option (List (Int × Int)))) :=
(bif v46 then
((tape_Tape_Put i43 (1 : Int) x44).bind fun r56 =>
some r56)
else
(some x44)).bind fun v58 =>
some (.next v58)
@[reducible] def unroll_Ask_s6 (a0 : (Int × (Int × (List (List (Int × (Int × Int))))))) (a1 : Int) (a2 : Int) (a3 : (List Bool)) (v : Int × (Option (List (Int × Int)))) : Fr × LL := ([(1, aI a1), (2, aI a2), (4, .one (.ptr 4 0)), (11, .one (.slc 27)), (28, aD (.slice .bool) a3), (29, aI (List.length a3 : Int)), (30, aI v.1)], [(4, .one tM a0), (27, .map tI tI v.2)])
@[reducible] def unroll_Ask_s7 (a0 : (Int × (Int × (List (List (Int × (Int × Int))))))) (a1 : Int) (a2 : Int) (v : (Option (List (Int × Int)))) : Fr × LL := ([(1, aI a1), (2, aI a2), (4, .one (.ptr 4 0)), (11, .one (.slc 27))], [(4, .one tM a0), (27, .map tI tI v)])
@[reducible] def unroll_Ask_s10 (a0 : (Int × (Int × (List (List (Int × (Int × Int))))))) (a1 : Int) (x75 : (Int × Int × Int × (Option (List (Int × Int))))) (v : Bool) : Fr × LL := ([(1, aI a1), (2, aI x75.1), (4, .one (.ptr 4 0)), (11, .one (.slc 27)), (14, aI x75.2.1), (15, aI x75.2.2.1), (47, aB v)], [(4, .one tM a0), (27, .map tI tI x75.2.2.2)])
def unroll_Ask_b11 (a0 : (Int × (Int × (List (List (Int × (Int × Int))))))) (a1 : Int) (x75 : (Int × Int × Int × (Option (List (Int × Int))))) : Option (Flow (Int × Int × Int × (Option (List (Int × Int)))) (Int × Int × (Option (List (Int × Int))))) :=
(bif decide (x75.1 > (0 : Int)) then
(some (decide (x75.2.1 < a0.1)))
else
(some false)).bind fun v87 =>
bif v87 then
((tape_Step a0 x75.2.1 x75.2.2.1 x75.2.2.2).bind fun r90 =>
some (.next (w64 (x75.1 - (1 : Int)), r90.1, imin (imax r90.2.1 (0 : Int)) (w64 (a1 - (1 : Int))), r90.2.2)))
else
(some (.done (x75.2.1, x75.2.2.1, x75.2.2.2)))
@[reducible] def unroll_Ask_s12 (a0 : (Int × (Int × (List (List (Int × (Int × Int))))))) (a1 : Int) (v : (Int × Int × Int × (Option (List (Int × Int))))) : Fr × LL := ([(1, aI a1), (2, aI v.1), (4, .one (.ptr 4 0)), (11, .one (.slc 27)), (14, aI v.2.1), (15, aI v.2.2.1)], [(4, .one tM a0), (27, .map tI tI v.2.2.2)])
@[reducible] def unroll_Ask_s13 (a0 : (Int × (Int × (List (List (Int × (Int × Int))))))) (v : (Int × Int × (Option (List (Int × Int))))) : Fr × LL := ([(4, .one (.ptr 4 0)), (11, .one (.slc 27)), (14, aI v.1), (15, aI v.2.1)], [(4, .one tM a0), (27, .map tI tI v.2.2)])
def unroll_Ask (fuel : Nat) (a0 : (Int × (Int × (List (List (Int × (Int × Int))))))) (a1 : Int) (a2 : Int) (a3 : (List Bool)) : Option (Bool × Int) :=
(unroll_wrong a0 a1 a2).bind fun r1 =>
bif r1 != (0 : Int) then
(some (false, r1))
else
(bif (List.length a3 : Int) != a1 then
(some (false, (2 : Int)))
else
((forL unroll_Ask_b5 (fun x44 => x44) a3 0 (some [] : Option (List (Int × Int)))).bind fun v61 =>
(iter (unroll_Ask_b11 a0 a1) fuel (a2, (0 : Int), (0 : Int), v61)).bind fun v92 =>
some ((v92.1 == a0.1) && ((Option.getD (mGet (deqT tI) (Option.getD v92.2.2 []) v92.2.1) (0 : Int)) == (1 : Int)), (0 : Int))))
theorem unroll_Ask_ok {fuel : Nat} {a0 : (Int × (Int × (List (List (Int × (Int × Int))))))} {a1 : Int} {a2 : Int} {a3 : (List Bool)} {r : (Bool × Int)} (h : unroll_Ask fuel a0 a1 a2 a3 = some r) : FnC Try.prog 31 [aD tM a0, aI a1, aI a2, aD (.slice .bool) a3] [] (.tup [.dat .bool r.1, .dat tI r.2]) [] := by
 refine fnC_of_W (B := bodyOf Try.f31) (n := 73) Try.func31 (by kernel_rfl) (by kernel_rfl) (by kernel_rfl) (by kernel_rfl) (by kernel_rfl) ?_
 intro K
 refine sr [(1, aI a1), (2, aI a2), (3, aD (.slice .bool) a3), (4, .one (.ptr 4 0))] [(4, .one tM a0)] (by kernel_rfl) ?_
 refine W_seq (by kernel_rfl) ?_
 refine W_seq (by kernel_rfl) ?_
 refine W_region (by kernel_rfl) ?_
 refine woL 3 [(1, aI a1), (2, aI a2), (3, aD (.slice .bool) a3), (4, .one (.ptr 4 0)), (16, aD tM a0), (17, aI a1), (18, aI a2)] (by kernel_rfl) ?_
 obtain ⟨r1, h2, h⟩ := bind_of h
 refine WO_call0 (us := [none, none, none]) (d := 19) (p := True) (j := 4) rfl ⟨by kernel_rfl, by kernel_rfl, by kernel_rfl⟩ trivial (unroll_wrong_ok h2) (by kernel_rfl) ?_
 refine wo 5 [(1, aI a1), (2, aI a2), (3, aD (.slice .bool) a3), (4, .one (.ptr 4 0)), (10, aI r1)] [(4, .one tM a0)] (by kernel_rfl) ?_
 refine wfL [(1, aI a1), (2, aI a2), (3, aD (.slice .bool) a3), (4, .one (.ptr 4 0)), (10, aI r1)] (by kernel_rfl) ?_
 refine seqQ_norm ?_
 refine srL [(1, aI a1), (2, aI a2), (3, aD (.slice .bool) a3), (4, .one (.ptr 4 0)), (10, aI r1), (21, aB (r1 != (0 : Int)))] (by kernel_rfl) ?_
 refine W_cond (o := .tmp 21) (b := r1 != (0 : Int)) (by kernel_rfl) (by kernel_rfl) (fun h3 => ?_) (fun h3 => ?_)
 ·replace h := ofT h3 h
  refine sr [(8, aB false), (9, aI r1)] [] (by kernel_rfl) ?_
  obtain rfl := Option.some.inj h
  refine wtL [(8, aB false), (9, aI r1)] (by kernel_rfl) ?_
  refine seqQ_ret ?_
  exact retM (by kernel_rfl)
 ·replace h := ofF h3 h
  refine wkL [(1, aI a1), (2, aI a2), (3, aD (.slice .bool) a3), (4, .one (.ptr 4 0))] (by kernel_rfl) ?_
  refine seqQ_norm ?_
  refine W_seq (by kernel_rfl) ?_
  refine srL [(1, aI a1), (2, aI a2), (3, aD (.slice .bool) a3), (4, .one (.ptr 4 0)), (26, aB ((List.length a3 : Int) != a1))] (by kernel_rfl) ?_
  refine W_cond (o := .tmp 26) (b := (List.length a3 : Int) != a1) (by kernel_rfl) (by kernel_rfl) (fun h4 => ?_) (fun h4 => ?_)
  ·replace h := ofT h4 h
   refine sr [(8, aB false), (9, aI (2 : Int))] [] (by kernel_rfl) ?_
   obtain rfl := Option.some.inj h
   refine wtL [(8, aB false), (9, aI (2 : Int))] (by kernel_rfl) ?_
   refine seqQ_ret ?_
   exact retM (by kernel_rfl)
  ·replace h := ofF h4 h
   refine wkL [(1, aI a1), (2, aI a2), (3, aD (.slice .bool) a3), (4, .one (.ptr 4 0))] (by kernel_rfl) ?_
   refine seqQ_norm ?_
   refine sr [(1, aI a1), (2, aI a2), (3, aD (.slice .bool) a3), (4, .one (.ptr 4 0)), (11, .one (.slc 27))] [(4, .one tM a0), (27, .map tI tI (some [] : Option (List (Int × Int))))] (by kernel_rfl) ?_
   refine W_seq (by kernel_rfl) ?_
   refine srL [(1, aI a1), (2, aI a2), (4, .one (.ptr 4 0)), (11, .one (.slc 27)), (28, aD (.slice .bool) a3), (29, aI (List.length a3 : Int)), (30, aI (0 : Int))] (by kernel_rfl) ?_
   refine W_block (id := 0) (by kernel_rfl) ?_
   obtain ⟨v61, h62, h⟩ := bind_of h
   refine W_len (t := 28) (u := .bool) (xs := a3) (by kernel_rfl) (fun h65 => ?_)
   obtain ⟨h63, h64⟩ := forL_iter h65 h62
   refine W_weaken [1, 2, 4, 11, 28, 29, 30] [4, 27] (fr' := ((unroll_Ask_s6 a0 a1 a2 a3) ((0 : Int), (some [] : Option (List (Int × Int))))).1) (L' := ((unroll_Ask_s6 a0 a1 a2 a3) ((0 : Int), (some [] : Option (List (Int × Int))))).2) (by kernel_rfl) ?_
   refine W_cutK (W_loop (S := (unroll_Ask_s6 a0 a1 a2 a3)) (J := (exQ (.exit 0) (unroll_Ask_s7 a0 a1 a2))) (by kernel_rfl) ?_ h63 _ v61 h64) ?_
   ·rintro ⟨i43, x44⟩ s h
    refine sr [(1, aI a1), (2, aI a2), (4, .one (.ptr 4 0)), (11, .one (.slc 27)), (28, aD (.slice .bool) a3), (29, aI (List.length a3 : Int)), (30, aI i43), (31, aB (decide (i43 < (List.length a3 : Int))))] [(4, .one tM a0), (27, .map tI tI x44)] (by kernel_rfl) ?_
    refine W_seq (by kernel_rfl) ?_
    refine W_cond (o := .tmp 31) (b := decide (i43 < (List.length a3 : Int))) (by kernel_rfl) (by kernel_rfl) (fun h48 => ?_) (fun h48 => ?_)
    ·replace h := stepL_true h48 h
     obtain ⟨v46, _, h47, h, rfl⟩ := h
     refine wkL [(1, aI a1), (2, aI a2), (4, .one (.ptr 4 0)), (11, .one (.slc 27)), (28, aD (.slice .bool) a3), (29, aI (List.length a3 : Int)), (30, aI i43)] (by kernel_rfl) ?_
     refine seqQ_norm ?_
     refine W_seq (by kernel_rfl) ?_
     obtain ⟨v58, h59, h⟩ := bind_of h
     refine W_cutK (Q' := (exQ .normal (unroll_Ask_s4 a0 a1 a2 a3 i43)) v58) ?_ ?_
     ·replace h := h59
      refine W_block (id := 1) (by kernel_rfl) ?_
      refine sro [(3, .val (.dat .bool v46))] [(1, aI a1), (2, aI a2), (4, .one (.ptr 4 0)), (11, .one (.slc 27)), (12, aI i43), (13, aB v46), (28, aD (.slice .bool) a3), (29, aI (List.length a3 : Int)), (30, aI i43)] [(4, .one tM a0), (27, .map tI tI x44)] [Idx a3 i43 v46] (by kernel_rfl) (allP1 (Idx.of h47)) ?_
      refine srL [(1, aI a1), (2, aI a2), (4, .one (.ptr 4 0)), (11, .one (.slc 27)), (12, aI i43), (28, aD (.slice .bool) a3), (29, aI (List.length a3 : Int)), (30, aI i43), (35, aB v46)] (by kernel_rfl) ?_
      refine W_cond (o := .tmp 35) (b := v46) (by kernel_rfl) (by kernel_rfl) (fun h55 => ?_) (fun h55 => ?_)
      ·replace h := ofT h55 h
       refine W_region (by kernel_rfl) ?_
       refine woL 2 [(1, aI a1), (2, aI a2), (4, .one (.ptr 4 0)), (11, .one (.slc 27)), (28, aD (.slice .bool) a3), (29, aI (List.length a3 : Int)), (30, aI i43), (36, .one (.slc 27)), (37, aI i43)] (by kernel_rfl) ?_
       obtain ⟨r56, h57, h⟩ := bind_of h
       refine WO_lend [(1000, 27)] (us := [none, none, none]) (d := 38) (p := True) (j := 3) rfl ⟨by kernel_rfl, by kernel_rfl, by kernel_rfl⟩ trivial (tape_Tape_Put_ok h57) (by kernel_rfl) (by kernel_rfl) ?_
       obtain rfl := Option.some.inj h
       refine wf [(1, aI a1), (2, aI a2), (4, .one (.ptr 4 0)), (11, .one (.slc 27)), (28, aD (.slice .bool) a3), (29, aI (List.length a3 : Int)), (30, aI i43)] [(4, .one tM a0), (27, .map tI tI r56)] (by kernel_rfl) ?_
       refine blockQ_norm ?_
       exact exM (by kernel_rfl)
      ·replace h := ofF h55 h
       obtain rfl := Option.some.inj h
       refine wkL [(1, aI a1), (2, aI a2), (4, .one (.ptr 4 0)), (11, .one (.slc 27)), (28, aD (.slice .bool) a3), (29, aI (List.length a3 : Int)), (30, aI i43)] (by kernel_rfl) ?_
       refine blockQ_norm ?_
       exact exM (by kernel_rfl)
     ·intro e fr L hJ
      obtain ⟨rfl, rfl, rfl⟩ := hJ
      refine ltk [(1, aI a1), (2, aI a2), (4, .one (.ptr 4 0)), (11, .one (.slc 27)), (28, aD (.slice .bool) a3), (29, aI (List.length a3 : Int)), (30, aI i43)] [(4, .one tM a0), (27, .map tI tI v58)] (by kernel_rfl) ?_
      refine seqQ_norm ?_
      obtain rfl := Option.some.inj h
      refine swL [(1, aI a1), (2, aI a2), (4, .one (.ptr 4 0)), (11, .one (.slc 27)), (28, aD (.slice .bool) a3), (29, aI (List.length a3 : Int)), (30, aI (w64 (i43 + (1 : Int))))] (by kernel_rfl) ?_
      exact round_next' (by kernel_rfl) (by kernel_rfl)
    ·obtain rfl := stepL_false h48 h
     refine wxL 0 [(1, aI a1), (2, aI a2), (4, .one (.ptr 4 0)), (11, .one (.slc 27))] (by kernel_rfl) ?_
     refine seqQ_exit ?_
     refine round_exit ?_
     exact exM (by kernel_rfl)
   ·intro e fr L hJ
    obtain ⟨rfl, rfl, rfl⟩ := hJ
    refine ltk [(1, aI a1), (2, aI a2), (4, .one (.ptr 4 0)), (11, .one (.slc 27))] [(4, .one tM a0), (27, .map tI tI v61)] (by kernel_rfl) ?_
    refine blockQ_hit ?_
    refine seqQ_norm ?_
    refine sr [(1, aI a1), (2, aI a2), (4, .one (.ptr 4 0)), (11, .one (.slc 27)), (14, aI (0 : Int)), (15, aI (0 : Int))] [(4, .one tM a0), (27, .map tI tI v61)] (by kernel_rfl) ?_
    refine W_seq (by kernel_rfl) ?_
    refine W_block (id := 2) (by kernel_rfl) ?_
    obtain ⟨v92, h93, h⟩ := bind_of h
    refine W_weaken [1, 2, 4, 11, 14, 15] [4, 27] (fr' := ((unroll_Ask_s12 a0 a1) (a2, (0 : Int), (0 : Int), v61)).1) (L' := ((unroll_Ask_s12 a0 a1) (a2, (0 : Int), (0 : Int), v61)).2) (by kernel_rfl) ?_
    refine W_cutK (W_loop (S := (unroll_Ask_s12 a0 a1)) (J := (exQ (.exit 2) (unroll_Ask_s13 a0))) (by kernel_rfl) ?_ fuel _ v92 h93) ?_
    ·rintro x75 s h
     refine W_seq (by kernel_rfl) ?_
     refine W_seq (by kernel_rfl) ?_
     obtain ⟨v87, h88, h⟩ := bind_of h
     refine W_cutK (Q' := (exQ .normal (unroll_Ask_s10 a0 a1 x75)) v87) ?_ ?_
     ·replace h := h88
      refine W_region (by kernel_rfl) ?_
      refine wo 3 [(1, aI a1), (2, aI x75.1), (4, .one (.ptr 4 0)), (11, .one (.slc 27)), (14, aI x75.2.1), (15, aI x75.2.2.1), (42, aB (decide (x75.1 > (0 : Int))))] [(4, .one tM a0), (27, .map tI tI x75.2.2.2)] (by kernel_rfl) ?_
      rcases Bool.eq_false_or_eq_true (decide (x75.1 > (0 : Int))) with h86 | h86
      ·replace h := ofT h86 h
       refine woo 8 [(6, .known true), (8, .known true), (10, .known true), (12, .known true), (15, .val (.dat .bool true))] [(1, aI a1), (2, aI x75.1), (4, .one (.ptr 4 0)), (11, .one (.slc 27)), (14, aI x75.2.1), (15, aI x75.2.2.1), (47, aB (decide (x75.2.1 < a0.1)))] [(4, .one tM a0), (27, .map tI tI x75.2.2.2)] [((decide (x75.1 > (0 : Int))) = true), ((decide (x75.1 > (0 : Int))) = true), ((decide (x75.1 > (0 : Int))) = true), ((decide (x75.1 > (0 : Int))) = true), ((decide (x75.1 > (0 : Int))) = true)] (by kernel_rfl) (allP2 h86 (allP2 h86 (allP2 h86 (allP2 h86 (allP1 h86))))) ?_
       obtain rfl := Option.some.inj h
       refine wfL [(1, aI a1), (2, aI x75.1), (4, .one (.ptr 4 0)), (11, .one (.slc 27)), (14, aI x75.2.1), (15, aI x75.2.2.1), (47, aB (decide (x75.2.1 < a0.1)))] (by kernel_rfl) ?_
       exact exM (by kernel_rfl)
      ·replace h := ofF h86 h
       refine woo 8 [(6, .known false), (8, .known false), (10, .known false), (12, .known false), (15, .val (.dat .bool false))] [(1, aI a1), (2, aI x75.1), (4, .one (.ptr 4 0)), (11, .one (.slc 27)), (14, aI x75.2.1), (15, aI x75.2.2.1), (47, aB false)] [(4, .one tM a0), (27, .map tI tI x75.2.2.2)] [((decide (x75.1 > (0 : Int))) = false), ((decide (x75.1 > (0 : Int))) = false), ((decide (x75.1 > (0 : Int))) = false), ((decide (x75.1 > (0 : Int))) = false), ((decide (x75.1 > (0 : Int))) = false)] (by kernel_rfl) (allP2 h86 (allP2 h86 (allP2 h86 (allP2 h86 (allP1 h86))))) ?_
       obtain rfl := Option.some.inj h
       refine wfL [(1, aI a1), (2, aI x75.1), (4, .one (.ptr 4 0)), (11, .one (.slc 27)), (14, aI x75.2.1), (15, aI x75.2.2.1), (47, aB false)] (by kernel_rfl) ?_
       exact exM (by kernel_rfl)
     ·intro e fr L hJ
      obtain ⟨rfl, rfl, rfl⟩ := hJ
      refine ltk [(1, aI a1), (2, aI x75.1), (4, .one (.ptr 4 0)), (11, .one (.slc 27)), (14, aI x75.2.1), (15, aI x75.2.2.1), (47, aB v87)] [(4, .one tM a0), (27, .map tI tI x75.2.2.2)] (by kernel_rfl) ?_
      refine seqQ_norm ?_
      refine W_cond (o := .tmp 47) (b := v87) (by kernel_rfl) (by kernel_rfl) (fun h89 => ?_) (fun h89 => ?_)
      ·replace h := ofT h89 h
       refine wkL [(1, aI a1), (2, aI x75.1), (4, .one (.ptr 4 0)), (11, .one (.slc 27)), (14, aI x75.2.1), (15, aI x75.2.2.1)] (by kernel_rfl) ?_
       refine seqQ_norm ?_
       refine W_seq (by kernel_rfl) ?_
       refine W_block (id := 3) (by kernel_rfl) ?_
       refine W_seq (by kernel_rfl) ?_
       refine W_region (by kernel_rfl) ?_
       refine woL 4 [(1, aI a1), (2, aI x75.1), (4, .one (.ptr 4 0)), (11, .one (.slc 27)), (14, aI x75.2.1), (15, aI x75.2.2.1), (51, aD tM a0), (52, .one (.slc 27)), (53, aI x75.2.1), (54, aI x75.2.2.1)] (by kernel_rfl) ?_
       obtain ⟨r90, h91, h⟩ := bind_of h
       refine WO_lend [(1000, 27)] (us := [none, none, none, none]) (d := 55) (p := True) (j := 5) rfl ⟨by kernel_rfl, by kernel_rfl, by kernel_rfl⟩ trivial (tape_Step_ok h91) (by kernel_rfl) (by kernel_rfl) ?_
       refine wo 10 [(1, aI a1), (2, aI x75.1), (4, .one (.ptr 4 0)), (11, .one (.slc 27)), (14, aI r90.1), (15, aI r90.2.1)] [(4, .one tM a0), (27, .map tI tI r90.2.2)] (by kernel_rfl) ?_
       refine wfL [(1, aI a1), (2, aI x75.1), (4, .one (.ptr 4 0)), (11, .one (.slc 27)), (14, aI r90.1), (15, aI r90.2.1)] (by kernel_rfl) ?_
       refine seqQ_norm ?_
       refine swL [(1, aI a1), (2, aI x75.1), (4, .one (.ptr 4 0)), (11, .one (.slc 27)), (14, aI r90.1), (15, aI (imin (imax r90.2.1 (0 : Int)) (w64 (a1 - (1 : Int)))))] (by kernel_rfl) ?_
       refine blockQ_norm ?_
       refine seqQ_norm ?_
       obtain rfl := Option.some.inj h
       refine swL [(1, aI a1), (2, aI (w64 (x75.1 - (1 : Int)))), (4, .one (.ptr 4 0)), (11, .one (.slc 27)), (14, aI r90.1), (15, aI (imin (imax r90.2.1 (0 : Int)) (w64 (a1 - (1 : Int)))))] (by kernel_rfl) ?_
       exact round_next' (by kernel_rfl) (by kernel_rfl)
      ·replace h := ofF h89 h
       obtain rfl := Option.some.inj h
       refine wxL 2 [(4, .one (.ptr 4 0)), (11, .one (.slc 27)), (14, aI x75.2.1), (15, aI x75.2.2.1)] (by kernel_rfl) ?_
       refine seqQ_exit ?_
       refine round_exit ?_
       exact exM (by kernel_rfl)
    ·intro e fr L hJ
     obtain ⟨rfl, rfl, rfl⟩ := hJ
     refine ltk [(4, .one (.ptr 4 0)), (11, .one (.slc 27)), (14, aI v92.1), (15, aI v92.2.1)] [(4, .one tM a0), (27, .map tI tI v92.2.2)] (by kernel_rfl) ?_
     refine blockQ_hit ?_
     refine seqQ_norm ?_
     refine sr [(8, aB ((v92.1 == a0.1) && ((Option.getD (mGet (deqT tI) (Option.getD v92.2.2 []) v92.2.1) (0 : Int)) == (1 : Int)))), (9, aI (0 : Int))] [] (by kernel_rfl) ?_
     obtain rfl := Option.some.inj h
     refine wtL [(8, aB ((v92.1 == a0.1) && ((Option.getD (mGet (deqT tI) (Option.getD v92.2.2 []) v92.2.1) (0 : Int)) == (1 : Int)))), (9, aI (0 : Int))] (by kernel_rfl) ?_
     exact retM (by kernel_rfl)

def ref_Bools_b1 (a1 : (List Bool)) (i16 : Int) (v19 : Bool) (x17 : Unit) : Option (Flow Unit (Esc Bool Unit)) :=
(idx a1 i16).bind fun v22 =>
bif !(v19 == v22) then
(some (.done (.ret false)))
else
(some (.next ()))
@[reducible] def ref_Bools_s2 (a0 : (List Bool)) (a1 : (List Bool)) (v : Int × Unit) : Fr × LL := ([(0, aD (.slice .bool) a0), (1, aD (.slice .bool) a1), (5, aI v.1)], [])
@[reducible] def ref_Bools_s3 (v : Bool) : Fr × LL := ([(4, aB v)], [])
@[reducible] def ref_Bools_s4 (v : Unit) : Fr × LL := ([], [])
def ref_Bools (a0 : (List Bool)) (a1 : (List Bool)) : Option Bool :=
bif (List.length a0 : Int) != (List.length a1 : Int) then
(some false)
else
((forL (ref_Bools_b1 a1) (fun x17 => (.brk ())) a0 0 ()).bind fun v26 =>
match v26 with
| .ret v31 =>
(some v31)
| .brk v32 =>
(some true))
theorem ref_Bools_ok {a0 : (List Bool)} {a1 : (List Bool)} {r : Bool} (h : ref_Bools a0 a1 = some r) : FnC Try.prog 27 [aD (.slice .bool) a0, aD (.slice .bool) a1] [] (aB r) [] := by
 refine fnC_of_W (B := bodyOf Try.f27) (n := 26) Try.func27 (by kernel_rfl) (by kernel_rfl) (by kernel_rfl) (by kernel_rfl) (by kernel_rfl) ?_
 intro K
 refine sr [(0, aD (.slice .bool) a0), (1, aD (.slice .bool) a1)] [] (by kernel_rfl) ?_
 refine W_seq (by kernel_rfl) ?_
 refine srL [(0, aD (.slice .bool) a0), (1, aD (.slice .bool) a1), (10, aB ((List.length a0 : Int) != (List.length a1 : Int)))] (by kernel_rfl) ?_
 refine W_cond (o := .tmp 10) (b := (List.length a0 : Int) != (List.length a1 : Int)) (by kernel_rfl) (by kernel_rfl) (fun h1 => ?_) (fun h1 => ?_)
 ·replace h := ofT h1 h
  refine srL [(4, aB false)] (by kernel_rfl) ?_
  obtain rfl := Option.some.inj h
  refine wtL [(4, aB false)] (by kernel_rfl) ?_
  refine seqQ_ret ?_
  exact retM (by kernel_rfl)
 ·replace h := ofF h1 h
  refine wkL [(0, aD (.slice .bool) a0), (1, aD (.slice .bool) a1)] (by kernel_rfl) ?_
  refine seqQ_norm ?_
  refine W_seq (by kernel_rfl) ?_
  refine srL [(0, aD (.slice .bool) a0), (1, aD (.slice .bool) a1), (5, aI (0 : Int))] (by kernel_rfl) ?_
  refine W_block (id := 0) (by kernel_rfl) ?_
  obtain ⟨v26, h27, h⟩ := bind_of h
  refine W_len (t := 0) (u := .bool) (xs := a0) (by kernel_rfl) (fun h30 => ?_)
  obtain ⟨h28, h29⟩ := forL_iter h30 h27
  refine W_weaken [0, 1, 5] [] (fr' := ((ref_Bools_s2 a0 a1) ((0 : Int), ())).1) (L' := ((ref_Bools_s2 a0 a1) ((0 : Int), ())).2) (by kernel_rfl) ?_
  refine W_cutK (W_loop (S := (ref_Bools_s2 a0 a1)) (J := (escQ (exQ .ret ref_Bools_s3) (exQ (.exit 0) ref_Bools_s4))) (by kernel_rfl) ?_ h28 _ v26 h29) ?_
  ·rintro ⟨i16, x17⟩ s h
   refine W_seq (by kernel_rfl) ?_
   refine sr [(0, aD (.slice .bool) a0), (1, aD (.slice .bool) a1), (5, aI i16), (14, aB (decide (i16 < (List.length a0 : Int))))] [] (by kernel_rfl) ?_
   refine W_cond (o := .tmp 14) (b := decide (i16 < (List.length a0 : Int))) (by kernel_rfl) (by kernel_rfl) (fun h21 => ?_) (fun h21 => ?_)
   ·replace h := stepL_true h21 h
    obtain ⟨v19, _, h20, h, rfl⟩ := h
    refine wkL [(0, aD (.slice .bool) a0), (1, aD (.slice .bool) a1), (5, aI i16)] (by kernel_rfl) ?_
    refine seqQ_norm ?_
    refine W_seq (by kernel_rfl) ?_
    refine W_block (id := 1) (by kernel_rfl) ?_
    refine W_seq (by kernel_rfl) ?_
    obtain ⟨v22, h23, h⟩ := bind_of h
    refine W_draw2 9 [(5, .val (.dat .bool v19)), (13, .val (.dat .bool v22))] [] [0, 1, 5, 25] [] (fr' := [(0, aD (.slice .bool) a0), (1, aD (.slice .bool) a1), (5, aI i16), (25, aB (!(v19 == v22)))]) (L' := []) (out := [(17, aD (.slice .bool) a0), (18, aI i16), (19, .one (.dptr .bool v19)), (20, aB v19), (21, aD (.slice .bool) a1), (22, aI i16), (23, .one (.dptr .bool v22)), (24, aB v22), (25, aB (!(v19 == v22)))]) (obs := [Idx a0 i16 v19, Idx a1 i16 v22]) (obs2 := []) (calls := []) (by kernel_rfl) (by kernel_rfl) (by kernel_rfl) (by kernel_rfl) (allP2 (Idx.of h20) (allP1 (Idx.of h23))) allC0 (by kernel_rfl) allP0 ?_
    refine seqQ_norm ?_
    refine W_cond (o := .tmp 25) (b := !(v19 == v22)) (by kernel_rfl) (by kernel_rfl) (fun h24 => ?_) (fun h24 => ?_)
    ·replace h := ofT h24 h
     refine sr [(4, aB false)] [] (by kernel_rfl) ?_
     obtain rfl := Option.some.inj h
     refine wtL [(4, aB false)] (by kernel_rfl) ?_
     refine blockQ_ret ?_
     refine seqQ_ret ?_
     refine round_ret ?_
     refine escQ_ret ?_
     exact exM (by kernel_rfl)
    ·replace h := ofF h24 h
     refine wk [(0, aD (.slice .bool) a0), (1, aD (.slice .bool) a1), (5, aI i16)] [] (by kernel_rfl) ?_
     refine blockQ_norm ?_
     refine seqQ_norm ?_
     obtain rfl := Option.some.inj h
     refine swL [(0, aD (.slice .bool) a0), (1, aD (.slice .bool) a1), (5, aI (w64 (i16 + (1 : Int))))] (by kernel_rfl) ?_
     exact round_next' (by kernel_rfl) (by kernel_rfl)
   ·obtain rfl := stepL_false h21 h
    refine wxL 0 [] (by kernel_rfl) ?_
    refine seqQ_exit ?_
    refine round_exit ?_
    refine escQ_brk ?_
    exact exM (by kernel_rfl)
  ·intro e fr L hJ
   rcases v26 with v31 | v32
   ·obtain ⟨rfl, rfl, rfl⟩ := hJ
    obtain rfl := Option.some.inj h
    refine ltk [(4, aB v31)] [] (by kernel_rfl) ?_
    refine blockQ_ret ?_
    refine seqQ_ret ?_
    exact retM (by kernel_rfl)
   ·obtain ⟨rfl, rfl, rfl⟩ := hJ
    refine ltk [] [] (by kernel_rfl) ?_
    refine blockQ_hit ?_
    refine seqQ_norm ?_
    refine sr [(4, aB true)] [] (by kernel_rfl) ?_
    obtain rfl := Option.some.inj h
    refine wtL [(4, aB true)] (by kernel_rfl) ?_
    exact retM (by kernel_rfl)

def top_TopFaces_g1 (a1 : Int) (r1 : ((List Bool) × Int)) (r3 : (Bool × (List Bool) × Int)) : Option Bool :=
bif (r1.2 != (0 : Int)) || (r3.2.2 != (0 : Int)) then
(some true)
else
((ck (0 ≤ IntKind.wrap .u64 (a1))).bind fun _ =>
some ((List.length r1.1 : Int) != (bShl .i64 (1 : Int) (IntKind.wrap .u64 (a1)))))
@[reducible] def top_TopFaces_s15 (a0 : (Int × (Int × (List (List (Int × (Int × Int))))))) (a1 : Int) (a2 : Int) (r1 : ((List Bool) × Int)) (r3 : (Bool × (List Bool) × Int)) (x74 : (Int × Int)) (r168 : (Bool × Int)) (v : Bool) : Fr × LL := ([(1, aI a1), (2, aI a2), (3, .one (.ptr 3 0)), (7, aD (.slice .bool) r1.1), (9, aB r3.1), (10, aD (.slice .bool) r3.2.1), (12, aI x74.1), (13, aI x74.2), (14, aB r168.1), (82, aB v)], [(3, .one tM a0)])
def top_TopFaces_g16 (a0 : (Int × (Int × (List (List (Int × (Int × Int))))))) (a1 : Int) (a2 : Int) (fuel : Nat) (r1 : ((List Bool) × Int)) (x74 : (Int × Int)) : Option (Esc Bool Int) :=
(ref_Bits a1 x74.2).bind fun r166 =>
(unroll_Ask fuel a0 a1 a2 r166).bind fun r168 =>
(bif r168.2 != (0 : Int) then
(some true)
else
((idx r1.1 x74.2).bind fun v177 =>
some (!(r168.1 == v177)))).bind fun v179 =>
bif v179 then
(some (.ret false))
else
(bif r168.1 then
(some (.brk x74.2))
else
(some (.brk x74.1)))
@[reducible] def top_TopFaces_s17 (v : Bool) : Fr × LL := ([(6, aB v)], [])
@[reducible] def top_TopFaces_s18 (a0 : (Int × (Int × (List (List (Int × (Int × Int))))))) (a1 : Int) (a2 : Int) (r1 : ((List Bool) × Int)) (r3 : (Bool × (List Bool) × Int)) (x74 : (Int × Int)) (v : Int) : Fr × LL := ([(1, aI a1), (2, aI a2), (3, .one (.ptr 3 0)), (7, aD (.slice .bool) r1.1), (9, aB r3.1), (10, aD (.slice .bool) r3.2.1), (12, aI v), (13, aI x74.2)], [(3, .one tM a0)])
def top_TopFaces_b19 (a0 : (Int × (Int × (List (List (Int × (Int × Int))))))) (a1 : Int) (a2 : Int) (fuel : Nat) (r1 : ((List Bool) × Int)) (x74 : (Int × Int)) : Option (Flow (Int × Int) (Esc Bool Int)) :=
bif decide (x74.2 ≥ (0 : Int)) then
((top_TopFaces_g16 a0 a1 a2 fuel r1 x74).bind fun v183 =>
match v183 with
| .ret v185 =>
(some (.done (.ret v185)))
| .brk v186 =>
(some (.next (v186, w64 (x74.2 - (1 : Int))))))
else
(some (.done (.brk x74.1)))
@[reducible] def top_TopFaces_s20 (a0 : (Int × (Int × (List (List (Int × (Int × Int))))))) (a1 : Int) (a2 : Int) (r1 : ((List Bool) × Int)) (r3 : (Bool × (List Bool) × Int)) (v : (Int × Int)) : Fr × LL := ([(1, aI a1), (2, aI a2), (3, .one (.ptr 3 0)), (7, aD (.slice .bool) r1.1), (9, aB r3.1), (10, aD (.slice .bool) r3.2.1), (12, aI v.1), (13, aI v.2)], [(3, .one tM a0)])
@[reducible] def top_TopFaces_s21 (v : Bool) : Fr × LL := ([(6, aB v)], [])
@[reducible] def top_TopFaces_s22 (a1 : Int) (r3 : (Bool × (List Bool) × Int)) (v : Int) : Fr × LL := ([(1, aI a1), (9, aB r3.1), (10, aD (.slice .bool) r3.2.1), (12, aI v)], [])
@[reducible] def top_TopFaces_s23 (v : Bool) : Fr × LL := ([(6, aB v)], [])
@[reducible] def top_TopFaces_s24 (a0 : (Int × (Int × (List (List (Int × (Int × Int))))))) (a1 : Int) (a2 : Int) (r1 : ((List Bool) × Int)) (r3 : (Bool × (List Bool) × Int)) (v : Bool) : Fr × LL := ([(1, aI a1), (2, aI a2), (3, .one (.ptr 3 0)), (7, aD (.slice .bool) r1.1), (9, aB r3.1), (10, aD (.slice .bool) r3.2.1), (55, aB v)], [(3, .one tM a0)])
def top_TopFaces (fuel : Nat) (a0 : (Int × (Int × (List (List (Int × (Int × Int))))))) (a1 : Int) (a2 : Int) : Option Bool :=
(whole_Ask fuel a0 a1 a2).bind fun r1 =>
(whole_Some fuel a0 a1 a2).bind fun r3 =>
(ref_UnrollCheck a0 a1 a2).bind fun r5 =>
bif r5 != (0 : Int) then
(some ((r1.2 != (0 : Int)) && (r3.2.2 != (0 : Int))))
else
((top_TopFaces_g1 a1 r1 r3).bind fun v14 =>
bif v14 then
(some false)
else
((iter (top_TopFaces_b19 a0 a1 a2 fuel r1) fuel ((-1 : Int), w64 ((List.length r1.1 : Int) - (1 : Int)))).bind fun v187 =>
match v187 with
| .ret v191 =>
(some v191)
| .brk v192 =>
(bif decide (v192 < (0 : Int)) then
(some ((!r3.1) && ((List.length r3.2.1 : Int) == (0 : Int))))
else
((bif r3.1 then
((ref_Bits a1 v192).bind fun r205 =>
(ref_Bools r3.2.1 r205).bind fun r207 =>
some r207)
else
(some false)).bind fun v209 =>
some v209))))
theorem top_TopFaces_ok {fuel : Nat} {a0 : (Int × (Int × (List (List (Int × (Int × Int))))))} {a1 : Int} {a2 : Int} {r : Bool} (h : top_TopFaces fuel a0 a1 a2 = some r) : FnC Try.prog 6 [aD tM a0, aI a1, aI a2] [] (aB r) [] := by
 refine fnC_of_W (B := bodyOf Try.f6) (n := 102) Try.func6 (by kernel_rfl) (by kernel_rfl) (by kernel_rfl) (by kernel_rfl) (by kernel_rfl) ?_
 intro K
 refine sr [(1, aI a1), (2, aI a2), (3, .one (.ptr 3 0))] [(3, .one tM a0)] (by kernel_rfl) ?_
 refine W_seq (by kernel_rfl) ?_
 refine W_region (by kernel_rfl) ?_
 refine woL 3 [(1, aI a1), (2, aI a2), (3, .one (.ptr 3 0)), (17, aD tM a0), (18, aI a1), (19, aI a2)] (by kernel_rfl) ?_
 obtain ⟨r1, h2, h⟩ := bind_of h
 refine WO_call0 (us := [none, none, none]) (d := 20) (p := True) (j := 4) rfl ⟨by kernel_rfl, by kernel_rfl, by kernel_rfl⟩ trivial (whole_Ask_ok h2) (by kernel_rfl) ?_
 refine wo 9 [(1, aI a1), (2, aI a2), (3, .one (.ptr 3 0)), (7, aD (.slice .bool) r1.1), (8, aI r1.2)] [(3, .one tM a0)] (by kernel_rfl) ?_
 refine wfL [(1, aI a1), (2, aI a2), (3, .one (.ptr 3 0)), (7, aD (.slice .bool) r1.1), (8, aI r1.2)] (by kernel_rfl) ?_
 refine seqQ_norm ?_
 refine W_seq (by kernel_rfl) ?_
 refine W_region (by kernel_rfl) ?_
 refine woL 3 [(1, aI a1), (2, aI a2), (3, .one (.ptr 3 0)), (7, aD (.slice .bool) r1.1), (8, aI r1.2), (24, aD tM a0), (25, aI a1), (26, aI a2)] (by kernel_rfl) ?_
 obtain ⟨r3, h4, h⟩ := bind_of h
 refine WO_call0 (us := [none, none, none]) (d := 27) (p := True) (j := 4) rfl ⟨by kernel_rfl, by kernel_rfl, by kernel_rfl⟩ trivial (whole_Some_ok h4) (by kernel_rfl) ?_
 refine wo 11 [(1, aI a1), (2, aI a2), (3, .one (.ptr 3 0)), (7, aD (.slice .bool) r1.1), (8, aI r1.2), (9, aB r3.1), (10, aD (.slice .bool) r3.2.1), (11, aI r3.2.2)] [(3, .one tM a0)] (by kernel_rfl) ?_
 refine wfL [(1, aI a1), (2, aI a2), (3, .one (.ptr 3 0)), (7, aD (.slice .bool) r1.1), (8, aI r1.2), (9, aB r3.1), (10, aD (.slice .bool) r3.2.1), (11, aI r3.2.2)] (by kernel_rfl) ?_
 refine seqQ_norm ?_
 refine W_seq (by kernel_rfl) ?_
 refine W_seq (by kernel_rfl) ?_
 refine W_region (by kernel_rfl) ?_
 refine woL 3 [(1, aI a1), (2, aI a2), (3, .one (.ptr 3 0)), (7, aD (.slice .bool) r1.1), (8, aI r1.2), (9, aB r3.1), (10, aD (.slice .bool) r3.2.1), (11, aI r3.2.2), (31, aD tM a0), (32, aI a1), (33, aI a2)] (by kernel_rfl) ?_
 obtain ⟨r5, h6, h⟩ := bind_of h
 refine WO_call0 (us := [none, none, none]) (d := 34) (p := True) (j := 4) rfl ⟨by kernel_rfl, by kernel_rfl, by kernel_rfl⟩ trivial (ref_UnrollCheck_ok h6) (by kernel_rfl) ?_
 refine wo 5 [(1, aI a1), (2, aI a2), (3, .one (.ptr 3 0)), (7, aD (.slice .bool) r1.1), (8, aI r1.2), (9, aB r3.1), (10, aD (.slice .bool) r3.2.1), (11, aI r3.2.2), (35, aB (r5 != (0 : Int)))] [(3, .one tM a0)] (by kernel_rfl) ?_
 refine wfL [(1, aI a1), (2, aI a2), (3, .one (.ptr 3 0)), (7, aD (.slice .bool) r1.1), (8, aI r1.2), (9, aB r3.1), (10, aD (.slice .bool) r3.2.1), (11, aI r3.2.2), (35, aB (r5 != (0 : Int)))] (by kernel_rfl) ?_
 refine seqQ_norm ?_
 refine W_cond (o := .tmp 35) (b := r5 != (0 : Int)) (by kernel_rfl) (by kernel_rfl) (fun h7 => ?_) (fun h7 => ?_)
 ·replace h := ofT h7 h
  refine sr [(6, aB ((r1.2 != (0 : Int)) && (r3.2.2 != (0 : Int))))] [] (by kernel_rfl) ?_
  obtain rfl := Option.some.inj h
  refine wtL [(6, aB ((r1.2 != (0 : Int)) && (r3.2.2 != (0 : Int))))] (by kernel_rfl) ?_
  refine seqQ_ret ?_
  exact retM (by kernel_rfl)
 ·replace h := ofF h7 h
  refine wkL [(1, aI a1), (2, aI a2), (3, .one (.ptr 3 0)), (7, aD (.slice .bool) r1.1), (8, aI r1.2), (9, aB r3.1), (10, aD (.slice .bool) r3.2.1), (11, aI r3.2.2)] (by kernel_rfl) ?_
  refine seqQ_norm ?_
  refine W_seq (by kernel_rfl) ?_
  refine W_seq (by kernel_rfl) ?_
  obtain ⟨v14, h15, h⟩ := bind_of h
  refine W_cutK (Q' := (exQ .normal (top_TopFaces_s24 a0 a1 a2 r1 r3)) v14) ?_ ?_
  ·replace h := h15
   refine W_region (by kernel_rfl) ?_
   refine wo 7 [(1, aI a1), (2, aI a2), (3, .one (.ptr 3 0)), (7, aD (.slice .bool) r1.1), (9, aB r3.1), (10, aD (.slice .bool) r3.2.1), (48, aB ((r1.2 != (0 : Int)) || (r3.2.2 != (0 : Int))))] [(3, .one tM a0)] (by kernel_rfl) ?_
   rcases Bool.eq_false_or_eq_true ((r1.2 != (0 : Int)) || (r3.2.2 != (0 : Int))) with h12 | h12
   ·replace h := ofT h12 h
    refine woo 14 [(14, .known true), (16, .known true), (18, .known true), (20, .known true), (22, .known true), (24, .known true), (27, .val (.dat .bool true))] [(1, aI a1), (2, aI a2), (3, .one (.ptr 3 0)), (7, aD (.slice .bool) r1.1), (9, aB r3.1), (10, aD (.slice .bool) r3.2.1), (55, aB true)] [(3, .one tM a0)] [(((r1.2 != (0 : Int)) || (r3.2.2 != (0 : Int))) = true), (((r1.2 != (0 : Int)) || (r3.2.2 != (0 : Int))) = true), (((r1.2 != (0 : Int)) || (r3.2.2 != (0 : Int))) = true), (((r1.2 != (0 : Int)) || (r3.2.2 != (0 : Int))) = true), (((r1.2 != (0 : Int)) || (r3.2.2 != (0 : Int))) = true), (((r1.2 != (0 : Int)) || (r3.2.2 != (0 : Int))) = true), (((r1.2 != (0 : Int)) || (r3.2.2 != (0 : Int))) = true)] (by kernel_rfl) (allP2 h12 (allP2 h12 (allP2 h12 (allP2 h12 (allP2 h12 (allP2 h12 (allP1 h12))))))) ?_
    obtain rfl := Option.some.inj h
    refine wfL [(1, aI a1), (2, aI a2), (3, .one (.ptr 3 0)), (7, aD (.slice .bool) r1.1), (9, aB r3.1), (10, aD (.slice .bool) r3.2.1), (55, aB true)] (by kernel_rfl) ?_
    exact exM (by kernel_rfl)
   ·replace h := ofF h12 h
    obtain ⟨_, h13, h⟩ := bind_of h
    replace h13 := ck_some h13
    refine woo 14 [(14, .known false), (16, .known false), (18, .known false), (20, .known false), (22, .known false), (24, .known false), (27, .val (.dat .bool false))] [(1, aI a1), (2, aI a2), (3, .one (.ptr 3 0)), (7, aD (.slice .bool) r1.1), (9, aB r3.1), (10, aD (.slice .bool) r3.2.1), (55, aB ((List.length r1.1 : Int) != (bShl .i64 (1 : Int) (IntKind.wrap .u64 (a1)))))] [(3, .one tM a0)] [(((r1.2 != (0 : Int)) || (r3.2.2 != (0 : Int))) = false), (((r1.2 != (0 : Int)) || (r3.2.2 != (0 : Int))) = false), (((r1.2 != (0 : Int)) || (r3.2.2 != (0 : Int))) = false), (((r1.2 != (0 : Int)) || (r3.2.2 != (0 : Int))) = false), (((r1.2 != (0 : Int)) || (r3.2.2 != (0 : Int))) = false), (0 ≤ IntKind.wrap .u64 (a1)), (((r1.2 != (0 : Int)) || (r3.2.2 != (0 : Int))) = false), (((r1.2 != (0 : Int)) || (r3.2.2 != (0 : Int))) = false)] (by kernel_rfl) (allP2 h12 (allP2 h12 (allP2 h12 (allP2 h12 (allP2 h12 (allP2 h13 (allP2 h12 (allP1 h12)))))))) ?_
    obtain rfl := Option.some.inj h
    refine wfL [(1, aI a1), (2, aI a2), (3, .one (.ptr 3 0)), (7, aD (.slice .bool) r1.1), (9, aB r3.1), (10, aD (.slice .bool) r3.2.1), (55, aB ((List.length r1.1 : Int) != (bShl .i64 (1 : Int) (IntKind.wrap .u64 (a1)))))] (by kernel_rfl) ?_
    exact exM (by kernel_rfl)
  ·intro e fr L hJ
   obtain ⟨rfl, rfl, rfl⟩ := hJ
   refine ltk [(1, aI a1), (2, aI a2), (3, .one (.ptr 3 0)), (7, aD (.slice .bool) r1.1), (9, aB r3.1), (10, aD (.slice .bool) r3.2.1), (55, aB v14)] [(3, .one tM a0)] (by kernel_rfl) ?_
   refine seqQ_norm ?_
   refine W_cond (o := .tmp 55) (b := v14) (by kernel_rfl) (by kernel_rfl) (fun h16 => ?_) (fun h16 => ?_)
   ·replace h := ofT h16 h
    refine sr [(6, aB false)] [] (by kernel_rfl) ?_
    obtain rfl := Option.some.inj h
    refine wtL [(6, aB false)] (by kernel_rfl) ?_
    refine seqQ_ret ?_
    exact retM (by kernel_rfl)
   ·replace h := ofF h16 h
    refine wkL [(1, aI a1), (2, aI a2), (3, .one (.ptr 3 0)), (7, aD (.slice .bool) r1.1), (9, aB r3.1), (10, aD (.slice .bool) r3.2.1)] (by kernel_rfl) ?_
    refine seqQ_norm ?_
    refine srL [(1, aI a1), (2, aI a2), (3, .one (.ptr 3 0)), (7, aD (.slice .bool) r1.1), (9, aB r3.1), (10, aD (.slice .bool) r3.2.1), (12, aI (-1 : Int))] (by kernel_rfl) ?_
    refine W_seq (by kernel_rfl) ?_
    refine srL [(1, aI a1), (2, aI a2), (3, .one (.ptr 3 0)), (7, aD (.slice .bool) r1.1), (9, aB r3.1), (10, aD (.slice .bool) r3.2.1), (12, aI (-1 : Int)), (13, aI (w64 ((List.length r1.1 : Int) - (1 : Int))))] (by kernel_rfl) ?_
    refine W_block (id := 0) (by kernel_rfl) ?_
    obtain ⟨v187, h188, h⟩ := bind_of h
    refine W_weaken [1, 2, 3, 7, 9, 10, 12, 13] [3] (fr' := ((top_TopFaces_s20 a0 a1 a2 r1 r3) ((-1 : Int), w64 ((List.length r1.1 : Int) - (1 : Int)))).1) (L' := ((top_TopFaces_s20 a0 a1 a2 r1 r3) ((-1 : Int), w64 ((List.length r1.1 : Int) - (1 : Int)))).2) (by kernel_rfl) ?_
    refine W_cutK (W_loop (S := (top_TopFaces_s20 a0 a1 a2 r1 r3)) (J := (escQ (exQ .ret top_TopFaces_s21) (exQ (.exit 0) (top_TopFaces_s22 a1 r3)))) (by kernel_rfl) ?_ fuel _ v187 h188) ?_
    ·rintro x74 s h
     refine W_seq (by kernel_rfl) ?_
     refine sr [(1, aI a1), (2, aI a2), (3, .one (.ptr 3 0)), (7, aD (.slice .bool) r1.1), (9, aB r3.1), (10, aD (.slice .bool) r3.2.1), (12, aI x74.1), (13, aI x74.2), (60, aB (decide (x74.2 ≥ (0 : Int))))] [(3, .one tM a0)] (by kernel_rfl) ?_
     refine W_cond (o := .tmp 60) (b := decide (x74.2 ≥ (0 : Int))) (by kernel_rfl) (by kernel_rfl) (fun h131 => ?_) (fun h131 => ?_)
     ·replace h := ofT h131 h
      refine wkL [(1, aI a1), (2, aI a2), (3, .one (.ptr 3 0)), (7, aD (.slice .bool) r1.1), (9, aB r3.1), (10, aD (.slice .bool) r3.2.1), (12, aI x74.1), (13, aI x74.2)] (by kernel_rfl) ?_
      refine seqQ_norm ?_
      refine W_seq (by kernel_rfl) ?_
      obtain ⟨v183, h184, h⟩ := bind_of h
      refine W_cutK (Q' := (escQ (exQ .ret top_TopFaces_s17) (exQ .normal (top_TopFaces_s18 a0 a1 a2 r1 r3 x74))) v183) ?_ ?_
      ·replace h := h184
       refine W_block (id := 1) (by kernel_rfl) ?_
       refine W_seq (by kernel_rfl) ?_
       obtain ⟨r166, h167, h⟩ := bind_of h
       obtain ⟨r168, h169, h⟩ := bind_of h
       refine W_draw2 11 [] [(5, [none, none], aD (.slice .bool) r166), (6, [none, none, none, none], .tup [.dat .bool r168.1, .dat tI r168.2])] [1, 2, 3, 7, 9, 10, 12, 13, 14, 15] [3] (fr' := [(1, aI a1), (2, aI a2), (3, .one (.ptr 3 0)), (7, aD (.slice .bool) r1.1), (9, aB r3.1), (10, aD (.slice .bool) r3.2.1), (12, aI x74.1), (13, aI x74.2), (14, aB r168.1), (15, aI r168.2)]) (L' := [(3, .one tM a0)]) (out := [(64, aD tM a0), (65, aI a1), (66, aI a2), (67, aI a1), (68, aI x74.2), (69, aD (.slice .bool) r166), (70, .tup [.dat .bool r168.1, .dat tI r168.2]), (63, .tup [.dat .bool r168.1, .dat tI r168.2]), (71, aB r168.1), (72, aI r168.2), (14, aB r168.1)]) (obs := [True, True]) (obs2 := []) (calls := [(32, [aI a1, aI x74.2], aD (.slice .bool) r166), (31, [aD tM a0, aI a1, aI a2, aD (.slice .bool) r166], .tup [.dat .bool r168.1, .dat tI r168.2])]) (by kernel_rfl) (by kernel_rfl) (by kernel_rfl) (by kernel_rfl) (allP2 trivial (allP1 trivial)) (allC1 (by kernel_rfl) (ref_Bits_ok h167) (by kernel_rfl) (allC1 (by kernel_rfl) (unroll_Ask_ok h169) (by kernel_rfl) allC0)) (by kernel_rfl) allP0 ?_
       refine seqQ_norm ?_
       refine W_seq (by kernel_rfl) ?_
       refine W_seq (by kernel_rfl) ?_
       obtain ⟨v179, h180, h⟩ := bind_of h
       refine W_cutK (Q' := (exQ .normal (top_TopFaces_s15 a0 a1 a2 r1 r3 x74 r168)) v179) ?_ ?_
       ·replace h := h180
        refine W_region (by kernel_rfl) ?_
        refine wo 3 [(1, aI a1), (2, aI a2), (3, .one (.ptr 3 0)), (7, aD (.slice .bool) r1.1), (9, aB r3.1), (10, aD (.slice .bool) r3.2.1), (12, aI x74.1), (13, aI x74.2), (14, aB r168.1), (75, aB (r168.2 != (0 : Int)))] [(3, .one tM a0)] (by kernel_rfl) ?_
        rcases Bool.eq_false_or_eq_true (r168.2 != (0 : Int)) with h176 | h176
        ·replace h := ofT h176 h
         refine woo 10 [(6, .known true), (8, .known true), (10, .known true), (12, .known true), (14, .known true), (16, .known true), (19, .val (.dat .bool true))] [(1, aI a1), (2, aI a2), (3, .one (.ptr 3 0)), (7, aD (.slice .bool) r1.1), (9, aB r3.1), (10, aD (.slice .bool) r3.2.1), (12, aI x74.1), (13, aI x74.2), (14, aB r168.1), (82, aB true)] [(3, .one tM a0)] [((r168.2 != (0 : Int)) = true), ((r168.2 != (0 : Int)) = true), ((r168.2 != (0 : Int)) = true), ((r168.2 != (0 : Int)) = true), ((r168.2 != (0 : Int)) = true), ((r168.2 != (0 : Int)) = true), ((r168.2 != (0 : Int)) = true)] (by kernel_rfl) (allP2 h176 (allP2 h176 (allP2 h176 (allP2 h176 (allP2 h176 (allP2 h176 (allP1 h176))))))) ?_
         obtain rfl := Option.some.inj h
         refine wfL [(1, aI a1), (2, aI a2), (3, .one (.ptr 3 0)), (7, aD (.slice .bool) r1.1), (9, aB r3.1), (10, aD (.slice .bool) r3.2.1), (12, aI x74.1), (13, aI x74.2), (14, aB r168.1), (82, aB true)] (by kernel_rfl) ?_
         exact exM (by kernel_rfl)
        ·replace h := ofF h176 h
         obtain ⟨v177, h178, h⟩ := bind_of h
         refine woo 10 [(6, .known false), (8, .known false), (10, .known false), (12, .known false), (13, .val (.dat .bool v177)), (14, .known false), (16, .known false), (19, .val (.dat .bool false))] [(1, aI a1), (2, aI a2), (3, .one (.ptr 3 0)), (7, aD (.slice .bool) r1.1), (9, aB r3.1), (10, aD (.slice .bool) r3.2.1), (12, aI x74.1), (13, aI x74.2), (14, aB r168.1), (82, aB (!(r168.1 == v177)))] [(3, .one tM a0)] [((r168.2 != (0 : Int)) = false), ((r168.2 != (0 : Int)) = false), ((r168.2 != (0 : Int)) = false), ((r168.2 != (0 : Int)) = false), Idx r1.1 x74.2 v177, ((r168.2 != (0 : Int)) = false), ((r168.2 != (0 : Int)) = false), ((r168.2 != (0 : Int)) = false)] (by kernel_rfl) (allP2 h176 (allP2 h176 (allP2 h176 (allP2 h176 (allP2 (Idx.of h178) (allP2 h176 (allP2 h176 (allP1 h176)))))))) ?_
         obtain rfl := Option.some.inj h
         refine wfL [(1, aI a1), (2, aI a2), (3, .one (.ptr 3 0)), (7, aD (.slice .bool) r1.1), (9, aB r3.1), (10, aD (.slice .bool) r3.2.1), (12, aI x74.1), (13, aI x74.2), (14, aB r168.1), (82, aB (!(r168.1 == v177)))] (by kernel_rfl) ?_
         exact exM (by kernel_rfl)
       ·intro e fr L hJ
        obtain ⟨rfl, rfl, rfl⟩ := hJ
        refine ltk [(1, aI a1), (2, aI a2), (3, .one (.ptr 3 0)), (7, aD (.slice .bool) r1.1), (9, aB r3.1), (10, aD (.slice .bool) r3.2.1), (12, aI x74.1), (13, aI x74.2), (14, aB r168.1), (82, aB v179)] [(3, .one tM a0)] (by kernel_rfl) ?_
        refine seqQ_norm ?_
        refine W_cond (o := .tmp 82) (b := v179) (by kernel_rfl) (by kernel_rfl) (fun h181 => ?_) (fun h181 => ?_)
        ·replace h := ofT h181 h
         refine sr [(6, aB false)] [] (by kernel_rfl) ?_
         obtain rfl := Option.some.inj h
         refine wtL [(6, aB false)] (by kernel_rfl) ?_
         refine seqQ_ret ?_
         refine blockQ_ret ?_
         refine escQ_ret ?_
         exact exM (by kernel_rfl)
        ·replace h := ofF h181 h
         refine wkL [(1, aI a1), (2, aI a2), (3, .one (.ptr 3 0)), (7, aD (.slice .bool) r1.1), (9, aB r3.1), (10, aD (.slice .bool) r3.2.1), (12, aI x74.1), (13, aI x74.2), (14, aB r168.1)] (by kernel_rfl) ?_
         refine seqQ_norm ?_
         refine srL [(1, aI a1), (2, aI a2), (3, .one (.ptr 3 0)), (7, aD (.slice .bool) r1.1), (9, aB r3.1), (10, aD (.slice .bool) r3.2.1), (12, aI x74.1), (13, aI x74.2), (83, aB r168.1)] (by kernel_rfl) ?_
         refine W_cond (o := .tmp 83) (b := r168.1) (by kernel_rfl) (by kernel_rfl) (fun h182 => ?_) (fun h182 => ?_)
         ·replace h := ofT h182 h
          obtain rfl := Option.some.inj h
          refine swL [(1, aI a1), (2, aI a2), (3, .one (.ptr 3 0)), (7, aD (.slice .bool) r1.1), (9, aB r3.1), (10, aD (.slice .bool) r3.2.1), (12, aI x74.2), (13, aI x74.2)] (by kernel_rfl) ?_
          refine blockQ_norm ?_
          refine escQ_brk ?_
          exact exM (by kernel_rfl)
         ·replace h := ofF h182 h
          obtain rfl := Option.some.inj h
          refine wkL [(1, aI a1), (2, aI a2), (3, .one (.ptr 3 0)), (7, aD (.slice .bool) r1.1), (9, aB r3.1), (10, aD (.slice .bool) r3.2.1), (12, aI x74.1), (13, aI x74.2)] (by kernel_rfl) ?_
          refine blockQ_norm ?_
          refine escQ_brk ?_
          exact exM (by kernel_rfl)
      ·intro e fr L hJ
       rcases v183 with v185 | v186
       ·obtain ⟨rfl, rfl, rfl⟩ := hJ
        obtain rfl := Option.some.inj h
        refine ltk [(6, aB v185)] [] (by kernel_rfl) ?_
        refine seqQ_ret ?_
        refine round_ret ?_
        refine escQ_ret ?_
        exact exM (by kernel_rfl)
       ·obtain ⟨rfl, rfl, rfl⟩ := hJ
        refine ltk [(1, aI a1), (2, aI a2), (3, .one (.ptr 3 0)), (7, aD (.slice .bool) r1.1), (9, aB r3.1), (10, aD (.slice .bool) r3.2.1), (12, aI v186), (13, aI x74.2)] [(3, .one tM a0)] (by kernel_rfl) ?_
        refine seqQ_norm ?_
        obtain rfl := Option.some.inj h
        refine swL [(1, aI a1), (2, aI a2), (3, .one (.ptr 3 0)), (7, aD (.slice .bool) r1.1), (9, aB r3.1), (10, aD (.slice .bool) r3.2.1), (12, aI v186), (13, aI (w64 (x74.2 - (1 : Int))))] (by kernel_rfl) ?_
        exact round_next' (by kernel_rfl) (by kernel_rfl)
     ·replace h := ofF h131 h
      obtain rfl := Option.some.inj h
      refine wx 0 [(1, aI a1), (9, aB r3.1), (10, aD (.slice .bool) r3.2.1), (12, aI x74.1)] [] (by kernel_rfl) ?_
      refine seqQ_exit ?_
      refine round_exit ?_
      refine escQ_brk ?_
      exact exM (by kernel_rfl)
    ·intro e fr L hJ
     rcases v187 with v191 | v192
     ·obtain ⟨rfl, rfl, rfl⟩ := hJ
      obtain rfl := Option.some.inj h
      refine ltk [(6, aB v191)] [] (by kernel_rfl) ?_
      refine blockQ_ret ?_
      refine seqQ_ret ?_
      exact retM (by kernel_rfl)
     ·obtain ⟨rfl, rfl, rfl⟩ := hJ
      refine ltk [(1, aI a1), (9, aB r3.1), (10, aD (.slice .bool) r3.2.1), (12, aI v192)] [] (by kernel_rfl) ?_
      refine blockQ_hit ?_
      refine seqQ_norm ?_
      refine W_seq (by kernel_rfl) ?_
      refine sr [(1, aI a1), (9, aB r3.1), (10, aD (.slice .bool) r3.2.1), (12, aI v192), (86, aB (decide (v192 < (0 : Int))))] [] (by kernel_rfl) ?_
      refine W_cond (o := .tmp 86) (b := decide (v192 < (0 : Int))) (by kernel_rfl) (by kernel_rfl) (fun h193 => ?_) (fun h193 => ?_)
      ·replace h := ofT h193 h
       refine srL [(6, aB ((!r3.1) && ((List.length r3.2.1 : Int) == (0 : Int))))] (by kernel_rfl) ?_
       obtain rfl := Option.some.inj h
       refine wtL [(6, aB ((!r3.1) && ((List.length r3.2.1 : Int) == (0 : Int))))] (by kernel_rfl) ?_
       refine seqQ_ret ?_
       exact retM (by kernel_rfl)
      ·replace h := ofF h193 h
       refine wkL [(1, aI a1), (9, aB r3.1), (10, aD (.slice .bool) r3.2.1), (12, aI v192)] (by kernel_rfl) ?_
       refine seqQ_norm ?_
       refine W_seq (by kernel_rfl) ?_
       obtain ⟨v209, h210, h⟩ := bind_of h
       refine W_cutK (Q' := (exQ .normal top_TopFaces_s23) v209) ?_ ?_
       ·replace h := h210
        refine W_region (by kernel_rfl) ?_
        refine wo 2 [(1, aI a1), (10, aD (.slice .bool) r3.2.1), (12, aI v192), (95, aB r3.1)] [] (by kernel_rfl) ?_
        rcases Bool.eq_false_or_eq_true (r3.1) with h204 | h204
        ·replace h := ofT h204 h
         refine woo 5 [(4, .known true), (6, .known true), (8, .known true)] [(95, aB r3.1), (96, aD (.slice .bool) r3.2.1), (97, aI a1), (98, aI v192)] [] [(r3.1 = true), (r3.1 = true), (r3.1 = true)] (by kernel_rfl) (allP2 h204 (allP2 h204 (allP1 h204))) ?_
         obtain ⟨r205, h206, h⟩ := bind_of h
         refine WO_call0 (us := [none, none]) (d := 99) (p := (r3.1 = true)) (j := 6) rfl ⟨by kernel_rfl, by kernel_rfl, by kernel_rfl⟩ h204 (ref_Bits_ok h206) (by kernel_rfl) ?_
         obtain ⟨r207, h208, h⟩ := bind_of h
         refine WO_call0 (us := [none, none]) (d := 100) (p := (r3.1 = true)) (j := 7) rfl ⟨by kernel_rfl, by kernel_rfl, by kernel_rfl⟩ h204 (ref_Bools_ok h208) (by kernel_rfl) ?_
         refine woo 9 [(15, .val (.dat .bool true))] [(6, aB r207)] [] [(r3.1 = true)] (by kernel_rfl) (allP1 h204) ?_
         obtain rfl := Option.some.inj h
         refine wfL [(6, aB r207)] (by kernel_rfl) ?_
         exact exM (by kernel_rfl)
        ·replace h := ofF h204 h
         refine woo 9 [(4, .known false), (6, .known false), (8, .known false), (10, .known false), (12, .known false), (15, .val (.dat .bool false))] [(6, aB false)] [] [(r3.1 = false), (r3.1 = false), (r3.1 = false), (r3.1 = false), (r3.1 = false), (r3.1 = false)] (by kernel_rfl) (allP2 h204 (allP2 h204 (allP2 h204 (allP2 h204 (allP2 h204 (allP1 h204)))))) ?_
         obtain rfl := Option.some.inj h
         refine wfL [(6, aB false)] (by kernel_rfl) ?_
         exact exM (by kernel_rfl)
       ·intro e fr L hJ
        obtain ⟨rfl, rfl, rfl⟩ := hJ
        refine ltk [(6, aB v209)] [] (by kernel_rfl) ?_
        refine seqQ_norm ?_
        obtain rfl := Option.some.inj h
        refine wtL [(6, aB v209)] (by kernel_rfl) ?_
        exact retM (by kernel_rfl)
end Go.Proofs.Ytnblafiefaalgaa.topFaces
