/- What the functions that WholeSomes calls compute, as models, and that they compute it: written by a program of mine. -/
import Derived.Test.YtnblafiefaalgaaProg
import Derived.Test.YtnblafiefaalgaaWholeSomesM2
set_option linter.all false
set_option maxRecDepth 100000
namespace Go.Proofs.Ytnblafiefaalgaa.wholeSomes
open Go Go.Sl
def gate_All_g11 (a1 : (List Bool)) (x168 : (List Bool)) (v170 : (Int × (Int × Int))) : Option Bool :=
bif v170.1 == (1 : Int) then
((idx a1 v170.2.1).bind fun v267 =>
some v267)
else
(bif v170.1 == (2 : Int) then
((idx x168 v170.2.1).bind fun v270 =>
some (!v270))
else
(bif v170.1 == (3 : Int) then
((idx x168 v170.2.1).bind fun v273 =>
bif v273 then
((idx x168 v170.2.2).bind fun v276 =>
some v276)
else
(some false))
else
(bif v170.1 == (4 : Int) then
((idx x168 v170.2.1).bind fun v279 =>
bif v279 then
(some true)
else
((idx x168 v170.2.2).bind fun v282 =>
some v282))
else
(some false))))
@[reducible] def gate_All_s12 (a0 : (List (Int × (Int × Int)))) (a1 : (List Bool)) (i167 : Int) (x168 : (List Bool)) (v : Bool) : Fr × LL := ([(1, aD (.slice .bool) a1), (5, .one (.slc 63)), (8, aB v), (9, aD (.slice t3) a0), (10, aI (List.length a0 : Int)), (11, aI i167)], [(63, .seq .bool x168)])
def gate_All_b13 (a1 : (List Bool)) (i167 : Int) (v170 : (Int × (Int × Int))) (x168 : (List Bool)) : Option (Flow (List Bool) (List Bool)) :=
(gate_All_g11 a1 x168 v170).bind fun v284 =>
(ck ((List.length x168 : Int) + 1 ≤ 4294967296)).bind fun _ =>
some (.next (x168 ++ [v284]))
@[reducible] def gate_All_s14 (a0 : (List (Int × (Int × Int)))) (a1 : (List Bool)) (v : Int × (List Bool)) : Fr × LL := ([(1, aD (.slice .bool) a1), (5, .one (.slc 63)), (9, aD (.slice t3) a0), (10, aI (List.length a0 : Int)), (11, aI v.1)], [(63, .seq .bool v.2)])
@[reducible] def gate_All_s15 (v : (List Bool)) : Fr × LL := ([(5, .one (.slc 63))], [(63, .seq .bool v)])
def gate_All (a0 : (List (Int × (Int × Int)))) (a1 : (List Bool)) : Option (List Bool) :=
(forL (gate_All_b13 a1) (fun x168 => x168) a0 0 []).bind fun v288 =>
some v288
theorem gate_All_ok {a0 : (List (Int × (Int × Int)))} {a1 : (List Bool)} {r : (List Bool)} (h : gate_All a0 a1 = some r) : FnC Try.prog 63 [aD (.slice t3) a0, aD (.slice .bool) a1] [] (aD (.slice .bool) r) [] := by
 refine fnC_of_W (B := bodyOf Try.f63) (n := 66) Try.func63 (by kernel_rfl) (by kernel_rfl) (by kernel_rfl) (by kernel_rfl) (by kernel_rfl) ?_
 intro K
 refine sr [(0, aD (.slice t3) a0), (1, aD (.slice .bool) a1)] [] (by kernel_rfl) ?_
 refine srL [(0, aD (.slice t3) a0), (1, aD (.slice .bool) a1), (5, .one (.nilS))] (by kernel_rfl) ?_
 refine W_seq (by kernel_rfl) ?_
 refine srL [(1, aD (.slice .bool) a1), (5, .one (.nilS)), (9, aD (.slice t3) a0), (10, aI (List.length a0 : Int)), (11, aI (0 : Int))] (by kernel_rfl) ?_
 refine W_block (id := 0) (by kernel_rfl) ?_
 obtain ⟨v288, h289, h⟩ := bind_of h
 refine W_len (t := 9) (u := t3) (xs := a0) (by kernel_rfl) (fun h292 => ?_)
 obtain ⟨h290, h291⟩ := forL_iter h292 h289
 refine W_mine 5 63 .bool (by kernel_rfl) ?_
 refine W_weaken [1, 5, 9, 10, 11] [63] (fr' := ((gate_All_s14 a0 a1) ((0 : Int), [])).1) (L' := ((gate_All_s14 a0 a1) ((0 : Int), [])).2) (by kernel_rfl) ?_
 refine W_cutK (W_loop (S := (gate_All_s14 a0 a1)) (J := (exQ (.exit 0) gate_All_s15)) (by kernel_rfl) ?_ h290 _ v288 h291) ?_
 ·rintro ⟨i167, x168⟩ s h
  refine sr [(1, aD (.slice .bool) a1), (5, .one (.slc 63)), (9, aD (.slice t3) a0), (10, aI (List.length a0 : Int)), (11, aI i167), (12, aB (decide (i167 < (List.length a0 : Int))))] [(63, .seq .bool x168)] (by kernel_rfl) ?_
  refine W_seq (by kernel_rfl) ?_
  refine W_cond (o := .tmp 12) (b := decide (i167 < (List.length a0 : Int))) (by kernel_rfl) (by kernel_rfl) (fun h172 => ?_) (fun h172 => ?_)
  ·replace h := stepL_true h172 h
   obtain ⟨v170, _, h171, h, rfl⟩ := h
   refine wkL [(1, aD (.slice .bool) a1), (5, .one (.slc 63)), (9, aD (.slice t3) a0), (10, aI (List.length a0 : Int)), (11, aI i167)] (by kernel_rfl) ?_
   refine seqQ_norm ?_
   refine W_seq (by kernel_rfl) ?_
   refine W_block (id := 1) (by kernel_rfl) ?_
   refine sro [(1, .val (.dat t3 v170)), (5, .typed)] [(1, aD (.slice .bool) a1), (5, .one (.slc 63)), (7, .one (.ptr 7 0)), (9, aD (.slice t3) a0), (10, aI (List.length a0 : Int)), (11, aI i167)] [(63, .seq .bool x168), (7, .one t3 v170)] [Idx a0 i167 v170, True] (by kernel_rfl) (allP2 (Idx.of h171) (allP1 trivial)) ?_
   refine srL [(1, aD (.slice .bool) a1), (5, .one (.slc 63)), (7, .one (.ptr 7 0)), (8, aB false), (9, aD (.slice t3) a0), (10, aI (List.length a0 : Int)), (11, aI i167)] (by kernel_rfl) ?_
   refine W_seq (by kernel_rfl) ?_
   obtain ⟨v284, h285, h⟩ := bind_of h
   refine W_cutK (Q' := (exQ .normal (gate_All_s12 a0 a1 i167 x168)) v284) ?_ ?_
   ·replace h := h285
    refine sr [(1, aD (.slice .bool) a1), (5, .one (.slc 63)), (7, .one (.ptr 7 0)), (8, aB false), (9, aD (.slice t3) a0), (10, aI (List.length a0 : Int)), (11, aI i167), (16, aI v170.1)] [(63, .seq .bool x168), (7, .one t3 v170)] (by kernel_rfl) ?_
    refine W_block (id := 2) (by kernel_rfl) ?_
    refine srL [(1, aD (.slice .bool) a1), (5, .one (.slc 63)), (7, .one (.ptr 7 0)), (8, aB false), (9, aD (.slice t3) a0), (10, aI (List.length a0 : Int)), (11, aI i167), (16, aI v170.1), (17, aB (v170.1 == (1 : Int)))] (by kernel_rfl) ?_
    refine W_cond (o := .tmp 17) (b := v170.1 == (1 : Int)) (by kernel_rfl) (by kernel_rfl) (fun h266 => ?_) (fun h266 => ?_)
    ·replace h := ofT h266 h
     obtain ⟨v267, h268, h⟩ := bind_of h
     obtain rfl := Option.some.inj h
     refine W_run 6 [(7, .val (.dat .bool v267))] [1, 5, 8, 9, 10, 11] [63] (fr' := [(1, aD (.slice .bool) a1), (5, .one (.slc 63)), (8, aB v267), (9, aD (.slice t3) a0), (10, aI (List.length a0 : Int)), (11, aI i167)]) (L' := [(63, .seq .bool x168)]) (obs := [Idx a1 v170.2.1 v267]) (by kernel_rfl) (by kernel_rfl) (by kernel_rfl) (allP1 (Idx.of h268)) ?_
     refine blockQ_norm ?_
     exact exM (by kernel_rfl)
    ·replace h := ofF h266 h
     refine srL [(1, aD (.slice .bool) a1), (5, .one (.slc 63)), (7, .one (.ptr 7 0)), (8, aB false), (9, aD (.slice t3) a0), (10, aI (List.length a0 : Int)), (11, aI i167), (16, aI v170.1), (24, aB (v170.1 == (2 : Int)))] (by kernel_rfl) ?_
     refine W_cond (o := .tmp 24) (b := v170.1 == (2 : Int)) (by kernel_rfl) (by kernel_rfl) (fun h269 => ?_) (fun h269 => ?_)
     ·replace h := ofT h269 h
      obtain ⟨v270, h271, h⟩ := bind_of h
      obtain rfl := Option.some.inj h
      refine W_run 7 [(9, .val (.dat .bool v270))] [1, 5, 8, 9, 10, 11] [63] (fr' := [(1, aD (.slice .bool) a1), (5, .one (.slc 63)), (8, aB (!v270)), (9, aD (.slice t3) a0), (10, aI (List.length a0 : Int)), (11, aI i167)]) (L' := [(63, .seq .bool x168)]) (obs := [InR v170.2.1 (List.length x168), Idx x168 v170.2.1 v270]) (by kernel_rfl) (by kernel_rfl) (by kernel_rfl) (allP2 (InR.of h271) (allP1 (Idx.of h271))) ?_
      refine blockQ_norm ?_
      exact exM (by kernel_rfl)
     ·replace h := ofF h269 h
      refine srL [(1, aD (.slice .bool) a1), (5, .one (.slc 63)), (7, .one (.ptr 7 0)), (8, aB false), (9, aD (.slice t3) a0), (10, aI (List.length a0 : Int)), (11, aI i167), (16, aI v170.1), (32, aB (v170.1 == (3 : Int)))] (by kernel_rfl) ?_
      refine W_cond (o := .tmp 32) (b := v170.1 == (3 : Int)) (by kernel_rfl) (by kernel_rfl) (fun h272 => ?_) (fun h272 => ?_)
      ·replace h := ofT h272 h
       obtain ⟨v273, h274, h⟩ := bind_of h
       refine W_region (by kernel_rfl) ?_
       refine woo 6 [(9, .val (.dat .bool v273))] [(1, aD (.slice .bool) a1), (5, .one (.slc 63)), (7, .one (.ptr 7 0)), (8, aB false), (9, aD (.slice t3) a0), (10, aI (List.length a0 : Int)), (11, aI i167), (39, aB v273)] [(7, .one t3 v170), (63, .seq .bool x168)] [InR v170.2.1 (List.length x168), Idx x168 v170.2.1 v273] (by kernel_rfl) (allP2 (InR.of h274) (allP1 (Idx.of h274))) ?_
       rcases Bool.eq_false_or_eq_true (v273) with h275 | h275
       ·replace h := ofT h275 h
        obtain ⟨v276, h277, h⟩ := bind_of h
        refine woo 13 [(12, .known true), (14, .known true), (16, .known true), (18, .known true), (20, .known true), (21, .val (.dat .bool v276)), (23, .val (.dat .bool true))] [(1, aD (.slice .bool) a1), (5, .one (.slc 63)), (8, aB v276), (9, aD (.slice t3) a0), (10, aI (List.length a0 : Int)), (11, aI i167)] [(7, .one t3 v170), (63, .seq .bool x168)] [(v273 = true), (v273 = true), (v273 = true), (v273 = true), InR v170.2.2 (List.length x168), (v273 = true), Idx x168 v170.2.2 v276, (v273 = true)] (by kernel_rfl) (allP2 h275 (allP2 h275 (allP2 h275 (allP2 h275 (allP2 (InR.of h277) (allP2 h275 (allP2 (Idx.of h277) (allP1 h275)))))))) ?_
        obtain rfl := Option.some.inj h
        refine wf [(1, aD (.slice .bool) a1), (5, .one (.slc 63)), (8, aB v276), (9, aD (.slice t3) a0), (10, aI (List.length a0 : Int)), (11, aI i167)] [(63, .seq .bool x168)] (by kernel_rfl) ?_
        refine blockQ_norm ?_
        exact exM (by kernel_rfl)
       ·replace h := ofF h275 h
        refine woo 13 [(12, .known false), (14, .known false), (16, .known false), (18, .known false), (20, .known false), (23, .val (.dat .bool false))] [(1, aD (.slice .bool) a1), (5, .one (.slc 63)), (8, aB false), (9, aD (.slice t3) a0), (10, aI (List.length a0 : Int)), (11, aI i167)] [(7, .one t3 v170), (63, .seq .bool x168)] [(v273 = false), (v273 = false), (v273 = false), (v273 = false), (v273 = false), (v273 = false)] (by kernel_rfl) (allP2 h275 (allP2 h275 (allP2 h275 (allP2 h275 (allP2 h275 (allP1 h275)))))) ?_
        obtain rfl := Option.some.inj h
        refine wf [(1, aD (.slice .bool) a1), (5, .one (.slc 63)), (8, aB false), (9, aD (.slice t3) a0), (10, aI (List.length a0 : Int)), (11, aI i167)] [(63, .seq .bool x168)] (by kernel_rfl) ?_
        refine blockQ_norm ?_
        exact exM (by kernel_rfl)
      ·replace h := ofF h272 h
       refine srL [(1, aD (.slice .bool) a1), (5, .one (.slc 63)), (7, .one (.ptr 7 0)), (8, aB false), (9, aD (.slice t3) a0), (10, aI (List.length a0 : Int)), (11, aI i167), (46, aB (v170.1 == (4 : Int)))] (by kernel_rfl) ?_
       refine W_cond (o := .tmp 46) (b := v170.1 == (4 : Int)) (by kernel_rfl) (by kernel_rfl) (fun h278 => ?_) (fun h278 => ?_)
       ·replace h := ofT h278 h
        obtain ⟨v279, h280, h⟩ := bind_of h
        refine W_region (by kernel_rfl) ?_
        refine woo 6 [(9, .val (.dat .bool v279))] [(1, aD (.slice .bool) a1), (5, .one (.slc 63)), (7, .one (.ptr 7 0)), (8, aB false), (9, aD (.slice t3) a0), (10, aI (List.length a0 : Int)), (11, aI i167), (53, aB v279)] [(7, .one t3 v170), (63, .seq .bool x168)] [InR v170.2.1 (List.length x168), Idx x168 v170.2.1 v279] (by kernel_rfl) (allP2 (InR.of h280) (allP1 (Idx.of h280))) ?_
        rcases Bool.eq_false_or_eq_true (v279) with h281 | h281
        ·replace h := ofT h281 h
         refine woo 13 [(12, .known true), (14, .known true), (16, .known true), (18, .known true), (20, .known true), (23, .val (.dat .bool true))] [(1, aD (.slice .bool) a1), (5, .one (.slc 63)), (8, aB true), (9, aD (.slice t3) a0), (10, aI (List.length a0 : Int)), (11, aI i167)] [(7, .one t3 v170), (63, .seq .bool x168)] [(v279 = true), (v279 = true), (v279 = true), (v279 = true), (v279 = true), (v279 = true)] (by kernel_rfl) (allP2 h281 (allP2 h281 (allP2 h281 (allP2 h281 (allP2 h281 (allP1 h281)))))) ?_
         obtain rfl := Option.some.inj h
         refine wf [(1, aD (.slice .bool) a1), (5, .one (.slc 63)), (8, aB true), (9, aD (.slice t3) a0), (10, aI (List.length a0 : Int)), (11, aI i167)] [(63, .seq .bool x168)] (by kernel_rfl) ?_
         refine blockQ_norm ?_
         exact exM (by kernel_rfl)
        ·replace h := ofF h281 h
         obtain ⟨v282, h283, h⟩ := bind_of h
         refine woo 13 [(12, .known false), (14, .known false), (16, .known false), (18, .known false), (20, .known false), (21, .val (.dat .bool v282)), (23, .val (.dat .bool false))] [(1, aD (.slice .bool) a1), (5, .one (.slc 63)), (8, aB v282), (9, aD (.slice t3) a0), (10, aI (List.length a0 : Int)), (11, aI i167)] [(7, .one t3 v170), (63, .seq .bool x168)] [(v279 = false), (v279 = false), (v279 = false), (v279 = false), InR v170.2.2 (List.length x168), (v279 = false), Idx x168 v170.2.2 v282, (v279 = false)] (by kernel_rfl) (allP2 h281 (allP2 h281 (allP2 h281 (allP2 h281 (allP2 (InR.of h283) (allP2 h281 (allP2 (Idx.of h283) (allP1 h281)))))))) ?_
         obtain rfl := Option.some.inj h
         refine wf [(1, aD (.slice .bool) a1), (5, .one (.slc 63)), (8, aB v282), (9, aD (.slice t3) a0), (10, aI (List.length a0 : Int)), (11, aI i167)] [(63, .seq .bool x168)] (by kernel_rfl) ?_
         refine blockQ_norm ?_
         exact exM (by kernel_rfl)
       ·replace h := ofF h278 h
        obtain rfl := Option.some.inj h
        refine wk [(1, aD (.slice .bool) a1), (5, .one (.slc 63)), (8, aB false), (9, aD (.slice t3) a0), (10, aI (List.length a0 : Int)), (11, aI i167)] [(63, .seq .bool x168)] (by kernel_rfl) ?_
        refine blockQ_norm ?_
        exact exM (by kernel_rfl)
   ·intro e fr L hJ
    obtain ⟨rfl, rfl, rfl⟩ := hJ
    refine ltk [(1, aD (.slice .bool) a1), (5, .one (.slc 63)), (8, aB v284), (9, aD (.slice t3) a0), (10, aI (List.length a0 : Int)), (11, aI i167)] [(63, .seq .bool x168)] (by kernel_rfl) ?_
    refine seqQ_norm ?_
    obtain ⟨_, h286, h⟩ := bind_of h
    replace h286 := ck_some h286
    refine W_run 5 [] [1, 5, 9, 10, 11] [63] (fr' := [(1, aD (.slice .bool) a1), (5, .one (.slc 63)), (9, aD (.slice t3) a0), (10, aI (List.length a0 : Int)), (11, aI i167)]) (L' := [(63, .seq .bool (x168 ++ [v284]))]) (obs := [SmallLen (List.length x168 + List.length [v284])]) (by kernel_rfl) (by kernel_rfl) (by kernel_rfl) (allP1 h286) ?_
    refine blockQ_norm ?_
    refine seqQ_norm ?_
    obtain rfl := Option.some.inj h
    refine swL [(1, aD (.slice .bool) a1), (5, .one (.slc 63)), (9, aD (.slice t3) a0), (10, aI (List.length a0 : Int)), (11, aI (w64 (i167 + (1 : Int))))] (by kernel_rfl) ?_
    exact round_next' (by kernel_rfl) (by kernel_rfl)
  ·obtain rfl := stepL_false h172 h
   refine wxL 0 [(5, .one (.slc 63))] (by kernel_rfl) ?_
   refine seqQ_exit ?_
   refine round_exit ?_
   exact exM (by kernel_rfl)
 ·intro e fr L hJ
  obtain ⟨rfl, rfl, rfl⟩ := hJ
  refine ltk [(5, .one (.slc 63))] [(63, .seq .bool v288)] (by kernel_rfl) ?_
  refine blockQ_hit ?_
  refine seqQ_norm ?_
  refine sr [(4, .one (.slc 63))] [(63, .seq .bool v288)] (by kernel_rfl) ?_
  obtain rfl := Option.some.inj h
  refine W_frz 63 (by kernel_rfl) ?_
  refine wt [(4, aD (.slice .bool) v288)] [] (by kernel_rfl) ?_
  exact retM (by kernel_rfl)

def whole_Ask_b1 (a1 : Int) (r1 : ((List (Int × (Int × Int))) × Int)) (i22 : Int) (x23 : (List Bool)) : Option (Flow (List Bool) (List Bool)) :=
(whole_word a1 i22).bind fun r26 =>
(gate_All r1.1 r26).bind fun r28 =>
(idx r28 (w64 ((List.length r28 : Int) - (1 : Int)))).bind fun v30 =>
(ck ((List.length x23 : Int) + 1 ≤ 4294967296)).bind fun _ =>
some (.next (x23 ++ [v30]))
@[reducible] def whole_Ask_s2 (a1 : Int) (r1 : ((List (Int × (Int × Int))) × Int)) (v : Int × (List Bool)) : Fr × LL := ([(1, aI a1), (8, aD (.slice t3) r1.1), (10, .one (.slc 41)), (24, aI (bShl .i64 (1 : Int) a1)), (25, aI v.1)], [(41, .seq .bool v.2)])
@[reducible] def whole_Ask_s3 (v : (List Bool)) : Fr × LL := ([(10, .one (.slc 41))], [(41, .seq .bool v)])
def whole_Ask (fuel : Nat) (a0 : (Int × (Int × (List (List (Int × (Int × Int))))))) (a1 : Int) (a2 : Int) : Option ((List Bool) × Int) :=
(unroll_Build fuel a0 a1 a2).bind fun r1 =>
bif r1.2 != (0 : Int) then
(some ([], r1.2))
else
((ck (0 ≤ a1)).bind fun _ =>
(forI (0 : Int) (bShl .i64 (1 : Int) a1) (whole_Ask_b1 a1 r1) (fun x23 => x23) []).bind fun v34 =>
some (v34, (0 : Int)))
theorem whole_Ask_ok {fuel : Nat} {a0 : (Int × (Int × (List (List (Int × (Int × Int))))))} {a1 : Int} {a2 : Int} {r : ((List Bool) × Int)} (h : whole_Ask fuel a0 a1 a2 = some r) : FnC Try.prog 28 [aD tM a0, aI a1, aI a2] [] (.tup [.dat (.slice .bool) r.1, .dat tI r.2]) [] := by
 refine fnC_of_W (B := bodyOf Try.f28) (n := 44) Try.func28 (by kernel_rfl) (by kernel_rfl) (by kernel_rfl) (by kernel_rfl) (by kernel_rfl) ?_
 intro K
 refine sr [(1, aI a1), (2, aI a2), (3, .one (.ptr 3 0))] [(3, .one tM a0)] (by kernel_rfl) ?_
 refine W_seq (by kernel_rfl) ?_
 refine W_region (by kernel_rfl) ?_
 refine woL 3 [(1, aI a1), (14, aD tM a0), (15, aI a1), (16, aI a2)] (by kernel_rfl) ?_
 obtain ⟨r1, h2, h⟩ := bind_of h
 refine WO_call0 (us := [none, none, none]) (d := 17) (p := True) (j := 4) rfl ⟨by kernel_rfl, by kernel_rfl, by kernel_rfl⟩ trivial (unroll_Build_ok h2) (by kernel_rfl) ?_
 refine wo 9 [(1, aI a1), (8, aD (.slice t3) r1.1), (9, aI r1.2)] [(3, .one tM a0)] (by kernel_rfl) ?_
 refine wf [(1, aI a1), (8, aD (.slice t3) r1.1), (9, aI r1.2)] [] (by kernel_rfl) ?_
 refine seqQ_norm ?_
 refine W_seq (by kernel_rfl) ?_
 refine srL [(1, aI a1), (8, aD (.slice t3) r1.1), (9, aI r1.2), (21, aB (r1.2 != (0 : Int)))] (by kernel_rfl) ?_
 refine W_cond (o := .tmp 21) (b := r1.2 != (0 : Int)) (by kernel_rfl) (by kernel_rfl) (fun h3 => ?_) (fun h3 => ?_)
 ·replace h := ofT h3 h
  refine srL [(6, .one (.nilS)), (7, aI r1.2)] (by kernel_rfl) ?_
  obtain rfl := Option.some.inj h
  refine W_cnv 6 (.slice .bool) (by kernel_rfl) ?_
  refine wt [(6, aD (.slice .bool) []), (7, aI r1.2)] [] (by kernel_rfl) ?_
  refine seqQ_ret ?_
  exact retM (by kernel_rfl)
 ·replace h := ofF h3 h
  refine wkL [(1, aI a1), (8, aD (.slice t3) r1.1)] (by kernel_rfl) ?_
  refine seqQ_norm ?_
  refine srL [(1, aI a1), (8, aD (.slice t3) r1.1), (10, .one (.nilS))] (by kernel_rfl) ?_
  refine W_seq (by kernel_rfl) ?_
  refine W_seq (by kernel_rfl) ?_
  obtain ⟨_, h4, h⟩ := bind_of h
  replace h4 := ck_some h4
  refine W_run 3 [] [1, 8, 10, 24, 25] [] (fr' := [(1, aI a1), (8, aD (.slice t3) r1.1), (10, .one (.nilS)), (24, aI (bShl .i64 (1 : Int) a1)), (25, aI (0 : Int))]) (L' := []) (obs := [(0 ≤ a1)]) (by kernel_rfl) (by kernel_rfl) (by kernel_rfl) (allP1 h4) ?_
  refine seqQ_norm ?_
  refine W_block (id := 0) (by kernel_rfl) ?_
  obtain ⟨v34, h35, h⟩ := bind_of h
  obtain ⟨h36, h37⟩ := forI_iter h35
  refine W_mine 10 41 .bool (by kernel_rfl) ?_
  refine W_weaken [1, 8, 10, 24, 25] [41] (fr' := ((whole_Ask_s2 a1 r1) ((0 : Int), [])).1) (L' := ((whole_Ask_s2 a1 r1) ((0 : Int), [])).2) (by kernel_rfl) ?_
  refine W_cutK (W_loop (S := (whole_Ask_s2 a1 r1)) (J := (exQ (.exit 0) whole_Ask_s3)) (by kernel_rfl) ?_ h36 _ v34 h37) ?_
  ·rintro ⟨i22, x23⟩ s h
   refine sr [(1, aI a1), (8, aD (.slice t3) r1.1), (10, .one (.slc 41)), (24, aI (bShl .i64 (1 : Int) a1)), (25, aI i22), (26, aB (decide (i22 < (bShl .i64 (1 : Int) a1))))] [(41, .seq .bool x23)] (by kernel_rfl) ?_
   refine W_seq (by kernel_rfl) ?_
   refine W_cond (o := .tmp 26) (b := decide (i22 < (bShl .i64 (1 : Int) a1))) (by kernel_rfl) (by kernel_rfl) (fun h25 => ?_) (fun h25 => ?_)
   ·replace h := stepI_true h25 h
    obtain ⟨_, h, rfl⟩ := h
    refine wkL [(1, aI a1), (8, aD (.slice t3) r1.1), (10, .one (.slc 41)), (24, aI (bShl .i64 (1 : Int) a1)), (25, aI i22)] (by kernel_rfl) ?_
    refine seqQ_norm ?_
    refine W_seq (by kernel_rfl) ?_
    refine W_block (id := 1) (by kernel_rfl) ?_
    refine srL [(1, aI a1), (8, aD (.slice t3) r1.1), (10, .one (.slc 41)), (11, aI i22), (24, aI (bShl .i64 (1 : Int) a1)), (25, aI i22)] (by kernel_rfl) ?_
    refine W_seq (by kernel_rfl) ?_
    refine W_region (by kernel_rfl) ?_
    refine woL 3 [(1, aI a1), (8, aD (.slice t3) r1.1), (10, .one (.slc 41)), (24, aI (bShl .i64 (1 : Int) a1)), (25, aI i22), (28, aD (.slice t3) r1.1), (29, aI a1), (30, aI i22)] (by kernel_rfl) ?_
    obtain ⟨r26, h27, h⟩ := bind_of h
    refine WO_call0 (us := [none, none]) (d := 31) (p := True) (j := 4) rfl ⟨by kernel_rfl, by kernel_rfl, by kernel_rfl⟩ trivial (whole_word_ok h27) (by kernel_rfl) ?_
    obtain ⟨r28, h29, h⟩ := bind_of h
    refine WO_call0 (us := [none, none]) (d := 32) (p := True) (j := 5) rfl ⟨by kernel_rfl, by kernel_rfl, by kernel_rfl⟩ trivial (gate_All_ok h29) (by kernel_rfl) ?_
    refine wo 6 [(1, aI a1), (8, aD (.slice t3) r1.1), (10, .one (.slc 41)), (12, aD (.slice .bool) r28), (24, aI (bShl .i64 (1 : Int) a1)), (25, aI i22)] [(41, .seq .bool x23)] (by kernel_rfl) ?_
    refine wfL [(1, aI a1), (8, aD (.slice t3) r1.1), (10, .one (.slc 41)), (12, aD (.slice .bool) r28), (24, aI (bShl .i64 (1 : Int) a1)), (25, aI i22)] (by kernel_rfl) ?_
    refine seqQ_norm ?_
    obtain ⟨v30, h31, h⟩ := bind_of h
    obtain ⟨_, h32, h⟩ := bind_of h
    replace h32 := ck_some h32
    refine W_run 10 [(11, .val (.dat .bool v30))] [1, 8, 10, 24, 25] [41] (fr' := [(1, aI a1), (8, aD (.slice t3) r1.1), (10, .one (.slc 41)), (24, aI (bShl .i64 (1 : Int) a1)), (25, aI i22)]) (L' := [(41, .seq .bool (x23 ++ [v30]))]) (obs := [Idx r28 (w64 ((List.length r28 : Int) - (1 : Int))) v30, SmallLen (List.length x23 + List.length [v30])]) (by kernel_rfl) (by kernel_rfl) (by kernel_rfl) (allP2 (Idx.of h31) (allP1 h32)) ?_
    refine blockQ_norm ?_
    refine seqQ_norm ?_
    obtain rfl := Option.some.inj h
    refine swL [(1, aI a1), (8, aD (.slice t3) r1.1), (10, .one (.slc 41)), (24, aI (bShl .i64 (1 : Int) a1)), (25, aI (w64 (i22 + (1 : Int))))] (by kernel_rfl) ?_
    exact round_next' (by kernel_rfl) (by kernel_rfl)
   ·obtain rfl := stepI_false h25 h
    refine wxL 0 [(10, .one (.slc 41))] (by kernel_rfl) ?_
    refine seqQ_exit ?_
    refine round_exit ?_
    exact exM (by kernel_rfl)
  ·intro e fr L hJ
   obtain ⟨rfl, rfl, rfl⟩ := hJ
   refine ltk [(10, .one (.slc 41))] [(41, .seq .bool v34)] (by kernel_rfl) ?_
   refine blockQ_hit ?_
   refine seqQ_norm ?_
   refine sr [(6, .one (.slc 41)), (7, aI (0 : Int))] [(41, .seq .bool v34)] (by kernel_rfl) ?_
   obtain rfl := Option.some.inj h
   refine W_frz 41 (by kernel_rfl) ?_
   refine wt [(6, aD (.slice .bool) v34), (7, aI (0 : Int))] [] (by kernel_rfl) ?_
   exact retM (by kernel_rfl)

def whole_Some_b1 (a1 : Int) (i18 : Int) (v21 : Bool) (x19 : Unit) : Option (Flow Unit (Esc (Bool × (List Bool) × Int) Unit)) :=
bif v21 then
((whole_word a1 i18).bind fun r25 =>
some (.done (.ret (true, r25, (0 : Int)))))
else
(some (.next ()))
@[reducible] def whole_Some_s2 (a1 : Int) (r1 : ((List Bool) × Int)) (v : Int × Unit) : Fr × LL := ([(1, aI a1), (23, aD (.slice .bool) r1.1), (24, aI (List.length r1.1 : Int)), (25, aI v.1)], [])
@[reducible] def whole_Some_s3 (v : (Bool × (List Bool) × Int)) : Fr × LL := ([(6, aB v.1), (7, aD (.slice .bool) v.2.1), (8, aI v.2.2)], [])
@[reducible] def whole_Some_s4 (v : Unit) : Fr × LL := ([], [])
def whole_Some (fuel : Nat) (a0 : (Int × (Int × (List (List (Int × (Int × Int))))))) (a1 : Int) (a2 : Int) : Option (Bool × (List Bool) × Int) :=
(whole_Ask fuel a0 a1 a2).bind fun r1 =>
bif r1.2 != (0 : Int) then
(some (false, [], r1.2))
else
((forL (whole_Some_b1 a1) (fun x19 => (.brk ())) r1.1 0 ()).bind fun v28 =>
match v28 with
| .ret v33 =>
(some (v33.1, v33.2.1, v33.2.2))
| .brk v34 =>
(some (false, [], (0 : Int))))
theorem whole_Some_ok {fuel : Nat} {a0 : (Int × (Int × (List (List (Int × (Int × Int))))))} {a1 : Int} {a2 : Int} {r : (Bool × (List Bool) × Int)} (h : whole_Some fuel a0 a1 a2 = some r) : FnC Try.prog 29 [aD tM a0, aI a1, aI a2] [] (.tup [.dat .bool r.1, .dat (.slice .bool) r.2.1, .dat tI r.2.2]) [] := by
 refine fnC_of_W (B := bodyOf Try.f29) (n := 35) Try.func29 (by kernel_rfl) (by kernel_rfl) (by kernel_rfl) (by kernel_rfl) (by kernel_rfl) ?_
 intro K
 refine sr [(1, aI a1), (2, aI a2), (3, .one (.ptr 3 0))] [(3, .one tM a0)] (by kernel_rfl) ?_
 refine W_seq (by kernel_rfl) ?_
 refine W_region (by kernel_rfl) ?_
 refine woL 3 [(1, aI a1), (14, aD tM a0), (15, aI a1), (16, aI a2)] (by kernel_rfl) ?_
 obtain ⟨r1, h2, h⟩ := bind_of h
 refine WO_call0 (us := [none, none, none]) (d := 17) (p := True) (j := 4) rfl ⟨by kernel_rfl, by kernel_rfl, by kernel_rfl⟩ trivial (whole_Ask_ok h2) (by kernel_rfl) ?_
 refine wo 9 [(1, aI a1), (9, aD (.slice .bool) r1.1), (10, aI r1.2)] [(3, .one tM a0)] (by kernel_rfl) ?_
 refine wf [(1, aI a1), (9, aD (.slice .bool) r1.1), (10, aI r1.2)] [] (by kernel_rfl) ?_
 refine seqQ_norm ?_
 refine W_seq (by kernel_rfl) ?_
 refine srL [(1, aI a1), (9, aD (.slice .bool) r1.1), (10, aI r1.2), (21, aB (r1.2 != (0 : Int)))] (by kernel_rfl) ?_
 refine W_cond (o := .tmp 21) (b := r1.2 != (0 : Int)) (by kernel_rfl) (by kernel_rfl) (fun h3 => ?_) (fun h3 => ?_)
 ·replace h := ofT h3 h
  refine srL [(6, aB false), (7, .one (.nilS)), (8, aI r1.2)] (by kernel_rfl) ?_
  obtain rfl := Option.some.inj h
  refine W_cnv 7 (.slice .bool) (by kernel_rfl) ?_
  refine wt [(6, aB false), (7, aD (.slice .bool) []), (8, aI r1.2)] [] (by kernel_rfl) ?_
  refine seqQ_ret ?_
  exact retM (by kernel_rfl)
 ·replace h := ofF h3 h
  refine wkL [(1, aI a1), (9, aD (.slice .bool) r1.1)] (by kernel_rfl) ?_
  refine seqQ_norm ?_
  refine W_seq (by kernel_rfl) ?_
  refine srL [(1, aI a1), (23, aD (.slice .bool) r1.1), (24, aI (List.length r1.1 : Int)), (25, aI (0 : Int))] (by kernel_rfl) ?_
  refine W_block (id := 0) (by kernel_rfl) ?_
  obtain ⟨v28, h29, h⟩ := bind_of h
  refine W_len (t := 23) (u := .bool) (xs := r1.1) (by kernel_rfl) (fun h32 => ?_)
  obtain ⟨h30, h31⟩ := forL_iter h32 h29
  refine W_weaken [1, 23, 24, 25] [] (fr' := ((whole_Some_s2 a1 r1) ((0 : Int), ())).1) (L' := ((whole_Some_s2 a1 r1) ((0 : Int), ())).2) (by kernel_rfl) ?_
  refine W_cutK (W_loop (S := (whole_Some_s2 a1 r1)) (J := (escQ (exQ .ret whole_Some_s3) (exQ (.exit 0) whole_Some_s4))) (by kernel_rfl) ?_ h30 _ v28 h31) ?_
  ·rintro ⟨i18, x19⟩ s h
   refine sr [(1, aI a1), (23, aD (.slice .bool) r1.1), (24, aI (List.length r1.1 : Int)), (25, aI i18), (26, aB (decide (i18 < (List.length r1.1 : Int))))] [] (by kernel_rfl) ?_
   refine W_seq (by kernel_rfl) ?_
   refine W_cond (o := .tmp 26) (b := decide (i18 < (List.length r1.1 : Int))) (by kernel_rfl) (by kernel_rfl) (fun h23 => ?_) (fun h23 => ?_)
   ·replace h := stepL_true h23 h
    obtain ⟨v21, _, h22, h, rfl⟩ := h
    refine wkL [(1, aI a1), (23, aD (.slice .bool) r1.1), (24, aI (List.length r1.1 : Int)), (25, aI i18)] (by kernel_rfl) ?_
    refine seqQ_norm ?_
    refine W_seq (by kernel_rfl) ?_
    refine W_block (id := 1) (by kernel_rfl) ?_
    refine sro [(3, .val (.dat .bool v21))] [(1, aI a1), (11, aI i18), (12, aB v21), (23, aD (.slice .bool) r1.1), (24, aI (List.length r1.1 : Int)), (25, aI i18)] [] [Idx r1.1 i18 v21] (by kernel_rfl) (allP1 (Idx.of h22)) ?_
    refine srL [(1, aI a1), (11, aI i18), (23, aD (.slice .bool) r1.1), (24, aI (List.length r1.1 : Int)), (25, aI i18), (30, aB v21)] (by kernel_rfl) ?_
    refine W_cond (o := .tmp 30) (b := v21) (by kernel_rfl) (by kernel_rfl) (fun h24 => ?_) (fun h24 => ?_)
    ·replace h := ofT h24 h
     refine W_seq (by kernel_rfl) ?_
     refine W_region (by kernel_rfl) ?_
     refine woL 2 [(31, aI a1), (32, aI i18)] (by kernel_rfl) ?_
     obtain ⟨r25, h26, h⟩ := bind_of h
     refine WO_call0 (us := [none, none]) (d := 33) (p := True) (j := 3) rfl ⟨by kernel_rfl, by kernel_rfl, by kernel_rfl⟩ trivial (whole_word_ok h26) (by kernel_rfl) ?_
     refine wo 6 [(6, aB true), (7, aD (.slice .bool) r25), (8, aI (0 : Int))] [] (by kernel_rfl) ?_
     refine wfL [(6, aB true), (7, aD (.slice .bool) r25), (8, aI (0 : Int))] (by kernel_rfl) ?_
     refine seqQ_norm ?_
     obtain rfl := Option.some.inj h
     refine wtL [(6, aB true), (7, aD (.slice .bool) r25), (8, aI (0 : Int))] (by kernel_rfl) ?_
     refine blockQ_ret ?_
     refine seqQ_ret ?_
     refine round_ret ?_
     refine escQ_ret ?_
     exact exM (by kernel_rfl)
    ·replace h := ofF h24 h
     refine wkL [(1, aI a1), (23, aD (.slice .bool) r1.1), (24, aI (List.length r1.1 : Int)), (25, aI i18)] (by kernel_rfl) ?_
     refine blockQ_norm ?_
     refine seqQ_norm ?_
     obtain rfl := Option.some.inj h
     refine swL [(1, aI a1), (23, aD (.slice .bool) r1.1), (24, aI (List.length r1.1 : Int)), (25, aI (w64 (i18 + (1 : Int))))] (by kernel_rfl) ?_
     exact round_next' (by kernel_rfl) (by kernel_rfl)
   ·obtain rfl := stepL_false h23 h
    refine wxL 0 [] (by kernel_rfl) ?_
    refine seqQ_exit ?_
    refine round_exit ?_
    refine escQ_brk ?_
    exact exM (by kernel_rfl)
  ·intro e fr L hJ
   rcases v28 with v33 | v34
   ·obtain ⟨rfl, rfl, rfl⟩ := hJ
    obtain rfl := Option.some.inj h
    refine ltk [(6, aB v33.1), (7, aD (.slice .bool) v33.2.1), (8, aI v33.2.2)] [] (by kernel_rfl) ?_
    refine blockQ_ret ?_
    refine seqQ_ret ?_
    exact retM (by kernel_rfl)
   ·obtain ⟨rfl, rfl, rfl⟩ := hJ
    refine ltk [] [] (by kernel_rfl) ?_
    refine blockQ_hit ?_
    refine seqQ_norm ?_
    refine sr [(6, aB false), (7, .one (.nilS)), (8, aI (0 : Int))] [] (by kernel_rfl) ?_
    obtain rfl := Option.some.inj h
    refine W_cnv 7 (.slice .bool) (by kernel_rfl) ?_
    refine wt [(6, aB false), (7, aD (.slice .bool) []), (8, aI (0 : Int))] [] (by kernel_rfl) ?_
    exact retM (by kernel_rfl)

def ref_Within (a0 : Int) (a1 : Int) (a2 : Int) : Option Bool :=
some ((decide (a0 ≤ a1)) && (decide (a1 ≤ a2)))
theorem ref_Within_ok {a0 : Int} {a1 : Int} {a2 : Int} {r : Bool} (h : ref_Within a0 a1 a2 = some r) : FnC Try.prog 16 [aI a0, aI a1, aI a2] [] (aB r) [] := by
 refine fnC_of_W (B := bodyOf Try.f16) (n := 15) Try.func16 (by kernel_rfl) (by kernel_rfl) (by kernel_rfl) (by kernel_rfl) (by kernel_rfl) ?_
 intro K
 refine sr [(0, aI a0), (1, aI a1), (2, aI a2)] [] (by kernel_rfl) ?_
 refine srL [(6, aB ((decide (a0 ≤ a1)) && (decide (a1 ≤ a2))))] (by kernel_rfl) ?_
 obtain rfl := Option.some.inj h
 refine wtL [(6, aB ((decide (a0 ≤ a1)) && (decide (a1 ≤ a2))))] (by kernel_rfl) ?_
 exact retM (by kernel_rfl)

def ref_Inside_b1 (a0 : Int) (i11 : Int) (v14 : Int) (x12 : Unit) : Option (Flow Unit (Esc Bool Unit)) :=
bif (decide (v14 < (0 : Int))) || (decide (v14 ≥ a0)) then
(some (.done (.ret false)))
else
(some (.next ()))
@[reducible] def ref_Inside_s2 (a0 : Int) (a1 : (List Int)) (v : Int × Unit) : Fr × LL := ([(0, aI a0), (7, aD (.slice tI) a1), (8, aI (List.length a1 : Int)), (9, aI v.1)], [])
@[reducible] def ref_Inside_s3 (v : Bool) : Fr × LL := ([(4, aB v)], [])
@[reducible] def ref_Inside_s4 (v : Unit) : Fr × LL := ([], [])
def ref_Inside (a0 : Int) (a1 : (List Int)) : Option Bool :=
(forL (ref_Inside_b1 a0) (fun x12 => (.brk ())) a1 0 ()).bind fun v19 =>
match v19 with
| .ret v24 =>
(some v24)
| .brk v25 =>
(some true)
theorem ref_Inside_ok {a0 : Int} {a1 : (List Int)} {r : Bool} (h : ref_Inside a0 a1 = some r) : FnC Try.prog 51 [aI a0, aD (.slice tI) a1] [] (aB r) [] := by
 refine fnC_of_W (B := bodyOf Try.f51) (n := 21) Try.func51 (by kernel_rfl) (by kernel_rfl) (by kernel_rfl) (by kernel_rfl) (by kernel_rfl) ?_
 intro K
 refine sr [(0, aI a0), (1, aD (.slice tI) a1)] [] (by kernel_rfl) ?_
 refine W_seq (by kernel_rfl) ?_
 refine srL [(0, aI a0), (7, aD (.slice tI) a1), (8, aI (List.length a1 : Int)), (9, aI (0 : Int))] (by kernel_rfl) ?_
 refine W_block (id := 0) (by kernel_rfl) ?_
 obtain ⟨v19, h20, h⟩ := bind_of h
 refine W_len (t := 7) (u := tI) (xs := a1) (by kernel_rfl) (fun h23 => ?_)
 obtain ⟨h21, h22⟩ := forL_iter h23 h20
 refine W_weaken [0, 7, 8, 9] [] (fr' := ((ref_Inside_s2 a0 a1) ((0 : Int), ())).1) (L' := ((ref_Inside_s2 a0 a1) ((0 : Int), ())).2) (by kernel_rfl) ?_
 refine W_cutK (W_loop (S := (ref_Inside_s2 a0 a1)) (J := (escQ (exQ .ret ref_Inside_s3) (exQ (.exit 0) ref_Inside_s4))) (by kernel_rfl) ?_ h21 _ v19 h22) ?_
 ·rintro ⟨i11, x12⟩ s h
  refine sr [(0, aI a0), (7, aD (.slice tI) a1), (8, aI (List.length a1 : Int)), (9, aI i11), (10, aB (decide (i11 < (List.length a1 : Int))))] [] (by kernel_rfl) ?_
  refine W_seq (by kernel_rfl) ?_
  refine W_cond (o := .tmp 10) (b := decide (i11 < (List.length a1 : Int))) (by kernel_rfl) (by kernel_rfl) (fun h16 => ?_) (fun h16 => ?_)
  ·replace h := stepL_true h16 h
   obtain ⟨v14, _, h15, h, rfl⟩ := h
   refine wkL [(0, aI a0), (7, aD (.slice tI) a1), (8, aI (List.length a1 : Int)), (9, aI i11)] (by kernel_rfl) ?_
   refine seqQ_norm ?_
   refine W_seq (by kernel_rfl) ?_
   refine W_block (id := 1) (by kernel_rfl) ?_
   refine sro [(1, .val (.dat tI v14))] [(0, aI a0), (6, aI v14), (7, aD (.slice tI) a1), (8, aI (List.length a1 : Int)), (9, aI i11)] [] [Idx a1 i11 v14] (by kernel_rfl) (allP1 (Idx.of h15)) ?_
   refine srL [(0, aI a0), (7, aD (.slice tI) a1), (8, aI (List.length a1 : Int)), (9, aI i11), (19, aB ((decide (v14 < (0 : Int))) || (decide (v14 ≥ a0))))] (by kernel_rfl) ?_
   refine W_cond (o := .tmp 19) (b := (decide (v14 < (0 : Int))) || (decide (v14 ≥ a0))) (by kernel_rfl) (by kernel_rfl) (fun h17 => ?_) (fun h17 => ?_)
   ·replace h := ofT h17 h
    refine srL [(4, aB false)] (by kernel_rfl) ?_
    obtain rfl := Option.some.inj h
    refine wtL [(4, aB false)] (by kernel_rfl) ?_
    refine blockQ_ret ?_
    refine seqQ_ret ?_
    refine round_ret ?_
    refine escQ_ret ?_
    exact exM (by kernel_rfl)
   ·replace h := ofF h17 h
    refine wkL [(0, aI a0), (7, aD (.slice tI) a1), (8, aI (List.length a1 : Int)), (9, aI i11)] (by kernel_rfl) ?_
    refine blockQ_norm ?_
    refine seqQ_norm ?_
    obtain rfl := Option.some.inj h
    refine swL [(0, aI a0), (7, aD (.slice tI) a1), (8, aI (List.length a1 : Int)), (9, aI (w64 (i11 + (1 : Int))))] (by kernel_rfl) ?_
    exact round_next' (by kernel_rfl) (by kernel_rfl)
  ·obtain rfl := stepL_false h16 h
   refine wxL 0 [] (by kernel_rfl) ?_
   refine seqQ_exit ?_
   refine round_exit ?_
   refine escQ_brk ?_
   exact exM (by kernel_rfl)
 ·intro e fr L hJ
  rcases v19 with v24 | v25
  ·obtain ⟨rfl, rfl, rfl⟩ := hJ
   obtain rfl := Option.some.inj h
   refine ltk [(4, aB v24)] [] (by kernel_rfl) ?_
   refine blockQ_ret ?_
   refine seqQ_ret ?_
   exact retM (by kernel_rfl)
  ·obtain ⟨rfl, rfl, rfl⟩ := hJ
   refine ltk [] [] (by kernel_rfl) ?_
   refine blockQ_hit ?_
   refine seqQ_norm ?_
   refine sr [(4, aB true)] [] (by kernel_rfl) ?_
   obtain rfl := Option.some.inj h
   refine wtL [(4, aB true)] (by kernel_rfl) ?_
   exact retM (by kernel_rfl)

def ref_MachineCheck_b1 (a0 : (Int × (Int × (List (List (Int × (Int × Int))))))) (i30 : Int) (v33 : (List (Int × (Int × Int)))) (x31 : Unit) : Option (Flow Unit (Esc Int Unit)) :=
bif (List.length v33 : Int) != a0.2.1 then
(some (.done (.ret (3 : Int))))
else
(some (.next ()))
@[reducible] def ref_MachineCheck_s2 (a0 : (Int × (Int × (List (List (Int × (Int × Int))))))) (v : Int × Unit) : Fr × LL := ([(1, .one (.ptr 1 0)), (26, aD (.slice (.slice t3)) a0.2.2), (27, aI (List.length a0.2.2 : Int)), (28, aI v.1)], [(1, .one tM a0)])
@[reducible] def ref_MachineCheck_s3 (v : Int) : Fr × LL := ([(2, aI v)], [])
@[reducible] def ref_MachineCheck_s4 (a0 : (Int × (Int × (List (List (Int × (Int × Int))))))) (v : Unit) : Fr × LL := ([(1, .one (.ptr 1 0))], [(1, .one tM a0)])
def ref_MachineCheck_b11 (a0 : (Int × (Int × (List (List (Int × (Int × Int))))))) (i183 : Int) (v186 : (Int × (Int × Int))) (x184 : Unit) : Option (Flow Unit (Esc Int Unit)) :=
(ref_Inside a0.2.1 [v186.1]).bind fun r189 =>
bif !r189 then
(some (.done (.ret (2 : Int))))
else
((ref_Within (-1 : Int) v186.2.1 (1 : Int)).bind fun r192 =>
bif !r192 then
(some (.done (.ret (4 : Int))))
else
((ref_Inside (w64 (a0.1 + (1 : Int))) [v186.2.2]).bind fun r195 =>
bif !r195 then
(some (.done (.ret (2 : Int))))
else
(some (.next ()))))
@[reducible] def ref_MachineCheck_s12 (a0 : (Int × (Int × (List (List (Int × (Int × Int))))))) (i151 : Int) (v154 : (List (Int × (Int × Int)))) (v : Int × Unit) : Fr × LL := ([(1, .one (.ptr 1 0)), (39, aD (.slice (.slice t3)) a0.2.2), (40, aI (List.length a0.2.2 : Int)), (41, aI i151), (45, aD (.slice t3) v154), (46, aI (List.length v154 : Int)), (47, aI v.1)], [(1, .one tM a0)])
@[reducible] def ref_MachineCheck_s13 (v : Int) : Fr × LL := ([(2, aI v)], [])
@[reducible] def ref_MachineCheck_s14 (a0 : (Int × (Int × (List (List (Int × (Int × Int))))))) (i151 : Int) (v : Unit) : Fr × LL := ([(1, .one (.ptr 1 0)), (39, aD (.slice (.slice t3)) a0.2.2), (40, aI (List.length a0.2.2 : Int)), (41, aI i151)], [(1, .one tM a0)])
def ref_MachineCheck_b15 (a0 : (Int × (Int × (List (List (Int × (Int × Int))))))) (i151 : Int) (v154 : (List (Int × (Int × Int)))) (x152 : Unit) : Option (Flow Unit (Esc Int Unit)) :=
(forL (ref_MachineCheck_b11 a0) (fun x184 => (.brk ())) v154 0 ()).bind fun v199 =>
match v199 with
| .ret v204 =>
(some (.done (.ret v204)))
| .brk v205 =>
(some (.next ()))
@[reducible] def ref_MachineCheck_s16 (a0 : (Int × (Int × (List (List (Int × (Int × Int))))))) (v : Int × Unit) : Fr × LL := ([(1, .one (.ptr 1 0)), (39, aD (.slice (.slice t3)) a0.2.2), (40, aI (List.length a0.2.2 : Int)), (41, aI v.1)], [(1, .one tM a0)])
@[reducible] def ref_MachineCheck_s17 (v : Int) : Fr × LL := ([(2, aI v)], [])
@[reducible] def ref_MachineCheck_s18 (v : Unit) : Fr × LL := ([], [])
@[reducible] def ref_MachineCheck_s19 (a0 : (Int × (Int × (List (List (Int × (Int × Int))))))) (v : Bool) : Fr × LL := ([(1, .one (.ptr 1 0)), (18, aB v)], [(1, .one tM a0)])
def ref_MachineCheck (a0 : (Int × (Int × (List (List (Int × (Int × Int))))))) : Option Int :=
((ref_Within (1 : Int) a0.1 (5 : Int)).bind fun r11 =>
bif !r11 then
(some true)
else
((ref_Within (2 : Int) a0.2.1 (4 : Int)).bind fun r14 =>
some (!r14))).bind fun v16 =>
bif v16 then
(some (1 : Int))
else
(bif (List.length a0.2.2 : Int) != a0.1 then
(some (3 : Int))
else
((forL (ref_MachineCheck_b1 a0) (fun x31 => (.brk ())) a0.2.2 0 ()).bind fun v38 =>
match v38 with
| .ret v43 =>
(some v43)
| .brk v44 =>
((forL (ref_MachineCheck_b15 a0) (fun x152 => (.brk ())) a0.2.2 0 ()).bind fun v207 =>
match v207 with
| .ret v212 =>
(some v212)
| .brk v213 =>
(some (0 : Int)))))
theorem ref_MachineCheck_ok {a0 : (Int × (Int × (List (List (Int × (Int × Int))))))} {r : Int} (h : ref_MachineCheck a0 = some r) : FnC Try.prog 18 [aD tM a0] [] (aI r) [] := by
 refine fnC_of_W (B := bodyOf Try.f18) (n := 72) Try.func18 (by kernel_rfl) (by kernel_rfl) (by kernel_rfl) (by kernel_rfl) (by kernel_rfl) ?_
 intro K
 refine sr [(1, .one (.ptr 1 0))] [(1, .one tM a0)] (by kernel_rfl) ?_
 refine W_seq (by kernel_rfl) ?_
 refine W_seq (by kernel_rfl) ?_
 obtain ⟨v16, h17, h⟩ := bind_of h
 refine W_cutK (Q' := (exQ .normal (ref_MachineCheck_s19 a0)) v16) ?_ ?_
 ·replace h := h17
  refine W_region (by kernel_rfl) ?_
  refine wo 2 [(1, .one (.ptr 1 0)), (10, aI a0.1)] [(1, .one tM a0)] (by kernel_rfl) ?_
  obtain ⟨r11, h12, h⟩ := bind_of h
  refine WO_call0 (us := [none, none, none]) (d := 11) (p := True) (j := 3) rfl ⟨by kernel_rfl, by kernel_rfl, by kernel_rfl⟩ trivial (ref_Within_ok h12) (by kernel_rfl) ?_
  refine wo 5 [(1, .one (.ptr 1 0)), (13, aB (!r11))] [(1, .one tM a0)] (by kernel_rfl) ?_
  rcases Bool.eq_false_or_eq_true (!r11) with h13 | h13
  ·replace h := ofT h13 h
   refine woo 10 [(10, .known true), (12, .known true), (14, .known true), (16, .known true), (19, .val (.dat .bool true))] [(1, .one (.ptr 1 0)), (18, aB true)] [(1, .one tM a0)] [((!r11) = true), ((!r11) = true), ((!r11) = true), ((!r11) = true), ((!r11) = true)] (by kernel_rfl) (allP2 h13 (allP2 h13 (allP2 h13 (allP2 h13 (allP1 h13))))) ?_
   obtain rfl := Option.some.inj h
   refine wfL [(1, .one (.ptr 1 0)), (18, aB true)] (by kernel_rfl) ?_
   exact exM (by kernel_rfl)
  ·replace h := ofF h13 h
   refine woo 7 [(10, .known false), (12, .known false)] [(1, .one (.ptr 1 0)), (13, aB (!r11)), (15, aI a0.2.1)] [(1, .one tM a0)] [((!r11) = false), ((!r11) = false)] (by kernel_rfl) (allP2 h13 (allP1 h13)) ?_
   obtain ⟨r14, h15, h⟩ := bind_of h
   refine WO_call0 (us := [none, none, none]) (d := 16) (p := ((!r11) = false)) (j := 8) rfl ⟨by kernel_rfl, by kernel_rfl, by kernel_rfl⟩ h13 (ref_Within_ok h15) (by kernel_rfl) ?_
   refine woo 10 [(16, .known false), (19, .val (.dat .bool false))] [(1, .one (.ptr 1 0)), (18, aB (!r14))] [(1, .one tM a0)] [((!r11) = false), ((!r11) = false)] (by kernel_rfl) (allP2 h13 (allP1 h13)) ?_
   obtain rfl := Option.some.inj h
   refine wfL [(1, .one (.ptr 1 0)), (18, aB (!r14))] (by kernel_rfl) ?_
   exact exM (by kernel_rfl)
 ·intro e fr L hJ
  obtain ⟨rfl, rfl, rfl⟩ := hJ
  refine ltk [(1, .one (.ptr 1 0)), (18, aB v16)] [(1, .one tM a0)] (by kernel_rfl) ?_
  refine seqQ_norm ?_
  refine W_cond (o := .tmp 18) (b := v16) (by kernel_rfl) (by kernel_rfl) (fun h18 => ?_) (fun h18 => ?_)
  ·replace h := ofT h18 h
   refine sr [(2, aI (1 : Int))] [] (by kernel_rfl) ?_
   obtain rfl := Option.some.inj h
   refine wtL [(2, aI (1 : Int))] (by kernel_rfl) ?_
   refine seqQ_ret ?_
   exact retM (by kernel_rfl)
  ·replace h := ofF h18 h
   refine wkL [(1, .one (.ptr 1 0))] (by kernel_rfl) ?_
   refine seqQ_norm ?_
   refine W_seq (by kernel_rfl) ?_
   refine srL [(1, .one (.ptr 1 0)), (24, aB ((List.length a0.2.2 : Int) != a0.1))] (by kernel_rfl) ?_
   refine W_cond (o := .tmp 24) (b := (List.length a0.2.2 : Int) != a0.1) (by kernel_rfl) (by kernel_rfl) (fun h19 => ?_) (fun h19 => ?_)
   ·replace h := ofT h19 h
    refine sr [(2, aI (3 : Int))] [] (by kernel_rfl) ?_
    obtain rfl := Option.some.inj h
    refine wtL [(2, aI (3 : Int))] (by kernel_rfl) ?_
    refine seqQ_ret ?_
    exact retM (by kernel_rfl)
   ·replace h := ofF h19 h
    refine wkL [(1, .one (.ptr 1 0))] (by kernel_rfl) ?_
    refine seqQ_norm ?_
    refine W_seq (by kernel_rfl) ?_
    refine srL [(1, .one (.ptr 1 0)), (26, aD (.slice (.slice t3)) a0.2.2), (27, aI (List.length a0.2.2 : Int)), (28, aI (0 : Int))] (by kernel_rfl) ?_
    refine W_block (id := 0) (by kernel_rfl) ?_
    obtain ⟨v38, h39, h⟩ := bind_of h
    refine W_len (t := 26) (u := (.slice t3)) (xs := a0.2.2) (by kernel_rfl) (fun h42 => ?_)
    obtain ⟨h40, h41⟩ := forL_iter h42 h39
    refine W_weaken [1, 26, 27, 28] [1] (fr' := ((ref_MachineCheck_s2 a0) ((0 : Int), ())).1) (L' := ((ref_MachineCheck_s2 a0) ((0 : Int), ())).2) (by kernel_rfl) ?_
    refine W_cutK (W_loop (S := (ref_MachineCheck_s2 a0)) (J := (escQ (exQ .ret ref_MachineCheck_s3) (exQ (.exit 0) (ref_MachineCheck_s4 a0)))) (by kernel_rfl) ?_ h40 _ v38 h41) ?_
    ·rintro ⟨i30, x31⟩ s h
     refine sr [(1, .one (.ptr 1 0)), (26, aD (.slice (.slice t3)) a0.2.2), (27, aI (List.length a0.2.2 : Int)), (28, aI i30), (29, aB (decide (i30 < (List.length a0.2.2 : Int))))] [(1, .one tM a0)] (by kernel_rfl) ?_
     refine W_seq (by kernel_rfl) ?_
     refine W_cond (o := .tmp 29) (b := decide (i30 < (List.length a0.2.2 : Int))) (by kernel_rfl) (by kernel_rfl) (fun h35 => ?_) (fun h35 => ?_)
     ·replace h := stepL_true h35 h
      obtain ⟨v33, _, h34, h, rfl⟩ := h
      refine wkL [(1, .one (.ptr 1 0)), (26, aD (.slice (.slice t3)) a0.2.2), (27, aI (List.length a0.2.2 : Int)), (28, aI i30)] (by kernel_rfl) ?_
      refine seqQ_norm ?_
      refine W_seq (by kernel_rfl) ?_
      refine W_block (id := 1) (by kernel_rfl) ?_
      refine sro [(1, .val (.dat (.slice t3) v33))] [(1, .one (.ptr 1 0)), (4, aD (.slice t3) v33), (26, aD (.slice (.slice t3)) a0.2.2), (27, aI (List.length a0.2.2 : Int)), (28, aI i30)] [(1, .one tM a0)] [Idx a0.2.2 i30 v33] (by kernel_rfl) (allP1 (Idx.of h34)) ?_
      refine srL [(1, .one (.ptr 1 0)), (26, aD (.slice (.slice t3)) a0.2.2), (27, aI (List.length a0.2.2 : Int)), (28, aI i30), (36, aB ((List.length v33 : Int) != a0.2.1))] (by kernel_rfl) ?_
      refine W_cond (o := .tmp 36) (b := (List.length v33 : Int) != a0.2.1) (by kernel_rfl) (by kernel_rfl) (fun h36 => ?_) (fun h36 => ?_)
      ·replace h := ofT h36 h
       refine sr [(2, aI (3 : Int))] [] (by kernel_rfl) ?_
       obtain rfl := Option.some.inj h
       refine wtL [(2, aI (3 : Int))] (by kernel_rfl) ?_
       refine blockQ_ret ?_
       refine seqQ_ret ?_
       refine round_ret ?_
       refine escQ_ret ?_
       exact exM (by kernel_rfl)
      ·replace h := ofF h36 h
       refine wkL [(1, .one (.ptr 1 0)), (26, aD (.slice (.slice t3)) a0.2.2), (27, aI (List.length a0.2.2 : Int)), (28, aI i30)] (by kernel_rfl) ?_
       refine blockQ_norm ?_
       refine seqQ_norm ?_
       obtain rfl := Option.some.inj h
       refine swL [(1, .one (.ptr 1 0)), (26, aD (.slice (.slice t3)) a0.2.2), (27, aI (List.length a0.2.2 : Int)), (28, aI (w64 (i30 + (1 : Int))))] (by kernel_rfl) ?_
       exact round_next' (by kernel_rfl) (by kernel_rfl)
     ·obtain rfl := stepL_false h35 h
      refine wxL 0 [(1, .one (.ptr 1 0))] (by kernel_rfl) ?_
      refine seqQ_exit ?_
      refine round_exit ?_
      refine escQ_brk ?_
      exact exM (by kernel_rfl)
    ·intro e fr L hJ
     rcases v38 with v43 | v44
     ·obtain ⟨rfl, rfl, rfl⟩ := hJ
      obtain rfl := Option.some.inj h
      refine ltk [(2, aI v43)] [] (by kernel_rfl) ?_
      refine blockQ_ret ?_
      refine seqQ_ret ?_
      exact retM (by kernel_rfl)
     ·obtain ⟨rfl, rfl, rfl⟩ := hJ
      refine ltk [(1, .one (.ptr 1 0))] [(1, .one tM a0)] (by kernel_rfl) ?_
      refine blockQ_hit ?_
      refine seqQ_norm ?_
      refine W_seq (by kernel_rfl) ?_
      refine sr [(1, .one (.ptr 1 0)), (39, aD (.slice (.slice t3)) a0.2.2), (40, aI (List.length a0.2.2 : Int)), (41, aI (0 : Int))] [(1, .one tM a0)] (by kernel_rfl) ?_
      refine W_block (id := 2) (by kernel_rfl) ?_
      obtain ⟨v207, h208, h⟩ := bind_of h
      refine W_len (t := 39) (u := (.slice t3)) (xs := a0.2.2) (by kernel_rfl) (fun h211 => ?_)
      obtain ⟨h209, h210⟩ := forL_iter h211 h208
      refine W_weaken [1, 39, 40, 41] [1] (fr' := ((ref_MachineCheck_s16 a0) ((0 : Int), ())).1) (L' := ((ref_MachineCheck_s16 a0) ((0 : Int), ())).2) (by kernel_rfl) ?_
      refine W_cutK (W_loop (S := (ref_MachineCheck_s16 a0)) (J := (escQ (exQ .ret ref_MachineCheck_s17) (exQ (.exit 2) ref_MachineCheck_s18))) (by kernel_rfl) ?_ h209 _ v207 h210) ?_
      ·rintro ⟨i151, x152⟩ s h
       refine sr [(1, .one (.ptr 1 0)), (39, aD (.slice (.slice t3)) a0.2.2), (40, aI (List.length a0.2.2 : Int)), (41, aI i151), (42, aB (decide (i151 < (List.length a0.2.2 : Int))))] [(1, .one tM a0)] (by kernel_rfl) ?_
       refine W_seq (by kernel_rfl) ?_
       refine W_cond (o := .tmp 42) (b := decide (i151 < (List.length a0.2.2 : Int))) (by kernel_rfl) (by kernel_rfl) (fun h156 => ?_) (fun h156 => ?_)
       ·replace h := stepL_true h156 h
        obtain ⟨v154, _, h155, h, rfl⟩ := h
        refine wkL [(1, .one (.ptr 1 0)), (39, aD (.slice (.slice t3)) a0.2.2), (40, aI (List.length a0.2.2 : Int)), (41, aI i151)] (by kernel_rfl) ?_
        refine seqQ_norm ?_
        refine W_seq (by kernel_rfl) ?_
        refine W_block (id := 3) (by kernel_rfl) ?_
        refine sro [(1, .val (.dat (.slice t3) v154))] [(1, .one (.ptr 1 0)), (6, aD (.slice t3) v154), (39, aD (.slice (.slice t3)) a0.2.2), (40, aI (List.length a0.2.2 : Int)), (41, aI i151)] [(1, .one tM a0)] [Idx a0.2.2 i151 v154] (by kernel_rfl) (allP1 (Idx.of h155)) ?_
        refine srL [(1, .one (.ptr 1 0)), (39, aD (.slice (.slice t3)) a0.2.2), (40, aI (List.length a0.2.2 : Int)), (41, aI i151), (45, aD (.slice t3) v154), (46, aI (List.length v154 : Int)), (47, aI (0 : Int))] (by kernel_rfl) ?_
        refine W_block (id := 4) (by kernel_rfl) ?_
        obtain ⟨v199, h200, h⟩ := bind_of h
        refine W_len (t := 45) (u := t3) (xs := v154) (by kernel_rfl) (fun h203 => ?_)
        obtain ⟨h201, h202⟩ := forL_iter h203 h200
        refine W_weaken [1, 39, 40, 41, 45, 46, 47] [1] (fr' := ((ref_MachineCheck_s12 a0 i151 v154) ((0 : Int), ())).1) (L' := ((ref_MachineCheck_s12 a0 i151 v154) ((0 : Int), ())).2) (by kernel_rfl) ?_
        refine W_cutK (W_loop (S := (ref_MachineCheck_s12 a0 i151 v154)) (J := (escQ (exQ .ret ref_MachineCheck_s13) (exQ (.exit 4) (ref_MachineCheck_s14 a0 i151)))) (by kernel_rfl) ?_ h201 _ v199 h202) ?_
        ·rintro ⟨i183, x184⟩ s h
         refine sr [(1, .one (.ptr 1 0)), (39, aD (.slice (.slice t3)) a0.2.2), (40, aI (List.length a0.2.2 : Int)), (41, aI i151), (45, aD (.slice t3) v154), (46, aI (List.length v154 : Int)), (47, aI i183), (48, aB (decide (i183 < (List.length v154 : Int))))] [(1, .one tM a0)] (by kernel_rfl) ?_
         refine W_seq (by kernel_rfl) ?_
         refine W_cond (o := .tmp 48) (b := decide (i183 < (List.length v154 : Int))) (by kernel_rfl) (by kernel_rfl) (fun h188 => ?_) (fun h188 => ?_)
         ·replace h := stepL_true h188 h
          obtain ⟨v186, _, h187, h, rfl⟩ := h
          refine wkL [(1, .one (.ptr 1 0)), (39, aD (.slice (.slice t3)) a0.2.2), (40, aI (List.length a0.2.2 : Int)), (41, aI i151), (45, aD (.slice t3) v154), (46, aI (List.length v154 : Int)), (47, aI i183)] (by kernel_rfl) ?_
          refine seqQ_norm ?_
          refine W_seq (by kernel_rfl) ?_
          refine W_block (id := 5) (by kernel_rfl) ?_
          refine sro [(1, .val (.dat t3 v186)), (5, .typed)] [(1, .one (.ptr 1 0)), (8, .one (.ptr 8 0)), (39, aD (.slice (.slice t3)) a0.2.2), (40, aI (List.length a0.2.2 : Int)), (41, aI i151), (45, aD (.slice t3) v154), (46, aI (List.length v154 : Int)), (47, aI i183)] [(1, .one tM a0), (8, .one t3 v186)] [Idx v154 i183 v186, True] (by kernel_rfl) (allP2 (Idx.of h187) (allP1 trivial)) ?_
          refine W_seq (by kernel_rfl) ?_
          refine W_seq (by kernel_rfl) ?_
          refine W_region (by kernel_rfl) ?_
          refine wo 5 [(1, .one (.ptr 1 0)), (8, .one (.ptr 8 0)), (39, aD (.slice (.slice t3)) a0.2.2), (40, aI (List.length a0.2.2 : Int)), (41, aI i151), (45, aD (.slice t3) v154), (46, aI (List.length v154 : Int)), (47, aI i183), (52, aI a0.2.1), (55, .one (.slc 55))] [(1, .one tM a0), (8, .one t3 v186), (55, .seq tI [v186.1])] (by kernel_rfl) ?_
          obtain ⟨r189, h190, h⟩ := bind_of h
          refine WO_frz 55 (by kernel_rfl) ?_
          refine WO_call0 (us := [none, none]) (d := 56) (p := True) (j := 6) rfl ⟨by kernel_rfl, by kernel_rfl, by kernel_rfl⟩ trivial (ref_Inside_ok h190) (by kernel_rfl) ?_
          refine wo 7 [(1, .one (.ptr 1 0)), (8, .one (.ptr 8 0)), (39, aD (.slice (.slice t3)) a0.2.2), (40, aI (List.length a0.2.2 : Int)), (41, aI i151), (45, aD (.slice t3) v154), (46, aI (List.length v154 : Int)), (47, aI i183), (57, aB (!r189))] [(1, .one tM a0), (8, .one t3 v186)] (by kernel_rfl) ?_
          refine wfL [(1, .one (.ptr 1 0)), (8, .one (.ptr 8 0)), (39, aD (.slice (.slice t3)) a0.2.2), (40, aI (List.length a0.2.2 : Int)), (41, aI i151), (45, aD (.slice t3) v154), (46, aI (List.length v154 : Int)), (47, aI i183), (57, aB (!r189))] (by kernel_rfl) ?_
          refine seqQ_norm ?_
          refine W_cond (o := .tmp 57) (b := !r189) (by kernel_rfl) (by kernel_rfl) (fun h191 => ?_) (fun h191 => ?_)
          ·replace h := ofT h191 h
           refine sr [(2, aI (2 : Int))] [] (by kernel_rfl) ?_
           obtain rfl := Option.some.inj h
           refine wtL [(2, aI (2 : Int))] (by kernel_rfl) ?_
           refine seqQ_ret ?_
           refine blockQ_ret ?_
           refine seqQ_ret ?_
           refine round_ret ?_
           refine escQ_ret ?_
           exact exM (by kernel_rfl)
          ·replace h := ofF h191 h
           refine wkL [(1, .one (.ptr 1 0)), (8, .one (.ptr 8 0)), (39, aD (.slice (.slice t3)) a0.2.2), (40, aI (List.length a0.2.2 : Int)), (41, aI i151), (45, aD (.slice t3) v154), (46, aI (List.length v154 : Int)), (47, aI i183)] (by kernel_rfl) ?_
           refine seqQ_norm ?_
           refine W_seq (by kernel_rfl) ?_
           refine W_seq (by kernel_rfl) ?_
           refine W_region (by kernel_rfl) ?_
           refine woL 2 [(1, .one (.ptr 1 0)), (8, .one (.ptr 8 0)), (39, aD (.slice (.slice t3)) a0.2.2), (40, aI (List.length a0.2.2 : Int)), (41, aI i151), (45, aD (.slice t3) v154), (46, aI (List.length v154 : Int)), (47, aI i183), (59, aI v186.2.1)] (by kernel_rfl) ?_
           obtain ⟨r192, h193, h⟩ := bind_of h
           refine WO_call0 (us := [none, none, none]) (d := 60) (p := True) (j := 3) rfl ⟨by kernel_rfl, by kernel_rfl, by kernel_rfl⟩ trivial (ref_Within_ok h193) (by kernel_rfl) ?_
           refine wo 4 [(1, .one (.ptr 1 0)), (8, .one (.ptr 8 0)), (39, aD (.slice (.slice t3)) a0.2.2), (40, aI (List.length a0.2.2 : Int)), (41, aI i151), (45, aD (.slice t3) v154), (46, aI (List.length v154 : Int)), (47, aI i183), (61, aB (!r192))] [(1, .one tM a0), (8, .one t3 v186)] (by kernel_rfl) ?_
           refine wfL [(1, .one (.ptr 1 0)), (8, .one (.ptr 8 0)), (39, aD (.slice (.slice t3)) a0.2.2), (40, aI (List.length a0.2.2 : Int)), (41, aI i151), (45, aD (.slice t3) v154), (46, aI (List.length v154 : Int)), (47, aI i183), (61, aB (!r192))] (by kernel_rfl) ?_
           refine seqQ_norm ?_
           refine W_cond (o := .tmp 61) (b := !r192) (by kernel_rfl) (by kernel_rfl) (fun h194 => ?_) (fun h194 => ?_)
           ·replace h := ofT h194 h
            refine sr [(2, aI (4 : Int))] [] (by kernel_rfl) ?_
            obtain rfl := Option.some.inj h
            refine wtL [(2, aI (4 : Int))] (by kernel_rfl) ?_
            refine seqQ_ret ?_
            refine blockQ_ret ?_
            refine seqQ_ret ?_
            refine round_ret ?_
            refine escQ_ret ?_
            exact exM (by kernel_rfl)
           ·replace h := ofF h194 h
            refine wkL [(1, .one (.ptr 1 0)), (8, .one (.ptr 8 0)), (39, aD (.slice (.slice t3)) a0.2.2), (40, aI (List.length a0.2.2 : Int)), (41, aI i151), (45, aD (.slice t3) v154), (46, aI (List.length v154 : Int)), (47, aI i183)] (by kernel_rfl) ?_
            refine seqQ_norm ?_
            refine W_seq (by kernel_rfl) ?_
            refine W_region (by kernel_rfl) ?_
            refine wo 6 [(1, .one (.ptr 1 0)), (39, aD (.slice (.slice t3)) a0.2.2), (40, aI (List.length a0.2.2 : Int)), (41, aI i151), (45, aD (.slice t3) v154), (46, aI (List.length v154 : Int)), (47, aI i183), (64, aI (w64 (a0.1 + (1 : Int)))), (67, .one (.slc 67))] [(1, .one tM a0), (8, .one t3 v186), (67, .seq tI [v186.2.2])] (by kernel_rfl) ?_
            obtain ⟨r195, h196, h⟩ := bind_of h
            refine WO_frz 67 (by kernel_rfl) ?_
            refine WO_call0 (us := [none, none]) (d := 68) (p := True) (j := 7) rfl ⟨by kernel_rfl, by kernel_rfl, by kernel_rfl⟩ trivial (ref_Inside_ok h196) (by kernel_rfl) ?_
            refine wo 8 [(1, .one (.ptr 1 0)), (39, aD (.slice (.slice t3)) a0.2.2), (40, aI (List.length a0.2.2 : Int)), (41, aI i151), (45, aD (.slice t3) v154), (46, aI (List.length v154 : Int)), (47, aI i183), (69, aB (!r195))] [(1, .one tM a0), (8, .one t3 v186)] (by kernel_rfl) ?_
            refine wf [(1, .one (.ptr 1 0)), (39, aD (.slice (.slice t3)) a0.2.2), (40, aI (List.length a0.2.2 : Int)), (41, aI i151), (45, aD (.slice t3) v154), (46, aI (List.length v154 : Int)), (47, aI i183), (69, aB (!r195))] [(1, .one tM a0)] (by kernel_rfl) ?_
            refine seqQ_norm ?_
            refine W_cond (o := .tmp 69) (b := !r195) (by kernel_rfl) (by kernel_rfl) (fun h197 => ?_) (fun h197 => ?_)
            ·replace h := ofT h197 h
             refine sr [(2, aI (2 : Int))] [] (by kernel_rfl) ?_
             obtain rfl := Option.some.inj h
             refine wtL [(2, aI (2 : Int))] (by kernel_rfl) ?_
             refine blockQ_ret ?_
             refine seqQ_ret ?_
             refine round_ret ?_
             refine escQ_ret ?_
             exact exM (by kernel_rfl)
            ·replace h := ofF h197 h
             refine wkL [(1, .one (.ptr 1 0)), (39, aD (.slice (.slice t3)) a0.2.2), (40, aI (List.length a0.2.2 : Int)), (41, aI i151), (45, aD (.slice t3) v154), (46, aI (List.length v154 : Int)), (47, aI i183)] (by kernel_rfl) ?_
             refine blockQ_norm ?_
             refine seqQ_norm ?_
             obtain rfl := Option.some.inj h
             refine swL [(1, .one (.ptr 1 0)), (39, aD (.slice (.slice t3)) a0.2.2), (40, aI (List.length a0.2.2 : Int)), (41, aI i151), (45, aD (.slice t3) v154), (46, aI (List.length v154 : Int)), (47, aI (w64 (i183 + (1 : Int))))] (by kernel_rfl) ?_
             exact round_next' (by kernel_rfl) (by kernel_rfl)
         ·obtain rfl := stepL_false h188 h
          refine wxL 4 [(1, .one (.ptr 1 0)), (39, aD (.slice (.slice t3)) a0.2.2), (40, aI (List.length a0.2.2 : Int)), (41, aI i151)] (by kernel_rfl) ?_
          refine seqQ_exit ?_
          refine round_exit ?_
          refine escQ_brk ?_
          exact exM (by kernel_rfl)
        ·intro e fr L hJ
         rcases v199 with v204 | v205
         ·obtain ⟨rfl, rfl, rfl⟩ := hJ
          obtain rfl := Option.some.inj h
          refine ltk [(2, aI v204)] [] (by kernel_rfl) ?_
          refine blockQ_ret ?_
          refine blockQ_ret ?_
          refine seqQ_ret ?_
          refine round_ret ?_
          refine escQ_ret ?_
          exact exM (by kernel_rfl)
         ·obtain ⟨rfl, rfl, rfl⟩ := hJ
          refine ltk [(1, .one (.ptr 1 0)), (39, aD (.slice (.slice t3)) a0.2.2), (40, aI (List.length a0.2.2 : Int)), (41, aI i151)] [(1, .one tM a0)] (by kernel_rfl) ?_
          refine blockQ_hit ?_
          refine blockQ_norm ?_
          refine seqQ_norm ?_
          obtain rfl := Option.some.inj h
          refine sw [(1, .one (.ptr 1 0)), (39, aD (.slice (.slice t3)) a0.2.2), (40, aI (List.length a0.2.2 : Int)), (41, aI (w64 (i151 + (1 : Int))))] [(1, .one tM a0)] (by kernel_rfl) ?_
          exact round_next' (by kernel_rfl) (by kernel_rfl)
       ·obtain rfl := stepL_false h156 h
        refine wx 2 [] [] (by kernel_rfl) ?_
        refine seqQ_exit ?_
        refine round_exit ?_
        refine escQ_brk ?_
        exact exM (by kernel_rfl)
      ·intro e fr L hJ
       rcases v207 with v212 | v213
       ·obtain ⟨rfl, rfl, rfl⟩ := hJ
        obtain rfl := Option.some.inj h
        refine ltk [(2, aI v212)] [] (by kernel_rfl) ?_
        refine blockQ_ret ?_
        refine seqQ_ret ?_
        exact retM (by kernel_rfl)
       ·obtain ⟨rfl, rfl, rfl⟩ := hJ
        refine ltk [] [] (by kernel_rfl) ?_
        refine blockQ_hit ?_
        refine seqQ_norm ?_
        refine sr [(2, aI (0 : Int))] [] (by kernel_rfl) ?_
        obtain rfl := Option.some.inj h
        refine wtL [(2, aI (0 : Int))] (by kernel_rfl) ?_
        exact retM (by kernel_rfl)

@[reducible] def ref_UnrollCheck_s1 (a1 : Int) (a2 : Int) (v : Bool) : Fr × LL := ([(1, aI a1), (2, aI a2), (20, aB v)], [])
def ref_UnrollCheck (a0 : (Int × (Int × (List (List (Int × (Int × Int))))))) (a1 : Int) (a2 : Int) : Option Int :=
(ref_MachineCheck a0).bind fun r1 =>
bif r1 != (0 : Int) then
(some r1)
else
((bif a0.2.1 != (2 : Int) then
(some true)
else
(some (decide (a0.1 > (2 : Int))))).bind fun v7 =>
bif v7 then
(some (3 : Int))
else
((ref_Within (1 : Int) a1 (5 : Int)).bind fun r10 =>
bif !r10 then
(some (1 : Int))
else
((ref_Within (0 : Int) a2 (6 : Int)).bind fun r13 =>
bif !r13 then
(some (7 : Int))
else
(some (0 : Int)))))
theorem ref_UnrollCheck_ok {a0 : (Int × (Int × (List (List (Int × (Int × Int))))))} {a1 : Int} {a2 : Int} {r : Int} (h : ref_UnrollCheck a0 a1 a2 = some r) : FnC Try.prog 30 [aD tM a0, aI a1, aI a2] [] (aI r) [] := by
 refine fnC_of_W (B := bodyOf Try.f30) (n := 27) Try.func30 (by kernel_rfl) (by kernel_rfl) (by kernel_rfl) (by kernel_rfl) (by kernel_rfl) ?_
 intro K
 refine sr [(1, aI a1), (2, aI a2), (3, .one (.ptr 3 0))] [(3, .one tM a0)] (by kernel_rfl) ?_
 refine W_seq (by kernel_rfl) ?_
 refine W_region (by kernel_rfl) ?_
 refine woL 1 [(1, aI a1), (2, aI a2), (3, .one (.ptr 3 0)), (8, aD tM a0)] (by kernel_rfl) ?_
 obtain ⟨r1, h2, h⟩ := bind_of h
 refine WO_call0 (us := [none]) (d := 9) (p := True) (j := 2) rfl ⟨by kernel_rfl, by kernel_rfl, by kernel_rfl⟩ trivial (ref_MachineCheck_ok h2) (by kernel_rfl) ?_
 refine wo 3 [(1, aI a1), (2, aI a2), (3, .one (.ptr 3 0)), (7, aI r1)] [(3, .one tM a0)] (by kernel_rfl) ?_
 refine wfL [(1, aI a1), (2, aI a2), (3, .one (.ptr 3 0)), (7, aI r1)] (by kernel_rfl) ?_
 refine seqQ_norm ?_
 refine W_seq (by kernel_rfl) ?_
 refine srL [(1, aI a1), (2, aI a2), (3, .one (.ptr 3 0)), (7, aI r1), (11, aB (r1 != (0 : Int)))] (by kernel_rfl) ?_
 refine W_cond (o := .tmp 11) (b := r1 != (0 : Int)) (by kernel_rfl) (by kernel_rfl) (fun h3 => ?_) (fun h3 => ?_)
 ·replace h := ofT h3 h
  refine sr [(6, aI r1)] [] (by kernel_rfl) ?_
  obtain rfl := Option.some.inj h
  refine wtL [(6, aI r1)] (by kernel_rfl) ?_
  refine seqQ_ret ?_
  exact retM (by kernel_rfl)
 ·replace h := ofF h3 h
  refine wkL [(1, aI a1), (2, aI a2), (3, .one (.ptr 3 0))] (by kernel_rfl) ?_
  refine seqQ_norm ?_
  refine W_seq (by kernel_rfl) ?_
  refine W_seq (by kernel_rfl) ?_
  obtain ⟨v7, h8, h⟩ := bind_of h
  refine W_cutK (Q' := (exQ .normal (ref_UnrollCheck_s1 a1 a2)) v7) ?_ ?_
  ·replace h := h8
   refine W_region (by kernel_rfl) ?_
   refine wo 4 [(1, aI a1), (2, aI a2), (3, .one (.ptr 3 0)), (16, aB (a0.2.1 != (2 : Int)))] [(3, .one tM a0)] (by kernel_rfl) ?_
   rcases Bool.eq_false_or_eq_true (a0.2.1 != (2 : Int)) with h6 | h6
   ·replace h := ofT h6 h
    refine woo 8 [(8, .known true), (10, .known true), (12, .known true), (15, .val (.dat .bool true))] [(1, aI a1), (2, aI a2), (20, aB true)] [(3, .one tM a0)] [((a0.2.1 != (2 : Int)) = true), ((a0.2.1 != (2 : Int)) = true), ((a0.2.1 != (2 : Int)) = true), ((a0.2.1 != (2 : Int)) = true)] (by kernel_rfl) (allP2 h6 (allP2 h6 (allP2 h6 (allP1 h6)))) ?_
    obtain rfl := Option.some.inj h
    refine wf [(1, aI a1), (2, aI a2), (20, aB true)] [] (by kernel_rfl) ?_
    exact exM (by kernel_rfl)
   ·replace h := ofF h6 h
    refine woo 8 [(8, .known false), (10, .known false), (12, .known false), (15, .val (.dat .bool false))] [(1, aI a1), (2, aI a2), (20, aB (decide (a0.1 > (2 : Int))))] [(3, .one tM a0)] [((a0.2.1 != (2 : Int)) = false), ((a0.2.1 != (2 : Int)) = false), ((a0.2.1 != (2 : Int)) = false), ((a0.2.1 != (2 : Int)) = false)] (by kernel_rfl) (allP2 h6 (allP2 h6 (allP2 h6 (allP1 h6)))) ?_
    obtain rfl := Option.some.inj h
    refine wf [(1, aI a1), (2, aI a2), (20, aB (decide (a0.1 > (2 : Int))))] [] (by kernel_rfl) ?_
    exact exM (by kernel_rfl)
  ·intro e fr L hJ
   obtain ⟨rfl, rfl, rfl⟩ := hJ
   refine ltk [(1, aI a1), (2, aI a2), (20, aB v7)] [] (by kernel_rfl) ?_
   refine seqQ_norm ?_
   refine W_cond (o := .tmp 20) (b := v7) (by kernel_rfl) (by kernel_rfl) (fun h9 => ?_) (fun h9 => ?_)
   ·replace h := ofT h9 h
    refine srL [(6, aI (3 : Int))] (by kernel_rfl) ?_
    obtain rfl := Option.some.inj h
    refine wtL [(6, aI (3 : Int))] (by kernel_rfl) ?_
    refine seqQ_ret ?_
    exact retM (by kernel_rfl)
   ·replace h := ofF h9 h
    refine wkL [(1, aI a1), (2, aI a2)] (by kernel_rfl) ?_
    refine seqQ_norm ?_
    refine W_seq (by kernel_rfl) ?_
    refine W_seq (by kernel_rfl) ?_
    refine W_region (by kernel_rfl) ?_
    refine woL 1 [(2, aI a2), (21, aI a1)] (by kernel_rfl) ?_
    obtain ⟨r10, h11, h⟩ := bind_of h
    refine WO_call0 (us := [none, none, none]) (d := 22) (p := True) (j := 2) rfl ⟨by kernel_rfl, by kernel_rfl, by kernel_rfl⟩ trivial (ref_Within_ok h11) (by kernel_rfl) ?_
    refine wo 3 [(2, aI a2), (23, aB (!r10))] [] (by kernel_rfl) ?_
    refine wfL [(2, aI a2), (23, aB (!r10))] (by kernel_rfl) ?_
    refine seqQ_norm ?_
    refine W_cond (o := .tmp 23) (b := !r10) (by kernel_rfl) (by kernel_rfl) (fun h12 => ?_) (fun h12 => ?_)
    ·replace h := ofT h12 h
     refine srL [(6, aI (1 : Int))] (by kernel_rfl) ?_
     obtain rfl := Option.some.inj h
     refine wtL [(6, aI (1 : Int))] (by kernel_rfl) ?_
     refine seqQ_ret ?_
     exact retM (by kernel_rfl)
    ·replace h := ofF h12 h
     refine wkL [(2, aI a2)] (by kernel_rfl) ?_
     refine seqQ_norm ?_
     refine W_seq (by kernel_rfl) ?_
     refine W_seq (by kernel_rfl) ?_
     refine W_region (by kernel_rfl) ?_
     refine woL 1 [(24, aI a2)] (by kernel_rfl) ?_
     obtain ⟨r13, h14, h⟩ := bind_of h
     refine WO_call0 (us := [none, none, none]) (d := 25) (p := True) (j := 2) rfl ⟨by kernel_rfl, by kernel_rfl, by kernel_rfl⟩ trivial (ref_Within_ok h14) (by kernel_rfl) ?_
     refine wo 3 [(26, aB (!r13))] [] (by kernel_rfl) ?_
     refine wfL [(26, aB (!r13))] (by kernel_rfl) ?_
     refine seqQ_norm ?_
     refine W_cond (o := .tmp 26) (b := !r13) (by kernel_rfl) (by kernel_rfl) (fun h15 => ?_) (fun h15 => ?_)
     ·replace h := ofT h15 h
      refine srL [(6, aI (7 : Int))] (by kernel_rfl) ?_
      obtain rfl := Option.some.inj h
      refine wtL [(6, aI (7 : Int))] (by kernel_rfl) ?_
      refine seqQ_ret ?_
      exact retM (by kernel_rfl)
     ·replace h := ofF h15 h
      refine wkL [] (by kernel_rfl) ?_
      refine seqQ_norm ?_
      refine srL [(6, aI (0 : Int))] (by kernel_rfl) ?_
      obtain rfl := Option.some.inj h
      refine wtL [(6, aI (0 : Int))] (by kernel_rfl) ?_
      exact retM (by kernel_rfl)

def ref_Bit (a0 : Int) (a1 : Int) : Option Bool :=
bif (decide (a1 ≥ (0 : Int))) && (decide (a1 < (63 : Int))) then
((ck (0 ≤ IntKind.wrap .u64 (a1))).bind fun _ =>
some ((bAnd .i64 a0 (bShl .i64 (1 : Int) (IntKind.wrap .u64 (a1)))) != (0 : Int)))
else
(some false)
theorem ref_Bit_ok {a0 : Int} {a1 : Int} {r : Bool} (h : ref_Bit a0 a1 = some r) : FnC Try.prog 61 [aI a0, aI a1] [] (aB r) [] := by
 refine fnC_of_W (B := bodyOf Try.f61) (n := 19) Try.func61 (by kernel_rfl) (by kernel_rfl) (by kernel_rfl) (by kernel_rfl) (by kernel_rfl) ?_
 intro K
 refine sr [(0, aI a0), (1, aI a1)] [] (by kernel_rfl) ?_
 refine W_seq (by kernel_rfl) ?_
 refine W_region (by kernel_rfl) ?_
 refine woL 7 [(0, aI a0), (1, aI a1), (11, aB ((decide (a1 ≥ (0 : Int))) && (decide (a1 < (63 : Int)))))] (by kernel_rfl) ?_
 rcases Bool.eq_false_or_eq_true ((decide (a1 ≥ (0 : Int))) && (decide (a1 < (63 : Int)))) with h1 | h1
 ·replace h := ofT h1 h
  obtain ⟨_, h2, h⟩ := bind_of h
  replace h2 := ck_some h2
  refine woo 15 [(14, .known true), (16, .known true), (18, .known true), (20, .known true), (22, .known true), (24, .known true), (27, .val (.dat .bool true))] [(4, aB ((bAnd .i64 a0 (bShl .i64 (1 : Int) (IntKind.wrap .u64 (a1)))) != (0 : Int)))] [] [(((decide (a1 ≥ (0 : Int))) && (decide (a1 < (63 : Int)))) = true), (((decide (a1 ≥ (0 : Int))) && (decide (a1 < (63 : Int)))) = true), (((decide (a1 ≥ (0 : Int))) && (decide (a1 < (63 : Int)))) = true), (((decide (a1 ≥ (0 : Int))) && (decide (a1 < (63 : Int)))) = true), (0 ≤ IntKind.wrap .u64 (a1)), (((decide (a1 ≥ (0 : Int))) && (decide (a1 < (63 : Int)))) = true), (((decide (a1 ≥ (0 : Int))) && (decide (a1 < (63 : Int)))) = true), (((decide (a1 ≥ (0 : Int))) && (decide (a1 < (63 : Int)))) = true)] (by kernel_rfl) (allP2 h1 (allP2 h1 (allP2 h1 (allP2 h1 (allP2 h2 (allP2 h1 (allP2 h1 (allP1 h1)))))))) ?_
  refine wfL [(4, aB ((bAnd .i64 a0 (bShl .i64 (1 : Int) (IntKind.wrap .u64 (a1)))) != (0 : Int)))] (by kernel_rfl) ?_
  refine seqQ_norm ?_
  obtain rfl := Option.some.inj h
  refine wtL [(4, aB ((bAnd .i64 a0 (bShl .i64 (1 : Int) (IntKind.wrap .u64 (a1)))) != (0 : Int)))] (by kernel_rfl) ?_
  exact retM (by kernel_rfl)
 ·replace h := ofF h1 h
  refine woo 15 [(14, .known false), (16, .known false), (18, .known false), (20, .known false), (22, .known false), (24, .known false), (27, .val (.dat .bool false))] [(4, aB false)] [] [(((decide (a1 ≥ (0 : Int))) && (decide (a1 < (63 : Int)))) = false), (((decide (a1 ≥ (0 : Int))) && (decide (a1 < (63 : Int)))) = false), (((decide (a1 ≥ (0 : Int))) && (decide (a1 < (63 : Int)))) = false), (((decide (a1 ≥ (0 : Int))) && (decide (a1 < (63 : Int)))) = false), (((decide (a1 ≥ (0 : Int))) && (decide (a1 < (63 : Int)))) = false), (((decide (a1 ≥ (0 : Int))) && (decide (a1 < (63 : Int)))) = false), (((decide (a1 ≥ (0 : Int))) && (decide (a1 < (63 : Int)))) = false)] (by kernel_rfl) (allP2 h1 (allP2 h1 (allP2 h1 (allP2 h1 (allP2 h1 (allP2 h1 (allP1 h1))))))) ?_
  refine wfL [(4, aB false)] (by kernel_rfl) ?_
  refine seqQ_norm ?_
  obtain rfl := Option.some.inj h
  refine wtL [(4, aB false)] (by kernel_rfl) ?_
  exact retM (by kernel_rfl)

@[reducible] def ref_Asked_s18 (a0 : (Int × (Int × (List (List (Int × (Int × Int))))))) (a1 : Int) (a2 : Int) (x58 : (Int × Int × Int × Int)) (v158 : Int) (v162 : (Int × (Int × Int))) (v : Int) : Fr × LL := ([(1, aI a1), (2, aI a2), (3, aI (w64 ((w64 (x58.1 - (bShl .i64 v158 (IntKind.wrap .u64 (x58.2.1))))) + (bShl .i64 v162.1 (IntKind.wrap .u64 (x58.2.1)))))), (4, .one (.ptr 4 0)), (9, aI v), (11, aI x58.2.2.2), (13, .one (.ptr 13 0))], [(4, .one tM a0), (13, .one t3 v162)])
@[reducible] def ref_Asked_s19 (a0 : (Int × (Int × (List (List (Int × (Int × Int))))))) (a1 : Int) (a2 : Int) (x58 : (Int × Int × Int × Int)) (v158 : Int) (v162 : (Int × (Int × Int))) (v : Int) : Fr × LL := ([(1, aI a1), (2, aI a2), (3, aI (w64 ((w64 (x58.1 - (bShl .i64 v158 (IntKind.wrap .u64 (x58.2.1))))) + (bShl .i64 v162.1 (IntKind.wrap .u64 (x58.2.1)))))), (4, .one (.ptr 4 0)), (9, aI v), (11, aI x58.2.2.2), (13, .one (.ptr 13 0))], [(4, .one tM a0), (13, .one t3 v162)])
@[reducible] def ref_Asked_s20 (a0 : (Int × (Int × (List (List (Int × (Int × Int))))))) (a1 : Int) (a2 : Int) (x58 : (Int × Int × Int × Int)) (v : Int) : Fr × LL := ([(1, aI a1), (2, aI a2), (3, aI x58.1), (4, .one (.ptr 4 0)), (9, aI x58.2.1), (10, aI x58.2.2.1), (11, aI x58.2.2.2), (12, aI v)], [(4, .one tM a0)])
@[reducible] def ref_Asked_s21 (a0 : (Int × (Int × (List (List (Int × (Int × Int))))))) (a1 : Int) (a2 : Int) (x58 : (Int × Int × Int × Int)) (v : Bool) : Fr × LL := ([(1, aI a1), (2, aI a2), (3, aI x58.1), (4, .one (.ptr 4 0)), (9, aI x58.2.1), (10, aI x58.2.2.1), (11, aI x58.2.2.2), (22, aB v)], [(4, .one tM a0)])
def ref_Asked_b22 (a0 : (Int × (Int × (List (List (Int × (Int × Int))))))) (a1 : Int) (a2 : Int) (x58 : (Int × Int × Int × Int)) : Option (Flow (Int × Int × Int × Int) (Int × Int × Int)) :=
(bif decide (x58.2.2.2 < a2) then
(some (decide (x58.2.2.1 < a0.1)))
else
(some false)).bind fun v120 =>
bif v120 then
(((ref_Bit x58.1 x58.2.1).bind fun r155 =>
bif r155 then
(some (1 : Int))
else
(some (0 : Int))).bind fun v158 =>
(idx a0.2.2 x58.2.2.1).bind fun v160 =>
(idx v160 v158).bind fun v162 =>
(ck (0 ≤ IntKind.wrap .u64 (x58.2.1))).bind fun _ =>
(bif decide ((w64 (x58.2.1 + v162.2.1)) < (0 : Int)) then
(some (0 : Int))
else
(some (w64 (x58.2.1 + v162.2.1)))).bind fun v168 =>
(bif decide (v168 ≥ a1) then
(some (w64 (a1 - (1 : Int))))
else
(some v168)).bind fun v173 =>
some (.next (w64 ((w64 (x58.1 - (bShl .i64 v158 (IntKind.wrap .u64 (x58.2.1))))) + (bShl .i64 v162.1 (IntKind.wrap .u64 (x58.2.1)))), v173, v162.2.2, w64 (x58.2.2.2 + (1 : Int)))))
else
(some (.done (x58.1, x58.2.1, x58.2.2.1)))
@[reducible] def ref_Asked_s23 (a0 : (Int × (Int × (List (List (Int × (Int × Int))))))) (a1 : Int) (a2 : Int) (v : (Int × Int × Int × Int)) : Fr × LL := ([(1, aI a1), (2, aI a2), (3, aI v.1), (4, .one (.ptr 4 0)), (9, aI v.2.1), (10, aI v.2.2.1), (11, aI v.2.2.2)], [(4, .one tM a0)])
@[reducible] def ref_Asked_s24 (a0 : (Int × (Int × (List (List (Int × (Int × Int))))))) (v : (Int × Int × Int)) : Fr × LL := ([(3, aI v.1), (4, .one (.ptr 4 0)), (9, aI v.2.1), (10, aI v.2.2)], [(4, .one tM a0)])
@[reducible] def ref_Asked_s25 (v : Bool) : Fr × LL := ([(8, aB v)], [])
def ref_Asked (fuel : Nat) (a0 : (Int × (Int × (List (List (Int × (Int × Int))))))) (a1 : Int) (a2 : Int) (a3 : Int) : Option Bool :=
(iter (ref_Asked_b22 a0 a1 a2) fuel (a3, (0 : Int), (0 : Int), (0 : Int))).bind fun v175 =>
(bif v175.2.2 == a0.1 then
((ref_Bit v175.1 v175.2.1).bind fun r186 =>
some r186)
else
(some false)).bind fun v188 =>
some v188
theorem ref_Asked_ok {fuel : Nat} {a0 : (Int × (Int × (List (List (Int × (Int × Int))))))} {a1 : Int} {a2 : Int} {a3 : Int} {r : Bool} (h : ref_Asked fuel a0 a1 a2 a3 = some r) : FnC Try.prog 49 [aD tM a0, aI a1, aI a2, aI a3] [] (aB r) [] := by
 refine fnC_of_W (B := bodyOf Try.f49) (n := 70) Try.func49 (by kernel_rfl) (by kernel_rfl) (by kernel_rfl) (by kernel_rfl) (by kernel_rfl) ?_
 intro K
 refine sr [(1, aI a1), (2, aI a2), (3, aI a3), (4, .one (.ptr 4 0))] [(4, .one tM a0)] (by kernel_rfl) ?_
 refine srL [(1, aI a1), (2, aI a2), (3, aI a3), (4, .one (.ptr 4 0)), (9, aI (0 : Int))] (by kernel_rfl) ?_
 refine srL [(1, aI a1), (2, aI a2), (3, aI a3), (4, .one (.ptr 4 0)), (9, aI (0 : Int)), (10, aI (0 : Int))] (by kernel_rfl) ?_
 refine W_seq (by kernel_rfl) ?_
 refine srL [(1, aI a1), (2, aI a2), (3, aI a3), (4, .one (.ptr 4 0)), (9, aI (0 : Int)), (10, aI (0 : Int)), (11, aI (0 : Int))] (by kernel_rfl) ?_
 refine W_block (id := 0) (by kernel_rfl) ?_
 obtain ⟨v175, h176, h⟩ := bind_of h
 refine W_weaken [1, 2, 3, 4, 9, 10, 11] [4] (fr' := ((ref_Asked_s23 a0 a1 a2) (a3, (0 : Int), (0 : Int), (0 : Int))).1) (L' := ((ref_Asked_s23 a0 a1 a2) (a3, (0 : Int), (0 : Int), (0 : Int))).2) (by kernel_rfl) ?_
 refine W_cutK (W_loop (S := (ref_Asked_s23 a0 a1 a2)) (J := (exQ (.exit 0) (ref_Asked_s24 a0))) (by kernel_rfl) ?_ fuel _ v175 h176) ?_
 ·rintro x58 s h
  refine W_seq (by kernel_rfl) ?_
  refine W_seq (by kernel_rfl) ?_
  obtain ⟨v120, h121, h⟩ := bind_of h
  refine W_cutK (Q' := (exQ .normal (ref_Asked_s21 a0 a1 a2 x58)) v120) ?_ ?_
  ·replace h := h121
   refine W_region (by kernel_rfl) ?_
   refine wo 4 [(1, aI a1), (2, aI a2), (3, aI x58.1), (4, .one (.ptr 4 0)), (9, aI x58.2.1), (10, aI x58.2.2.1), (11, aI x58.2.2.2), (17, aB (decide (x58.2.2.2 < a2)))] [(4, .one tM a0)] (by kernel_rfl) ?_
   rcases Bool.eq_false_or_eq_true (decide (x58.2.2.2 < a2)) with h119 | h119
   ·replace h := ofT h119 h
    refine woo 9 [(8, .known true), (10, .known true), (12, .known true), (14, .known true), (17, .val (.dat .bool true))] [(1, aI a1), (2, aI a2), (3, aI x58.1), (4, .one (.ptr 4 0)), (9, aI x58.2.1), (10, aI x58.2.2.1), (11, aI x58.2.2.2), (22, aB (decide (x58.2.2.1 < a0.1)))] [(4, .one tM a0)] [((decide (x58.2.2.2 < a2)) = true), ((decide (x58.2.2.2 < a2)) = true), ((decide (x58.2.2.2 < a2)) = true), ((decide (x58.2.2.2 < a2)) = true), ((decide (x58.2.2.2 < a2)) = true)] (by kernel_rfl) (allP2 h119 (allP2 h119 (allP2 h119 (allP2 h119 (allP1 h119))))) ?_
    obtain rfl := Option.some.inj h
    refine wfL [(1, aI a1), (2, aI a2), (3, aI x58.1), (4, .one (.ptr 4 0)), (9, aI x58.2.1), (10, aI x58.2.2.1), (11, aI x58.2.2.2), (22, aB (decide (x58.2.2.1 < a0.1)))] (by kernel_rfl) ?_
    exact exM (by kernel_rfl)
   ·replace h := ofF h119 h
    refine woo 9 [(8, .known false), (10, .known false), (12, .known false), (14, .known false), (17, .val (.dat .bool false))] [(1, aI a1), (2, aI a2), (3, aI x58.1), (4, .one (.ptr 4 0)), (9, aI x58.2.1), (10, aI x58.2.2.1), (11, aI x58.2.2.2), (22, aB false)] [(4, .one tM a0)] [((decide (x58.2.2.2 < a2)) = false), ((decide (x58.2.2.2 < a2)) = false), ((decide (x58.2.2.2 < a2)) = false), ((decide (x58.2.2.2 < a2)) = false), ((decide (x58.2.2.2 < a2)) = false)] (by kernel_rfl) (allP2 h119 (allP2 h119 (allP2 h119 (allP2 h119 (allP1 h119))))) ?_
    obtain rfl := Option.some.inj h
    refine wfL [(1, aI a1), (2, aI a2), (3, aI x58.1), (4, .one (.ptr 4 0)), (9, aI x58.2.1), (10, aI x58.2.2.1), (11, aI x58.2.2.2), (22, aB false)] (by kernel_rfl) ?_
    exact exM (by kernel_rfl)
  ·intro e fr L hJ
   obtain ⟨rfl, rfl, rfl⟩ := hJ
   refine ltk [(1, aI a1), (2, aI a2), (3, aI x58.1), (4, .one (.ptr 4 0)), (9, aI x58.2.1), (10, aI x58.2.2.1), (11, aI x58.2.2.2), (22, aB v120)] [(4, .one tM a0)] (by kernel_rfl) ?_
   refine seqQ_norm ?_
   refine W_cond (o := .tmp 22) (b := v120) (by kernel_rfl) (by kernel_rfl) (fun h122 => ?_) (fun h122 => ?_)
   ·replace h := ofT h122 h
    refine wkL [(1, aI a1), (2, aI a2), (3, aI x58.1), (4, .one (.ptr 4 0)), (9, aI x58.2.1), (10, aI x58.2.2.1), (11, aI x58.2.2.2)] (by kernel_rfl) ?_
    refine seqQ_norm ?_
    refine W_seq (by kernel_rfl) ?_
    refine W_block (id := 1) (by kernel_rfl) ?_
    refine srL [(1, aI a1), (2, aI a2), (3, aI x58.1), (4, .one (.ptr 4 0)), (9, aI x58.2.1), (10, aI x58.2.2.1), (11, aI x58.2.2.2), (12, aI (0 : Int))] (by kernel_rfl) ?_
    refine W_seq (by kernel_rfl) ?_
    obtain ⟨v158, h159, h⟩ := bind_of h
    refine W_cutK (Q' := (exQ .normal (ref_Asked_s20 a0 a1 a2 x58)) v158) ?_ ?_
    ·replace h := h159
     refine W_seq (by kernel_rfl) ?_
     refine W_region (by kernel_rfl) ?_
     refine wo 2 [(1, aI a1), (2, aI a2), (3, aI x58.1), (4, .one (.ptr 4 0)), (9, aI x58.2.1), (10, aI x58.2.2.1), (11, aI x58.2.2.2), (12, aI (0 : Int)), (25, aI x58.1), (26, aI x58.2.1)] [(4, .one tM a0)] (by kernel_rfl) ?_
     obtain ⟨r155, h156, h⟩ := bind_of h
     refine WO_call0 (us := [none, none]) (d := 27) (p := True) (j := 3) rfl ⟨by kernel_rfl, by kernel_rfl, by kernel_rfl⟩ trivial (ref_Bit_ok h156) (by kernel_rfl) ?_
     refine wf [(1, aI a1), (2, aI a2), (3, aI x58.1), (4, .one (.ptr 4 0)), (9, aI x58.2.1), (10, aI x58.2.2.1), (11, aI x58.2.2.2), (12, aI (0 : Int)), (27, aB r155)] [(4, .one tM a0)] (by kernel_rfl) ?_
     refine seqQ_norm ?_
     refine W_cond (o := .tmp 27) (b := r155) (by kernel_rfl) (by kernel_rfl) (fun h157 => ?_) (fun h157 => ?_)
     ·replace h := ofT h157 h
      obtain rfl := Option.some.inj h
      refine swL [(1, aI a1), (2, aI a2), (3, aI x58.1), (4, .one (.ptr 4 0)), (9, aI x58.2.1), (10, aI x58.2.2.1), (11, aI x58.2.2.2), (12, aI (1 : Int))] (by kernel_rfl) ?_
      exact exM (by kernel_rfl)
     ·replace h := ofF h157 h
      obtain rfl := Option.some.inj h
      refine wkL [(1, aI a1), (2, aI a2), (3, aI x58.1), (4, .one (.ptr 4 0)), (9, aI x58.2.1), (10, aI x58.2.2.1), (11, aI x58.2.2.2), (12, aI (0 : Int))] (by kernel_rfl) ?_
      exact exM (by kernel_rfl)
    ·intro e fr L hJ
     obtain ⟨rfl, rfl, rfl⟩ := hJ
     refine ltk [(1, aI a1), (2, aI a2), (3, aI x58.1), (4, .one (.ptr 4 0)), (9, aI x58.2.1), (10, aI x58.2.2.1), (11, aI x58.2.2.2), (12, aI v158)] [(4, .one tM a0)] (by kernel_rfl) ?_
     refine seqQ_norm ?_
     refine W_seq (by kernel_rfl) ?_
     obtain ⟨v160, h161, h⟩ := bind_of h
     obtain ⟨v162, h163, h⟩ := bind_of h
     refine W_run 10 [(7, .val (.dat (.slice t3) v160)), (13, .val (.dat t3 v162)), (17, .typed)] [1, 2, 3, 4, 9, 11, 12, 13] [4, 13] (fr' := [(1, aI a1), (2, aI a2), (3, aI x58.1), (4, .one (.ptr 4 0)), (9, aI x58.2.1), (11, aI x58.2.2.2), (12, aI v158), (13, .one (.ptr 13 0))]) (L' := [(4, .one tM a0), (13, .one t3 v162)]) (obs := [Idx a0.2.2 x58.2.2.1 v160, Idx v160 v158 v162, True]) (by kernel_rfl) (by kernel_rfl) (by kernel_rfl) (allP2 (Idx.of h161) (allP2 (Idx.of h163) (allP1 trivial))) ?_
     refine seqQ_norm ?_
     refine W_seq (by kernel_rfl) ?_
     obtain ⟨_, h164, h⟩ := bind_of h
     replace h164 := ck_some h164
     refine W_run 13 [] [1, 2, 3, 4, 9, 11, 13] [4, 13] (fr' := [(1, aI a1), (2, aI a2), (3, aI (w64 ((w64 (x58.1 - (bShl .i64 v158 (IntKind.wrap .u64 (x58.2.1))))) + (bShl .i64 v162.1 (IntKind.wrap .u64 (x58.2.1)))))), (4, .one (.ptr 4 0)), (9, aI x58.2.1), (11, aI x58.2.2.2), (13, .one (.ptr 13 0))]) (L' := [(4, .one tM a0), (13, .one t3 v162)]) (obs := [(0 ≤ IntKind.wrap .u64 (x58.2.1)), (0 ≤ IntKind.wrap .u64 (x58.2.1))]) (by kernel_rfl) (by kernel_rfl) (by kernel_rfl) (allP2 h164 (allP1 h164)) ?_
     refine seqQ_norm ?_
     refine srL [(1, aI a1), (2, aI a2), (3, aI (w64 ((w64 (x58.1 - (bShl .i64 v158 (IntKind.wrap .u64 (x58.2.1))))) + (bShl .i64 v162.1 (IntKind.wrap .u64 (x58.2.1)))))), (4, .one (.ptr 4 0)), (9, aI (w64 (x58.2.1 + v162.2.1))), (11, aI x58.2.2.2), (13, .one (.ptr 13 0))] (by kernel_rfl) ?_
     refine W_seq (by kernel_rfl) ?_
     obtain ⟨v168, h169, h⟩ := bind_of h
     refine W_cutK (Q' := (exQ .normal (ref_Asked_s19 a0 a1 a2 x58 v158 v162)) v168) ?_ ?_
     ·replace h := h169
      refine sr [(1, aI a1), (2, aI a2), (3, aI (w64 ((w64 (x58.1 - (bShl .i64 v158 (IntKind.wrap .u64 (x58.2.1))))) + (bShl .i64 v162.1 (IntKind.wrap .u64 (x58.2.1)))))), (4, .one (.ptr 4 0)), (9, aI (w64 (x58.2.1 + v162.2.1))), (11, aI x58.2.2.2), (13, .one (.ptr 13 0)), (53, aB (decide ((w64 (x58.2.1 + v162.2.1)) < (0 : Int))))] [(4, .one tM a0), (13, .one t3 v162)] (by kernel_rfl) ?_
      refine W_cond (o := .tmp 53) (b := decide ((w64 (x58.2.1 + v162.2.1)) < (0 : Int))) (by kernel_rfl) (by kernel_rfl) (fun h167 => ?_) (fun h167 => ?_)
      ·replace h := ofT h167 h
       obtain rfl := Option.some.inj h
       refine swL [(1, aI a1), (2, aI a2), (3, aI (w64 ((w64 (x58.1 - (bShl .i64 v158 (IntKind.wrap .u64 (x58.2.1))))) + (bShl .i64 v162.1 (IntKind.wrap .u64 (x58.2.1)))))), (4, .one (.ptr 4 0)), (9, aI (0 : Int)), (11, aI x58.2.2.2), (13, .one (.ptr 13 0))] (by kernel_rfl) ?_
       exact exM (by kernel_rfl)
      ·replace h := ofF h167 h
       obtain rfl := Option.some.inj h
       refine wkL [(1, aI a1), (2, aI a2), (3, aI (w64 ((w64 (x58.1 - (bShl .i64 v158 (IntKind.wrap .u64 (x58.2.1))))) + (bShl .i64 v162.1 (IntKind.wrap .u64 (x58.2.1)))))), (4, .one (.ptr 4 0)), (9, aI (w64 (x58.2.1 + v162.2.1))), (11, aI x58.2.2.2), (13, .one (.ptr 13 0))] (by kernel_rfl) ?_
       exact exM (by kernel_rfl)
     ·intro e fr L hJ
      obtain ⟨rfl, rfl, rfl⟩ := hJ
      refine ltk [(1, aI a1), (2, aI a2), (3, aI (w64 ((w64 (x58.1 - (bShl .i64 v158 (IntKind.wrap .u64 (x58.2.1))))) + (bShl .i64 v162.1 (IntKind.wrap .u64 (x58.2.1)))))), (4, .one (.ptr 4 0)), (9, aI v168), (11, aI x58.2.2.2), (13, .one (.ptr 13 0))] [(4, .one tM a0), (13, .one t3 v162)] (by kernel_rfl) ?_
      refine seqQ_norm ?_
      refine W_seq (by kernel_rfl) ?_
      obtain ⟨v173, h174, h⟩ := bind_of h
      refine W_cutK (Q' := (exQ .normal (ref_Asked_s18 a0 a1 a2 x58 v158 v162)) v173) ?_ ?_
      ·replace h := h174
       refine sr [(1, aI a1), (2, aI a2), (3, aI (w64 ((w64 (x58.1 - (bShl .i64 v158 (IntKind.wrap .u64 (x58.2.1))))) + (bShl .i64 v162.1 (IntKind.wrap .u64 (x58.2.1)))))), (4, .one (.ptr 4 0)), (9, aI v168), (11, aI x58.2.2.2), (13, .one (.ptr 13 0)), (56, aB (decide (v168 ≥ a1)))] [(4, .one tM a0), (13, .one t3 v162)] (by kernel_rfl) ?_
       refine W_cond (o := .tmp 56) (b := decide (v168 ≥ a1)) (by kernel_rfl) (by kernel_rfl) (fun h172 => ?_) (fun h172 => ?_)
       ·replace h := ofT h172 h
        obtain rfl := Option.some.inj h
        refine swL [(1, aI a1), (2, aI a2), (3, aI (w64 ((w64 (x58.1 - (bShl .i64 v158 (IntKind.wrap .u64 (x58.2.1))))) + (bShl .i64 v162.1 (IntKind.wrap .u64 (x58.2.1)))))), (4, .one (.ptr 4 0)), (9, aI (w64 (a1 - (1 : Int)))), (11, aI x58.2.2.2), (13, .one (.ptr 13 0))] (by kernel_rfl) ?_
        exact exM (by kernel_rfl)
       ·replace h := ofF h172 h
        obtain rfl := Option.some.inj h
        refine wkL [(1, aI a1), (2, aI a2), (3, aI (w64 ((w64 (x58.1 - (bShl .i64 v158 (IntKind.wrap .u64 (x58.2.1))))) + (bShl .i64 v162.1 (IntKind.wrap .u64 (x58.2.1)))))), (4, .one (.ptr 4 0)), (9, aI v168), (11, aI x58.2.2.2), (13, .one (.ptr 13 0))] (by kernel_rfl) ?_
        exact exM (by kernel_rfl)
      ·intro e fr L hJ
       obtain ⟨rfl, rfl, rfl⟩ := hJ
       refine ltk [(1, aI a1), (2, aI a2), (3, aI (w64 ((w64 (x58.1 - (bShl .i64 v158 (IntKind.wrap .u64 (x58.2.1))))) + (bShl .i64 v162.1 (IntKind.wrap .u64 (x58.2.1)))))), (4, .one (.ptr 4 0)), (9, aI v173), (11, aI x58.2.2.2), (13, .one (.ptr 13 0))] [(4, .one tM a0), (13, .one t3 v162)] (by kernel_rfl) ?_
       refine seqQ_norm ?_
       refine sw [(1, aI a1), (2, aI a2), (3, aI (w64 ((w64 (x58.1 - (bShl .i64 v158 (IntKind.wrap .u64 (x58.2.1))))) + (bShl .i64 v162.1 (IntKind.wrap .u64 (x58.2.1)))))), (4, .one (.ptr 4 0)), (9, aI v173), (10, aI v162.2.2), (11, aI x58.2.2.2)] [(4, .one tM a0)] (by kernel_rfl) ?_
       refine blockQ_norm ?_
       refine seqQ_norm ?_
       obtain rfl := Option.some.inj h
       refine swL [(1, aI a1), (2, aI a2), (3, aI (w64 ((w64 (x58.1 - (bShl .i64 v158 (IntKind.wrap .u64 (x58.2.1))))) + (bShl .i64 v162.1 (IntKind.wrap .u64 (x58.2.1)))))), (4, .one (.ptr 4 0)), (9, aI v173), (10, aI v162.2.2), (11, aI (w64 (x58.2.2.2 + (1 : Int))))] (by kernel_rfl) ?_
       exact round_next' (by kernel_rfl) (by kernel_rfl)
   ·replace h := ofF h122 h
    obtain rfl := Option.some.inj h
    refine wxL 0 [(3, aI x58.1), (4, .one (.ptr 4 0)), (9, aI x58.2.1), (10, aI x58.2.2.1)] (by kernel_rfl) ?_
    refine seqQ_exit ?_
    refine round_exit ?_
    exact exM (by kernel_rfl)
 ·intro e fr L hJ
  obtain ⟨rfl, rfl, rfl⟩ := hJ
  refine ltk [(3, aI v175.1), (4, .one (.ptr 4 0)), (9, aI v175.2.1), (10, aI v175.2.2)] [(4, .one tM a0)] (by kernel_rfl) ?_
  refine blockQ_hit ?_
  refine seqQ_norm ?_
  refine W_seq (by kernel_rfl) ?_
  obtain ⟨v188, h189, h⟩ := bind_of h
  refine W_cutK (Q' := (exQ .normal ref_Asked_s25) v188) ?_ ?_
  ·replace h := h189
   refine W_region (by kernel_rfl) ?_
   refine wo 5 [(3, aI v175.1), (9, aI v175.2.1), (65, aB (v175.2.2 == a0.1))] [(4, .one tM a0)] (by kernel_rfl) ?_
   rcases Bool.eq_false_or_eq_true (v175.2.2 == a0.1) with h185 | h185
   ·replace h := ofT h185 h
    refine woo 7 [(10, .known true), (12, .known true)] [(65, aB (v175.2.2 == a0.1)), (66, aI v175.1), (67, aI v175.2.1)] [(4, .one tM a0)] [((v175.2.2 == a0.1) = true), ((v175.2.2 == a0.1) = true)] (by kernel_rfl) (allP2 h185 (allP1 h185)) ?_
    obtain ⟨r186, h187, h⟩ := bind_of h
    refine WO_call0 (us := [none, none]) (d := 68) (p := ((v175.2.2 == a0.1) = true)) (j := 8) rfl ⟨by kernel_rfl, by kernel_rfl, by kernel_rfl⟩ h185 (ref_Bit_ok h187) (by kernel_rfl) ?_
    refine woo 10 [(17, .val (.dat .bool true))] [(8, aB r186)] [(4, .one tM a0)] [((v175.2.2 == a0.1) = true)] (by kernel_rfl) (allP1 h185) ?_
    obtain rfl := Option.some.inj h
    refine wf [(8, aB r186)] [] (by kernel_rfl) ?_
    exact exM (by kernel_rfl)
   ·replace h := ofF h185 h
    refine woo 10 [(10, .known false), (12, .known false), (14, .known false), (17, .val (.dat .bool false))] [(8, aB false)] [(4, .one tM a0)] [((v175.2.2 == a0.1) = false), ((v175.2.2 == a0.1) = false), ((v175.2.2 == a0.1) = false), ((v175.2.2 == a0.1) = false)] (by kernel_rfl) (allP2 h185 (allP2 h185 (allP2 h185 (allP1 h185)))) ?_
    obtain rfl := Option.some.inj h
    refine wf [(8, aB false)] [] (by kernel_rfl) ?_
    exact exM (by kernel_rfl)
  ·intro e fr L hJ
   obtain ⟨rfl, rfl, rfl⟩ := hJ
   refine ltk [(8, aB v188)] [] (by kernel_rfl) ?_
   refine seqQ_norm ?_
   obtain rfl := Option.some.inj h
   refine wtL [(8, aB v188)] (by kernel_rfl) ?_
   exact retM (by kernel_rfl)

def ref_Bits_b1 (a1 : Int) (i10 : Int) (x11 : (List Bool)) : Option (Flow (List Bool) (List Bool)) :=
(ref_Bit a1 i10).bind fun r14 =>
(ck ((List.length x11 : Int) + 1 ≤ 4294967296)).bind fun _ =>
some (.next (x11 ++ [r14]))
@[reducible] def ref_Bits_s2 (a0 : Int) (a1 : Int) (v : Int × (List Bool)) : Fr × LL := ([(0, aI a0), (1, aI a1), (5, .one (.slc 17)), (6, aI v.1)], [(17, .seq .bool v.2)])
@[reducible] def ref_Bits_s3 (v : (List Bool)) : Fr × LL := ([(5, .one (.slc 17))], [(17, .seq .bool v)])
def ref_Bits (a0 : Int) (a1 : Int) : Option (List Bool) :=
(forI (0 : Int) a0 (ref_Bits_b1 a1) (fun x11 => x11) []).bind fun v18 =>
some v18
theorem ref_Bits_ok {a0 : Int} {a1 : Int} {r : (List Bool)} (h : ref_Bits a0 a1 = some r) : FnC Try.prog 32 [aI a0, aI a1] [] (aD (.slice .bool) r) [] := by
 refine fnC_of_W (B := bodyOf Try.f32) (n := 19) Try.func32 (by kernel_rfl) (by kernel_rfl) (by kernel_rfl) (by kernel_rfl) (by kernel_rfl) ?_
 intro K
 refine sr [(0, aI a0), (1, aI a1)] [] (by kernel_rfl) ?_
 refine srL [(0, aI a0), (1, aI a1), (5, .one (.nilS))] (by kernel_rfl) ?_
 refine W_seq (by kernel_rfl) ?_
 refine srL [(0, aI a0), (1, aI a1), (5, .one (.nilS)), (6, aI (0 : Int))] (by kernel_rfl) ?_
 refine W_block (id := 0) (by kernel_rfl) ?_
 obtain ⟨v18, h19, h⟩ := bind_of h
 obtain ⟨h20, h21⟩ := forI_iter h19
 refine W_mine 5 17 .bool (by kernel_rfl) ?_
 refine W_weaken [0, 1, 5, 6] [17] (fr' := ((ref_Bits_s2 a0 a1) ((0 : Int), [])).1) (L' := ((ref_Bits_s2 a0 a1) ((0 : Int), [])).2) (by kernel_rfl) ?_
 refine W_cutK (W_loop (S := (ref_Bits_s2 a0 a1)) (J := (exQ (.exit 0) ref_Bits_s3)) (by kernel_rfl) ?_ h20 _ v18 h21) ?_
 ·rintro ⟨i10, x11⟩ s h
  refine W_seq (by kernel_rfl) ?_
  refine sr [(0, aI a0), (1, aI a1), (5, .one (.slc 17)), (6, aI i10), (9, aB (decide (i10 < a0)))] [(17, .seq .bool x11)] (by kernel_rfl) ?_
  refine W_cond (o := .tmp 9) (b := decide (i10 < a0)) (by kernel_rfl) (by kernel_rfl) (fun h13 => ?_) (fun h13 => ?_)
  ·replace h := stepI_true h13 h
   obtain ⟨_, h, rfl⟩ := h
   refine wkL [(0, aI a0), (1, aI a1), (5, .one (.slc 17)), (6, aI i10)] (by kernel_rfl) ?_
   refine seqQ_norm ?_
   refine W_seq (by kernel_rfl) ?_
   refine W_block (id := 1) (by kernel_rfl) ?_
   refine W_region (by kernel_rfl) ?_
   refine woL 3 [(0, aI a0), (1, aI a1), (5, .one (.slc 17)), (6, aI i10), (12, .one (.slc 17)), (13, aI a1), (14, aI i10)] (by kernel_rfl) ?_
   obtain ⟨r14, h15, h⟩ := bind_of h
   refine WO_call0 (us := [none, none]) (d := 15) (p := True) (j := 4) rfl ⟨by kernel_rfl, by kernel_rfl, by kernel_rfl⟩ trivial (ref_Bit_ok h15) (by kernel_rfl) ?_
   obtain ⟨_, h16, h⟩ := bind_of h
   replace h16 := ck_some h16
   refine woo 7 [] [(0, aI a0), (1, aI a1), (5, .one (.slc 17)), (6, aI i10)] [(16, .seq .bool [r14]), (17, .seq .bool (x11 ++ [r14]))] [SmallLen (List.length x11 + List.length [r14])] (by kernel_rfl) (allP1 h16) ?_
   refine wf [(0, aI a0), (1, aI a1), (5, .one (.slc 17)), (6, aI i10)] [(17, .seq .bool (x11 ++ [r14]))] (by kernel_rfl) ?_
   refine blockQ_norm ?_
   refine seqQ_norm ?_
   obtain rfl := Option.some.inj h
   refine swL [(0, aI a0), (1, aI a1), (5, .one (.slc 17)), (6, aI (w64 (i10 + (1 : Int))))] (by kernel_rfl) ?_
   exact round_next' (by kernel_rfl) (by kernel_rfl)
  ·obtain rfl := stepI_false h13 h
   refine wxL 0 [(5, .one (.slc 17))] (by kernel_rfl) ?_
   refine seqQ_exit ?_
   refine round_exit ?_
   exact exM (by kernel_rfl)
 ·intro e fr L hJ
  obtain ⟨rfl, rfl, rfl⟩ := hJ
  refine ltk [(5, .one (.slc 17))] [(17, .seq .bool v18)] (by kernel_rfl) ?_
  refine blockQ_hit ?_
  refine seqQ_norm ?_
  refine sr [(4, .one (.slc 17))] [(17, .seq .bool v18)] (by kernel_rfl) ?_
  obtain rfl := Option.some.inj h
  refine W_frz 17 (by kernel_rfl) ?_
  refine wt [(4, aD (.slice .bool) v18)] [] (by kernel_rfl) ?_
  exact retM (by kernel_rfl)

def ref_Bools_b1 (a1 : (List Bool)) (i16 : Int) (v19 : Bool) (x17 : Unit) : Option (Flow Unit (Esc Bool Unit)) :=
(idx a1 i16).bind fun v22 =>
bif !(v19 == v22) then
(some (.done (.ret false)))
else
(some (.next ()))
@[reducible] def ref_Bools_s2 (a0 : (List Bool)) (a1 : (List Bool)) (v : Int × Unit) : Fr × LL := ([(0, aD (.slice .bool) a0), (1, aD (.slice .bool) a1), (5, aI v.1)], [])
@[reducible] def ref_Bools_s3 (v : Bool) : Fr × LL := ([(4, aB v)], [])
@[reducible] def ref_Bools_s4 (v : Unit) : Fr × LL := ([], [])
def ref_Bools (a0 : (List Bool)) (a1 : (List Bool)) : Option Bool :=
bif (List.length a0 : Int) != (List.length a1 : Int) then
(some false)
else
((forL (ref_Bools_b1 a1) (fun x17 => (.brk ())) a0 0 ()).bind fun v26 =>
match v26 with
| .ret v31 =>
(some v31)
| .brk v32 =>
(some true))
theorem ref_Bools_ok {a0 : (List Bool)} {a1 : (List Bool)} {r : Bool} (h : ref_Bools a0 a1 = some r) : FnC Try.prog 27 [aD (.slice .bool) a0, aD (.slice .bool) a1] [] (aB r) [] := by
 refine fnC_of_W (B := bodyOf Try.f27) (n := 26) Try.func27 (by kernel_rfl) (by kernel_rfl) (by kernel_rfl) (by kernel_rfl) (by kernel_rfl) ?_
 intro K
 refine sr [(0, aD (.slice .bool) a0), (1, aD (.slice .bool) a1)] [] (by kernel_rfl) ?_
 refine W_seq (by kernel_rfl) ?_
 refine srL [(0, aD (.slice .bool) a0), (1, aD (.slice .bool) a1), (10, aB ((List.length a0 : Int) != (List.length a1 : Int)))] (by kernel_rfl) ?_
 refine W_cond (o := .tmp 10) (b := (List.length a0 : Int) != (List.length a1 : Int)) (by kernel_rfl) (by kernel_rfl) (fun h1 => ?_) (fun h1 => ?_)
 ·replace h := ofT h1 h
  refine srL [(4, aB false)] (by kernel_rfl) ?_
  obtain rfl := Option.some.inj h
  refine wtL [(4, aB false)] (by kernel_rfl) ?_
  refine seqQ_ret ?_
  exact retM (by kernel_rfl)
 ·replace h := ofF h1 h
  refine wkL [(0, aD (.slice .bool) a0), (1, aD (.slice .bool) a1)] (by kernel_rfl) ?_
  refine seqQ_norm ?_
  refine W_seq (by kernel_rfl) ?_
  refine srL [(0, aD (.slice .bool) a0), (1, aD (.slice .bool) a1), (5, aI (0 : Int))] (by kernel_rfl) ?_
  refine W_block (id := 0) (by kernel_rfl) ?_
  obtain ⟨v26, h27, h⟩ := bind_of h
  refine W_len (t := 0) (u := .bool) (xs := a0) (by kernel_rfl) (fun h30 => ?_)
  obtain ⟨h28, h29⟩ := forL_iter h30 h27
  refine W_weaken [0, 1, 5] [] (fr' := ((ref_Bools_s2 a0 a1) ((0 : Int), ())).1) (L' := ((ref_Bools_s2 a0 a1) ((0 : Int), ())).2) (by kernel_rfl) ?_
  refine W_cutK (W_loop (S := (ref_Bools_s2 a0 a1)) (J := (escQ (exQ .ret ref_Bools_s3) (exQ (.exit 0) ref_Bools_s4))) (by kernel_rfl) ?_ h28 _ v26 h29) ?_
  ·rintro ⟨i16, x17⟩ s h
   refine W_seq (by kernel_rfl) ?_
   refine sr [(0, aD (.slice .bool) a0), (1, aD (.slice .bool) a1), (5, aI i16), (14, aB (decide (i16 < (List.length a0 : Int))))] [] (by kernel_rfl) ?_
   refine W_cond (o := .tmp 14) (b := decide (i16 < (List.length a0 : Int))) (by kernel_rfl) (by kernel_rfl) (fun h21 => ?_) (fun h21 => ?_)
   ·replace h := stepL_true h21 h
    obtain ⟨v19, _, h20, h, rfl⟩ := h
    refine wkL [(0, aD (.slice .bool) a0), (1, aD (.slice .bool) a1), (5, aI i16)] (by kernel_rfl) ?_
    refine seqQ_norm ?_
    refine W_seq (by kernel_rfl) ?_
    refine W_block (id := 1) (by kernel_rfl) ?_
    refine W_seq (by kernel_rfl) ?_
    obtain ⟨v22, h23, h⟩ := bind_of h
    refine W_draw2 9 [(5, .val (.dat .bool v19)), (13, .val (.dat .bool v22))] [] [0, 1, 5, 25] [] (fr' := [(0, aD (.slice .bool) a0), (1, aD (.slice .bool) a1), (5, aI i16), (25, aB (!(v19 == v22)))]) (L' := []) (out := [(17, aD (.slice .bool) a0), (18, aI i16), (19, .one (.dptr .bool v19)), (20, aB v19), (21, aD (.slice .bool) a1), (22, aI i16), (23, .one (.dptr .bool v22)), (24, aB v22), (25, aB (!(v19 == v22)))]) (obs := [Idx a0 i16 v19, Idx a1 i16 v22]) (obs2 := []) (calls := []) (by kernel_rfl) (by kernel_rfl) (by kernel_rfl) (by kernel_rfl) (allP2 (Idx.of h20) (allP1 (Idx.of h23))) allC0 (by kernel_rfl) allP0 ?_
    refine seqQ_norm ?_
    refine W_cond (o := .tmp 25) (b := !(v19 == v22)) (by kernel_rfl) (by kernel_rfl) (fun h24 => ?_) (fun h24 => ?_)
    ·replace h := ofT h24 h
     refine sr [(4, aB false)] [] (by kernel_rfl) ?_
     obtain rfl := Option.some.inj h
     refine wtL [(4, aB false)] (by kernel_rfl) ?_
     refine blockQ_ret ?_
     refine seqQ_ret ?_
     refine round_ret ?_
     refine escQ_ret ?_
     exact exM (by kernel_rfl)
    ·replace h := ofF h24 h
     refine wk [(0, aD (.slice .bool) a0), (1, aD (.slice .bool) a1), (5, aI i16)] [] (by kernel_rfl) ?_
     refine blockQ_norm ?_
     refine seqQ_norm ?_
     obtain rfl := Option.some.inj h
     refine swL [(0, aD (.slice .bool) a0), (1, aD (.slice .bool) a1), (5, aI (w64 (i16 + (1 : Int))))] (by kernel_rfl) ?_
     exact round_next' (by kernel_rfl) (by kernel_rfl)
   ·obtain rfl := stepL_false h21 h
    refine wxL 0 [] (by kernel_rfl) ?_
    refine seqQ_exit ?_
    refine round_exit ?_
    refine escQ_brk ?_
    exact exM (by kernel_rfl)
  ·intro e fr L hJ
   rcases v26 with v31 | v32
   ·obtain ⟨rfl, rfl, rfl⟩ := hJ
    obtain rfl := Option.some.inj h
    refine ltk [(4, aB v31)] [] (by kernel_rfl) ?_
    refine blockQ_ret ?_
    refine seqQ_ret ?_
    exact retM (by kernel_rfl)
   ·obtain ⟨rfl, rfl, rfl⟩ := hJ
    refine ltk [] [] (by kernel_rfl) ?_
    refine blockQ_hit ?_
    refine seqQ_norm ?_
    refine sr [(4, aB true)] [] (by kernel_rfl) ?_
    obtain rfl := Option.some.inj h
    refine wtL [(4, aB true)] (by kernel_rfl) ?_
    exact retM (by kernel_rfl)

@[reducible] def law_WholeSomes_s3 (v : Bool) : Fr × LL := ([(6, aB v)], [])
def law_WholeSomes_b4 (a0 : (Int × (Int × (List (List (Int × (Int × Int))))))) (a1 : Int) (a2 : Int) (fuel : Nat) (r1 : (Bool × (List Bool) × Int)) (x29 : Int) : Option (Flow Int (Esc Bool Unit)) :=
(ck (0 ≤ IntKind.wrap .u64 (a1))).bind fun _ =>
bif decide (x29 < (bShl .i64 (1 : Int) (IntKind.wrap .u64 (a1)))) then
((ref_Asked fuel a0 a1 a2 x29).bind fun r54 =>
bif r54 then
((bif (r1.2.2 == (0 : Int)) && r1.1 then
((ref_Bits a1 x29).bind fun r68 =>
(ref_Bools r1.2.1 r68).bind fun r70 =>
some r70)
else
(some false)).bind fun v72 =>
some (.done (.ret v72)))
else
(some (.next (w64 (x29 + (1 : Int))))))
else
(some (.done (.brk ())))
@[reducible] def law_WholeSomes_s5 (a0 : (Int × (Int × (List (List (Int × (Int × Int))))))) (a1 : Int) (a2 : Int) (r1 : (Bool × (List Bool) × Int)) (v : Int) : Fr × LL := ([(1, aI a1), (2, aI a2), (3, .one (.ptr 3 0)), (7, aB r1.1), (8, aD (.slice .bool) r1.2.1), (9, aI r1.2.2), (11, aI v)], [(3, .one tM a0)])
@[reducible] def law_WholeSomes_s6 (v : Bool) : Fr × LL := ([(6, aB v)], [])
@[reducible] def law_WholeSomes_s7 (r1 : (Bool × (List Bool) × Int)) (v : Unit) : Fr × LL := ([(7, aB r1.1), (8, aD (.slice .bool) r1.2.1), (9, aI r1.2.2)], [])
def law_WholeSomes (fuel : Nat) (a0 : (Int × (Int × (List (List (Int × (Int × Int))))))) (a1 : Int) (a2 : Int) : Option Bool :=
(whole_Some fuel a0 a1 a2).bind fun r1 =>
(ref_UnrollCheck a0 a1 a2).bind fun r3 =>
bif r3 != (0 : Int) then
(some (((r1.2.2 == r3) && (!r1.1)) && ((List.length r1.2.1 : Int) == (0 : Int))))
else
((iter (law_WholeSomes_b4 a0 a1 a2 fuel r1) fuel (0 : Int)).bind fun v74 =>
match v74 with
| .ret v78 =>
(some v78)
| .brk v79 =>
(some (((r1.2.2 == (0 : Int)) && (!r1.1)) && ((List.length r1.2.1 : Int) == (0 : Int)))))
theorem law_WholeSomes_ok {fuel : Nat} {a0 : (Int × (Int × (List (List (Int × (Int × Int))))))} {a1 : Int} {a2 : Int} {r : Bool} (h : law_WholeSomes fuel a0 a1 a2 = some r) : FnC Try.prog 14 [aD tM a0, aI a1, aI a2] [] (aB r) [] := by
 refine fnC_of_W (B := bodyOf Try.f14) (n := 73) Try.func14 (by kernel_rfl) (by kernel_rfl) (by kernel_rfl) (by kernel_rfl) (by kernel_rfl) ?_
 intro K
 refine sr [(1, aI a1), (2, aI a2), (3, .one (.ptr 3 0))] [(3, .one tM a0)] (by kernel_rfl) ?_
 refine W_seq (by kernel_rfl) ?_
 refine W_region (by kernel_rfl) ?_
 refine woL 3 [(1, aI a1), (2, aI a2), (3, .one (.ptr 3 0)), (13, aD tM a0), (14, aI a1), (15, aI a2)] (by kernel_rfl) ?_
 obtain ⟨r1, h2, h⟩ := bind_of h
 refine WO_call0 (us := [none, none, none]) (d := 16) (p := True) (j := 4) rfl ⟨by kernel_rfl, by kernel_rfl, by kernel_rfl⟩ trivial (whole_Some_ok h2) (by kernel_rfl) ?_
 refine wo 11 [(1, aI a1), (2, aI a2), (3, .one (.ptr 3 0)), (7, aB r1.1), (8, aD (.slice .bool) r1.2.1), (9, aI r1.2.2)] [(3, .one tM a0)] (by kernel_rfl) ?_
 refine wfL [(1, aI a1), (2, aI a2), (3, .one (.ptr 3 0)), (7, aB r1.1), (8, aD (.slice .bool) r1.2.1), (9, aI r1.2.2)] (by kernel_rfl) ?_
 refine seqQ_norm ?_
 refine W_seq (by kernel_rfl) ?_
 refine W_region (by kernel_rfl) ?_
 refine woL 3 [(1, aI a1), (2, aI a2), (3, .one (.ptr 3 0)), (7, aB r1.1), (8, aD (.slice .bool) r1.2.1), (9, aI r1.2.2), (20, aD tM a0), (21, aI a1), (22, aI a2)] (by kernel_rfl) ?_
 obtain ⟨r3, h4, h⟩ := bind_of h
 refine WO_call0 (us := [none, none, none]) (d := 23) (p := True) (j := 4) rfl ⟨by kernel_rfl, by kernel_rfl, by kernel_rfl⟩ trivial (ref_UnrollCheck_ok h4) (by kernel_rfl) ?_
 refine wo 5 [(1, aI a1), (2, aI a2), (3, .one (.ptr 3 0)), (7, aB r1.1), (8, aD (.slice .bool) r1.2.1), (9, aI r1.2.2), (10, aI r3)] [(3, .one tM a0)] (by kernel_rfl) ?_
 refine wfL [(1, aI a1), (2, aI a2), (3, .one (.ptr 3 0)), (7, aB r1.1), (8, aD (.slice .bool) r1.2.1), (9, aI r1.2.2), (10, aI r3)] (by kernel_rfl) ?_
 refine seqQ_norm ?_
 refine W_seq (by kernel_rfl) ?_
 refine srL [(1, aI a1), (2, aI a2), (3, .one (.ptr 3 0)), (7, aB r1.1), (8, aD (.slice .bool) r1.2.1), (9, aI r1.2.2), (10, aI r3), (25, aB (r3 != (0 : Int)))] (by kernel_rfl) ?_
 refine W_cond (o := .tmp 25) (b := r3 != (0 : Int)) (by kernel_rfl) (by kernel_rfl) (fun h5 => ?_) (fun h5 => ?_)
 ·replace h := ofT h5 h
  refine sr [(6, aB (((r1.2.2 == r3) && (!r1.1)) && ((List.length r1.2.1 : Int) == (0 : Int))))] [] (by kernel_rfl) ?_
  obtain rfl := Option.some.inj h
  refine wtL [(6, aB (((r1.2.2 == r3) && (!r1.1)) && ((List.length r1.2.1 : Int) == (0 : Int))))] (by kernel_rfl) ?_
  refine seqQ_ret ?_
  exact retM (by kernel_rfl)
 ·replace h := ofF h5 h
  refine wkL [(1, aI a1), (2, aI a2), (3, .one (.ptr 3 0)), (7, aB r1.1), (8, aD (.slice .bool) r1.2.1), (9, aI r1.2.2)] (by kernel_rfl) ?_
  refine seqQ_norm ?_
  refine W_seq (by kernel_rfl) ?_
  refine srL [(1, aI a1), (2, aI a2), (3, .one (.ptr 3 0)), (7, aB r1.1), (8, aD (.slice .bool) r1.2.1), (9, aI r1.2.2), (11, aI (0 : Int))] (by kernel_rfl) ?_
  refine W_block (id := 0) (by kernel_rfl) ?_
  obtain ⟨v74, h75, h⟩ := bind_of h
  refine W_weaken [1, 2, 3, 7, 8, 9, 11] [3] (fr' := ((law_WholeSomes_s5 a0 a1 a2 r1) (0 : Int)).1) (L' := ((law_WholeSomes_s5 a0 a1 a2 r1) (0 : Int)).2) (by kernel_rfl) ?_
  refine W_cutK (W_loop (S := (law_WholeSomes_s5 a0 a1 a2 r1)) (J := (escQ (exQ .ret law_WholeSomes_s6) (exQ (.exit 0) (law_WholeSomes_s7 r1)))) (by kernel_rfl) ?_ fuel _ v74 h75) ?_
  ·rintro x29 s h
   refine W_seq (by kernel_rfl) ?_
   refine W_seq (by kernel_rfl) ?_
   obtain ⟨_, h52, h⟩ := bind_of h
   replace h52 := ck_some h52
   refine W_run 5 [] [1, 2, 3, 7, 8, 9, 11, 42] [3] (fr' := [(1, aI a1), (2, aI a2), (3, .one (.ptr 3 0)), (7, aB r1.1), (8, aD (.slice .bool) r1.2.1), (9, aI r1.2.2), (11, aI x29), (42, aB (decide (x29 < (bShl .i64 (1 : Int) (IntKind.wrap .u64 (a1))))))]) (L' := [(3, .one tM a0)]) (obs := [(0 ≤ IntKind.wrap .u64 (a1))]) (by kernel_rfl) (by kernel_rfl) (by kernel_rfl) (allP1 h52) ?_
   refine seqQ_norm ?_
   refine W_cond (o := .tmp 42) (b := decide (x29 < (bShl .i64 (1 : Int) (IntKind.wrap .u64 (a1))))) (by kernel_rfl) (by kernel_rfl) (fun h53 => ?_) (fun h53 => ?_)
   ·replace h := ofT h53 h
    refine wkL [(1, aI a1), (2, aI a2), (3, .one (.ptr 3 0)), (7, aB r1.1), (8, aD (.slice .bool) r1.2.1), (9, aI r1.2.2), (11, aI x29)] (by kernel_rfl) ?_
    refine seqQ_norm ?_
    refine W_seq (by kernel_rfl) ?_
    refine W_block (id := 1) (by kernel_rfl) ?_
    refine W_seq (by kernel_rfl) ?_
    refine W_region (by kernel_rfl) ?_
    refine woL 4 [(1, aI a1), (2, aI a2), (3, .one (.ptr 3 0)), (7, aB r1.1), (8, aD (.slice .bool) r1.2.1), (9, aI r1.2.2), (11, aI x29), (45, aD tM a0), (46, aI a1), (47, aI a2), (48, aI x29)] (by kernel_rfl) ?_
    obtain ⟨r54, h55, h⟩ := bind_of h
    refine WO_call0 (us := [none, none, none, none]) (d := 49) (p := True) (j := 5) rfl ⟨by kernel_rfl, by kernel_rfl, by kernel_rfl⟩ trivial (ref_Asked_ok h55) (by kernel_rfl) ?_
    refine wf [(1, aI a1), (2, aI a2), (3, .one (.ptr 3 0)), (7, aB r1.1), (8, aD (.slice .bool) r1.2.1), (9, aI r1.2.2), (11, aI x29), (49, aB r54)] [(3, .one tM a0)] (by kernel_rfl) ?_
    refine seqQ_norm ?_
    refine W_cond (o := .tmp 49) (b := r54) (by kernel_rfl) (by kernel_rfl) (fun h56 => ?_) (fun h56 => ?_)
    ·replace h := ofT h56 h
     refine W_seq (by kernel_rfl) ?_
     obtain ⟨v72, h73, h⟩ := bind_of h
     refine W_cutK (Q' := (exQ .normal law_WholeSomes_s3) v72) ?_ ?_
     ·replace h := h73
      refine W_region (by kernel_rfl) ?_
      refine wo 6 [(1, aI a1), (8, aD (.slice .bool) r1.2.1), (11, aI x29), (55, aB ((r1.2.2 == (0 : Int)) && r1.1))] [(3, .one tM a0)] (by kernel_rfl) ?_
      rcases Bool.eq_false_or_eq_true ((r1.2.2 == (0 : Int)) && r1.1) with h67 | h67
      ·replace h := ofT h67 h
       refine woo 9 [(12, .known true), (14, .known true), (16, .known true)] [(55, aB ((r1.2.2 == (0 : Int)) && r1.1)), (56, aD (.slice .bool) r1.2.1), (57, aI a1), (58, aI x29)] [(3, .one tM a0)] [(((r1.2.2 == (0 : Int)) && r1.1) = true), (((r1.2.2 == (0 : Int)) && r1.1) = true), (((r1.2.2 == (0 : Int)) && r1.1) = true)] (by kernel_rfl) (allP2 h67 (allP2 h67 (allP1 h67))) ?_
       obtain ⟨r68, h69, h⟩ := bind_of h
       refine WO_call0 (us := [none, none]) (d := 59) (p := (((r1.2.2 == (0 : Int)) && r1.1) = true)) (j := 10) rfl ⟨by kernel_rfl, by kernel_rfl, by kernel_rfl⟩ h67 (ref_Bits_ok h69) (by kernel_rfl) ?_
       obtain ⟨r70, h71, h⟩ := bind_of h
       refine WO_call0 (us := [none, none]) (d := 60) (p := (((r1.2.2 == (0 : Int)) && r1.1) = true)) (j := 11) rfl ⟨by kernel_rfl, by kernel_rfl, by kernel_rfl⟩ h67 (ref_Bools_ok h71) (by kernel_rfl) ?_
       refine woo 13 [(23, .val (.dat .bool true))] [(6, aB r70)] [(3, .one tM a0)] [(((r1.2.2 == (0 : Int)) && r1.1) = true)] (by kernel_rfl) (allP1 h67) ?_
       obtain rfl := Option.some.inj h
       refine wf [(6, aB r70)] [] (by kernel_rfl) ?_
       exact exM (by kernel_rfl)
      ·replace h := ofF h67 h
       refine woo 13 [(12, .known false), (14, .known false), (16, .known false), (18, .known false), (20, .known false), (23, .val (.dat .bool false))] [(6, aB false)] [(3, .one tM a0)] [(((r1.2.2 == (0 : Int)) && r1.1) = false), (((r1.2.2 == (0 : Int)) && r1.1) = false), (((r1.2.2 == (0 : Int)) && r1.1) = false), (((r1.2.2 == (0 : Int)) && r1.1) = false), (((r1.2.2 == (0 : Int)) && r1.1) = false), (((r1.2.2 == (0 : Int)) && r1.1) = false)] (by kernel_rfl) (allP2 h67 (allP2 h67 (allP2 h67 (allP2 h67 (allP2 h67 (allP1 h67)))))) ?_
       obtain rfl := Option.some.inj h
       refine wf [(6, aB false)] [] (by kernel_rfl) ?_
       exact exM (by kernel_rfl)
     ·intro e fr L hJ
      obtain ⟨rfl, rfl, rfl⟩ := hJ
      refine ltk [(6, aB v72)] [] (by kernel_rfl) ?_
      refine seqQ_norm ?_
      obtain rfl := Option.some.inj h
      refine wtL [(6, aB v72)] (by kernel_rfl) ?_
      refine blockQ_ret ?_
      refine seqQ_ret ?_
      refine round_ret ?_
      refine escQ_ret ?_
      exact exM (by kernel_rfl)
    ·replace h := ofF h56 h
     refine wkL [(1, aI a1), (2, aI a2), (3, .one (.ptr 3 0)), (7, aB r1.1), (8, aD (.slice .bool) r1.2.1), (9, aI r1.2.2), (11, aI x29)] (by kernel_rfl) ?_
     refine blockQ_norm ?_
     refine seqQ_norm ?_
     obtain rfl := Option.some.inj h
     refine swL [(1, aI a1), (2, aI a2), (3, .one (.ptr 3 0)), (7, aB r1.1), (8, aD (.slice .bool) r1.2.1), (9, aI r1.2.2), (11, aI (w64 (x29 + (1 : Int))))] (by kernel_rfl) ?_
     exact round_next' (by kernel_rfl) (by kernel_rfl)
   ·replace h := ofF h53 h
    obtain rfl := Option.some.inj h
    refine wx 0 [(7, aB r1.1), (8, aD (.slice .bool) r1.2.1), (9, aI r1.2.2)] [] (by kernel_rfl) ?_
    refine seqQ_exit ?_
    refine round_exit ?_
    refine escQ_brk ?_
    exact exM (by kernel_rfl)
  ·intro e fr L hJ
   rcases v74 with v78 | v79
   ·obtain ⟨rfl, rfl, rfl⟩ := hJ
    obtain rfl := Option.some.inj h
    refine ltk [(6, aB v78)] [] (by kernel_rfl) ?_
    refine blockQ_ret ?_
    refine seqQ_ret ?_
    exact retM (by kernel_rfl)
   ·obtain ⟨rfl, rfl, rfl⟩ := hJ
    refine ltk [(7, aB r1.1), (8, aD (.slice .bool) r1.2.1), (9, aI r1.2.2)] [] (by kernel_rfl) ?_
    refine blockQ_hit ?_
    refine seqQ_norm ?_
    refine sr [(6, aB (((r1.2.2 == (0 : Int)) && (!r1.1)) && ((List.length r1.2.1 : Int) == (0 : Int))))] [] (by kernel_rfl) ?_
    obtain rfl := Option.some.inj h
    refine wtL [(6, aB (((r1.2.2 == (0 : Int)) && (!r1.1)) && ((List.length r1.2.1 : Int) == (0 : Int))))] (by kernel_rfl) ?_
    exact retM (by kernel_rfl)
end Go.Proofs.Ytnblafiefaalgaa.wholeSomes
