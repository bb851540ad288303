/- What the functions that UnrollBuilds calls compute, as models, and that they compute it: written by a program of mine. -/
import Derived.Test.YtnblafiefaalgaaProg
import Derived.Test.YtnblafiefaalgaaUnrollBuildsM2
set_option linter.all false
set_option maxRecDepth 100000
namespace Go.Proofs.Ytnblafiefaalgaa.unrollBuilds
open Go Go.Sl
def ref_MachineCheck_b1 (a0 : (Int × (Int × (List (List (Int × (Int × Int))))))) (i30 : Int) (v33 : (List (Int × (Int × Int)))) (x31 : Unit) : Option (Flow Unit (Esc Int Unit)) :=
bif (List.length v33 : Int) != a0.2.1 then
(some (.done (.ret (3 : Int))))
else
(some (.next ()))
@[reducible] def ref_MachineCheck_s2 (a0 : (Int × (Int × (List (List (Int × (Int × Int))))))) (v : Int × Unit) : Fr × LL := ([(1, .one (.ptr 1 0)), (26, aD (.slice (.slice t3)) a0.2.2), (27, aI (List.length a0.2.2 : Int)), (28, aI v.1)], [(1, .one tM a0)])
@[reducible] def ref_MachineCheck_s3 (v : Int) : Fr × LL := ([(2, aI v)], [])
@[reducible] def ref_MachineCheck_s4 (a0 : (Int × (Int × (List (List (Int × (Int × Int))))))) (v : Unit) : Fr × LL := ([(1, .one (.ptr 1 0))], [(1, .one tM a0)])
def ref_MachineCheck_b11 (a0 : (Int × (Int × (List (List (Int × (Int × Int))))))) (i183 : Int) (v186 : (Int × (Int × Int))) (x184 : Unit) : Option (Flow Unit (Esc Int Unit)) :=
(ref_Inside a0.2.1 [v186.1]).bind fun r189 =>
bif !r189 then
(some (.done (.ret (2 : Int))))
else
((ref_Within (-1 : Int) v186.2.1 (1 : Int)).bind fun r192 =>
bif !r192 then
(some (.done (.ret (4 : Int))))
else
((ref_Inside (w64 (a0.1 + (1 : Int))) [v186.2.2]).bind fun r195 =>
bif !r195 then
(some (.done (.ret (2 : Int))))
else
(some (.next ()))))
@[reducible] def ref_MachineCheck_s12 (a0 : (Int × (Int × (List (List (Int × (Int × Int))))))) (i151 : Int) (v154 : (List (Int × (Int × Int)))) (v : Int × Unit) : Fr × LL := ([(1, .one (.ptr 1 0)), (39, aD (.slice (.slice t3)) a0.2.2), (40, aI (List.length a0.2.2 : Int)), (41, aI i151), (45, aD (.slice t3) v154), (46, aI (List.length v154 : Int)), (47, aI v.1)], [(1, .one tM a0)])
@[reducible] def ref_MachineCheck_s13 (v : Int) : Fr × LL := ([(2, aI v)], [])
@[reducible] def ref_MachineCheck_s14 (a0 : (Int × (Int × (List (List (Int × (Int × Int))))))) (i151 : Int) (v : Unit) : Fr × LL := ([(1, .one (.ptr 1 0)), (39, aD (.slice (.slice t3)) a0.2.2), (40, aI (List.length a0.2.2 : Int)), (41, aI i151)], [(1, .one tM a0)])
def ref_MachineCheck_b15 (a0 : (Int × (Int × (List (List (Int × (Int × Int))))))) (i151 : Int) (v154 : (List (Int × (Int × Int)))) (x152 : Unit) : Option (Flow Unit (Esc Int Unit)) :=
(forL (ref_MachineCheck_b11 a0) (fun x184 => (.brk ())) v154 0 ()).bind fun v199 =>
match v199 with
| .ret v204 =>
(some (.done (.ret v204)))
| .brk v205 =>
(some (.next ()))
@[reducible] def ref_MachineCheck_s16 (a0 : (Int × (Int × (List (List (Int × (Int × Int))))))) (v : Int × Unit) : Fr × LL := ([(1, .one (.ptr 1 0)), (39, aD (.slice (.slice t3)) a0.2.2), (40, aI (List.length a0.2.2 : Int)), (41, aI v.1)], [(1, .one tM a0)])
@[reducible] def ref_MachineCheck_s17 (v : Int) : Fr × LL := ([(2, aI v)], [])
@[reducible] def ref_MachineCheck_s18 (v : Unit) : Fr × LL := ([], [])
@[reducible] def ref_MachineCheck_s19 (a0 : (Int × (Int × (List (List (Int × (Int × Int))))))) (v : Bool) : Fr × LL := ([(1, .one (.ptr 1 0)), (18, aB v)], [(1, .one tM a0)])
def ref_MachineCheck (a0 : (Int × (Int × (List (List (Int × (Int × Int))))))) : Option Int :=
((ref_Within (1 : Int) a0.1 (5 : Int)).bind fun r11 =>
bif !r11 then
(some true)
else
((ref_Within (2 : Int) a0.2.1 (4 : Int)).bind fun r14 =>
some (!r14))).bind fun v16 =>
bif v16 then
(some (1 : Int))
else
(bif (List.length a0.2.2 : Int) != a0.1 then
(some (3 : Int))
else
((forL (ref_MachineCheck_b1 a0) (fun x31 => (.brk ())) a0.2.2 0 ()).bind fun v38 =>
match v38 with
| .ret v43 =>
(some v43)
| .brk v44 =>
((forL (ref_MachineCheck_b15 a0) (fun x152 => (.brk ())) a0.2.2 0 ()).bind fun v207 =>
match v207 with
| .ret v212 =>
(some v212)
| .brk v213 =>
(some (0 : Int)))))
theorem ref_MachineCheck_ok {a0 : (Int × (Int × (List (List (Int × (Int × Int))))))} {r : Int} (h : ref_MachineCheck a0 = some r) : FnC Try.prog 18 [aD tM a0] [] (aI r) [] := by
 refine fnC_of_W (B := bodyOf Try.f18) (n := 72) Try.func18 (by kernel_rfl) (by kernel_rfl) (by kernel_rfl) (by kernel_rfl) (by kernel_rfl) ?_
 intro K
 refine sr [(1, .one (.ptr 1 0))] [(1, .one tM a0)] (by kernel_rfl) ?_
 refine W_seq (by kernel_rfl) ?_
 refine W_seq (by kernel_rfl) ?_
 obtain ⟨v16, h17, h⟩ := bind_of h
 refine W_cutK (Q' := (exQ .normal (ref_MachineCheck_s19 a0)) v16) ?_ ?_
 ·replace h := h17
  refine W_region (by kernel_rfl) ?_
  refine wo 2 [(1, .one (.ptr 1 0)), (10, aI a0.1)] [(1, .one tM a0)] (by kernel_rfl) ?_
  obtain ⟨r11, h12, h⟩ := bind_of h
  refine WO_call0 (us := [none, none, none]) (d := 11) (p := True) (j := 3) rfl ⟨by kernel_rfl, by kernel_rfl, by kernel_rfl⟩ trivial (ref_Within_ok h12) (by kernel_rfl) ?_
  refine wo 5 [(1, .one (.ptr 1 0)), (13, aB (!r11))] [(1, .one tM a0)] (by kernel_rfl) ?_
  rcases Bool.eq_false_or_eq_true (!r11) with h13 | h13
  ·replace h := ofT h13 h
   refine woo 10 [(10, .known true), (12, .known true), (14, .known true), (16, .known true), (19, .val (.dat .bool true))] [(1, .one (.ptr 1 0)), (18, aB true)] [(1, .one tM a0)] [((!r11) = true), ((!r11) = true), ((!r11) = true), ((!r11) = true), ((!r11) = true)] (by kernel_rfl) (allP2 h13 (allP2 h13 (allP2 h13 (allP2 h13 (allP1 h13))))) ?_
   obtain rfl := Option.some.inj h
   refine wfL [(1, .one (.ptr 1 0)), (18, aB true)] (by kernel_rfl) ?_
   exact exM (by kernel_rfl)
  ·replace h := ofF h13 h
   refine woo 7 [(10, .known false), (12, .known false)] [(1, .one (.ptr 1 0)), (13, aB (!r11)), (15, aI a0.2.1)] [(1, .one tM a0)] [((!r11) = false), ((!r11) = false)] (by kernel_rfl) (allP2 h13 (allP1 h13)) ?_
   obtain ⟨r14, h15, h⟩ := bind_of h
   refine WO_call0 (us := [none, none, none]) (d := 16) (p := ((!r11) = false)) (j := 8) rfl ⟨by kernel_rfl, by kernel_rfl, by kernel_rfl⟩ h13 (ref_Within_ok h15) (by kernel_rfl) ?_
   refine woo 10 [(16, .known false), (19, .val (.dat .bool false))] [(1, .one (.ptr 1 0)), (18, aB (!r14))] [(1, .one tM a0)] [((!r11) = false), ((!r11) = false)] (by kernel_rfl) (allP2 h13 (allP1 h13)) ?_
   obtain rfl := Option.some.inj h
   refine wfL [(1, .one (.ptr 1 0)), (18, aB (!r14))] (by kernel_rfl) ?_
   exact exM (by kernel_rfl)
 ·intro e fr L hJ
  obtain ⟨rfl, rfl, rfl⟩ := hJ
  refine ltk [(1, .one (.ptr 1 0)), (18, aB v16)] [(1, .one tM a0)] (by kernel_rfl) ?_
  refine seqQ_norm ?_
  refine W_cond (o := .tmp 18) (b := v16) (by kernel_rfl) (by kernel_rfl) (fun h18 => ?_) (fun h18 => ?_)
  ·replace h := ofT h18 h
   refine sr [(2, aI (1 : Int))] [] (by kernel_rfl) ?_
   obtain rfl := Option.some.inj h
   refine wtL [(2, aI (1 : Int))] (by kernel_rfl) ?_
   refine seqQ_ret ?_
   exact retM (by kernel_rfl)
  ·replace h := ofF h18 h
   refine wkL [(1, .one (.ptr 1 0))] (by kernel_rfl) ?_
   refine seqQ_norm ?_
   refine W_seq (by kernel_rfl) ?_
   refine srL [(1, .one (.ptr 1 0)), (24, aB ((List.length a0.2.2 : Int) != a0.1))] (by kernel_rfl) ?_
   refine W_cond (o := .tmp 24) (b := (List.length a0.2.2 : Int) != a0.1) (by kernel_rfl) (by kernel_rfl) (fun h19 => ?_) (fun h19 => ?_)
   ·replace h := ofT h19 h
    refine sr [(2, aI (3 : Int))] [] (by kernel_rfl) ?_
    obtain rfl := Option.some.inj h
    refine wtL [(2, aI (3 : Int))] (by kernel_rfl) ?_
    refine seqQ_ret ?_
    exact retM (by kernel_rfl)
   ·replace h := ofF h19 h
    refine wkL [(1, .one (.ptr 1 0))] (by kernel_rfl) ?_
    refine seqQ_norm ?_
    refine W_seq (by kernel_rfl) ?_
    refine srL [(1, .one (.ptr 1 0)), (26, aD (.slice (.slice t3)) a0.2.2), (27, aI (List.length a0.2.2 : Int)), (28, aI (0 : Int))] (by kernel_rfl) ?_
    refine W_block (id := 0) (by kernel_rfl) ?_
    obtain ⟨v38, h39, h⟩ := bind_of h
    refine W_len (t := 26) (u := (.slice t3)) (xs := a0.2.2) (by kernel_rfl) (fun h42 => ?_)
    obtain ⟨h40, h41⟩ := forL_iter h42 h39
    refine W_weaken [1, 26, 27, 28] [1] (fr' := ((ref_MachineCheck_s2 a0) ((0 : Int), ())).1) (L' := ((ref_MachineCheck_s2 a0) ((0 : Int), ())).2) (by kernel_rfl) ?_
    refine W_cutK (W_loop (S := (ref_MachineCheck_s2 a0)) (J := (escQ (exQ .ret ref_MachineCheck_s3) (exQ (.exit 0) (ref_MachineCheck_s4 a0)))) (by kernel_rfl) ?_ h40 _ v38 h41) ?_
    ·rintro ⟨i30, x31⟩ s h
     refine sr [(1, .one (.ptr 1 0)), (26, aD (.slice (.slice t3)) a0.2.2), (27, aI (List.length a0.2.2 : Int)), (28, aI i30), (29, aB (decide (i30 < (List.length a0.2.2 : Int))))] [(1, .one tM a0)] (by kernel_rfl) ?_
     refine W_seq (by kernel_rfl) ?_
     refine W_cond (o := .tmp 29) (b := decide (i30 < (List.length a0.2.2 : Int))) (by kernel_rfl) (by kernel_rfl) (fun h35 => ?_) (fun h35 => ?_)
     ·replace h := stepL_true h35 h
      obtain ⟨v33, _, h34, h, rfl⟩ := h
      refine wkL [(1, .one (.ptr 1 0)), (26, aD (.slice (.slice t3)) a0.2.2), (27, aI (List.length a0.2.2 : Int)), (28, aI i30)] (by kernel_rfl) ?_
      refine seqQ_norm ?_
      refine W_seq (by kernel_rfl) ?_
      refine W_block (id := 1) (by kernel_rfl) ?_
      refine sro [(1, .val (.dat (.slice t3) v33))] [(1, .one (.ptr 1 0)), (4, aD (.slice t3) v33), (26, aD (.slice (.slice t3)) a0.2.2), (27, aI (List.length a0.2.2 : Int)), (28, aI i30)] [(1, .one tM a0)] [Idx a0.2.2 i30 v33] (by kernel_rfl) (allP1 (Idx.of h34)) ?_
      refine srL [(1, .one (.ptr 1 0)), (26, aD (.slice (.slice t3)) a0.2.2), (27, aI (List.length a0.2.2 : Int)), (28, aI i30), (36, aB ((List.length v33 : Int) != a0.2.1))] (by kernel_rfl) ?_
      refine W_cond (o := .tmp 36) (b := (List.length v33 : Int) != a0.2.1) (by kernel_rfl) (by kernel_rfl) (fun h36 => ?_) (fun h36 => ?_)
      ·replace h := ofT h36 h
       refine sr [(2, aI (3 : Int))] [] (by kernel_rfl) ?_
       obtain rfl := Option.some.inj h
       refine wtL [(2, aI (3 : Int))] (by kernel_rfl) ?_
       refine blockQ_ret ?_
       refine seqQ_ret ?_
       refine round_ret ?_
       refine escQ_ret ?_
       exact exM (by kernel_rfl)
      ·replace h := ofF h36 h
       refine wkL [(1, .one (.ptr 1 0)), (26, aD (.slice (.slice t3)) a0.2.2), (27, aI (List.length a0.2.2 : Int)), (28, aI i30)] (by kernel_rfl) ?_
       refine blockQ_norm ?_
       refine seqQ_norm ?_
       obtain rfl := Option.some.inj h
       refine swL [(1, .one (.ptr 1 0)), (26, aD (.slice (.slice t3)) a0.2.2), (27, aI (List.length a0.2.2 : Int)), (28, aI (w64 (i30 + (1 : Int))))] (by kernel_rfl) ?_
       exact round_next' (by kernel_rfl) (by kernel_rfl)
     ·obtain rfl := stepL_false h35 h
      refine wxL 0 [(1, .one (.ptr 1 0))] (by kernel_rfl) ?_
      refine seqQ_exit ?_
      refine round_exit ?_
      refine escQ_brk ?_
      exact exM (by kernel_rfl)
    ·intro e fr L hJ
     rcases v38 with v43 | v44
     ·obtain ⟨rfl, rfl, rfl⟩ := hJ
      obtain rfl := Option.some.inj h
      refine ltk [(2, aI v43)] [] (by kernel_rfl) ?_
      refine blockQ_ret ?_
      refine seqQ_ret ?_
      exact retM (by kernel_rfl)
     ·obtain ⟨rfl, rfl, rfl⟩ := hJ
      refine ltk [(1, .one (.ptr 1 0))] [(1, .one tM a0)] (by kernel_rfl) ?_
      refine blockQ_hit ?_
      refine seqQ_norm ?_
      refine W_seq (by kernel_rfl) ?_
      refine sr [(1, .one (.ptr 1 0)), (39, aD (.slice (.slice t3)) a0.2.2), (40, aI (List.length a0.2.2 : Int)), (41, aI (0 : Int))] [(1, .one tM a0)] (by kernel_rfl) ?_
      refine W_block (id := 2) (by kernel_rfl) ?_
      obtain ⟨v207, h208, h⟩ := bind_of h
      refine W_len (t := 39) (u := (.slice t3)) (xs := a0.2.2) (by kernel_rfl) (fun h211 => ?_)
      obtain ⟨h209, h210⟩ := forL_iter h211 h208
      refine W_weaken [1, 39, 40, 41] [1] (fr' := ((ref_MachineCheck_s16 a0) ((0 : Int), ())).1) (L' := ((ref_MachineCheck_s16 a0) ((0 : Int), ())).2) (by kernel_rfl) ?_
      refine W_cutK (W_loop (S := (ref_MachineCheck_s16 a0)) (J := (escQ (exQ .ret ref_MachineCheck_s17) (exQ (.exit 2) ref_MachineCheck_s18))) (by kernel_rfl) ?_ h209 _ v207 h210) ?_
      ·rintro ⟨i151, x152⟩ s h
       refine sr [(1, .one (.ptr 1 0)), (39, aD (.slice (.slice t3)) a0.2.2), (40, aI (List.length a0.2.2 : Int)), (41, aI i151), (42, aB (decide (i151 < (List.length a0.2.2 : Int))))] [(1, .one tM a0)] (by kernel_rfl) ?_
       refine W_seq (by kernel_rfl) ?_
       refine W_cond (o := .tmp 42) (b := decide (i151 < (List.length a0.2.2 : Int))) (by kernel_rfl) (by kernel_rfl) (fun h156 => ?_) (fun h156 => ?_)
       ·replace h := stepL_true h156 h
        obtain ⟨v154, _, h155, h, rfl⟩ := h
        refine wkL [(1, .one (.ptr 1 0)), (39, aD (.slice (.slice t3)) a0.2.2), (40, aI (List.length a0.2.2 : Int)), (41, aI i151)] (by kernel_rfl) ?_
        refine seqQ_norm ?_
        refine W_seq (by kernel_rfl) ?_
        refine W_block (id := 3) (by kernel_rfl) ?_
        refine sro [(1, .val (.dat (.slice t3) v154))] [(1, .one (.ptr 1 0)), (6, aD (.slice t3) v154), (39, aD (.slice (.slice t3)) a0.2.2), (40, aI (List.length a0.2.2 : Int)), (41, aI i151)] [(1, .one tM a0)] [Idx a0.2.2 i151 v154] (by kernel_rfl) (allP1 (Idx.of h155)) ?_
        refine srL [(1, .one (.ptr 1 0)), (39, aD (.slice (.slice t3)) a0.2.2), (40, aI (List.length a0.2.2 : Int)), (41, aI i151), (45, aD (.slice t3) v154), (46, aI (List.length v154 : Int)), (47, aI (0 : Int))] (by kernel_rfl) ?_
        refine W_block (id := 4) (by kernel_rfl) ?_
        obtain ⟨v199, h200, h⟩ := bind_of h
        refine W_len (t := 45) (u := t3) (xs := v154) (by kernel_rfl) (fun h203 => ?_)
        obtain ⟨h201, h202⟩ := forL_iter h203 h200
        refine W_weaken [1, 39, 40, 41, 45, 46, 47] [1] (fr' := ((ref_MachineCheck_s12 a0 i151 v154) ((0 : Int), ())).1) (L' := ((ref_MachineCheck_s12 a0 i151 v154) ((0 : Int), ())).2) (by kernel_rfl) ?_
        refine W_cutK (W_loop (S := (ref_MachineCheck_s12 a0 i151 v154)) (J := (escQ (exQ .ret ref_MachineCheck_s13) (exQ (.exit 4) (ref_MachineCheck_s14 a0 i151)))) (by kernel_rfl) ?_ h201 _ v199 h202) ?_
        ·rintro ⟨i183, x184⟩ s h
         refine sr [(1, .one (.ptr 1 0)), (39, aD (.slice (.slice t3)) a0.2.2), (40, aI (List.length a0.2.2 : Int)), (41, aI i151), (45, aD (.slice t3) v154), (46, aI (List.length v154 : Int)), (47, aI i183), (48, aB (decide (i183 < (List.length v154 : Int))))] [(1, .one tM a0)] (by kernel_rfl) ?_
         refine W_seq (by kernel_rfl) ?_
         refine W_cond (o := .tmp 48) (b := decide (i183 < (List.length v154 : Int))) (by kernel_rfl) (by kernel_rfl) (fun h188 => ?_) (fun h188 => ?_)
         ·replace h := stepL_true h188 h
          obtain ⟨v186, _, h187, h, rfl⟩ := h
          refine wkL [(1, .one (.ptr 1 0)), (39, aD (.slice (.slice t3)) a0.2.2), (40, aI (List.length a0.2.2 : Int)), (41, aI i151), (45, aD (.slice t3) v154), (46, aI (List.length v154 : Int)), (47, aI i183)] (by kernel_rfl) ?_
          refine seqQ_norm ?_
          refine W_seq (by kernel_rfl) ?_
          refine W_block (id := 5) (by kernel_rfl) ?_
          refine sro [(1, .val (.dat t3 v186)), (5, .typed)] [(1, .one (.ptr 1 0)), (8, .one (.ptr 8 0)), (39, aD (.slice (.slice t3)) a0.2.2), (40, aI (List.length a0.2.2 : Int)), (41, aI i151), (45, aD (.slice t3) v154), (46, aI (List.length v154 : Int)), (47, aI i183)] [(1, .one tM a0), (8, .one t3 v186)] [Idx v154 i183 v186, True] (by kernel_rfl) (allP2 (Idx.of h187) (allP1 trivial)) ?_
          refine W_seq (by kernel_rfl) ?_
          refine W_seq (by kernel_rfl) ?_
          refine W_region (by kernel_rfl) ?_
          refine wo 5 [(1, .one (.ptr 1 0)), (8, .one (.ptr 8 0)), (39, aD (.slice (.slice t3)) a0.2.2), (40, aI (List.length a0.2.2 : Int)), (41, aI i151), (45, aD (.slice t3) v154), (46, aI (List.length v154 : Int)), (47, aI i183), (52, aI a0.2.1), (55, .one (.slc 55))] [(1, .one tM a0), (8, .one t3 v186), (55, .seq tI [v186.1])] (by kernel_rfl) ?_
          obtain ⟨r189, h190, h⟩ := bind_of h
          refine WO_frz 55 (by kernel_rfl) ?_
          refine WO_call0 (us := [none, none]) (d := 56) (p := True) (j := 6) rfl ⟨by kernel_rfl, by kernel_rfl, by kernel_rfl⟩ trivial (ref_Inside_ok h190) (by kernel_rfl) ?_
          refine wo 7 [(1, .one (.ptr 1 0)), (8, .one (.ptr 8 0)), (39, aD (.slice (.slice t3)) a0.2.2), (40, aI (List.length a0.2.2 : Int)), (41, aI i151), (45, aD (.slice t3) v154), (46, aI (List.length v154 : Int)), (47, aI i183), (57, aB (!r189))] [(1, .one tM a0), (8, .one t3 v186)] (by kernel_rfl) ?_
          refine wfL [(1, .one (.ptr 1 0)), (8, .one (.ptr 8 0)), (39, aD (.slice (.slice t3)) a0.2.2), (40, aI (List.length a0.2.2 : Int)), (41, aI i151), (45, aD (.slice t3) v154), (46, aI (List.length v154 : Int)), (47, aI i183), (57, aB (!r189))] (by kernel_rfl) ?_
          refine seqQ_norm ?_
          refine W_cond (o := .tmp 57) (b := !r189) (by kernel_rfl) (by kernel_rfl) (fun h191 => ?_) (fun h191 => ?_)
          ·replace h := ofT h191 h
           refine sr [(2, aI (2 : Int))] [] (by kernel_rfl) ?_
           obtain rfl := Option.some.inj h
           refine wtL [(2, aI (2 : Int))] (by kernel_rfl) ?_
           refine seqQ_ret ?_
           refine blockQ_ret ?_
           refine seqQ_ret ?_
           refine round_ret ?_
           refine escQ_ret ?_
           exact exM (by kernel_rfl)
          ·replace h := ofF h191 h
           refine wkL [(1, .one (.ptr 1 0)), (8, .one (.ptr 8 0)), (39, aD (.slice (.slice t3)) a0.2.2), (40, aI (List.length a0.2.2 : Int)), (41, aI i151), (45, aD (.slice t3) v154), (46, aI (List.length v154 : Int)), (47, aI i183)] (by kernel_rfl) ?_
           refine seqQ_norm ?_
           refine W_seq (by kernel_rfl) ?_
           refine W_seq (by kernel_rfl) ?_
           refine W_region (by kernel_rfl) ?_
           refine woL 2 [(1, .one (.ptr 1 0)), (8, .one (.ptr 8 0)), (39, aD (.slice (.slice t3)) a0.2.2), (40, aI (List.length a0.2.2 : Int)), (41, aI i151), (45, aD (.slice t3) v154), (46, aI (List.length v154 : Int)), (47, aI i183), (59, aI v186.2.1)] (by kernel_rfl) ?_
           obtain ⟨r192, h193, h⟩ := bind_of h
           refine WO_call0 (us := [none, none, none]) (d := 60) (p := True) (j := 3) rfl ⟨by kernel_rfl, by kernel_rfl, by kernel_rfl⟩ trivial (ref_Within_ok h193) (by kernel_rfl) ?_
           refine wo 4 [(1, .one (.ptr 1 0)), (8, .one (.ptr 8 0)), (39, aD (.slice (.slice t3)) a0.2.2), (40, aI (List.length a0.2.2 : Int)), (41, aI i151), (45, aD (.slice t3) v154), (46, aI (List.length v154 : Int)), (47, aI i183), (61, aB (!r192))] [(1, .one tM a0), (8, .one t3 v186)] (by kernel_rfl) ?_
           refine wfL [(1, .one (.ptr 1 0)), (8, .one (.ptr 8 0)), (39, aD (.slice (.slice t3)) a0.2.2), (40, aI (List.length a0.2.2 : Int)), (41, aI i151), (45, aD (.slice t3) v154), (46, aI (List.length v154 : Int)), (47, aI i183), (61, aB (!r192))] (by kernel_rfl) ?_
           refine seqQ_norm ?_
           refine W_cond (o := .tmp 61) (b := !r192) (by kernel_rfl) (by kernel_rfl) (fun h194 => ?_) (fun h194 => ?_)
           ·replace h := ofT h194 h
            refine sr [(2, aI (4 : Int))] [] (by kernel_rfl) ?_
            obtain rfl := Option.some.inj h
            refine wtL [(2, aI (4 : Int))] (by kernel_rfl) ?_
            refine seqQ_ret ?_
            refine blockQ_ret ?_
            refine seqQ_ret ?_
            refine round_ret ?_
            refine escQ_ret ?_
            exact exM (by kernel_rfl)
           ·replace h := ofF h194 h
            refine wkL [(1, .one (.ptr 1 0)), (8, .one (.ptr 8 0)), (39, aD (.slice (.slice t3)) a0.2.2), (40, aI (List.length a0.2.2 : Int)), (41, aI i151), (45, aD (.slice t3) v154), (46, aI (List.length v154 : Int)), (47, aI i183)] (by kernel_rfl) ?_
            refine seqQ_norm ?_
            refine W_seq (by kernel_rfl) ?_
            refine W_region (by kernel_rfl) ?_
            refine wo 6 [(1, .one (.ptr 1 0)), (39, aD (.slice (.slice t3)) a0.2.2), (40, aI (List.length a0.2.2 : Int)), (41, aI i151), (45, aD (.slice t3) v154), (46, aI (List.length v154 : Int)), (47, aI i183), (64, aI (w64 (a0.1 + (1 : Int)))), (67, .one (.slc 67))] [(1, .one tM a0), (8, .one t3 v186), (67, .seq tI [v186.2.2])] (by kernel_rfl) ?_
            obtain ⟨r195, h196, h⟩ := bind_of h
            refine WO_frz 67 (by kernel_rfl) ?_
            refine WO_call0 (us := [none, none]) (d := 68) (p := True) (j := 7) rfl ⟨by kernel_rfl, by kernel_rfl, by kernel_rfl⟩ trivial (ref_Inside_ok h196) (by kernel_rfl) ?_
            refine wo 8 [(1, .one (.ptr 1 0)), (39, aD (.slice (.slice t3)) a0.2.2), (40, aI (List.length a0.2.2 : Int)), (41, aI i151), (45, aD (.slice t3) v154), (46, aI (List.length v154 : Int)), (47, aI i183), (69, aB (!r195))] [(1, .one tM a0), (8, .one t3 v186)] (by kernel_rfl) ?_
            refine wf [(1, .one (.ptr 1 0)), (39, aD (.slice (.slice t3)) a0.2.2), (40, aI (List.length a0.2.2 : Int)), (41, aI i151), (45, aD (.slice t3) v154), (46, aI (List.length v154 : Int)), (47, aI i183), (69, aB (!r195))] [(1, .one tM a0)] (by kernel_rfl) ?_
            refine seqQ_norm ?_
            refine W_cond (o := .tmp 69) (b := !r195) (by kernel_rfl) (by kernel_rfl) (fun h197 => ?_) (fun h197 => ?_)
            ·replace h := ofT h197 h
             refine sr [(2, aI (2 : Int))] [] (by kernel_rfl) ?_
             obtain rfl := Option.some.inj h
             refine wtL [(2, aI (2 : Int))] (by kernel_rfl) ?_
             refine blockQ_ret ?_
             refine seqQ_ret ?_
             refine round_ret ?_
             refine escQ_ret ?_
             exact exM (by kernel_rfl)
            ·replace h := ofF h197 h
             refine wkL [(1, .one (.ptr 1 0)), (39, aD (.slice (.slice t3)) a0.2.2), (40, aI (List.length a0.2.2 : Int)), (41, aI i151), (45, aD (.slice t3) v154), (46, aI (List.length v154 : Int)), (47, aI i183)] (by kernel_rfl) ?_
             refine blockQ_norm ?_
             refine seqQ_norm ?_
             obtain rfl := Option.some.inj h
             refine swL [(1, .one (.ptr 1 0)), (39, aD (.slice (.slice t3)) a0.2.2), (40, aI (List.length a0.2.2 : Int)), (41, aI i151), (45, aD (.slice t3) v154), (46, aI (List.length v154 : Int)), (47, aI (w64 (i183 + (1 : Int))))] (by kernel_rfl) ?_
             exact round_next' (by kernel_rfl) (by kernel_rfl)
         ·obtain rfl := stepL_false h188 h
          refine wxL 4 [(1, .one (.ptr 1 0)), (39, aD (.slice (.slice t3)) a0.2.2), (40, aI (List.length a0.2.2 : Int)), (41, aI i151)] (by kernel_rfl) ?_
          refine seqQ_exit ?_
          refine round_exit ?_
          refine escQ_brk ?_
          exact exM (by kernel_rfl)
        ·intro e fr L hJ
         rcases v199 with v204 | v205
         ·obtain ⟨rfl, rfl, rfl⟩ := hJ
          obtain rfl := Option.some.inj h
          refine ltk [(2, aI v204)] [] (by kernel_rfl) ?_
          refine blockQ_ret ?_
          refine blockQ_ret ?_
          refine seqQ_ret ?_
          refine round_ret ?_
          refine escQ_ret ?_
          exact exM (by kernel_rfl)
         ·obtain ⟨rfl, rfl, rfl⟩ := hJ
          refine ltk [(1, .one (.ptr 1 0)), (39, aD (.slice (.slice t3)) a0.2.2), (40, aI (List.length a0.2.2 : Int)), (41, aI i151)] [(1, .one tM a0)] (by kernel_rfl) ?_
          refine blockQ_hit ?_
          refine blockQ_norm ?_
          refine seqQ_norm ?_
          obtain rfl := Option.some.inj h
          refine sw [(1, .one (.ptr 1 0)), (39, aD (.slice (.slice t3)) a0.2.2), (40, aI (List.length a0.2.2 : Int)), (41, aI (w64 (i151 + (1 : Int))))] [(1, .one tM a0)] (by kernel_rfl) ?_
          exact round_next' (by kernel_rfl) (by kernel_rfl)
       ·obtain rfl := stepL_false h156 h
        refine wx 2 [] [] (by kernel_rfl) ?_
        refine seqQ_exit ?_
        refine round_exit ?_
        refine escQ_brk ?_
        exact exM (by kernel_rfl)
      ·intro e fr L hJ
       rcases v207 with v212 | v213
       ·obtain ⟨rfl, rfl, rfl⟩ := hJ
        obtain rfl := Option.some.inj h
        refine ltk [(2, aI v212)] [] (by kernel_rfl) ?_
        refine blockQ_ret ?_
        refine seqQ_ret ?_
        exact retM (by kernel_rfl)
       ·obtain ⟨rfl, rfl, rfl⟩ := hJ
        refine ltk [] [] (by kernel_rfl) ?_
        refine blockQ_hit ?_
        refine seqQ_norm ?_
        refine sr [(2, aI (0 : Int))] [] (by kernel_rfl) ?_
        obtain rfl := Option.some.inj h
        refine wtL [(2, aI (0 : Int))] (by kernel_rfl) ?_
        exact retM (by kernel_rfl)

@[reducible] def ref_UnrollCheck_s1 (a1 : Int) (a2 : Int) (v : Bool) : Fr × LL := ([(1, aI a1), (2, aI a2), (20, aB v)], [])
def ref_UnrollCheck (a0 : (Int × (Int × (List (List (Int × (Int × Int))))))) (a1 : Int) (a2 : Int) : Option Int :=
(ref_MachineCheck a0).bind fun r1 =>
bif r1 != (0 : Int) then
(some r1)
else
((bif a0.2.1 != (2 : Int) then
(some true)
else
(some (decide (a0.1 > (2 : Int))))).bind fun v7 =>
bif v7 then
(some (3 : Int))
else
((ref_Within (1 : Int) a1 (5 : Int)).bind fun r10 =>
bif !r10 then
(some (1 : Int))
else
((ref_Within (0 : Int) a2 (6 : Int)).bind fun r13 =>
bif !r13 then
(some (7 : Int))
else
(some (0 : Int)))))
theorem ref_UnrollCheck_ok {a0 : (Int × (Int × (List (List (Int × (Int × Int))))))} {a1 : Int} {a2 : Int} {r : Int} (h : ref_UnrollCheck a0 a1 a2 = some r) : FnC Try.prog 30 [aD tM a0, aI a1, aI a2] [] (aI r) [] := by
 refine fnC_of_W (B := bodyOf Try.f30) (n := 27) Try.func30 (by kernel_rfl) (by kernel_rfl) (by kernel_rfl) (by kernel_rfl) (by kernel_rfl) ?_
 intro K
 refine sr [(1, aI a1), (2, aI a2), (3, .one (.ptr 3 0))] [(3, .one tM a0)] (by kernel_rfl) ?_
 refine W_seq (by kernel_rfl) ?_
 refine W_region (by kernel_rfl) ?_
 refine woL 1 [(1, aI a1), (2, aI a2), (3, .one (.ptr 3 0)), (8, aD tM a0)] (by kernel_rfl) ?_
 obtain ⟨r1, h2, h⟩ := bind_of h
 refine WO_call0 (us := [none]) (d := 9) (p := True) (j := 2) rfl ⟨by kernel_rfl, by kernel_rfl, by kernel_rfl⟩ trivial (ref_MachineCheck_ok h2) (by kernel_rfl) ?_
 refine wo 3 [(1, aI a1), (2, aI a2), (3, .one (.ptr 3 0)), (7, aI r1)] [(3, .one tM a0)] (by kernel_rfl) ?_
 refine wfL [(1, aI a1), (2, aI a2), (3, .one (.ptr 3 0)), (7, aI r1)] (by kernel_rfl) ?_
 refine seqQ_norm ?_
 refine W_seq (by kernel_rfl) ?_
 refine srL [(1, aI a1), (2, aI a2), (3, .one (.ptr 3 0)), (7, aI r1), (11, aB (r1 != (0 : Int)))] (by kernel_rfl) ?_
 refine W_cond (o := .tmp 11) (b := r1 != (0 : Int)) (by kernel_rfl) (by kernel_rfl) (fun h3 => ?_) (fun h3 => ?_)
 ·replace h := ofT h3 h
  refine sr [(6, aI r1)] [] (by kernel_rfl) ?_
  obtain rfl := Option.some.inj h
  refine wtL [(6, aI r1)] (by kernel_rfl) ?_
  refine seqQ_ret ?_
  exact retM (by kernel_rfl)
 ·replace h := ofF h3 h
  refine wkL [(1, aI a1), (2, aI a2), (3, .one (.ptr 3 0))] (by kernel_rfl) ?_
  refine seqQ_norm ?_
  refine W_seq (by kernel_rfl) ?_
  refine W_seq (by kernel_rfl) ?_
  obtain ⟨v7, h8, h⟩ := bind_of h
  refine W_cutK (Q' := (exQ .normal (ref_UnrollCheck_s1 a1 a2)) v7) ?_ ?_
  ·replace h := h8
   refine W_region (by kernel_rfl) ?_
   refine wo 4 [(1, aI a1), (2, aI a2), (3, .one (.ptr 3 0)), (16, aB (a0.2.1 != (2 : Int)))] [(3, .one tM a0)] (by kernel_rfl) ?_
   rcases Bool.eq_false_or_eq_true (a0.2.1 != (2 : Int)) with h6 | h6
   ·replace h := ofT h6 h
    refine woo 8 [(8, .known true), (10, .known true), (12, .known true), (15, .val (.dat .bool true))] [(1, aI a1), (2, aI a2), (20, aB true)] [(3, .one tM a0)] [((a0.2.1 != (2 : Int)) = true), ((a0.2.1 != (2 : Int)) = true), ((a0.2.1 != (2 : Int)) = true), ((a0.2.1 != (2 : Int)) = true)] (by kernel_rfl) (allP2 h6 (allP2 h6 (allP2 h6 (allP1 h6)))) ?_
    obtain rfl := Option.some.inj h
    refine wf [(1, aI a1), (2, aI a2), (20, aB true)] [] (by kernel_rfl) ?_
    exact exM (by kernel_rfl)
   ·replace h := ofF h6 h
    refine woo 8 [(8, .known false), (10, .known false), (12, .known false), (15, .val (.dat .bool false))] [(1, aI a1), (2, aI a2), (20, aB (decide (a0.1 > (2 : Int))))] [(3, .one tM a0)] [((a0.2.1 != (2 : Int)) = false), ((a0.2.1 != (2 : Int)) = false), ((a0.2.1 != (2 : Int)) = false), ((a0.2.1 != (2 : Int)) = false)] (by kernel_rfl) (allP2 h6 (allP2 h6 (allP2 h6 (allP1 h6)))) ?_
    obtain rfl := Option.some.inj h
    refine wf [(1, aI a1), (2, aI a2), (20, aB (decide (a0.1 > (2 : Int))))] [] (by kernel_rfl) ?_
    exact exM (by kernel_rfl)
  ·intro e fr L hJ
   obtain ⟨rfl, rfl, rfl⟩ := hJ
   refine ltk [(1, aI a1), (2, aI a2), (20, aB v7)] [] (by kernel_rfl) ?_
   refine seqQ_norm ?_
   refine W_cond (o := .tmp 20) (b := v7) (by kernel_rfl) (by kernel_rfl) (fun h9 => ?_) (fun h9 => ?_)
   ·replace h := ofT h9 h
    refine srL [(6, aI (3 : Int))] (by kernel_rfl) ?_
    obtain rfl := Option.some.inj h
    refine wtL [(6, aI (3 : Int))] (by kernel_rfl) ?_
    refine seqQ_ret ?_
    exact retM (by kernel_rfl)
   ·replace h := ofF h9 h
    refine wkL [(1, aI a1), (2, aI a2)] (by kernel_rfl) ?_
    refine seqQ_norm ?_
    refine W_seq (by kernel_rfl) ?_
    refine W_seq (by kernel_rfl) ?_
    refine W_region (by kernel_rfl) ?_
    refine woL 1 [(2, aI a2), (21, aI a1)] (by kernel_rfl) ?_
    obtain ⟨r10, h11, h⟩ := bind_of h
    refine WO_call0 (us := [none, none, none]) (d := 22) (p := True) (j := 2) rfl ⟨by kernel_rfl, by kernel_rfl, by kernel_rfl⟩ trivial (ref_Within_ok h11) (by kernel_rfl) ?_
    refine wo 3 [(2, aI a2), (23, aB (!r10))] [] (by kernel_rfl) ?_
    refine wfL [(2, aI a2), (23, aB (!r10))] (by kernel_rfl) ?_
    refine seqQ_norm ?_
    refine W_cond (o := .tmp 23) (b := !r10) (by kernel_rfl) (by kernel_rfl) (fun h12 => ?_) (fun h12 => ?_)
    ·replace h := ofT h12 h
     refine srL [(6, aI (1 : Int))] (by kernel_rfl) ?_
     obtain rfl := Option.some.inj h
     refine wtL [(6, aI (1 : Int))] (by kernel_rfl) ?_
     refine seqQ_ret ?_
     exact retM (by kernel_rfl)
    ·replace h := ofF h12 h
     refine wkL [(2, aI a2)] (by kernel_rfl) ?_
     refine seqQ_norm ?_
     refine W_seq (by kernel_rfl) ?_
     refine W_seq (by kernel_rfl) ?_
     refine W_region (by kernel_rfl) ?_
     refine woL 1 [(24, aI a2)] (by kernel_rfl) ?_
     obtain ⟨r13, h14, h⟩ := bind_of h
     refine WO_call0 (us := [none, none, none]) (d := 25) (p := True) (j := 2) rfl ⟨by kernel_rfl, by kernel_rfl, by kernel_rfl⟩ trivial (ref_Within_ok h14) (by kernel_rfl) ?_
     refine wo 3 [(26, aB (!r13))] [] (by kernel_rfl) ?_
     refine wfL [(26, aB (!r13))] (by kernel_rfl) ?_
     refine seqQ_norm ?_
     refine W_cond (o := .tmp 26) (b := !r13) (by kernel_rfl) (by kernel_rfl) (fun h15 => ?_) (fun h15 => ?_)
     ·replace h := ofT h15 h
      refine srL [(6, aI (7 : Int))] (by kernel_rfl) ?_
      obtain rfl := Option.some.inj h
      refine wtL [(6, aI (7 : Int))] (by kernel_rfl) ?_
      refine seqQ_ret ?_
      exact retM (by kernel_rfl)
     ·replace h := ofF h15 h
      refine wkL [] (by kernel_rfl) ?_
      refine seqQ_norm ?_
      refine srL [(6, aI (0 : Int))] (by kernel_rfl) ?_
      obtain rfl := Option.some.inj h
      refine wtL [(6, aI (0 : Int))] (by kernel_rfl) ?_
      exact retM (by kernel_rfl)

def ref_GatesCheck_g7 (i105 : Int) (v108 : (Int × (Int × Int))) : Option Bool :=
bif v108.1 != (1 : Int) then
((ref_Inside i105 [v108.2.1]).bind fun r147 =>
bif !r147 then
(some true)
else
(bif decide (v108.1 ≥ (3 : Int)) then
((ref_Inside i105 [v108.2.2]).bind fun r151 =>
some (!r151))
else
(some false)))
else
(bif decide (v108.1 ≥ (3 : Int)) then
((ref_Inside i105 [v108.2.2]).bind fun r154 =>
some (!r154))
else
(some false))
@[reducible] def ref_GatesCheck_s8 (a0 : Int) (a1 : (List (Int × (Int × Int)))) (i105 : Int) (v : Bool) : Fr × LL := ([(0, aI a0), (7, aD (.slice t3) a1), (8, aI (List.length a1 : Int)), (9, aI i105), (52, aB v)], [])
@[reducible] def ref_GatesCheck_s9 (a0 : Int) (a1 : (List (Int × (Int × Int)))) (i105 : Int) (v108 : (Int × (Int × Int))) (v : Bool) : Fr × LL := ([(0, aI a0), (5, aI i105), (6, .one (.ptr 6 0)), (7, aD (.slice t3) a1), (8, aI (List.length a1 : Int)), (9, aI i105), (28, aB v)], [(6, .one t3 v108)])
def ref_GatesCheck_b10 (a0 : Int) (i105 : Int) (v108 : (Int × (Int × Int))) (x106 : Unit) : Option (Flow Unit (Esc Int Unit)) :=
(ref_Within (1 : Int) v108.1 (4 : Int)).bind fun r111 =>
bif !r111 then
(some (.done (.ret (6 : Int))))
else
((bif v108.1 == (1 : Int) then
((ref_Inside a0 [v108.2.1]).bind fun r121 =>
some (!r121))
else
(some false)).bind fun v123 =>
bif v123 then
(some (.done (.ret (4 : Int))))
else
((ref_GatesCheck_g7 i105 v108).bind fun v156 =>
bif v156 then
(some (.done (.ret (2 : Int))))
else
(some (.next ()))))
@[reducible] def ref_GatesCheck_s11 (a0 : Int) (a1 : (List (Int × (Int × Int)))) (v : Int × Unit) : Fr × LL := ([(0, aI a0), (7, aD (.slice t3) a1), (8, aI (List.length a1 : Int)), (9, aI v.1)], [])
@[reducible] def ref_GatesCheck_s12 (v : Int) : Fr × LL := ([(4, aI v)], [])
@[reducible] def ref_GatesCheck_s13 (v : Unit) : Fr × LL := ([], [])
def ref_GatesCheck (a0 : Int) (a1 : (List (Int × (Int × Int)))) : Option Int :=
(forL (ref_GatesCheck_b10 a0) (fun x106 => (.brk ())) a1 0 ()).bind fun v160 =>
match v160 with
| .ret v165 =>
(some v165)
| .brk v166 =>
(some (0 : Int))
theorem ref_GatesCheck_ok {a0 : Int} {a1 : (List (Int × (Int × Int)))} {r : Int} (h : ref_GatesCheck a0 a1 = some r) : FnC Try.prog 47 [aI a0, aD (.slice t3) a1] [] (aI r) [] := by
 refine fnC_of_W (B := bodyOf Try.f47) (n := 54) Try.func47 (by kernel_rfl) (by kernel_rfl) (by kernel_rfl) (by kernel_rfl) (by kernel_rfl) ?_
 intro K
 refine sr [(0, aI a0), (1, aD (.slice t3) a1)] [] (by kernel_rfl) ?_
 refine W_seq (by kernel_rfl) ?_
 refine srL [(0, aI a0), (7, aD (.slice t3) a1), (8, aI (List.length a1 : Int)), (9, aI (0 : Int))] (by kernel_rfl) ?_
 refine W_block (id := 0) (by kernel_rfl) ?_
 obtain ⟨v160, h161, h⟩ := bind_of h
 refine W_len (t := 7) (u := t3) (xs := a1) (by kernel_rfl) (fun h164 => ?_)
 obtain ⟨h162, h163⟩ := forL_iter h164 h161
 refine W_weaken [0, 7, 8, 9] [] (fr' := ((ref_GatesCheck_s11 a0 a1) ((0 : Int), ())).1) (L' := ((ref_GatesCheck_s11 a0 a1) ((0 : Int), ())).2) (by kernel_rfl) ?_
 refine W_cutK (W_loop (S := (ref_GatesCheck_s11 a0 a1)) (J := (escQ (exQ .ret ref_GatesCheck_s12) (exQ (.exit 0) ref_GatesCheck_s13))) (by kernel_rfl) ?_ h162 _ v160 h163) ?_
 ·rintro ⟨i105, x106⟩ s h
  refine sr [(0, aI a0), (7, aD (.slice t3) a1), (8, aI (List.length a1 : Int)), (9, aI i105), (10, aB (decide (i105 < (List.length a1 : Int))))] [] (by kernel_rfl) ?_
  refine W_seq (by kernel_rfl) ?_
  refine W_cond (o := .tmp 10) (b := decide (i105 < (List.length a1 : Int))) (by kernel_rfl) (by kernel_rfl) (fun h110 => ?_) (fun h110 => ?_)
  ·replace h := stepL_true h110 h
   obtain ⟨v108, _, h109, h, rfl⟩ := h
   refine wkL [(0, aI a0), (7, aD (.slice t3) a1), (8, aI (List.length a1 : Int)), (9, aI i105)] (by kernel_rfl) ?_
   refine seqQ_norm ?_
   refine W_seq (by kernel_rfl) ?_
   refine W_block (id := 1) (by kernel_rfl) ?_
   refine sro [(3, .val (.dat t3 v108)), (7, .typed)] [(0, aI a0), (5, aI i105), (6, .one (.ptr 6 0)), (7, aD (.slice t3) a1), (8, aI (List.length a1 : Int)), (9, aI i105)] [(6, .one t3 v108)] [Idx a1 i105 v108, True] (by kernel_rfl) (allP2 (Idx.of h109) (allP1 trivial)) ?_
   refine W_seq (by kernel_rfl) ?_
   refine W_seq (by kernel_rfl) ?_
   refine W_region (by kernel_rfl) ?_
   refine woL 2 [(0, aI a0), (5, aI i105), (6, .one (.ptr 6 0)), (7, aD (.slice t3) a1), (8, aI (List.length a1 : Int)), (9, aI i105), (15, aI v108.1)] (by kernel_rfl) ?_
   obtain ⟨r111, h112, h⟩ := bind_of h
   refine WO_call0 (us := [none, none, none]) (d := 16) (p := True) (j := 3) rfl ⟨by kernel_rfl, by kernel_rfl, by kernel_rfl⟩ trivial (ref_Within_ok h112) (by kernel_rfl) ?_
   refine wo 4 [(0, aI a0), (5, aI i105), (6, .one (.ptr 6 0)), (7, aD (.slice t3) a1), (8, aI (List.length a1 : Int)), (9, aI i105), (17, aB (!r111))] [(6, .one t3 v108)] (by kernel_rfl) ?_
   refine wfL [(0, aI a0), (5, aI i105), (6, .one (.ptr 6 0)), (7, aD (.slice t3) a1), (8, aI (List.length a1 : Int)), (9, aI i105), (17, aB (!r111))] (by kernel_rfl) ?_
   refine seqQ_norm ?_
   refine W_cond (o := .tmp 17) (b := !r111) (by kernel_rfl) (by kernel_rfl) (fun h113 => ?_) (fun h113 => ?_)
   ·replace h := ofT h113 h
    refine sr [(4, aI (6 : Int))] [] (by kernel_rfl) ?_
    obtain rfl := Option.some.inj h
    refine wtL [(4, aI (6 : Int))] (by kernel_rfl) ?_
    refine seqQ_ret ?_
    refine blockQ_ret ?_
    refine seqQ_ret ?_
    refine round_ret ?_
    refine escQ_ret ?_
    exact exM (by kernel_rfl)
   ·replace h := ofF h113 h
    refine wkL [(0, aI a0), (5, aI i105), (6, .one (.ptr 6 0)), (7, aD (.slice t3) a1), (8, aI (List.length a1 : Int)), (9, aI i105)] (by kernel_rfl) ?_
    refine seqQ_norm ?_
    refine W_seq (by kernel_rfl) ?_
    refine W_seq (by kernel_rfl) ?_
    obtain ⟨v123, h124, h⟩ := bind_of h
    refine W_cutK (Q' := (exQ .normal (ref_GatesCheck_s9 a0 a1 i105 v108)) v123) ?_ ?_
    ·replace h := h124
     refine W_region (by kernel_rfl) ?_
     refine wo 4 [(0, aI a0), (5, aI i105), (6, .one (.ptr 6 0)), (7, aD (.slice t3) a1), (8, aI (List.length a1 : Int)), (9, aI i105), (21, aB (v108.1 == (1 : Int)))] [(6, .one t3 v108)] (by kernel_rfl) ?_
     rcases Bool.eq_false_or_eq_true (v108.1 == (1 : Int)) with h120 | h120
     ·replace h := ofT h120 h
      refine woo 8 [(8, .known true), (10, .known true), (12, .known true), (14, .known true)] [(0, aI a0), (5, aI i105), (6, .one (.ptr 6 0)), (7, aD (.slice t3) a1), (8, aI (List.length a1 : Int)), (9, aI i105), (21, aB (v108.1 == (1 : Int))), (22, aI a0), (25, .one (.slc 25))] [(6, .one t3 v108), (25, .seq tI [v108.2.1])] [((v108.1 == (1 : Int)) = true), ((v108.1 == (1 : Int)) = true), ((v108.1 == (1 : Int)) = true), ((v108.1 == (1 : Int)) = true)] (by kernel_rfl) (allP2 h120 (allP2 h120 (allP2 h120 (allP1 h120)))) ?_
      obtain ⟨r121, h122, h⟩ := bind_of h
      refine WO_frz 25 (by kernel_rfl) ?_
      refine WO_call0 (us := [none, none]) (d := 26) (p := ((v108.1 == (1 : Int)) = true)) (j := 9) rfl ⟨by kernel_rfl, by kernel_rfl, by kernel_rfl⟩ h120 (ref_Inside_ok h122) (by kernel_rfl) ?_
      refine woo 11 [(18, .known true), (21, .val (.dat .bool true))] [(0, aI a0), (5, aI i105), (6, .one (.ptr 6 0)), (7, aD (.slice t3) a1), (8, aI (List.length a1 : Int)), (9, aI i105), (28, aB (!r121))] [(6, .one t3 v108)] [((v108.1 == (1 : Int)) = true), ((v108.1 == (1 : Int)) = true)] (by kernel_rfl) (allP2 h120 (allP1 h120)) ?_
      obtain rfl := Option.some.inj h
      refine wfL [(0, aI a0), (5, aI i105), (6, .one (.ptr 6 0)), (7, aD (.slice t3) a1), (8, aI (List.length a1 : Int)), (9, aI i105), (28, aB (!r121))] (by kernel_rfl) ?_
      exact exM (by kernel_rfl)
     ·replace h := ofF h120 h
      refine woo 11 [(8, .known false), (10, .known false), (12, .known false), (14, .known false), (16, .known false), (18, .known false), (21, .val (.dat .bool false))] [(0, aI a0), (5, aI i105), (6, .one (.ptr 6 0)), (7, aD (.slice t3) a1), (8, aI (List.length a1 : Int)), (9, aI i105), (28, aB false)] [(6, .one t3 v108)] [((v108.1 == (1 : Int)) = false), ((v108.1 == (1 : Int)) = false), ((v108.1 == (1 : Int)) = false), ((v108.1 == (1 : Int)) = false), ((v108.1 == (1 : Int)) = false), ((v108.1 == (1 : Int)) = false), ((v108.1 == (1 : Int)) = false)] (by kernel_rfl) (allP2 h120 (allP2 h120 (allP2 h120 (allP2 h120 (allP2 h120 (allP2 h120 (allP1 h120))))))) ?_
      obtain rfl := Option.some.inj h
      refine wfL [(0, aI a0), (5, aI i105), (6, .one (.ptr 6 0)), (7, aD (.slice t3) a1), (8, aI (List.length a1 : Int)), (9, aI i105), (28, aB false)] (by kernel_rfl) ?_
      exact exM (by kernel_rfl)
    ·intro e fr L hJ
     obtain ⟨rfl, rfl, rfl⟩ := hJ
     refine ltk [(0, aI a0), (5, aI i105), (6, .one (.ptr 6 0)), (7, aD (.slice t3) a1), (8, aI (List.length a1 : Int)), (9, aI i105), (28, aB v123)] [(6, .one t3 v108)] (by kernel_rfl) ?_
     refine seqQ_norm ?_
     refine W_cond (o := .tmp 28) (b := v123) (by kernel_rfl) (by kernel_rfl) (fun h125 => ?_) (fun h125 => ?_)
     ·replace h := ofT h125 h
      refine sr [(4, aI (4 : Int))] [] (by kernel_rfl) ?_
      obtain rfl := Option.some.inj h
      refine wtL [(4, aI (4 : Int))] (by kernel_rfl) ?_
      refine seqQ_ret ?_
      refine blockQ_ret ?_
      refine seqQ_ret ?_
      refine round_ret ?_
      refine escQ_ret ?_
      exact exM (by kernel_rfl)
     ·replace h := ofF h125 h
      refine wkL [(0, aI a0), (5, aI i105), (6, .one (.ptr 6 0)), (7, aD (.slice t3) a1), (8, aI (List.length a1 : Int)), (9, aI i105)] (by kernel_rfl) ?_
      refine seqQ_norm ?_
      refine W_seq (by kernel_rfl) ?_
      obtain ⟨v156, h157, h⟩ := bind_of h
      refine W_cutK (Q' := (exQ .normal (ref_GatesCheck_s8 a0 a1 i105)) v156) ?_ ?_
      ·replace h := h157
       refine W_region (by kernel_rfl) ?_
       refine wo 4 [(0, aI a0), (5, aI i105), (6, .one (.ptr 6 0)), (7, aD (.slice t3) a1), (8, aI (List.length a1 : Int)), (9, aI i105), (32, aB (v108.1 != (1 : Int)))] [(6, .one t3 v108)] (by kernel_rfl) ?_
       rcases Bool.eq_false_or_eq_true (v108.1 != (1 : Int)) with h146 | h146
       ·replace h := ofT h146 h
        refine woo 8 [(8, .known true), (10, .known true), (12, .known true), (14, .known true)] [(0, aI a0), (5, aI i105), (6, .one (.ptr 6 0)), (7, aD (.slice t3) a1), (8, aI (List.length a1 : Int)), (9, aI i105), (32, aB (v108.1 != (1 : Int))), (33, aI i105), (36, .one (.slc 36))] [(6, .one t3 v108), (36, .seq tI [v108.2.1])] [((v108.1 != (1 : Int)) = true), ((v108.1 != (1 : Int)) = true), ((v108.1 != (1 : Int)) = true), ((v108.1 != (1 : Int)) = true)] (by kernel_rfl) (allP2 h146 (allP2 h146 (allP2 h146 (allP1 h146)))) ?_
        obtain ⟨r147, h148, h⟩ := bind_of h
        refine WO_frz 36 (by kernel_rfl) ?_
        refine WO_call0 (us := [none, none]) (d := 37) (p := ((v108.1 != (1 : Int)) = true)) (j := 9) rfl ⟨by kernel_rfl, by kernel_rfl, by kernel_rfl⟩ h146 (ref_Inside_ok h148) (by kernel_rfl) ?_
        refine woo 12 [(18, .known true), (21, .val (.dat .bool true))] [(0, aI a0), (5, aI i105), (6, .one (.ptr 6 0)), (7, aD (.slice t3) a1), (8, aI (List.length a1 : Int)), (9, aI i105), (40, aB (!r147))] [(6, .one t3 v108)] [((v108.1 != (1 : Int)) = true), ((v108.1 != (1 : Int)) = true)] (by kernel_rfl) (allP2 h146 (allP1 h146)) ?_
        rcases Bool.eq_false_or_eq_true (!r147) with h149 | h149
        ·replace h := ofT h149 h
         refine woo 24 [(24, .known true), (26, .known true), (28, .known true), (30, .known true), (32, .known true), (34, .known true), (36, .known true), (38, .known true), (40, .known true), (42, .known true), (44, .known true), (47, .val (.dat .bool true))] [(0, aI a0), (7, aD (.slice t3) a1), (8, aI (List.length a1 : Int)), (9, aI i105), (52, aB true)] [(6, .one t3 v108)] [((!r147) = true), ((!r147) = true), ((!r147) = true), ((!r147) = true), ((!r147) = true), ((!r147) = true)] (by kernel_rfl) (allP2 h149 (allP2 h149 (allP2 h149 (allP2 h149 (allP2 h149 (allP1 h149)))))) ?_
         obtain rfl := Option.some.inj h
         refine wf [(0, aI a0), (7, aD (.slice t3) a1), (8, aI (List.length a1 : Int)), (9, aI i105), (52, aB true)] [] (by kernel_rfl) ?_
         exact exM (by kernel_rfl)
        ·replace h := ofF h149 h
         refine woo 16 [(24, .known false), (26, .known false), (28, .known false), (30, .known false)] [(0, aI a0), (5, aI i105), (6, .one (.ptr 6 0)), (7, aD (.slice t3) a1), (8, aI (List.length a1 : Int)), (9, aI i105), (40, aB (!r147)), (44, aB (decide (v108.1 ≥ (3 : Int))))] [(6, .one t3 v108)] [((!r147) = false), ((!r147) = false), ((!r147) = false), ((!r147) = false)] (by kernel_rfl) (allP2 h149 (allP2 h149 (allP2 h149 (allP1 h149)))) ?_
         rcases Bool.eq_false_or_eq_true (decide (v108.1 ≥ (3 : Int))) with h150 | h150
         ·replace h := ofT h150 h
          refine woo 20 [(32, .known true), (34, .known true), (36, .known true), (38, .known true)] [(0, aI a0), (7, aD (.slice t3) a1), (8, aI (List.length a1 : Int)), (9, aI i105), (40, aB (!r147)), (44, aB (decide (v108.1 ≥ (3 : Int)))), (45, aI i105), (48, .one (.slc 48))] [(6, .one t3 v108), (48, .seq tI [v108.2.2])] [((decide (v108.1 ≥ (3 : Int))) = true), ((decide (v108.1 ≥ (3 : Int))) = true), ((decide (v108.1 ≥ (3 : Int))) = true), ((decide (v108.1 ≥ (3 : Int))) = true)] (by kernel_rfl) (allP2 h150 (allP2 h150 (allP2 h150 (allP1 h150)))) ?_
          obtain ⟨r151, h152, h⟩ := bind_of h
          refine WO_frz 48 (by kernel_rfl) ?_
          refine WO_call0 (us := [none, none]) (d := 49) (p := ((decide (v108.1 ≥ (3 : Int))) = true)) (j := 21) rfl ⟨by kernel_rfl, by kernel_rfl, by kernel_rfl⟩ h150 (ref_Inside_ok h152) (by kernel_rfl) ?_
          refine woo 24 [(42, .known true), (44, .known false), (45, .val (.dat .bool true)), (47, .val (.dat .bool false))] [(0, aI a0), (7, aD (.slice t3) a1), (8, aI (List.length a1 : Int)), (9, aI i105), (52, aB (!r151))] [(6, .one t3 v108)] [((decide (v108.1 ≥ (3 : Int))) = true), ((!r147) = false), ((decide (v108.1 ≥ (3 : Int))) = true), ((!r147) = false)] (by kernel_rfl) (allP2 h150 (allP2 h149 (allP2 h150 (allP1 h149)))) ?_
          obtain rfl := Option.some.inj h
          refine wf [(0, aI a0), (7, aD (.slice t3) a1), (8, aI (List.length a1 : Int)), (9, aI i105), (52, aB (!r151))] [] (by kernel_rfl) ?_
          exact exM (by kernel_rfl)
         ·replace h := ofF h150 h
          refine woo 24 [(32, .known false), (34, .known false), (36, .known false), (38, .known false), (40, .known false), (42, .known false), (44, .known false), (45, .val (.dat .bool false)), (47, .val (.dat .bool false))] [(0, aI a0), (7, aD (.slice t3) a1), (8, aI (List.length a1 : Int)), (9, aI i105), (52, aB false)] [(6, .one t3 v108)] [((decide (v108.1 ≥ (3 : Int))) = false), ((decide (v108.1 ≥ (3 : Int))) = false), ((decide (v108.1 ≥ (3 : Int))) = false), ((decide (v108.1 ≥ (3 : Int))) = false), ((decide (v108.1 ≥ (3 : Int))) = false), ((decide (v108.1 ≥ (3 : Int))) = false), ((!r147) = false), ((decide (v108.1 ≥ (3 : Int))) = false), ((!r147) = false)] (by kernel_rfl) (allP2 h150 (allP2 h150 (allP2 h150 (allP2 h150 (allP2 h150 (allP2 h150 (allP2 h149 (allP2 h150 (allP1 h149))))))))) ?_
          obtain rfl := Option.some.inj h
          refine wf [(0, aI a0), (7, aD (.slice t3) a1), (8, aI (List.length a1 : Int)), (9, aI i105), (52, aB false)] [] (by kernel_rfl) ?_
          exact exM (by kernel_rfl)
       ·replace h := ofF h146 h
        refine woo 16 [(8, .known false), (10, .known false), (12, .known false), (14, .known false), (16, .known false), (18, .known false), (21, .val (.dat .bool false)), (24, .known false), (26, .known false), (28, .known false), (30, .known false)] [(0, aI a0), (5, aI i105), (6, .one (.ptr 6 0)), (7, aD (.slice t3) a1), (8, aI (List.length a1 : Int)), (9, aI i105), (40, aB false), (44, aB (decide (v108.1 ≥ (3 : Int))))] [(6, .one t3 v108)] [((v108.1 != (1 : Int)) = false), ((v108.1 != (1 : Int)) = false), ((v108.1 != (1 : Int)) = false), ((v108.1 != (1 : Int)) = false), ((v108.1 != (1 : Int)) = false), ((v108.1 != (1 : Int)) = false), ((v108.1 != (1 : Int)) = false), (false = false), (false = false), (false = false), (false = false)] (by kernel_rfl) (allP2 h146 (allP2 h146 (allP2 h146 (allP2 h146 (allP2 h146 (allP2 h146 (allP2 h146 (allP2 rfl (allP2 rfl (allP2 rfl (allP1 rfl))))))))))) ?_
        rcases Bool.eq_false_or_eq_true (decide (v108.1 ≥ (3 : Int))) with h153 | h153
        ·replace h := ofT h153 h
         refine woo 20 [(32, .known true), (34, .known true), (36, .known true), (38, .known true)] [(0, aI a0), (7, aD (.slice t3) a1), (8, aI (List.length a1 : Int)), (9, aI i105), (40, aB false), (44, aB (decide (v108.1 ≥ (3 : Int)))), (45, aI i105), (48, .one (.slc 48))] [(6, .one t3 v108), (48, .seq tI [v108.2.2])] [((decide (v108.1 ≥ (3 : Int))) = true), ((decide (v108.1 ≥ (3 : Int))) = true), ((decide (v108.1 ≥ (3 : Int))) = true), ((decide (v108.1 ≥ (3 : Int))) = true)] (by kernel_rfl) (allP2 h153 (allP2 h153 (allP2 h153 (allP1 h153)))) ?_
         obtain ⟨r154, h155, h⟩ := bind_of h
         refine WO_frz 48 (by kernel_rfl) ?_
         refine WO_call0 (us := [none, none]) (d := 49) (p := ((decide (v108.1 ≥ (3 : Int))) = true)) (j := 21) rfl ⟨by kernel_rfl, by kernel_rfl, by kernel_rfl⟩ h153 (ref_Inside_ok h155) (by kernel_rfl) ?_
         refine woo 24 [(42, .known true), (44, .known false), (45, .val (.dat .bool true)), (47, .val (.dat .bool false))] [(0, aI a0), (7, aD (.slice t3) a1), (8, aI (List.length a1 : Int)), (9, aI i105), (52, aB (!r154))] [(6, .one t3 v108)] [((decide (v108.1 ≥ (3 : Int))) = true), (false = false), ((decide (v108.1 ≥ (3 : Int))) = true), (false = false)] (by kernel_rfl) (allP2 h153 (allP2 rfl (allP2 h153 (allP1 rfl)))) ?_
         obtain rfl := Option.some.inj h
         refine wf [(0, aI a0), (7, aD (.slice t3) a1), (8, aI (List.length a1 : Int)), (9, aI i105), (52, aB (!r154))] [] (by kernel_rfl) ?_
         exact exM (by kernel_rfl)
        ·replace h := ofF h153 h
         refine woo 24 [(32, .known false), (34, .known false), (36, .known false), (38, .known false), (40, .known false), (42, .known false), (44, .known false), (45, .val (.dat .bool false)), (47, .val (.dat .bool false))] [(0, aI a0), (7, aD (.slice t3) a1), (8, aI (List.length a1 : Int)), (9, aI i105), (52, aB false)] [(6, .one t3 v108)] [((decide (v108.1 ≥ (3 : Int))) = false), ((decide (v108.1 ≥ (3 : Int))) = false), ((decide (v108.1 ≥ (3 : Int))) = false), ((decide (v108.1 ≥ (3 : Int))) = false), ((decide (v108.1 ≥ (3 : Int))) = false), ((decide (v108.1 ≥ (3 : Int))) = false), (false = false), ((decide (v108.1 ≥ (3 : Int))) = false), (false = false)] (by kernel_rfl) (allP2 h153 (allP2 h153 (allP2 h153 (allP2 h153 (allP2 h153 (allP2 h153 (allP2 rfl (allP2 h153 (allP1 rfl))))))))) ?_
         obtain rfl := Option.some.inj h
         refine wf [(0, aI a0), (7, aD (.slice t3) a1), (8, aI (List.length a1 : Int)), (9, aI i105), (52, aB false)] [] (by kernel_rfl) ?_
         exact exM (by kernel_rfl)
      ·intro e fr L hJ
       obtain ⟨rfl, rfl, rfl⟩ := hJ
       refine ltk [(0, aI a0), (7, aD (.slice t3) a1), (8, aI (List.length a1 : Int)), (9, aI i105), (52, aB v156)] [] (by kernel_rfl) ?_
       refine seqQ_norm ?_
       refine W_cond (o := .tmp 52) (b := v156) (by kernel_rfl) (by kernel_rfl) (fun h158 => ?_) (fun h158 => ?_)
       ·replace h := ofT h158 h
        refine srL [(4, aI (2 : Int))] (by kernel_rfl) ?_
        obtain rfl := Option.some.inj h
        refine wtL [(4, aI (2 : Int))] (by kernel_rfl) ?_
        refine blockQ_ret ?_
        refine seqQ_ret ?_
        refine round_ret ?_
        refine escQ_ret ?_
        exact exM (by kernel_rfl)
       ·replace h := ofF h158 h
        refine wkL [(0, aI a0), (7, aD (.slice t3) a1), (8, aI (List.length a1 : Int)), (9, aI i105)] (by kernel_rfl) ?_
        refine blockQ_norm ?_
        refine seqQ_norm ?_
        obtain rfl := Option.some.inj h
        refine swL [(0, aI a0), (7, aD (.slice t3) a1), (8, aI (List.length a1 : Int)), (9, aI (w64 (i105 + (1 : Int))))] (by kernel_rfl) ?_
        exact round_next' (by kernel_rfl) (by kernel_rfl)
  ·obtain rfl := stepL_false h110 h
   refine wxL 0 [] (by kernel_rfl) ?_
   refine seqQ_exit ?_
   refine round_exit ?_
   refine escQ_brk ?_
   exact exM (by kernel_rfl)
 ·intro e fr L hJ
  rcases v160 with v165 | v166
  ·obtain ⟨rfl, rfl, rfl⟩ := hJ
   obtain rfl := Option.some.inj h
   refine ltk [(4, aI v165)] [] (by kernel_rfl) ?_
   refine blockQ_ret ?_
   refine seqQ_ret ?_
   exact retM (by kernel_rfl)
  ·obtain ⟨rfl, rfl, rfl⟩ := hJ
   refine ltk [] [] (by kernel_rfl) ?_
   refine blockQ_hit ?_
   refine seqQ_norm ?_
   refine sr [(4, aI (0 : Int))] [] (by kernel_rfl) ?_
   obtain rfl := Option.some.inj h
   refine wtL [(4, aI (0 : Int))] (by kernel_rfl) ?_
   exact retM (by kernel_rfl)

def ref_Bit (a0 : Int) (a1 : Int) : Option Bool :=
bif (decide (a1 ≥ (0 : Int))) && (decide (a1 < (63 : Int))) then
((ck (0 ≤ IntKind.wrap .u64 (a1))).bind fun _ =>
some ((bAnd .i64 a0 (bShl .i64 (1 : Int) (IntKind.wrap .u64 (a1)))) != (0 : Int)))
else
(some false)
theorem ref_Bit_ok {a0 : Int} {a1 : Int} {r : Bool} (h : ref_Bit a0 a1 = some r) : FnC Try.prog 61 [aI a0, aI a1] [] (aB r) [] := by
 refine fnC_of_W (B := bodyOf Try.f61) (n := 19) Try.func61 (by kernel_rfl) (by kernel_rfl) (by kernel_rfl) (by kernel_rfl) (by kernel_rfl) ?_
 intro K
 refine sr [(0, aI a0), (1, aI a1)] [] (by kernel_rfl) ?_
 refine W_seq (by kernel_rfl) ?_
 refine W_region (by kernel_rfl) ?_
 refine woL 7 [(0, aI a0), (1, aI a1), (11, aB ((decide (a1 ≥ (0 : Int))) && (decide (a1 < (63 : Int)))))] (by kernel_rfl) ?_
 rcases Bool.eq_false_or_eq_true ((decide (a1 ≥ (0 : Int))) && (decide (a1 < (63 : Int)))) with h1 | h1
 ·replace h := ofT h1 h
  obtain ⟨_, h2, h⟩ := bind_of h
  replace h2 := ck_some h2
  refine woo 15 [(14, .known true), (16, .known true), (18, .known true), (20, .known true), (22, .known true), (24, .known true), (27, .val (.dat .bool true))] [(4, aB ((bAnd .i64 a0 (bShl .i64 (1 : Int) (IntKind.wrap .u64 (a1)))) != (0 : Int)))] [] [(((decide (a1 ≥ (0 : Int))) && (decide (a1 < (63 : Int)))) = true), (((decide (a1 ≥ (0 : Int))) && (decide (a1 < (63 : Int)))) = true), (((decide (a1 ≥ (0 : Int))) && (decide (a1 < (63 : Int)))) = true), (((decide (a1 ≥ (0 : Int))) && (decide (a1 < (63 : Int)))) = true), (0 ≤ IntKind.wrap .u64 (a1)), (((decide (a1 ≥ (0 : Int))) && (decide (a1 < (63 : Int)))) = true), (((decide (a1 ≥ (0 : Int))) && (decide (a1 < (63 : Int)))) = true), (((decide (a1 ≥ (0 : Int))) && (decide (a1 < (63 : Int)))) = true)] (by kernel_rfl) (allP2 h1 (allP2 h1 (allP2 h1 (allP2 h1 (allP2 h2 (allP2 h1 (allP2 h1 (allP1 h1)))))))) ?_
  refine wfL [(4, aB ((bAnd .i64 a0 (bShl .i64 (1 : Int) (IntKind.wrap .u64 (a1)))) != (0 : Int)))] (by kernel_rfl) ?_
  refine seqQ_norm ?_
  obtain rfl := Option.some.inj h
  refine wtL [(4, aB ((bAnd .i64 a0 (bShl .i64 (1 : Int) (IntKind.wrap .u64 (a1)))) != (0 : Int)))] (by kernel_rfl) ?_
  exact retM (by kernel_rfl)
 ·replace h := ofF h1 h
  refine woo 15 [(14, .known false), (16, .known false), (18, .known false), (20, .known false), (22, .known false), (24, .known false), (27, .val (.dat .bool false))] [(4, aB false)] [] [(((decide (a1 ≥ (0 : Int))) && (decide (a1 < (63 : Int)))) = false), (((decide (a1 ≥ (0 : Int))) && (decide (a1 < (63 : Int)))) = false), (((decide (a1 ≥ (0 : Int))) && (decide (a1 < (63 : Int)))) = false), (((decide (a1 ≥ (0 : Int))) && (decide (a1 < (63 : Int)))) = false), (((decide (a1 ≥ (0 : Int))) && (decide (a1 < (63 : Int)))) = false), (((decide (a1 ≥ (0 : Int))) && (decide (a1 < (63 : Int)))) = false), (((decide (a1 ≥ (0 : Int))) && (decide (a1 < (63 : Int)))) = false)] (by kernel_rfl) (allP2 h1 (allP2 h1 (allP2 h1 (allP2 h1 (allP2 h1 (allP2 h1 (allP1 h1))))))) ?_
  refine wfL [(4, aB false)] (by kernel_rfl) ?_
  refine seqQ_norm ?_
  obtain rfl := Option.some.inj h
  refine wtL [(4, aB false)] (by kernel_rfl) ?_
  exact retM (by kernel_rfl)

def ref_Gates_g5 (a1 : Int) (i202 : Int) (x203 : (List Bool)) (v205 : (Int × (Int × Int))) : Option (List Bool) :=
bif v205.1 == (1 : Int) then
((ref_Bit a1 v205.2.1).bind fun r269 =>
(idx x203 i202).bind fun v271 =>
some (List.set x203 (Int.toNat i202) r269))
else
(bif v205.1 == (2 : Int) then
((idx x203 v205.2.1).bind fun v274 =>
(idx x203 i202).bind fun v276 =>
some (List.set x203 (Int.toNat i202) (!v274)))
else
(bif v205.1 == (3 : Int) then
((idx x203 v205.2.1).bind fun v279 =>
bif v279 then
((idx x203 v205.2.2).bind fun v282 =>
(idx x203 i202).bind fun v284 =>
some (List.set x203 (Int.toNat i202) v282))
else
((idx x203 i202).bind fun v286 =>
some (List.set x203 (Int.toNat i202) false)))
else
(bif v205.1 == (4 : Int) then
((idx x203 v205.2.1).bind fun v289 =>
bif v289 then
((idx x203 i202).bind fun v292 =>
some (List.set x203 (Int.toNat i202) true))
else
((idx x203 v205.2.2).bind fun v294 =>
(idx x203 i202).bind fun v296 =>
some (List.set x203 (Int.toNat i202) v294)))
else
(some x203))))
@[reducible] def ref_Gates_s6 (a0 : (List (Int × (Int × Int)))) (a1 : Int) (i202 : Int) (v : (List Bool)) : Fr × LL := ([(1, aI a1), (5, .one (.slc 10)), (11, aD (.slice t3) a0), (12, aI (List.length a0 : Int)), (13, aI i202)], [(10, .seq .bool v)])
def ref_Gates_b7 (a1 : Int) (i202 : Int) (v205 : (Int × (Int × Int))) (x203 : (List Bool)) : Option (Flow (List Bool) (List Bool)) :=
(ref_Gates_g5 a1 i202 x203 v205).bind fun v298 =>
some (.next v298)
@[reducible] def ref_Gates_s8 (a0 : (List (Int × (Int × Int)))) (a1 : Int) (v : Int × (List Bool)) : Fr × LL := ([(1, aI a1), (5, .one (.slc 10)), (11, aD (.slice t3) a0), (12, aI (List.length a0 : Int)), (13, aI v.1)], [(10, .seq .bool v.2)])
@[reducible] def ref_Gates_s9 (v : (List Bool)) : Fr × LL := ([(5, .one (.slc 10))], [(10, .seq .bool v)])
def ref_Gates (a0 : (List (Int × (Int × Int)))) (a1 : Int) : Option (List Bool) :=
(ck (0 ≤ (List.length a0 : Int) ∧ (List.length a0 : Int) = (List.length a0 : Int) ∧ (List.length a0 : Int) ≤ 4294967296)).bind fun _ =>
(forL (ref_Gates_b7 a1) (fun x203 => x203) a0 0 (List.replicate (Int.toNat (List.length a0 : Int)) false)).bind fun v301 =>
some v301
theorem ref_Gates_ok {a0 : (List (Int × (Int × Int)))} {a1 : Int} {r : (List Bool)} (h : ref_Gates a0 a1 = some r) : FnC Try.prog 48 [aD (.slice t3) a0, aI a1] [] (aD (.slice .bool) r) [] := by
 refine fnC_of_W (B := bodyOf Try.f48) (n := 76) Try.func48 (by kernel_rfl) (by kernel_rfl) (by kernel_rfl) (by kernel_rfl) (by kernel_rfl) ?_
 intro K
 refine sr [(0, aD (.slice t3) a0), (1, aI a1)] [] (by kernel_rfl) ?_
 refine W_seq (by kernel_rfl) ?_
 obtain ⟨_, h1, h⟩ := bind_of h
 replace h1 := ck_some h1
 refine W_run 4 [] [0, 1, 5] [10] (fr' := [(0, aD (.slice t3) a0), (1, aI a1), (5, .one (.slc 10))]) (L' := [(10, .seq .bool (List.replicate (Int.toNat (List.length a0 : Int)) false))]) (obs := [0 ≤ (List.length a0 : Int) ∧ (List.length a0 : Int) = (List.length a0 : Int) ∧ SmallLen (List.length a0 : Int)]) (by kernel_rfl) (by kernel_rfl) (by kernel_rfl) (allP1 h1) ?_
 refine seqQ_norm ?_
 refine W_seq (by kernel_rfl) ?_
 refine srL [(1, aI a1), (5, .one (.slc 10)), (11, aD (.slice t3) a0), (12, aI (List.length a0 : Int)), (13, aI (0 : Int))] (by kernel_rfl) ?_
 refine W_block (id := 0) (by kernel_rfl) ?_
 obtain ⟨v301, h302, h⟩ := bind_of h
 refine W_len (t := 11) (u := t3) (xs := a0) (by kernel_rfl) (fun h305 => ?_)
 obtain ⟨h303, h304⟩ := forL_iter h305 h302
 refine W_weaken [1, 5, 11, 12, 13] [10] (fr' := ((ref_Gates_s8 a0 a1) ((0 : Int), List.replicate (Int.toNat (List.length a0 : Int)) false)).1) (L' := ((ref_Gates_s8 a0 a1) ((0 : Int), List.replicate (Int.toNat (List.length a0 : Int)) false)).2) (by kernel_rfl) ?_
 refine W_cutK (W_loop (S := (ref_Gates_s8 a0 a1)) (J := (exQ (.exit 0) ref_Gates_s9)) (by kernel_rfl) ?_ h303 _ v301 h304) ?_
 ·rintro ⟨i202, x203⟩ s h
  refine sr [(1, aI a1), (5, .one (.slc 10)), (11, aD (.slice t3) a0), (12, aI (List.length a0 : Int)), (13, aI i202), (14, aB (decide (i202 < (List.length a0 : Int))))] [(10, .seq .bool x203)] (by kernel_rfl) ?_
  refine W_seq (by kernel_rfl) ?_
  refine W_cond (o := .tmp 14) (b := decide (i202 < (List.length a0 : Int))) (by kernel_rfl) (by kernel_rfl) (fun h207 => ?_) (fun h207 => ?_)
  ·replace h := stepL_true h207 h
   obtain ⟨v205, _, h206, h, rfl⟩ := h
   refine wkL [(1, aI a1), (5, .one (.slc 10)), (11, aD (.slice t3) a0), (12, aI (List.length a0 : Int)), (13, aI i202)] (by kernel_rfl) ?_
   refine seqQ_norm ?_
   refine W_seq (by kernel_rfl) ?_
   obtain ⟨v298, h299, h⟩ := bind_of h
   refine W_cutK (Q' := (exQ .normal (ref_Gates_s6 a0 a1 i202)) v298) ?_ ?_
   ·replace h := h299
    refine W_block (id := 1) (by kernel_rfl) ?_
    refine sro [(3, .val (.dat t3 v205)), (7, .typed)] [(1, aI a1), (5, .one (.slc 10)), (6, aI i202), (7, .one (.ptr 7 0)), (11, aD (.slice t3) a0), (12, aI (List.length a0 : Int)), (13, aI i202)] [(10, .seq .bool x203), (7, .one t3 v205)] [Idx a0 i202 v205, True] (by kernel_rfl) (allP2 (Idx.of h206) (allP1 trivial)) ?_
    refine srL [(1, aI a1), (5, .one (.slc 10)), (6, aI i202), (7, .one (.ptr 7 0)), (11, aD (.slice t3) a0), (12, aI (List.length a0 : Int)), (13, aI i202), (19, aI v205.1)] (by kernel_rfl) ?_
    refine W_block (id := 2) (by kernel_rfl) ?_
    refine srL [(1, aI a1), (5, .one (.slc 10)), (6, aI i202), (7, .one (.ptr 7 0)), (11, aD (.slice t3) a0), (12, aI (List.length a0 : Int)), (13, aI i202), (19, aI v205.1), (20, aB (v205.1 == (1 : Int)))] (by kernel_rfl) ?_
    refine W_cond (o := .tmp 20) (b := v205.1 == (1 : Int)) (by kernel_rfl) (by kernel_rfl) (fun h268 => ?_) (fun h268 => ?_)
    ·replace h := ofT h268 h
     refine W_region (by kernel_rfl) ?_
     refine wo 5 [(1, aI a1), (5, .one (.slc 10)), (11, aD (.slice t3) a0), (12, aI (List.length a0 : Int)), (13, aI i202), (22, .one (.slc 10)), (23, aI i202), (24, aI a1), (26, aI v205.2.1)] [(7, .one t3 v205), (10, .seq .bool x203)] (by kernel_rfl) ?_
     obtain ⟨r269, h270, h⟩ := bind_of h
     refine WO_call0 (us := [none, none]) (d := 27) (p := True) (j := 6) rfl ⟨by kernel_rfl, by kernel_rfl, by kernel_rfl⟩ trivial (ref_Bit_ok h270) (by kernel_rfl) ?_
     obtain ⟨v271, h272, h⟩ := bind_of h
     refine woo 8 [] [(1, aI a1), (5, .one (.slc 10)), (11, aD (.slice t3) a0), (12, aI (List.length a0 : Int)), (13, aI i202)] [(7, .one t3 v205), (10, .seq .bool (List.set x203 (Int.toNat i202) r269))] [InR i202 (List.length x203), InR i202 (List.length x203)] (by kernel_rfl) (allP2 (InR.of h272) (allP1 (InR.of h272))) ?_
     obtain rfl := Option.some.inj h
     refine wf [(1, aI a1), (5, .one (.slc 10)), (11, aD (.slice t3) a0), (12, aI (List.length a0 : Int)), (13, aI i202)] [(10, .seq .bool (List.set x203 (Int.toNat i202) r269))] (by kernel_rfl) ?_
     refine blockQ_norm ?_
     refine blockQ_norm ?_
     exact exM (by kernel_rfl)
    ·replace h := ofF h268 h
     refine srL [(1, aI a1), (5, .one (.slc 10)), (6, aI i202), (7, .one (.ptr 7 0)), (11, aD (.slice t3) a0), (12, aI (List.length a0 : Int)), (13, aI i202), (19, aI v205.1), (29, aB (v205.1 == (2 : Int)))] (by kernel_rfl) ?_
     refine W_cond (o := .tmp 29) (b := v205.1 == (2 : Int)) (by kernel_rfl) (by kernel_rfl) (fun h273 => ?_) (fun h273 => ?_)
     ·replace h := ofT h273 h
      obtain ⟨v274, h275, h⟩ := bind_of h
      obtain ⟨v276, h277, h⟩ := bind_of h
      obtain rfl := Option.some.inj h
      refine W_run 10 [(13, .val (.dat .bool v274))] [1, 5, 11, 12, 13] [10] (fr' := [(1, aI a1), (5, .one (.slc 10)), (11, aD (.slice t3) a0), (12, aI (List.length a0 : Int)), (13, aI i202)]) (L' := [(10, .seq .bool (List.set x203 (Int.toNat i202) (!v274)))]) (obs := [InR v205.2.1 (List.length x203), Idx x203 v205.2.1 v274, InR i202 (List.length x203), InR i202 (List.length x203)]) (by kernel_rfl) (by kernel_rfl) (by kernel_rfl) (allP2 (InR.of h275) (allP2 (Idx.of h275) (allP2 (InR.of h277) (allP1 (InR.of h277))))) ?_
      refine blockQ_norm ?_
      refine blockQ_norm ?_
      exact exM (by kernel_rfl)
     ·replace h := ofF h273 h
      refine srL [(1, aI a1), (5, .one (.slc 10)), (6, aI i202), (7, .one (.ptr 7 0)), (11, aD (.slice t3) a0), (12, aI (List.length a0 : Int)), (13, aI i202), (19, aI v205.1), (40, aB (v205.1 == (3 : Int)))] (by kernel_rfl) ?_
      refine W_cond (o := .tmp 40) (b := v205.1 == (3 : Int)) (by kernel_rfl) (by kernel_rfl) (fun h278 => ?_) (fun h278 => ?_)
      ·replace h := ofT h278 h
       obtain ⟨v279, h280, h⟩ := bind_of h
       refine W_region (by kernel_rfl) ?_
       refine woo 8 [(13, .val (.dat .bool v279))] [(1, aI a1), (5, .one (.slc 10)), (7, .one (.ptr 7 0)), (11, aD (.slice t3) a0), (12, aI (List.length a0 : Int)), (13, aI i202), (42, .one (.slc 10)), (43, aI i202), (49, aB v279)] [(7, .one t3 v205), (10, .seq .bool x203)] [InR v205.2.1 (List.length x203), Idx x203 v205.2.1 v279] (by kernel_rfl) (allP2 (InR.of h280) (allP1 (Idx.of h280))) ?_
       rcases Bool.eq_false_or_eq_true (v279) with h281 | h281
       ·replace h := ofT h281 h
        obtain ⟨v282, h283, h⟩ := bind_of h
        obtain ⟨v284, h285, h⟩ := bind_of h
        refine woo 16 [(16, .known true), (18, .known true), (20, .known true), (22, .known true), (24, .known true), (25, .val (.dat .bool v282)), (27, .val (.dat .bool true))] [(1, aI a1), (5, .one (.slc 10)), (11, aD (.slice t3) a0), (12, aI (List.length a0 : Int)), (13, aI i202)] [(7, .one t3 v205), (10, .seq .bool (List.set x203 (Int.toNat i202) v282))] [(v279 = true), (v279 = true), (v279 = true), (v279 = true), InR v205.2.2 (List.length x203), (v279 = true), Idx x203 v205.2.2 v282, (v279 = true), InR i202 (List.length x203), InR i202 (List.length x203)] (by kernel_rfl) (allP2 h281 (allP2 h281 (allP2 h281 (allP2 h281 (allP2 (InR.of h283) (allP2 h281 (allP2 (Idx.of h283) (allP2 h281 (allP2 (InR.of h285) (allP1 (InR.of h285))))))))))) ?_
        obtain rfl := Option.some.inj h
        refine wf [(1, aI a1), (5, .one (.slc 10)), (11, aD (.slice t3) a0), (12, aI (List.length a0 : Int)), (13, aI i202)] [(10, .seq .bool (List.set x203 (Int.toNat i202) v282))] (by kernel_rfl) ?_
        refine blockQ_norm ?_
        refine blockQ_norm ?_
        exact exM (by kernel_rfl)
       ·replace h := ofF h281 h
        obtain ⟨v286, h287, h⟩ := bind_of h
        refine woo 16 [(16, .known false), (18, .known false), (20, .known false), (22, .known false), (24, .known false), (27, .val (.dat .bool false))] [(1, aI a1), (5, .one (.slc 10)), (11, aD (.slice t3) a0), (12, aI (List.length a0 : Int)), (13, aI i202)] [(7, .one t3 v205), (10, .seq .bool (List.set x203 (Int.toNat i202) false))] [(v279 = false), (v279 = false), (v279 = false), (v279 = false), (v279 = false), (v279 = false), InR i202 (List.length x203), InR i202 (List.length x203)] (by kernel_rfl) (allP2 h281 (allP2 h281 (allP2 h281 (allP2 h281 (allP2 h281 (allP2 h281 (allP2 (InR.of h287) (allP1 (InR.of h287))))))))) ?_
        obtain rfl := Option.some.inj h
        refine wf [(1, aI a1), (5, .one (.slc 10)), (11, aD (.slice t3) a0), (12, aI (List.length a0 : Int)), (13, aI i202)] [(10, .seq .bool (List.set x203 (Int.toNat i202) false))] (by kernel_rfl) ?_
        refine blockQ_norm ?_
        refine blockQ_norm ?_
        exact exM (by kernel_rfl)
      ·replace h := ofF h278 h
       refine srL [(1, aI a1), (5, .one (.slc 10)), (6, aI i202), (7, .one (.ptr 7 0)), (11, aD (.slice t3) a0), (12, aI (List.length a0 : Int)), (13, aI i202), (57, aB (v205.1 == (4 : Int)))] (by kernel_rfl) ?_
       refine W_cond (o := .tmp 57) (b := v205.1 == (4 : Int)) (by kernel_rfl) (by kernel_rfl) (fun h288 => ?_) (fun h288 => ?_)
       ·replace h := ofT h288 h
        obtain ⟨v289, h290, h⟩ := bind_of h
        refine W_region (by kernel_rfl) ?_
        refine woo 8 [(13, .val (.dat .bool v289))] [(1, aI a1), (5, .one (.slc 10)), (7, .one (.ptr 7 0)), (11, aD (.slice t3) a0), (12, aI (List.length a0 : Int)), (13, aI i202), (59, .one (.slc 10)), (60, aI i202), (66, aB v289)] [(7, .one t3 v205), (10, .seq .bool x203)] [InR v205.2.1 (List.length x203), Idx x203 v205.2.1 v289] (by kernel_rfl) (allP2 (InR.of h290) (allP1 (Idx.of h290))) ?_
        rcases Bool.eq_false_or_eq_true (v289) with h291 | h291
        ·replace h := ofT h291 h
         obtain ⟨v292, h293, h⟩ := bind_of h
         refine woo 16 [(16, .known true), (18, .known true), (20, .known true), (22, .known true), (24, .known true), (27, .val (.dat .bool true))] [(1, aI a1), (5, .one (.slc 10)), (11, aD (.slice t3) a0), (12, aI (List.length a0 : Int)), (13, aI i202)] [(7, .one t3 v205), (10, .seq .bool (List.set x203 (Int.toNat i202) true))] [(v289 = true), (v289 = true), (v289 = true), (v289 = true), (v289 = true), (v289 = true), InR i202 (List.length x203), InR i202 (List.length x203)] (by kernel_rfl) (allP2 h291 (allP2 h291 (allP2 h291 (allP2 h291 (allP2 h291 (allP2 h291 (allP2 (InR.of h293) (allP1 (InR.of h293))))))))) ?_
         obtain rfl := Option.some.inj h
         refine wf [(1, aI a1), (5, .one (.slc 10)), (11, aD (.slice t3) a0), (12, aI (List.length a0 : Int)), (13, aI i202)] [(10, .seq .bool (List.set x203 (Int.toNat i202) true))] (by kernel_rfl) ?_
         refine blockQ_norm ?_
         refine blockQ_norm ?_
         exact exM (by kernel_rfl)
        ·replace h := ofF h291 h
         obtain ⟨v294, h295, h⟩ := bind_of h
         obtain ⟨v296, h297, h⟩ := bind_of h
         refine woo 16 [(16, .known false), (18, .known false), (20, .known false), (22, .known false), (24, .known false), (25, .val (.dat .bool v294)), (27, .val (.dat .bool false))] [(1, aI a1), (5, .one (.slc 10)), (11, aD (.slice t3) a0), (12, aI (List.length a0 : Int)), (13, aI i202)] [(7, .one t3 v205), (10, .seq .bool (List.set x203 (Int.toNat i202) v294))] [(v289 = false), (v289 = false), (v289 = false), (v289 = false), InR v205.2.2 (List.length x203), (v289 = false), Idx x203 v205.2.2 v294, (v289 = false), InR i202 (List.length x203), InR i202 (List.length x203)] (by kernel_rfl) (allP2 h291 (allP2 h291 (allP2 h291 (allP2 h291 (allP2 (InR.of h295) (allP2 h291 (allP2 (Idx.of h295) (allP2 h291 (allP2 (InR.of h297) (allP1 (InR.of h297))))))))))) ?_
         obtain rfl := Option.some.inj h
         refine wf [(1, aI a1), (5, .one (.slc 10)), (11, aD (.slice t3) a0), (12, aI (List.length a0 : Int)), (13, aI i202)] [(10, .seq .bool (List.set x203 (Int.toNat i202) v294))] (by kernel_rfl) ?_
         refine blockQ_norm ?_
         refine blockQ_norm ?_
         exact exM (by kernel_rfl)
       ·replace h := ofF h288 h
        obtain rfl := Option.some.inj h
        refine wk [(1, aI a1), (5, .one (.slc 10)), (11, aD (.slice t3) a0), (12, aI (List.length a0 : Int)), (13, aI i202)] [(10, .seq .bool x203)] (by kernel_rfl) ?_
        refine blockQ_norm ?_
        refine blockQ_norm ?_
        exact exM (by kernel_rfl)
   ·intro e fr L hJ
    obtain ⟨rfl, rfl, rfl⟩ := hJ
    refine ltk [(1, aI a1), (5, .one (.slc 10)), (11, aD (.slice t3) a0), (12, aI (List.length a0 : Int)), (13, aI i202)] [(10, .seq .bool v298)] (by kernel_rfl) ?_
    refine seqQ_norm ?_
    obtain rfl := Option.some.inj h
    refine swL [(1, aI a1), (5, .one (.slc 10)), (11, aD (.slice t3) a0), (12, aI (List.length a0 : Int)), (13, aI (w64 (i202 + (1 : Int))))] (by kernel_rfl) ?_
    exact round_next' (by kernel_rfl) (by kernel_rfl)
  ·obtain rfl := stepL_false h207 h
   refine wxL 0 [(5, .one (.slc 10))] (by kernel_rfl) ?_
   refine seqQ_exit ?_
   refine round_exit ?_
   exact exM (by kernel_rfl)
 ·intro e fr L hJ
  obtain ⟨rfl, rfl, rfl⟩ := hJ
  refine ltk [(5, .one (.slc 10))] [(10, .seq .bool v301)] (by kernel_rfl) ?_
  refine blockQ_hit ?_
  refine seqQ_norm ?_
  refine sr [(4, .one (.slc 10))] [(10, .seq .bool v301)] (by kernel_rfl) ?_
  obtain rfl := Option.some.inj h
  refine W_frz 10 (by kernel_rfl) ?_
  refine wt [(4, aD (.slice .bool) v301)] [] (by kernel_rfl) ?_
  exact retM (by kernel_rfl)

@[reducible] def ref_Asked_s18 (a0 : (Int × (Int × (List (List (Int × (Int × Int))))))) (a1 : Int) (a2 : Int) (x58 : (Int × Int × Int × Int)) (v158 : Int) (v162 : (Int × (Int × Int))) (v : Int) : Fr × LL := ([(1, aI a1), (2, aI a2), (3, aI (w64 ((w64 (x58.1 - (bShl .i64 v158 (IntKind.wrap .u64 (x58.2.1))))) + (bShl .i64 v162.1 (IntKind.wrap .u64 (x58.2.1)))))), (4, .one (.ptr 4 0)), (9, aI v), (11, aI x58.2.2.2), (13, .one (.ptr 13 0))], [(4, .one tM a0), (13, .one t3 v162)])
@[reducible] def ref_Asked_s19 (a0 : (Int × (Int × (List (List (Int × (Int × Int))))))) (a1 : Int) (a2 : Int) (x58 : (Int × Int × Int × Int)) (v158 : Int) (v162 : (Int × (Int × Int))) (v : Int) : Fr × LL := ([(1, aI a1), (2, aI a2), (3, aI (w64 ((w64 (x58.1 - (bShl .i64 v158 (IntKind.wrap .u64 (x58.2.1))))) + (bShl .i64 v162.1 (IntKind.wrap .u64 (x58.2.1)))))), (4, .one (.ptr 4 0)), (9, aI v), (11, aI x58.2.2.2), (13, .one (.ptr 13 0))], [(4, .one tM a0), (13, .one t3 v162)])
@[reducible] def ref_Asked_s20 (a0 : (Int × (Int × (List (List (Int × (Int × Int))))))) (a1 : Int) (a2 : Int) (x58 : (Int × Int × Int × Int)) (v : Int) : Fr × LL := ([(1, aI a1), (2, aI a2), (3, aI x58.1), (4, .one (.ptr 4 0)), (9, aI x58.2.1), (10, aI x58.2.2.1), (11, aI x58.2.2.2), (12, aI v)], [(4, .one tM a0)])
@[reducible] def ref_Asked_s21 (a0 : (Int × (Int × (List (List (Int × (Int × Int))))))) (a1 : Int) (a2 : Int) (x58 : (Int × Int × Int × Int)) (v : Bool) : Fr × LL := ([(1, aI a1), (2, aI a2), (3, aI x58.1), (4, .one (.ptr 4 0)), (9, aI x58.2.1), (10, aI x58.2.2.1), (11, aI x58.2.2.2), (22, aB v)], [(4, .one tM a0)])
def ref_Asked_b22 (a0 : (Int × (Int × (List (List (Int × (Int × Int))))))) (a1 : Int) (a2 : Int) (x58 : (Int × Int × Int × Int)) : Option (Flow (Int × Int × Int × Int) (Int × Int × Int)) :=
(bif decide (x58.2.2.2 < a2) then
(some (decide (x58.2.2.1 < a0.1)))
else
(some false)).bind fun v120 =>
bif v120 then
(((ref_Bit x58.1 x58.2.1).bind fun r155 =>
bif r155 then
(some (1 : Int))
else
(some (0 : Int))).bind fun v158 =>
(idx a0.2.2 x58.2.2.1).bind fun v160 =>
(idx v160 v158).bind fun v162 =>
(ck (0 ≤ IntKind.wrap .u64 (x58.2.1))).bind fun _ =>
(bif decide ((w64 (x58.2.1 + v162.2.1)) < (0 : Int)) then
(some (0 : Int))
else
(some (w64 (x58.2.1 + v162.2.1)))).bind fun v168 =>
(bif decide (v168 ≥ a1) then
(some (w64 (a1 - (1 : Int))))
else
(some v168)).bind fun v173 =>
some (.next (w64 ((w64 (x58.1 - (bShl .i64 v158 (IntKind.wrap .u64 (x58.2.1))))) + (bShl .i64 v162.1 (IntKind.wrap .u64 (x58.2.1)))), v173, v162.2.2, w64 (x58.2.2.2 + (1 : Int)))))
else
(some (.done (x58.1, x58.2.1, x58.2.2.1)))
@[reducible] def ref_Asked_s23 (a0 : (Int × (Int × (List (List (Int × (Int × Int))))))) (a1 : Int) (a2 : Int) (v : (Int × Int × Int × Int)) : Fr × LL := ([(1, aI a1), (2, aI a2), (3, aI v.1), (4, .one (.ptr 4 0)), (9, aI v.2.1), (10, aI v.2.2.1), (11, aI v.2.2.2)], [(4, .one tM a0)])
@[reducible] def ref_Asked_s24 (a0 : (Int × (Int × (List (List (Int × (Int × Int))))))) (v : (Int × Int × Int)) : Fr × LL := ([(3, aI v.1), (4, .one (.ptr 4 0)), (9, aI v.2.1), (10, aI v.2.2)], [(4, .one tM a0)])
@[reducible] def ref_Asked_s25 (v : Bool) : Fr × LL := ([(8, aB v)], [])
def ref_Asked (fuel : Nat) (a0 : (Int × (Int × (List (List (Int × (Int × Int))))))) (a1 : Int) (a2 : Int) (a3 : Int) : Option Bool :=
(iter (ref_Asked_b22 a0 a1 a2) fuel (a3, (0 : Int), (0 : Int), (0 : Int))).bind fun v175 =>
(bif v175.2.2 == a0.1 then
((ref_Bit v175.1 v175.2.1).bind fun r186 =>
some r186)
else
(some false)).bind fun v188 =>
some v188
theorem ref_Asked_ok {fuel : Nat} {a0 : (Int × (Int × (List (List (Int × (Int × Int))))))} {a1 : Int} {a2 : Int} {a3 : Int} {r : Bool} (h : ref_Asked fuel a0 a1 a2 a3 = some r) : FnC Try.prog 49 [aD tM a0, aI a1, aI a2, aI a3] [] (aB r) [] := by
 refine fnC_of_W (B := bodyOf Try.f49) (n := 70) Try.func49 (by kernel_rfl) (by kernel_rfl) (by kernel_rfl) (by kernel_rfl) (by kernel_rfl) ?_
 intro K
 refine sr [(1, aI a1), (2, aI a2), (3, aI a3), (4, .one (.ptr 4 0))] [(4, .one tM a0)] (by kernel_rfl) ?_
 refine srL [(1, aI a1), (2, aI a2), (3, aI a3), (4, .one (.ptr 4 0)), (9, aI (0 : Int))] (by kernel_rfl) ?_
 refine srL [(1, aI a1), (2, aI a2), (3, aI a3), (4, .one (.ptr 4 0)), (9, aI (0 : Int)), (10, aI (0 : Int))] (by kernel_rfl) ?_
 refine W_seq (by kernel_rfl) ?_
 refine srL [(1, aI a1), (2, aI a2), (3, aI a3), (4, .one (.ptr 4 0)), (9, aI (0 : Int)), (10, aI (0 : Int)), (11, aI (0 : Int))] (by kernel_rfl) ?_
 refine W_block (id := 0) (by kernel_rfl) ?_
 obtain ⟨v175, h176, h⟩ := bind_of h
 refine W_weaken [1, 2, 3, 4, 9, 10, 11] [4] (fr' := ((ref_Asked_s23 a0 a1 a2) (a3, (0 : Int), (0 : Int), (0 : Int))).1) (L' := ((ref_Asked_s23 a0 a1 a2) (a3, (0 : Int), (0 : Int), (0 : Int))).2) (by kernel_rfl) ?_
 refine W_cutK (W_loop (S := (ref_Asked_s23 a0 a1 a2)) (J := (exQ (.exit 0) (ref_Asked_s24 a0))) (by kernel_rfl) ?_ fuel _ v175 h176) ?_
 ·rintro x58 s h
  refine W_seq (by kernel_rfl) ?_
  refine W_seq (by kernel_rfl) ?_
  obtain ⟨v120, h121, h⟩ := bind_of h
  refine W_cutK (Q' := (exQ .normal (ref_Asked_s21 a0 a1 a2 x58)) v120) ?_ ?_
  ·replace h := h121
   refine W_region (by kernel_rfl) ?_
   refine wo 4 [(1, aI a1), (2, aI a2), (3, aI x58.1), (4, .one (.ptr 4 0)), (9, aI x58.2.1), (10, aI x58.2.2.1), (11, aI x58.2.2.2), (17, aB (decide (x58.2.2.2 < a2)))] [(4, .one tM a0)] (by kernel_rfl) ?_
   rcases Bool.eq_false_or_eq_true (decide (x58.2.2.2 < a2)) with h119 | h119
   ·replace h := ofT h119 h
    refine woo 9 [(8, .known true), (10, .known true), (12, .known true), (14, .known true), (17, .val (.dat .bool true))] [(1, aI a1), (2, aI a2), (3, aI x58.1), (4, .one (.ptr 4 0)), (9, aI x58.2.1), (10, aI x58.2.2.1), (11, aI x58.2.2.2), (22, aB (decide (x58.2.2.1 < a0.1)))] [(4, .one tM a0)] [((decide (x58.2.2.2 < a2)) = true), ((decide (x58.2.2.2 < a2)) = true), ((decide (x58.2.2.2 < a2)) = true), ((decide (x58.2.2.2 < a2)) = true), ((decide (x58.2.2.2 < a2)) = true)] (by kernel_rfl) (allP2 h119 (allP2 h119 (allP2 h119 (allP2 h119 (allP1 h119))))) ?_
    obtain rfl := Option.some.inj h
    refine wfL [(1, aI a1), (2, aI a2), (3, aI x58.1), (4, .one (.ptr 4 0)), (9, aI x58.2.1), (10, aI x58.2.2.1), (11, aI x58.2.2.2), (22, aB (decide (x58.2.2.1 < a0.1)))] (by kernel_rfl) ?_
    exact exM (by kernel_rfl)
   ·replace h := ofF h119 h
    refine woo 9 [(8, .known false), (10, .known false), (12, .known false), (14, .known false), (17, .val (.dat .bool false))] [(1, aI a1), (2, aI a2), (3, aI x58.1), (4, .one (.ptr 4 0)), (9, aI x58.2.1), (10, aI x58.2.2.1), (11, aI x58.2.2.2), (22, aB false)] [(4, .one tM a0)] [((decide (x58.2.2.2 < a2)) = false), ((decide (x58.2.2.2 < a2)) = false), ((decide (x58.2.2.2 < a2)) = false), ((decide (x58.2.2.2 < a2)) = false), ((decide (x58.2.2.2 < a2)) = false)] (by kernel_rfl) (allP2 h119 (allP2 h119 (allP2 h119 (allP2 h119 (allP1 h119))))) ?_
    obtain rfl := Option.some.inj h
    refine wfL [(1, aI a1), (2, aI a2), (3, aI x58.1), (4, .one (.ptr 4 0)), (9, aI x58.2.1), (10, aI x58.2.2.1), (11, aI x58.2.2.2), (22, aB false)] (by kernel_rfl) ?_
    exact exM (by kernel_rfl)
  ·intro e fr L hJ
   obtain ⟨rfl, rfl, rfl⟩ := hJ
   refine ltk [(1, aI a1), (2, aI a2), (3, aI x58.1), (4, .one (.ptr 4 0)), (9, aI x58.2.1), (10, aI x58.2.2.1), (11, aI x58.2.2.2), (22, aB v120)] [(4, .one tM a0)] (by kernel_rfl) ?_
   refine seqQ_norm ?_
   refine W_cond (o := .tmp 22) (b := v120) (by kernel_rfl) (by kernel_rfl) (fun h122 => ?_) (fun h122 => ?_)
   ·replace h := ofT h122 h
    refine wkL [(1, aI a1), (2, aI a2), (3, aI x58.1), (4, .one (.ptr 4 0)), (9, aI x58.2.1), (10, aI x58.2.2.1), (11, aI x58.2.2.2)] (by kernel_rfl) ?_
    refine seqQ_norm ?_
    refine W_seq (by kernel_rfl) ?_
    refine W_block (id := 1) (by kernel_rfl) ?_
    refine srL [(1, aI a1), (2, aI a2), (3, aI x58.1), (4, .one (.ptr 4 0)), (9, aI x58.2.1), (10, aI x58.2.2.1), (11, aI x58.2.2.2), (12, aI (0 : Int))] (by kernel_rfl) ?_
    refine W_seq (by kernel_rfl) ?_
    obtain ⟨v158, h159, h⟩ := bind_of h
    refine W_cutK (Q' := (exQ .normal (ref_Asked_s20 a0 a1 a2 x58)) v158) ?_ ?_
    ·replace h := h159
     refine W_seq (by kernel_rfl) ?_
     refine W_region (by kernel_rfl) ?_
     refine wo 2 [(1, aI a1), (2, aI a2), (3, aI x58.1), (4, .one (.ptr 4 0)), (9, aI x58.2.1), (10, aI x58.2.2.1), (11, aI x58.2.2.2), (12, aI (0 : Int)), (25, aI x58.1), (26, aI x58.2.1)] [(4, .one tM a0)] (by kernel_rfl) ?_
     obtain ⟨r155, h156, h⟩ := bind_of h
     refine WO_call0 (us := [none, none]) (d := 27) (p := True) (j := 3) rfl ⟨by kernel_rfl, by kernel_rfl, by kernel_rfl⟩ trivial (ref_Bit_ok h156) (by kernel_rfl) ?_
     refine wf [(1, aI a1), (2, aI a2), (3, aI x58.1), (4, .one (.ptr 4 0)), (9, aI x58.2.1), (10, aI x58.2.2.1), (11, aI x58.2.2.2), (12, aI (0 : Int)), (27, aB r155)] [(4, .one tM a0)] (by kernel_rfl) ?_
     refine seqQ_norm ?_
     refine W_cond (o := .tmp 27) (b := r155) (by kernel_rfl) (by kernel_rfl) (fun h157 => ?_) (fun h157 => ?_)
     ·replace h := ofT h157 h
      obtain rfl := Option.some.inj h
      refine swL [(1, aI a1), (2, aI a2), (3, aI x58.1), (4, .one (.ptr 4 0)), (9, aI x58.2.1), (10, aI x58.2.2.1), (11, aI x58.2.2.2), (12, aI (1 : Int))] (by kernel_rfl) ?_
      exact exM (by kernel_rfl)
     ·replace h := ofF h157 h
      obtain rfl := Option.some.inj h
      refine wkL [(1, aI a1), (2, aI a2), (3, aI x58.1), (4, .one (.ptr 4 0)), (9, aI x58.2.1), (10, aI x58.2.2.1), (11, aI x58.2.2.2), (12, aI (0 : Int))] (by kernel_rfl) ?_
      exact exM (by kernel_rfl)
    ·intro e fr L hJ
     obtain ⟨rfl, rfl, rfl⟩ := hJ
     refine ltk [(1, aI a1), (2, aI a2), (3, aI x58.1), (4, .one (.ptr 4 0)), (9, aI x58.2.1), (10, aI x58.2.2.1), (11, aI x58.2.2.2), (12, aI v158)] [(4, .one tM a0)] (by kernel_rfl) ?_
     refine seqQ_norm ?_
     refine W_seq (by kernel_rfl) ?_
     obtain ⟨v160, h161, h⟩ := bind_of h
     obtain ⟨v162, h163, h⟩ := bind_of h
     refine W_run 10 [(7, .val (.dat (.slice t3) v160)), (13, .val (.dat t3 v162)), (17, .typed)] [1, 2, 3, 4, 9, 11, 12, 13] [4, 13] (fr' := [(1, aI a1), (2, aI a2), (3, aI x58.1), (4, .one (.ptr 4 0)), (9, aI x58.2.1), (11, aI x58.2.2.2), (12, aI v158), (13, .one (.ptr 13 0))]) (L' := [(4, .one tM a0), (13, .one t3 v162)]) (obs := [Idx a0.2.2 x58.2.2.1 v160, Idx v160 v158 v162, True]) (by kernel_rfl) (by kernel_rfl) (by kernel_rfl) (allP2 (Idx.of h161) (allP2 (Idx.of h163) (allP1 trivial))) ?_
     refine seqQ_norm ?_
     refine W_seq (by kernel_rfl) ?_
     obtain ⟨_, h164, h⟩ := bind_of h
     replace h164 := ck_some h164
     refine W_run 13 [] [1, 2, 3, 4, 9, 11, 13] [4, 13] (fr' := [(1, aI a1), (2, aI a2), (3, aI (w64 ((w64 (x58.1 - (bShl .i64 v158 (IntKind.wrap .u64 (x58.2.1))))) + (bShl .i64 v162.1 (IntKind.wrap .u64 (x58.2.1)))))), (4, .one (.ptr 4 0)), (9, aI x58.2.1), (11, aI x58.2.2.2), (13, .one (.ptr 13 0))]) (L' := [(4, .one tM a0), (13, .one t3 v162)]) (obs := [(0 ≤ IntKind.wrap .u64 (x58.2.1)), (0 ≤ IntKind.wrap .u64 (x58.2.1))]) (by kernel_rfl) (by kernel_rfl) (by kernel_rfl) (allP2 h164 (allP1 h164)) ?_
     refine seqQ_norm ?_
     refine srL [(1, aI a1), (2, aI a2), (3, aI (w64 ((w64 (x58.1 - (bShl .i64 v158 (IntKind.wrap .u64 (x58.2.1))))) + (bShl .i64 v162.1 (IntKind.wrap .u64 (x58.2.1)))))), (4, .one (.ptr 4 0)), (9, aI (w64 (x58.2.1 + v162.2.1))), (11, aI x58.2.2.2), (13, .one (.ptr 13 0))] (by kernel_rfl) ?_
     refine W_seq (by kernel_rfl) ?_
     obtain ⟨v168, h169, h⟩ := bind_of h
     refine W_cutK (Q' := (exQ .normal (ref_Asked_s19 a0 a1 a2 x58 v158 v162)) v168) ?_ ?_
     ·replace h := h169
      refine sr [(1, aI a1), (2, aI a2), (3, aI (w64 ((w64 (x58.1 - (bShl .i64 v158 (IntKind.wrap .u64 (x58.2.1))))) + (bShl .i64 v162.1 (IntKind.wrap .u64 (x58.2.1)))))), (4, .one (.ptr 4 0)), (9, aI (w64 (x58.2.1 + v162.2.1))), (11, aI x58.2.2.2), (13, .one (.ptr 13 0)), (53, aB (decide ((w64 (x58.2.1 + v162.2.1)) < (0 : Int))))] [(4, .one tM a0), (13, .one t3 v162)] (by kernel_rfl) ?_
      refine W_cond (o := .tmp 53) (b := decide ((w64 (x58.2.1 + v162.2.1)) < (0 : Int))) (by kernel_rfl) (by kernel_rfl) (fun h167 => ?_) (fun h167 => ?_)
      ·replace h := ofT h167 h
       obtain rfl := Option.some.inj h
       refine swL [(1, aI a1), (2, aI a2), (3, aI (w64 ((w64 (x58.1 - (bShl .i64 v158 (IntKind.wrap .u64 (x58.2.1))))) + (bShl .i64 v162.1 (IntKind.wrap .u64 (x58.2.1)))))), (4, .one (.ptr 4 0)), (9, aI (0 : Int)), (11, aI x58.2.2.2), (13, .one (.ptr 13 0))] (by kernel_rfl) ?_
       exact exM (by kernel_rfl)
      ·replace h := ofF h167 h
       obtain rfl := Option.some.inj h
       refine wkL [(1, aI a1), (2, aI a2), (3, aI (w64 ((w64 (x58.1 - (bShl .i64 v158 (IntKind.wrap .u64 (x58.2.1))))) + (bShl .i64 v162.1 (IntKind.wrap .u64 (x58.2.1)))))), (4, .one (.ptr 4 0)), (9, aI (w64 (x58.2.1 + v162.2.1))), (11, aI x58.2.2.2), (13, .one (.ptr 13 0))] (by kernel_rfl) ?_
       exact exM (by kernel_rfl)
     ·intro e fr L hJ
      obtain ⟨rfl, rfl, rfl⟩ := hJ
      refine ltk [(1, aI a1), (2, aI a2), (3, aI (w64 ((w64 (x58.1 - (bShl .i64 v158 (IntKind.wrap .u64 (x58.2.1))))) + (bShl .i64 v162.1 (IntKind.wrap .u64 (x58.2.1)))))), (4, .one (.ptr 4 0)), (9, aI v168), (11, aI x58.2.2.2), (13, .one (.ptr 13 0))] [(4, .one tM a0), (13, .one t3 v162)] (by kernel_rfl) ?_
      refine seqQ_norm ?_
      refine W_seq (by kernel_rfl) ?_
      obtain ⟨v173, h174, h⟩ := bind_of h
      refine W_cutK (Q' := (exQ .normal (ref_Asked_s18 a0 a1 a2 x58 v158 v162)) v173) ?_ ?_
      ·replace h := h174
       refine sr [(1, aI a1), (2, aI a2), (3, aI (w64 ((w64 (x58.1 - (bShl .i64 v158 (IntKind.wrap .u64 (x58.2.1))))) + (bShl .i64 v162.1 (IntKind.wrap .u64 (x58.2.1)))))), (4, .one (.ptr 4 0)), (9, aI v168), (11, aI x58.2.2.2), (13, .one (.ptr 13 0)), (56, aB (decide (v168 ≥ a1)))] [(4, .one tM a0), (13, .one t3 v162)] (by kernel_rfl) ?_
       refine W_cond (o := .tmp 56) (b := decide (v168 ≥ a1)) (by kernel_rfl) (by kernel_rfl) (fun h172 => ?_) (fun h172 => ?_)
       ·replace h := ofT h172 h
        obtain rfl := Option.some.inj h
        refine swL [(1, aI a1), (2, aI a2), (3, aI (w64 ((w64 (x58.1 - (bShl .i64 v158 (IntKind.wrap .u64 (x58.2.1))))) + (bShl .i64 v162.1 (IntKind.wrap .u64 (x58.2.1)))))), (4, .one (.ptr 4 0)), (9, aI (w64 (a1 - (1 : Int)))), (11, aI x58.2.2.2), (13, .one (.ptr 13 0))] (by kernel_rfl) ?_
        exact exM (by kernel_rfl)
       ·replace h := ofF h172 h
        obtain rfl := Option.some.inj h
        refine wkL [(1, aI a1), (2, aI a2), (3, aI (w64 ((w64 (x58.1 - (bShl .i64 v158 (IntKind.wrap .u64 (x58.2.1))))) + (bShl .i64 v162.1 (IntKind.wrap .u64 (x58.2.1)))))), (4, .one (.ptr 4 0)), (9, aI v168), (11, aI x58.2.2.2), (13, .one (.ptr 13 0))] (by kernel_rfl) ?_
        exact exM (by kernel_rfl)
      ·intro e fr L hJ
       obtain ⟨rfl, rfl, rfl⟩ := hJ
       refine ltk [(1, aI a1), (2, aI a2), (3, aI (w64 ((w64 (x58.1 - (bShl .i64 v158 (IntKind.wrap .u64 (x58.2.1))))) + (bShl .i64 v162.1 (IntKind.wrap .u64 (x58.2.1)))))), (4, .one (.ptr 4 0)), (9, aI v173), (11, aI x58.2.2.2), (13, .one (.ptr 13 0))] [(4, .one tM a0), (13, .one t3 v162)] (by kernel_rfl) ?_
       refine seqQ_norm ?_
       refine sw [(1, aI a1), (2, aI a2), (3, aI (w64 ((w64 (x58.1 - (bShl .i64 v158 (IntKind.wrap .u64 (x58.2.1))))) + (bShl .i64 v162.1 (IntKind.wrap .u64 (x58.2.1)))))), (4, .one (.ptr 4 0)), (9, aI v173), (10, aI v162.2.2), (11, aI x58.2.2.2)] [(4, .one tM a0)] (by kernel_rfl) ?_
       refine blockQ_norm ?_
       refine seqQ_norm ?_
       obtain rfl := Option.some.inj h
       refine swL [(1, aI a1), (2, aI a2), (3, aI (w64 ((w64 (x58.1 - (bShl .i64 v158 (IntKind.wrap .u64 (x58.2.1))))) + (bShl .i64 v162.1 (IntKind.wrap .u64 (x58.2.1)))))), (4, .one (.ptr 4 0)), (9, aI v173), (10, aI v162.2.2), (11, aI (w64 (x58.2.2.2 + (1 : Int))))] (by kernel_rfl) ?_
       exact round_next' (by kernel_rfl) (by kernel_rfl)
   ·replace h := ofF h122 h
    obtain rfl := Option.some.inj h
    refine wxL 0 [(3, aI x58.1), (4, .one (.ptr 4 0)), (9, aI x58.2.1), (10, aI x58.2.2.1)] (by kernel_rfl) ?_
    refine seqQ_exit ?_
    refine round_exit ?_
    exact exM (by kernel_rfl)
 ·intro e fr L hJ
  obtain ⟨rfl, rfl, rfl⟩ := hJ
  refine ltk [(3, aI v175.1), (4, .one (.ptr 4 0)), (9, aI v175.2.1), (10, aI v175.2.2)] [(4, .one tM a0)] (by kernel_rfl) ?_
  refine blockQ_hit ?_
  refine seqQ_norm ?_
  refine W_seq (by kernel_rfl) ?_
  obtain ⟨v188, h189, h⟩ := bind_of h
  refine W_cutK (Q' := (exQ .normal ref_Asked_s25) v188) ?_ ?_
  ·replace h := h189
   refine W_region (by kernel_rfl) ?_
   refine wo 5 [(3, aI v175.1), (9, aI v175.2.1), (65, aB (v175.2.2 == a0.1))] [(4, .one tM a0)] (by kernel_rfl) ?_
   rcases Bool.eq_false_or_eq_true (v175.2.2 == a0.1) with h185 | h185
   ·replace h := ofT h185 h
    refine woo 7 [(10, .known true), (12, .known true)] [(65, aB (v175.2.2 == a0.1)), (66, aI v175.1), (67, aI v175.2.1)] [(4, .one tM a0)] [((v175.2.2 == a0.1) = true), ((v175.2.2 == a0.1) = true)] (by kernel_rfl) (allP2 h185 (allP1 h185)) ?_
    obtain ⟨r186, h187, h⟩ := bind_of h
    refine WO_call0 (us := [none, none]) (d := 68) (p := ((v175.2.2 == a0.1) = true)) (j := 8) rfl ⟨by kernel_rfl, by kernel_rfl, by kernel_rfl⟩ h185 (ref_Bit_ok h187) (by kernel_rfl) ?_
    refine woo 10 [(17, .val (.dat .bool true))] [(8, aB r186)] [(4, .one tM a0)] [((v175.2.2 == a0.1) = true)] (by kernel_rfl) (allP1 h185) ?_
    obtain rfl := Option.some.inj h
    refine wf [(8, aB r186)] [] (by kernel_rfl) ?_
    exact exM (by kernel_rfl)
   ·replace h := ofF h185 h
    refine woo 10 [(10, .known false), (12, .known false), (14, .known false), (17, .val (.dat .bool false))] [(8, aB false)] [(4, .one tM a0)] [((v175.2.2 == a0.1) = false), ((v175.2.2 == a0.1) = false), ((v175.2.2 == a0.1) = false), ((v175.2.2 == a0.1) = false)] (by kernel_rfl) (allP2 h185 (allP2 h185 (allP2 h185 (allP1 h185)))) ?_
    obtain rfl := Option.some.inj h
    refine wf [(8, aB false)] [] (by kernel_rfl) ?_
    exact exM (by kernel_rfl)
  ·intro e fr L hJ
   obtain ⟨rfl, rfl, rfl⟩ := hJ
   refine ltk [(8, aB v188)] [] (by kernel_rfl) ?_
   refine seqQ_norm ?_
   obtain rfl := Option.some.inj h
   refine wtL [(8, aB v188)] (by kernel_rfl) ?_
   exact retM (by kernel_rfl)

def law_UnrollBuilds_b1 (a0 : (Int × (Int × (List (List (Int × (Int × Int))))))) (a1 : Int) (a2 : Int) (fuel : Nat) (r1 : ((List (Int × (Int × Int))) × Int)) (x28 : Int) : Option (Flow Int (Esc Bool Unit)) :=
(ck (0 ≤ IntKind.wrap .u64 (a1))).bind fun _ =>
bif decide (x28 < (bShl .i64 (1 : Int) (IntKind.wrap .u64 (a1)))) then
((ref_Gates r1.1 x28).bind fun r40 =>
(idx r40 (w64 ((List.length r1.1 : Int) - (1 : Int)))).bind fun v42 =>
(ref_Asked fuel a0 a1 a2 x28).bind fun r44 =>
bif !(v42 == r44) then
(some (.done (.ret false)))
else
(some (.next (w64 (x28 + (1 : Int))))))
else
(some (.done (.brk ())))
@[reducible] def law_UnrollBuilds_s2 (a0 : (Int × (Int × (List (List (Int × (Int × Int))))))) (a1 : Int) (a2 : Int) (r1 : ((List (Int × (Int × Int))) × Int)) (v : Int) : Fr × LL := ([(1, aI a1), (2, aI a2), (3, .one (.ptr 3 0)), (7, aD (.slice t3) r1.1), (10, aI v)], [(3, .one tM a0)])
@[reducible] def law_UnrollBuilds_s3 (v : Bool) : Fr × LL := ([(6, aB v)], [])
@[reducible] def law_UnrollBuilds_s4 (v : Unit) : Fr × LL := ([], [])
@[reducible] def law_UnrollBuilds_s5 (a0 : (Int × (Int × (List (List (Int × (Int × Int))))))) (a1 : Int) (a2 : Int) (r1 : ((List (Int × (Int × Int))) × Int)) (v : Bool) : Fr × LL := ([(1, aI a1), (2, aI a2), (3, .one (.ptr 3 0)), (7, aD (.slice t3) r1.1), (44, aB v)], [(3, .one tM a0)])
def law_UnrollBuilds (fuel : Nat) (a0 : (Int × (Int × (List (List (Int × (Int × Int))))))) (a1 : Int) (a2 : Int) : Option Bool :=
(unroll_Build fuel a0 a1 a2).bind fun r1 =>
(ref_UnrollCheck a0 a1 a2).bind fun r3 =>
bif r3 != (0 : Int) then
(some ((r1.2 == r3) && ((List.length r1.1 : Int) == (0 : Int))))
else
((bif (r1.2 != (0 : Int)) || ((List.length r1.1 : Int) == (0 : Int)) then
(some true)
else
((ref_GatesCheck a1 r1.1).bind fun r13 =>
some (r13 != (0 : Int)))).bind fun v15 =>
bif v15 then
(some false)
else
((iter (law_UnrollBuilds_b1 a0 a1 a2 fuel r1) fuel (0 : Int)).bind fun v47 =>
match v47 with
| .ret v51 =>
(some v51)
| .brk v52 =>
(some true)))
theorem law_UnrollBuilds_ok {fuel : Nat} {a0 : (Int × (Int × (List (List (Int × (Int × Int))))))} {a1 : Int} {a2 : Int} {r : Bool} (h : law_UnrollBuilds fuel a0 a1 a2 = some r) : FnC Try.prog 11 [aD tM a0, aI a1, aI a2] [] (aB r) [] := by
 refine fnC_of_W (B := bodyOf Try.f11) (n := 66) Try.func11 (by kernel_rfl) (by kernel_rfl) (by kernel_rfl) (by kernel_rfl) (by kernel_rfl) ?_
 intro K
 refine sr [(1, aI a1), (2, aI a2), (3, .one (.ptr 3 0))] [(3, .one tM a0)] (by kernel_rfl) ?_
 refine W_seq (by kernel_rfl) ?_
 refine W_region (by kernel_rfl) ?_
 refine woL 3 [(1, aI a1), (2, aI a2), (3, .one (.ptr 3 0)), (12, aD tM a0), (13, aI a1), (14, aI a2)] (by kernel_rfl) ?_
 obtain ⟨r1, h2, h⟩ := bind_of h
 refine WO_call0 (us := [none, none, none]) (d := 15) (p := True) (j := 4) rfl ⟨by kernel_rfl, by kernel_rfl, by kernel_rfl⟩ trivial (unroll_Build_ok h2) (by kernel_rfl) ?_
 refine wo 9 [(1, aI a1), (2, aI a2), (3, .one (.ptr 3 0)), (7, aD (.slice t3) r1.1), (8, aI r1.2)] [(3, .one tM a0)] (by kernel_rfl) ?_
 refine wfL [(1, aI a1), (2, aI a2), (3, .one (.ptr 3 0)), (7, aD (.slice t3) r1.1), (8, aI r1.2)] (by kernel_rfl) ?_
 refine seqQ_norm ?_
 refine W_seq (by kernel_rfl) ?_
 refine W_region (by kernel_rfl) ?_
 refine woL 3 [(1, aI a1), (2, aI a2), (3, .one (.ptr 3 0)), (7, aD (.slice t3) r1.1), (8, aI r1.2), (18, aD tM a0), (19, aI a1), (20, aI a2)] (by kernel_rfl) ?_
 obtain ⟨r3, h4, h⟩ := bind_of h
 refine WO_call0 (us := [none, none, none]) (d := 21) (p := True) (j := 4) rfl ⟨by kernel_rfl, by kernel_rfl, by kernel_rfl⟩ trivial (ref_UnrollCheck_ok h4) (by kernel_rfl) ?_
 refine wo 5 [(1, aI a1), (2, aI a2), (3, .one (.ptr 3 0)), (7, aD (.slice t3) r1.1), (8, aI r1.2), (9, aI r3)] [(3, .one tM a0)] (by kernel_rfl) ?_
 refine wfL [(1, aI a1), (2, aI a2), (3, .one (.ptr 3 0)), (7, aD (.slice t3) r1.1), (8, aI r1.2), (9, aI r3)] (by kernel_rfl) ?_
 refine seqQ_norm ?_
 refine W_seq (by kernel_rfl) ?_
 refine srL [(1, aI a1), (2, aI a2), (3, .one (.ptr 3 0)), (7, aD (.slice t3) r1.1), (8, aI r1.2), (9, aI r3), (23, aB (r3 != (0 : Int)))] (by kernel_rfl) ?_
 refine W_cond (o := .tmp 23) (b := r3 != (0 : Int)) (by kernel_rfl) (by kernel_rfl) (fun h5 => ?_) (fun h5 => ?_)
 ·replace h := ofT h5 h
  refine sr [(6, aB ((r1.2 == r3) && ((List.length r1.1 : Int) == (0 : Int))))] [] (by kernel_rfl) ?_
  obtain rfl := Option.some.inj h
  refine wtL [(6, aB ((r1.2 == r3) && ((List.length r1.1 : Int) == (0 : Int))))] (by kernel_rfl) ?_
  refine seqQ_ret ?_
  exact retM (by kernel_rfl)
 ·replace h := ofF h5 h
  refine wkL [(1, aI a1), (2, aI a2), (3, .one (.ptr 3 0)), (7, aD (.slice t3) r1.1), (8, aI r1.2)] (by kernel_rfl) ?_
  refine seqQ_norm ?_
  refine W_seq (by kernel_rfl) ?_
  refine W_seq (by kernel_rfl) ?_
  obtain ⟨v15, h16, h⟩ := bind_of h
  refine W_cutK (Q' := (exQ .normal (law_UnrollBuilds_s5 a0 a1 a2 r1)) v15) ?_ ?_
  ·replace h := h16
   refine W_region (by kernel_rfl) ?_
   refine wo 8 [(1, aI a1), (2, aI a2), (3, .one (.ptr 3 0)), (7, aD (.slice t3) r1.1), (39, aB ((r1.2 != (0 : Int)) || ((List.length r1.1 : Int) == (0 : Int))))] [(3, .one tM a0)] (by kernel_rfl) ?_
   rcases Bool.eq_false_or_eq_true ((r1.2 != (0 : Int)) || ((List.length r1.1 : Int) == (0 : Int))) with h12 | h12
   ·replace h := ofT h12 h
    refine woo 13 [(16, .known true), (18, .known true), (20, .known true), (22, .known true), (25, .val (.dat .bool true))] [(1, aI a1), (2, aI a2), (3, .one (.ptr 3 0)), (7, aD (.slice t3) r1.1), (44, aB true)] [(3, .one tM a0)] [(((r1.2 != (0 : Int)) || ((List.length r1.1 : Int) == (0 : Int))) = true), (((r1.2 != (0 : Int)) || ((List.length r1.1 : Int) == (0 : Int))) = true), (((r1.2 != (0 : Int)) || ((List.length r1.1 : Int) == (0 : Int))) = true), (((r1.2 != (0 : Int)) || ((List.length r1.1 : Int) == (0 : Int))) = true), (((r1.2 != (0 : Int)) || ((List.length r1.1 : Int) == (0 : Int))) = true)] (by kernel_rfl) (allP2 h12 (allP2 h12 (allP2 h12 (allP2 h12 (allP1 h12))))) ?_
    obtain rfl := Option.some.inj h
    refine wfL [(1, aI a1), (2, aI a2), (3, .one (.ptr 3 0)), (7, aD (.slice t3) r1.1), (44, aB true)] (by kernel_rfl) ?_
    exact exM (by kernel_rfl)
   ·replace h := ofF h12 h
    refine woo 10 [(16, .known false), (18, .known false)] [(1, aI a1), (2, aI a2), (3, .one (.ptr 3 0)), (7, aD (.slice t3) r1.1), (39, aB ((r1.2 != (0 : Int)) || ((List.length r1.1 : Int) == (0 : Int)))), (40, aI a1), (41, aD (.slice t3) r1.1)] [(3, .one tM a0)] [(((r1.2 != (0 : Int)) || ((List.length r1.1 : Int) == (0 : Int))) = false), (((r1.2 != (0 : Int)) || ((List.length r1.1 : Int) == (0 : Int))) = false)] (by kernel_rfl) (allP2 h12 (allP1 h12)) ?_
    obtain ⟨r13, h14, h⟩ := bind_of h
    refine WO_call0 (us := [none, none]) (d := 42) (p := (((r1.2 != (0 : Int)) || ((List.length r1.1 : Int) == (0 : Int))) = false)) (j := 11) rfl ⟨by kernel_rfl, by kernel_rfl, by kernel_rfl⟩ h12 (ref_GatesCheck_ok h14) (by kernel_rfl) ?_
    refine woo 13 [(22, .known false), (25, .val (.dat .bool false))] [(1, aI a1), (2, aI a2), (3, .one (.ptr 3 0)), (7, aD (.slice t3) r1.1), (44, aB (r13 != (0 : Int)))] [(3, .one tM a0)] [(((r1.2 != (0 : Int)) || ((List.length r1.1 : Int) == (0 : Int))) = false), (((r1.2 != (0 : Int)) || ((List.length r1.1 : Int) == (0 : Int))) = false)] (by kernel_rfl) (allP2 h12 (allP1 h12)) ?_
    obtain rfl := Option.some.inj h
    refine wfL [(1, aI a1), (2, aI a2), (3, .one (.ptr 3 0)), (7, aD (.slice t3) r1.1), (44, aB (r13 != (0 : Int)))] (by kernel_rfl) ?_
    exact exM (by kernel_rfl)
  ·intro e fr L hJ
   obtain ⟨rfl, rfl, rfl⟩ := hJ
   refine ltk [(1, aI a1), (2, aI a2), (3, .one (.ptr 3 0)), (7, aD (.slice t3) r1.1), (44, aB v15)] [(3, .one tM a0)] (by kernel_rfl) ?_
   refine seqQ_norm ?_
   refine W_cond (o := .tmp 44) (b := v15) (by kernel_rfl) (by kernel_rfl) (fun h17 => ?_) (fun h17 => ?_)
   ·replace h := ofT h17 h
    refine sr [(6, aB false)] [] (by kernel_rfl) ?_
    obtain rfl := Option.some.inj h
    refine wtL [(6, aB false)] (by kernel_rfl) ?_
    refine seqQ_ret ?_
    exact retM (by kernel_rfl)
   ·replace h := ofF h17 h
    refine wkL [(1, aI a1), (2, aI a2), (3, .one (.ptr 3 0)), (7, aD (.slice t3) r1.1)] (by kernel_rfl) ?_
    refine seqQ_norm ?_
    refine W_seq (by kernel_rfl) ?_
    refine srL [(1, aI a1), (2, aI a2), (3, .one (.ptr 3 0)), (7, aD (.slice t3) r1.1), (10, aI (0 : Int))] (by kernel_rfl) ?_
    refine W_block (id := 0) (by kernel_rfl) ?_
    obtain ⟨v47, h48, h⟩ := bind_of h
    refine W_weaken [1, 2, 3, 7, 10] [3] (fr' := ((law_UnrollBuilds_s2 a0 a1 a2 r1) (0 : Int)).1) (L' := ((law_UnrollBuilds_s2 a0 a1 a2 r1) (0 : Int)).2) (by kernel_rfl) ?_
    refine W_cutK (W_loop (S := (law_UnrollBuilds_s2 a0 a1 a2 r1)) (J := (escQ (exQ .ret law_UnrollBuilds_s3) (exQ (.exit 0) law_UnrollBuilds_s4))) (by kernel_rfl) ?_ fuel _ v47 h48) ?_
    ·rintro x28 s h
     refine W_seq (by kernel_rfl) ?_
     refine W_seq (by kernel_rfl) ?_
     obtain ⟨_, h38, h⟩ := bind_of h
     replace h38 := ck_some h38
     refine W_run 5 [] [1, 2, 3, 7, 10, 49] [3] (fr' := [(1, aI a1), (2, aI a2), (3, .one (.ptr 3 0)), (7, aD (.slice t3) r1.1), (10, aI x28), (49, aB (decide (x28 < (bShl .i64 (1 : Int) (IntKind.wrap .u64 (a1))))))]) (L' := [(3, .one tM a0)]) (obs := [(0 ≤ IntKind.wrap .u64 (a1))]) (by kernel_rfl) (by kernel_rfl) (by kernel_rfl) (allP1 h38) ?_
     refine seqQ_norm ?_
     refine W_cond (o := .tmp 49) (b := decide (x28 < (bShl .i64 (1 : Int) (IntKind.wrap .u64 (a1))))) (by kernel_rfl) (by kernel_rfl) (fun h39 => ?_) (fun h39 => ?_)
     ·replace h := ofT h39 h
      refine wkL [(1, aI a1), (2, aI a2), (3, .one (.ptr 3 0)), (7, aD (.slice t3) r1.1), (10, aI x28)] (by kernel_rfl) ?_
      refine seqQ_norm ?_
      refine W_seq (by kernel_rfl) ?_
      refine W_block (id := 1) (by kernel_rfl) ?_
      refine W_seq (by kernel_rfl) ?_
      obtain ⟨r40, h41, h⟩ := bind_of h
      obtain ⟨v42, h43, h⟩ := bind_of h
      obtain ⟨r44, h45, h⟩ := bind_of h
      refine W_draw2 14 [(13, .val (.dat .bool v42))] [(2, [none, none], aD (.slice .bool) r40), (12, [none, none, none, none], aB r44)] [1, 2, 3, 7, 10, 65] [3] (fr' := [(1, aI a1), (2, aI a2), (3, .one (.ptr 3 0)), (7, aD (.slice t3) r1.1), (10, aI x28), (65, aB (!(v42 == r44)))]) (L' := [(3, .one tM a0)]) (out := [(52, aD (.slice t3) r1.1), (53, aI x28), (54, aD (.slice .bool) r40), (55, aD (.slice t3) r1.1), (56, aI (List.length r1.1 : Int)), (57, aI (w64 ((List.length r1.1 : Int) - (1 : Int)))), (58, .one (.dptr .bool v42)), (59, aB v42), (60, aD tM a0), (61, aI a1), (62, aI a2), (63, aI x28), (64, aB r44), (65, aB (!(v42 == r44)))]) (obs := [True, Idx r40 (w64 ((List.length r1.1 : Int) - (1 : Int))) v42, True]) (obs2 := []) (calls := [(48, [aD (.slice t3) r1.1, aI x28], aD (.slice .bool) r40), (49, [aD tM a0, aI a1, aI a2, aI x28], aB r44)]) (by kernel_rfl) (by kernel_rfl) (by kernel_rfl) (by kernel_rfl) (allP2 trivial (allP2 (Idx.of h43) (allP1 trivial))) (allC1 (by kernel_rfl) (ref_Gates_ok h41) (by kernel_rfl) (allC1 (by kernel_rfl) (ref_Asked_ok h45) (by kernel_rfl) allC0)) (by kernel_rfl) allP0 ?_
      refine seqQ_norm ?_
      refine W_cond (o := .tmp 65) (b := !(v42 == r44)) (by kernel_rfl) (by kernel_rfl) (fun h46 => ?_) (fun h46 => ?_)
      ·replace h := ofT h46 h
       refine sr [(6, aB false)] [] (by kernel_rfl) ?_
       obtain rfl := Option.some.inj h
       refine wtL [(6, aB false)] (by kernel_rfl) ?_
       refine blockQ_ret ?_
       refine seqQ_ret ?_
       refine round_ret ?_
       refine escQ_ret ?_
       exact exM (by kernel_rfl)
      ·replace h := ofF h46 h
       refine wk [(1, aI a1), (2, aI a2), (3, .one (.ptr 3 0)), (7, aD (.slice t3) r1.1), (10, aI x28)] [(3, .one tM a0)] (by kernel_rfl) ?_
       refine blockQ_norm ?_
       refine seqQ_norm ?_
       obtain rfl := Option.some.inj h
       refine swL [(1, aI a1), (2, aI a2), (3, .one (.ptr 3 0)), (7, aD (.slice t3) r1.1), (10, aI (w64 (x28 + (1 : Int))))] (by kernel_rfl) ?_
       exact round_next' (by kernel_rfl) (by kernel_rfl)
     ·replace h := ofF h39 h
      obtain rfl := Option.some.inj h
      refine wx 0 [] [] (by kernel_rfl) ?_
      refine seqQ_exit ?_
      refine round_exit ?_
      refine escQ_brk ?_
      exact exM (by kernel_rfl)
    ·intro e fr L hJ
     rcases v47 with v51 | v52
     ·obtain ⟨rfl, rfl, rfl⟩ := hJ
      obtain rfl := Option.some.inj h
      refine ltk [(6, aB v51)] [] (by kernel_rfl) ?_
      refine blockQ_ret ?_
      refine seqQ_ret ?_
      exact retM (by kernel_rfl)
     ·obtain ⟨rfl, rfl, rfl⟩ := hJ
      refine ltk [] [] (by kernel_rfl) ?_
      refine blockQ_hit ?_
      refine seqQ_norm ?_
      refine sr [(6, aB true)] [] (by kernel_rfl) ?_
      obtain rfl := Option.some.inj h
      refine wtL [(6, aB true)] (by kernel_rfl) ?_
      exact retM (by kernel_rfl)
end Go.Proofs.Ytnblafiefaalgaa.unrollBuilds
