/- What the functions that WholeClauses calls compute, as models, and that they compute it: written by a program of mine. -/
import Derived.Test.YtnblafiefaalgaaProg
import Derived.Test.YtnblafiefaalgaaWholeClausesM3
set_option linter.all false
set_option maxRecDepth 100000
namespace Go.Proofs.Ytnblafiefaalgaa.wholeClauses
open Go Go.Sl
@[reducible] def ref_choices_s891 (a0 : (List ((List Int) × (List Int)))) (i7267 : Int) (x7268 : (Bool × (List Int))) (v7270 : ((List Int) × (List Int))) (i7946 : Int) (x7947 : (Int × Int × Int × Bool)) (v7949 : Int) (v : Bool) : Fr × LL := ([(0, aD (.slice tC) a0), (1, .one (.slc 19)), (5, aB x7268.1), (7, .one (.ptr 7 0)), (8, aI x7947.1), (9, aI x7947.2.1), (10, aI x7947.2.2.1), (11, aB v), (13, aI v7949), (23, aD (.slice tC) a0), (24, aI (List.length a0 : Int)), (25, aI i7267), (30, aD (.slice tI) v7270.1), (31, aI (List.length v7270.1 : Int)), (32, aI i7946)], [(19, .seq tI x7268.2), (7, .one tC v7270)])
def ref_choices_g892 (x7268 : (Bool × (List Int))) (x7947 : (Int × Int × Int × Bool)) (v7949 : Int) : Option (Int × Int × Int × Bool) :=
(bif x7947.2.2.2 then
(some true)
else
((idx x7268.2 v7949).bind fun v7987 =>
some (v7987 == (1 : Int)))).bind fun v7989 =>
(idx x7268.2 v7949).bind fun v7991 =>
bif decide (v7991 < (0 : Int)) then
(some (v7949, (1 : Int), w64 (x7947.2.2.1 + (1 : Int)), v7989))
else
(some (x7947.1, x7947.2.1, x7947.2.2.1, v7989))
@[reducible] def ref_choices_s893 (a0 : (List ((List Int) × (List Int)))) (i7267 : Int) (x7268 : (Bool × (List Int))) (v7270 : ((List Int) × (List Int))) (i7946 : Int) (v : (Int × Int × Int × Bool)) : Fr × LL := ([(0, aD (.slice tC) a0), (1, .one (.slc 19)), (5, aB x7268.1), (7, .one (.ptr 7 0)), (8, aI v.1), (9, aI v.2.1), (10, aI v.2.2.1), (11, aB v.2.2.2), (23, aD (.slice tC) a0), (24, aI (List.length a0 : Int)), (25, aI i7267), (30, aD (.slice tI) v7270.1), (31, aI (List.length v7270.1 : Int)), (32, aI i7946)], [(19, .seq tI x7268.2), (7, .one tC v7270)])
def ref_choices_b894 (x7268 : (Bool × (List Int))) (i7946 : Int) (v7949 : Int) (x7947 : (Int × Int × Int × Bool)) : Option (Flow (Int × Int × Int × Bool) (Int × Int × Int × Bool)) :=
(ref_choices_g892 x7268 x7947 v7949).bind fun v7994 =>
some (.next (v7994.1, v7994.2.1, v7994.2.2.1, v7994.2.2.2))
@[reducible] def ref_choices_s895 (a0 : (List ((List Int) × (List Int)))) (i7267 : Int) (x7268 : (Bool × (List Int))) (v7270 : ((List Int) × (List Int))) (v : Int × (Int × Int × Int × Bool)) : Fr × LL := ([(0, aD (.slice tC) a0), (1, .one (.slc 19)), (5, aB x7268.1), (7, .one (.ptr 7 0)), (8, aI v.2.1), (9, aI v.2.2.1), (10, aI v.2.2.2.1), (11, aB v.2.2.2.2), (23, aD (.slice tC) a0), (24, aI (List.length a0 : Int)), (25, aI i7267), (30, aD (.slice tI) v7270.1), (31, aI (List.length v7270.1 : Int)), (32, aI v.1)], [(19, .seq tI x7268.2), (7, .one tC v7270)])
@[reducible] def ref_choices_s896 (a0 : (List ((List Int) × (List Int)))) (i7267 : Int) (x7268 : (Bool × (List Int))) (v7270 : ((List Int) × (List Int))) (v : (Int × Int × Int × Bool)) : Fr × LL := ([(0, aD (.slice tC) a0), (1, .one (.slc 19)), (5, aB x7268.1), (7, .one (.ptr 7 0)), (8, aI v.1), (9, aI v.2.1), (10, aI v.2.2.1), (11, aB v.2.2.2), (23, aD (.slice tC) a0), (24, aI (List.length a0 : Int)), (25, aI i7267)], [(19, .seq tI x7268.2), (7, .one tC v7270)])
@[reducible] def ref_choices_s909 (a0 : (List ((List Int) × (List Int)))) (i7267 : Int) (x7268 : (Bool × (List Int))) (v7270 : ((List Int) × (List Int))) (i8106 : Int) (x8107 : (Int × Int × Int × Bool)) (v8109 : Int) (v : Bool) : Fr × LL := ([(0, aD (.slice tC) a0), (1, .one (.slc 19)), (5, aB x7268.1), (8, aI x8107.1), (9, aI x8107.2.1), (10, aI x8107.2.2.1), (11, aB v), (15, aI v8109), (23, aD (.slice tC) a0), (24, aI (List.length a0 : Int)), (25, aI i7267), (54, aD (.slice tI) v7270.2), (55, aI (List.length v7270.2 : Int)), (56, aI i8106)], [(19, .seq tI x7268.2)])
def ref_choices_g910 (x7268 : (Bool × (List Int))) (x8107 : (Int × Int × Int × Bool)) (v8109 : Int) : Option (Int × Int × Int × Bool) :=
(bif x8107.2.2.2 then
(some true)
else
((idx x7268.2 v8109).bind fun v8147 =>
some (v8147 == (0 : Int)))).bind fun v8149 =>
(idx x7268.2 v8109).bind fun v8151 =>
bif decide (v8151 < (0 : Int)) then
(some (v8109, (0 : Int), w64 (x8107.2.2.1 + (1 : Int)), v8149))
else
(some (x8107.1, x8107.2.1, x8107.2.2.1, v8149))
@[reducible] def ref_choices_s911 (a0 : (List ((List Int) × (List Int)))) (i7267 : Int) (x7268 : (Bool × (List Int))) (v7270 : ((List Int) × (List Int))) (i8106 : Int) (v : (Int × Int × Int × Bool)) : Fr × LL := ([(0, aD (.slice tC) a0), (1, .one (.slc 19)), (5, aB x7268.1), (8, aI v.1), (9, aI v.2.1), (10, aI v.2.2.1), (11, aB v.2.2.2), (23, aD (.slice tC) a0), (24, aI (List.length a0 : Int)), (25, aI i7267), (54, aD (.slice tI) v7270.2), (55, aI (List.length v7270.2 : Int)), (56, aI i8106)], [(19, .seq tI x7268.2)])
def ref_choices_b912 (x7268 : (Bool × (List Int))) (i8106 : Int) (v8109 : Int) (x8107 : (Int × Int × Int × Bool)) : Option (Flow (Int × Int × Int × Bool) (Int × Int × Int × Bool)) :=
(ref_choices_g910 x7268 x8107 v8109).bind fun v8154 =>
some (.next (v8154.1, v8154.2.1, v8154.2.2.1, v8154.2.2.2))
@[reducible] def ref_choices_s913 (a0 : (List ((List Int) × (List Int)))) (i7267 : Int) (x7268 : (Bool × (List Int))) (v7270 : ((List Int) × (List Int))) (v : Int × (Int × Int × Int × Bool)) : Fr × LL := ([(0, aD (.slice tC) a0), (1, .one (.slc 19)), (5, aB x7268.1), (8, aI v.2.1), (9, aI v.2.2.1), (10, aI v.2.2.2.1), (11, aB v.2.2.2.2), (23, aD (.slice tC) a0), (24, aI (List.length a0 : Int)), (25, aI i7267), (54, aD (.slice tI) v7270.2), (55, aI (List.length v7270.2 : Int)), (56, aI v.1)], [(19, .seq tI x7268.2)])
@[reducible] def ref_choices_s914 (a0 : (List ((List Int) × (List Int)))) (i7267 : Int) (x7268 : (Bool × (List Int))) (v : (Int × Int × Int × Bool)) : Fr × LL := ([(0, aD (.slice tC) a0), (1, .one (.slc 19)), (5, aB x7268.1), (8, aI v.1), (9, aI v.2.1), (10, aI v.2.2.1), (11, aB v.2.2.2), (23, aD (.slice tC) a0), (24, aI (List.length a0 : Int)), (25, aI i7267)], [(19, .seq tI x7268.2)])
def ref_choices_g915 (x7268 : (Bool × (List Int))) (v7270 : ((List Int) × (List Int))) : Option (Esc Int (Bool × (List Int))) :=
(forL (ref_choices_b894 x7268) (fun x7947 => (x7947.1, x7947.2.1, x7947.2.2.1, x7947.2.2.2)) v7270.1 0 ((-1 : Int), (0 : Int), (0 : Int), false)).bind fun v7997 =>
(forL (ref_choices_b912 x7268) (fun x8107 => (x8107.1, x8107.2.1, x8107.2.2.1, x8107.2.2.2)) v7270.2 0 (v7997.1, v7997.2.1, v7997.2.2.1, v7997.2.2.2)).bind fun v8157 =>
bif v8157.2.2.2 then
(some (.brk (x7268.1, x7268.2)))
else
(bif v8157.2.2.1 == (0 : Int) then
(some (.ret (0 : Int)))
else
(bif v8157.2.2.1 == (1 : Int) then
((idx x7268.2 v8157.1).bind fun v8165 =>
some (.brk (true, List.set x7268.2 (Int.toNat v8157.1) v8157.2.1)))
else
(some (.brk (x7268.1, x7268.2)))))
@[reducible] def ref_choices_s916 (v : Int) : Fr × LL := ([(4, aI v)], [])
@[reducible] def ref_choices_s917 (a0 : (List ((List Int) × (List Int)))) (i7267 : Int) (v : (Bool × (List Int))) : Fr × LL := ([(0, aD (.slice tC) a0), (1, .one (.slc 19)), (5, aB v.1), (23, aD (.slice tC) a0), (24, aI (List.length a0 : Int)), (25, aI i7267)], [(19, .seq tI v.2)])
def ref_choices_b918 (i7267 : Int) (v7270 : ((List Int) × (List Int))) (x7268 : (Bool × (List Int))) : Option (Flow (Bool × (List Int)) (Esc Int (Bool × (List Int)))) :=
(ref_choices_g915 x7268 v7270).bind fun v8167 =>
match v8167 with
| .ret v8169 =>
(some (.done (.ret v8169)))
| .brk v8170 =>
(some (.next (v8170.1, v8170.2)))
@[reducible] def ref_choices_s919 (a0 : (List ((List Int) × (List Int)))) (v : Int × (Bool × (List Int))) : Fr × LL := ([(0, aD (.slice tC) a0), (1, .one (.slc 19)), (5, aB v.2.1), (23, aD (.slice tC) a0), (24, aI (List.length a0 : Int)), (25, aI v.1)], [(19, .seq tI v.2.2)])
@[reducible] def ref_choices_s920 (v : Int) : Fr × LL := ([(4, aI v)], [])
@[reducible] def ref_choices_s921 (a0 : (List ((List Int) × (List Int)))) (v : (Bool × (List Int))) : Fr × LL := ([(0, aD (.slice tC) a0), (1, .one (.slc 19)), (5, aB v.1)], [(19, .seq tI v.2)])
def ref_choices_b922 (a0 : (List ((List Int) × (List Int)))) (x2728 : (Bool × (List Int))) : Option (Flow (Bool × (List Int)) (Esc Int (List Int))) :=
bif x2728.1 then
((forL ref_choices_b918 (fun x7268 => (.brk (x7268.1, x7268.2))) a0 0 (false, x2728.2)).bind fun v8172 =>
match v8172 with
| .ret v8177 =>
(some (.done (.ret v8177)))
| .brk v8178 =>
(some (.next (v8178.1, v8178.2))))
else
(some (.done (.brk x2728.2)))
@[reducible] def ref_choices_s923 (a0 : (List ((List Int) × (List Int)))) (v : (Bool × (List Int))) : Fr × LL := ([(0, aD (.slice tC) a0), (1, .one (.slc 19)), (5, aB v.1)], [(19, .seq tI v.2)])
@[reducible] def ref_choices_s924 (v : Int) : Fr × LL := ([(4, aI v)], [])
@[reducible] def ref_choices_s925 (a0 : (List ((List Int) × (List Int)))) (v : (List Int)) : Fr × LL := ([(0, aD (.slice tC) a0), (1, .one (.slc 19))], [(19, .seq tI v)])
def ref_choices_b926 (a0 : (List ((List Int) × (List Int)))) (fuel : Nat) (v8184 : (List Int)) (rf_ref_choices : (List ((List Int) × (List Int))) → (List Int) → Option Int) (i8211 : Int) (v8214 : Int) (x8212 : Unit) : Option (Flow Unit (Esc Int Unit)) :=
bif decide (v8214 ≥ (0 : Int)) then
(some (.next ()))
else
((ref_choices_i2 rf_ref_choices fuel a0 (List.set v8184 (Int.toNat i8211) (0 : Int))).bind fun r8218 =>
bif decide (r8218 > (1 : Int)) then
(some (.done (.ret (2 : Int))))
else
((idx (List.set v8184 (Int.toNat i8211) (0 : Int)) i8211).bind fun v8221 =>
(rf_ref_choices a0 (List.set (List.set v8184 (Int.toNat i8211) (0 : Int)) (Int.toNat i8211) (1 : Int))).bind fun r8223 =>
bif decide ((w64 (r8218 + r8223)) > (2 : Int)) then
(some (.done (.ret (2 : Int))))
else
(some (.done (.ret (w64 (r8218 + r8223)))))))
@[reducible] def ref_choices_s927 (a0 : (List ((List Int) × (List Int)))) (v8184 : (List Int)) (v : Int × Unit) : Fr × LL := ([(0, aD (.slice tC) a0), (1, .one (.slc 19)), (16, aI v.1)], [(19, .seq tI v8184)])
@[reducible] def ref_choices_s928 (v : Int) : Fr × LL := ([(4, aI v)], [])
@[reducible] def ref_choices_s929 (v : Unit) : Fr × LL := ([], [])
def ref_choices_step (rf_ref_choices : (List ((List Int) × (List Int))) → (List Int) → Option Int) (fuel : Nat) (a0 : (List ((List Int) × (List Int)))) (a1 : (List Int)) : Option Int :=
(ck ((0 : Int) + (List.length a1 : Int) ≤ 4294967296)).bind fun _ =>
(iter (ref_choices_b922 a0) fuel (true, [] ++ a1)).bind fun v8179 =>
match v8179 with
| .ret v8183 =>
(some v8183)
| .brk v8184 =>
((forL (ref_choices_b926 a0 fuel v8184 rf_ref_choices) (fun x8212 => (.brk ())) v8184 0 ()).bind fun v8227 =>
match v8227 with
| .ret v8232 =>
(some v8232)
| .brk v8233 =>
(some (1 : Int)))
def ref_choices : Nat → (List ((List Int) × (List Int))) → (List Int) → Option Int
 | 0 => fun _ _ => none
 | fuel + 1 => fun a0 a1 => ref_choices_step (ref_choices fuel) fuel a0 a1
theorem ref_choices_step_ok {rf_ref_choices : (List ((List Int) × (List Int))) → (List Int) → Option Int} (ih_ref_choices : ∀ {a0 : (List ((List Int) × (List Int)))} {a1 : (List Int)} {r : Int}, rf_ref_choices a0 a1 = some r → FnC Try.prog 83 [aD (.slice tC) a0, aD (.slice tI) a1] [] (aI r) []) {fuel : Nat} {a0 : (List ((List Int) × (List Int)))} {a1 : (List Int)} {r : Int} (h : ref_choices_step rf_ref_choices fuel a0 a1 = some r) : FnC Try.prog 83 [aD (.slice tC) a0, aD (.slice tI) a1] [] (aI r) [] := by
 refine fnC_of_W (B := bodyOf Try.f83) (n := 119) Try.func83 (by kernel_rfl) (by kernel_rfl) (by kernel_rfl) (by kernel_rfl) (by kernel_rfl) ?_
 intro K
 refine sr [(0, aD (.slice tC) a0), (1, aD (.slice tI) a1)] [] (by kernel_rfl) ?_
 refine W_seq (by kernel_rfl) ?_
 obtain ⟨_, h1, h⟩ := bind_of h
 replace h1 := ck_some h1
 refine W_run 4 [] [0, 1] [19] (fr' := [(0, aD (.slice tC) a0), (1, .one (.slc 19))]) (L' := [(19, .seq tI ([] ++ a1))]) (obs := [SmallLen (List.length ([] : (List Int)) + List.length a1)]) (by kernel_rfl) (by kernel_rfl) (by kernel_rfl) (allP1 h1) ?_
 refine seqQ_norm ?_
 refine W_seq (by kernel_rfl) ?_
 refine srL [(0, aD (.slice tC) a0), (1, .one (.slc 19)), (5, aB true)] (by kernel_rfl) ?_
 refine W_block (id := 0) (by kernel_rfl) ?_
 obtain ⟨v8179, h8180, h⟩ := bind_of h
 refine W_weaken [0, 1, 5] [19] (fr' := ((ref_choices_s923 a0) (true, [] ++ a1)).1) (L' := ((ref_choices_s923 a0) (true, [] ++ a1)).2) (by kernel_rfl) ?_
 refine W_cutK (W_loop (S := (ref_choices_s923 a0)) (J := (escQ (exQ .ret ref_choices_s924) (exQ (.exit 0) (ref_choices_s925 a0)))) (by kernel_rfl) ?_ fuel _ v8179 h8180) ?_
 ·rintro x2728 s h
  refine W_seq (by kernel_rfl) ?_
  refine sr [(0, aD (.slice tC) a0), (1, .one (.slc 19)), (22, aB x2728.1)] [(19, .seq tI x2728.2)] (by kernel_rfl) ?_
  refine W_cond (o := .tmp 22) (b := x2728.1) (by kernel_rfl) (by kernel_rfl) (fun h5454 => ?_) (fun h5454 => ?_)
  ·replace h := ofT h5454 h
   refine wkL [(0, aD (.slice tC) a0), (1, .one (.slc 19))] (by kernel_rfl) ?_
   refine seqQ_norm ?_
   refine W_block (id := 1) (by kernel_rfl) ?_
   refine srL [(0, aD (.slice tC) a0), (1, .one (.slc 19)), (5, aB false)] (by kernel_rfl) ?_
   refine srL [(0, aD (.slice tC) a0), (1, .one (.slc 19)), (5, aB false), (23, aD (.slice tC) a0), (24, aI (List.length a0 : Int)), (25, aI (0 : Int))] (by kernel_rfl) ?_
   refine W_block (id := 2) (by kernel_rfl) ?_
   obtain ⟨v8172, h8173, h⟩ := bind_of h
   refine W_len (t := 23) (u := tC) (xs := a0) (by kernel_rfl) (fun h8176 => ?_)
   obtain ⟨h8174, h8175⟩ := forL_iter h8176 h8173
   refine W_weaken [0, 1, 5, 23, 24, 25] [19] (fr' := ((ref_choices_s919 a0) ((0 : Int), (false, x2728.2))).1) (L' := ((ref_choices_s919 a0) ((0 : Int), (false, x2728.2))).2) (by kernel_rfl) ?_
   refine W_cutK (W_loop (S := (ref_choices_s919 a0)) (J := (escQ (exQ .ret ref_choices_s920) (exQ (.exit 2) (ref_choices_s921 a0)))) (by kernel_rfl) ?_ h8174 _ v8172 h8175) ?_
   ·rintro ⟨i7267, x7268⟩ s h
    refine sr [(0, aD (.slice tC) a0), (1, .one (.slc 19)), (5, aB x7268.1), (23, aD (.slice tC) a0), (24, aI (List.length a0 : Int)), (25, aI i7267), (26, aB (decide (i7267 < (List.length a0 : Int))))] [(19, .seq tI x7268.2)] (by kernel_rfl) ?_
    refine W_seq (by kernel_rfl) ?_
    refine W_cond (o := .tmp 26) (b := decide (i7267 < (List.length a0 : Int))) (by kernel_rfl) (by kernel_rfl) (fun h7272 => ?_) (fun h7272 => ?_)
    ·replace h := stepL_true h7272 h
     obtain ⟨v7270, _, h7271, h, rfl⟩ := h
     refine wkL [(0, aD (.slice tC) a0), (1, .one (.slc 19)), (5, aB x7268.1), (23, aD (.slice tC) a0), (24, aI (List.length a0 : Int)), (25, aI i7267)] (by kernel_rfl) ?_
     refine seqQ_norm ?_
     refine W_seq (by kernel_rfl) ?_
     obtain ⟨v8167, h8168, h⟩ := bind_of h
     refine W_cutK (Q' := (escQ (exQ .ret ref_choices_s916) (exQ .normal (ref_choices_s917 a0 i7267))) v8167) ?_ ?_
     ·replace h := h8168
      refine W_block (id := 3) (by kernel_rfl) ?_
      refine sro [(1, .val (.dat tC v7270)), (5, .typed)] [(0, aD (.slice tC) a0), (1, .one (.slc 19)), (5, aB x7268.1), (7, .one (.ptr 7 0)), (23, aD (.slice tC) a0), (24, aI (List.length a0 : Int)), (25, aI i7267)] [(19, .seq tI x7268.2), (7, .one tC v7270)] [Idx a0 i7267 v7270, True] (by kernel_rfl) (allP2 (Idx.of h7271) (allP1 trivial)) ?_
      refine srL [(0, aD (.slice tC) a0), (1, .one (.slc 19)), (5, aB x7268.1), (7, .one (.ptr 7 0)), (8, aI (-1 : Int)), (23, aD (.slice tC) a0), (24, aI (List.length a0 : Int)), (25, aI i7267)] (by kernel_rfl) ?_
      refine srL [(0, aD (.slice tC) a0), (1, .one (.slc 19)), (5, aB x7268.1), (7, .one (.ptr 7 0)), (8, aI (-1 : Int)), (9, aI (0 : Int)), (23, aD (.slice tC) a0), (24, aI (List.length a0 : Int)), (25, aI i7267)] (by kernel_rfl) ?_
      refine srL [(0, aD (.slice tC) a0), (1, .one (.slc 19)), (5, aB x7268.1), (7, .one (.ptr 7 0)), (8, aI (-1 : Int)), (9, aI (0 : Int)), (10, aI (0 : Int)), (23, aD (.slice tC) a0), (24, aI (List.length a0 : Int)), (25, aI i7267)] (by kernel_rfl) ?_
      refine srL [(0, aD (.slice tC) a0), (1, .one (.slc 19)), (5, aB x7268.1), (7, .one (.ptr 7 0)), (8, aI (-1 : Int)), (9, aI (0 : Int)), (10, aI (0 : Int)), (11, aB false), (23, aD (.slice tC) a0), (24, aI (List.length a0 : Int)), (25, aI i7267)] (by kernel_rfl) ?_
      refine W_seq (by kernel_rfl) ?_
      refine srL [(0, aD (.slice tC) a0), (1, .one (.slc 19)), (5, aB x7268.1), (7, .one (.ptr 7 0)), (8, aI (-1 : Int)), (9, aI (0 : Int)), (10, aI (0 : Int)), (11, aB false), (23, aD (.slice tC) a0), (24, aI (List.length a0 : Int)), (25, aI i7267), (30, aD (.slice tI) v7270.1), (31, aI (List.length v7270.1 : Int)), (32, aI (0 : Int))] (by kernel_rfl) ?_
      refine W_block (id := 4) (by kernel_rfl) ?_
      obtain ⟨v7997, h7998, h⟩ := bind_of h
      refine W_len (t := 30) (u := tI) (xs := v7270.1) (by kernel_rfl) (fun h8001 => ?_)
      obtain ⟨h7999, h8000⟩ := forL_iter h8001 h7998
      refine W_weaken [0, 1, 5, 7, 8, 9, 10, 11, 23, 24, 25, 30, 31, 32] [19, 7] (fr' := ((ref_choices_s895 a0 i7267 x7268 v7270) ((0 : Int), ((-1 : Int), (0 : Int), (0 : Int), false))).1) (L' := ((ref_choices_s895 a0 i7267 x7268 v7270) ((0 : Int), ((-1 : Int), (0 : Int), (0 : Int), false))).2) (by kernel_rfl) ?_
      refine W_cutK (W_loop (S := (ref_choices_s895 a0 i7267 x7268 v7270)) (J := (exQ (.exit 4) (ref_choices_s896 a0 i7267 x7268 v7270))) (by kernel_rfl) ?_ h7999 _ v7997 h8000) ?_
      ·rintro ⟨i7946, x7947⟩ s h
       refine sr [(0, aD (.slice tC) a0), (1, .one (.slc 19)), (5, aB x7268.1), (7, .one (.ptr 7 0)), (8, aI x7947.1), (9, aI x7947.2.1), (10, aI x7947.2.2.1), (11, aB x7947.2.2.2), (23, aD (.slice tC) a0), (24, aI (List.length a0 : Int)), (25, aI i7267), (30, aD (.slice tI) v7270.1), (31, aI (List.length v7270.1 : Int)), (32, aI i7946), (33, aB (decide (i7946 < (List.length v7270.1 : Int))))] [(19, .seq tI x7268.2), (7, .one tC v7270)] (by kernel_rfl) ?_
       refine W_seq (by kernel_rfl) ?_
       refine W_cond (o := .tmp 33) (b := decide (i7946 < (List.length v7270.1 : Int))) (by kernel_rfl) (by kernel_rfl) (fun h7951 => ?_) (fun h7951 => ?_)
       ·replace h := stepL_true h7951 h
        obtain ⟨v7949, _, h7950, h, rfl⟩ := h
        refine wkL [(0, aD (.slice tC) a0), (1, .one (.slc 19)), (5, aB x7268.1), (7, .one (.ptr 7 0)), (8, aI x7947.1), (9, aI x7947.2.1), (10, aI x7947.2.2.1), (11, aB x7947.2.2.2), (23, aD (.slice tC) a0), (24, aI (List.length a0 : Int)), (25, aI i7267), (30, aD (.slice tI) v7270.1), (31, aI (List.length v7270.1 : Int)), (32, aI i7946)] (by kernel_rfl) ?_
        refine seqQ_norm ?_
        refine W_seq (by kernel_rfl) ?_
        obtain ⟨v7994, h7995, h⟩ := bind_of h
        refine W_cutK (Q' := (exQ .normal (ref_choices_s893 a0 i7267 x7268 v7270 i7946)) v7994) ?_ ?_
        ·replace h := h7995
         refine W_block (id := 5) (by kernel_rfl) ?_
         refine sro [(1, .val (.dat tI v7949))] [(0, aD (.slice tC) a0), (1, .one (.slc 19)), (5, aB x7268.1), (7, .one (.ptr 7 0)), (8, aI x7947.1), (9, aI x7947.2.1), (10, aI x7947.2.2.1), (11, aB x7947.2.2.2), (13, aI v7949), (23, aD (.slice tC) a0), (24, aI (List.length a0 : Int)), (25, aI i7267), (30, aD (.slice tI) v7270.1), (31, aI (List.length v7270.1 : Int)), (32, aI i7946)] [(19, .seq tI x7268.2), (7, .one tC v7270)] [Idx v7270.1 i7946 v7949] (by kernel_rfl) (allP1 (Idx.of h7950)) ?_
         refine W_seq (by kernel_rfl) ?_
         obtain ⟨v7989, h7990, h⟩ := bind_of h
         refine W_cutK (Q' := (exQ .normal (ref_choices_s891 a0 i7267 x7268 v7270 i7946 x7947 v7949)) v7989) ?_ ?_
         ·replace h := h7990
          refine W_region (by kernel_rfl) ?_
          refine wo 2 [(0, aD (.slice tC) a0), (1, .one (.slc 19)), (5, aB x7268.1), (7, .one (.ptr 7 0)), (8, aI x7947.1), (9, aI x7947.2.1), (10, aI x7947.2.2.1), (11, aB x7947.2.2.2), (13, aI v7949), (23, aD (.slice tC) a0), (24, aI (List.length a0 : Int)), (25, aI i7267), (30, aD (.slice tI) v7270.1), (31, aI (List.length v7270.1 : Int)), (32, aI i7946), (37, aB x7947.2.2.2)] [(7, .one tC v7270), (19, .seq tI x7268.2)] (by kernel_rfl) ?_
          rcases Bool.eq_false_or_eq_true (x7947.2.2.2) with h7986 | h7986
          ·replace h := ofT h7986 h
           refine woo 9 [(4, .known true), (6, .known true), (8, .known true), (10, .known true), (12, .known true), (15, .val (.dat .bool true))] [(0, aD (.slice tC) a0), (1, .one (.slc 19)), (5, aB x7268.1), (7, .one (.ptr 7 0)), (8, aI x7947.1), (9, aI x7947.2.1), (10, aI x7947.2.2.1), (11, aB true), (13, aI v7949), (23, aD (.slice tC) a0), (24, aI (List.length a0 : Int)), (25, aI i7267), (30, aD (.slice tI) v7270.1), (31, aI (List.length v7270.1 : Int)), (32, aI i7946)] [(7, .one tC v7270), (19, .seq tI x7268.2)] [(x7947.2.2.2 = true), (x7947.2.2.2 = true), (x7947.2.2.2 = true), (x7947.2.2.2 = true), (x7947.2.2.2 = true), (x7947.2.2.2 = true)] (by kernel_rfl) (allP2 h7986 (allP2 h7986 (allP2 h7986 (allP2 h7986 (allP2 h7986 (allP1 h7986)))))) ?_
           obtain rfl := Option.some.inj h
           refine wf [(0, aD (.slice tC) a0), (1, .one (.slc 19)), (5, aB x7268.1), (7, .one (.ptr 7 0)), (8, aI x7947.1), (9, aI x7947.2.1), (10, aI x7947.2.2.1), (11, aB true), (13, aI v7949), (23, aD (.slice tC) a0), (24, aI (List.length a0 : Int)), (25, aI i7267), (30, aD (.slice tI) v7270.1), (31, aI (List.length v7270.1 : Int)), (32, aI i7946)] [(19, .seq tI x7268.2), (7, .one tC v7270)] (by kernel_rfl) ?_
           exact exM (by kernel_rfl)
          ·replace h := ofF h7986 h
           obtain ⟨v7987, h7988, h⟩ := bind_of h
           refine woo 9 [(4, .known false), (6, .known false), (8, .known false), (10, .known false), (11, .val (.dat tI v7987)), (12, .known false), (15, .val (.dat .bool false))] [(0, aD (.slice tC) a0), (1, .one (.slc 19)), (5, aB x7268.1), (7, .one (.ptr 7 0)), (8, aI x7947.1), (9, aI x7947.2.1), (10, aI x7947.2.2.1), (11, aB (v7987 == (1 : Int))), (13, aI v7949), (23, aD (.slice tC) a0), (24, aI (List.length a0 : Int)), (25, aI i7267), (30, aD (.slice tI) v7270.1), (31, aI (List.length v7270.1 : Int)), (32, aI i7946)] [(7, .one tC v7270), (19, .seq tI x7268.2)] [(x7947.2.2.2 = false), (x7947.2.2.2 = false), (x7947.2.2.2 = false), InR v7949 (List.length x7268.2), (x7947.2.2.2 = false), Idx x7268.2 v7949 v7987, (x7947.2.2.2 = false), (x7947.2.2.2 = false)] (by kernel_rfl) (allP2 h7986 (allP2 h7986 (allP2 h7986 (allP2 (InR.of h7988) (allP2 h7986 (allP2 (Idx.of h7988) (allP2 h7986 (allP1 h7986)))))))) ?_
           obtain rfl := Option.some.inj h
           refine wf [(0, aD (.slice tC) a0), (1, .one (.slc 19)), (5, aB x7268.1), (7, .one (.ptr 7 0)), (8, aI x7947.1), (9, aI x7947.2.1), (10, aI x7947.2.2.1), (11, aB (v7987 == (1 : Int))), (13, aI v7949), (23, aD (.slice tC) a0), (24, aI (List.length a0 : Int)), (25, aI i7267), (30, aD (.slice tI) v7270.1), (31, aI (List.length v7270.1 : Int)), (32, aI i7946)] [(19, .seq tI x7268.2), (7, .one tC v7270)] (by kernel_rfl) ?_
           exact exM (by kernel_rfl)
         ·intro e fr L hJ
          obtain ⟨rfl, rfl, rfl⟩ := hJ
          refine ltk [(0, aD (.slice tC) a0), (1, .one (.slc 19)), (5, aB x7268.1), (7, .one (.ptr 7 0)), (8, aI x7947.1), (9, aI x7947.2.1), (10, aI x7947.2.2.1), (11, aB v7989), (13, aI v7949), (23, aD (.slice tC) a0), (24, aI (List.length a0 : Int)), (25, aI i7267), (30, aD (.slice tI) v7270.1), (31, aI (List.length v7270.1 : Int)), (32, aI i7946)] [(19, .seq tI x7268.2), (7, .one tC v7270)] (by kernel_rfl) ?_
          refine seqQ_norm ?_
          refine W_seq (by kernel_rfl) ?_
          obtain ⟨v7991, h7992, h⟩ := bind_of h
          refine W_run 5 [(7, .val (.dat tI v7991))] [0, 1, 5, 7, 8, 9, 10, 11, 13, 23, 24, 25, 30, 31, 32, 48] [19, 7] (fr' := [(0, aD (.slice tC) a0), (1, .one (.slc 19)), (5, aB x7268.1), (7, .one (.ptr 7 0)), (8, aI x7947.1), (9, aI x7947.2.1), (10, aI x7947.2.2.1), (11, aB v7989), (13, aI v7949), (23, aD (.slice tC) a0), (24, aI (List.length a0 : Int)), (25, aI i7267), (30, aD (.slice tI) v7270.1), (31, aI (List.length v7270.1 : Int)), (32, aI i7946), (48, aB (decide (v7991 < (0 : Int))))]) (L' := [(19, .seq tI x7268.2), (7, .one tC v7270)]) (obs := [InR v7949 (List.length x7268.2), Idx x7268.2 v7949 v7991]) (by kernel_rfl) (by kernel_rfl) (by kernel_rfl) (allP2 (InR.of h7992) (allP1 (Idx.of h7992))) ?_
          refine seqQ_norm ?_
          refine W_cond (o := .tmp 48) (b := decide (v7991 < (0 : Int))) (by kernel_rfl) (by kernel_rfl) (fun h7993 => ?_) (fun h7993 => ?_)
          ·replace h := ofT h7993 h
           refine srL [(0, aD (.slice tC) a0), (1, .one (.slc 19)), (5, aB x7268.1), (7, .one (.ptr 7 0)), (8, aI v7949), (10, aI x7947.2.2.1), (11, aB v7989), (23, aD (.slice tC) a0), (24, aI (List.length a0 : Int)), (25, aI i7267), (30, aD (.slice tI) v7270.1), (31, aI (List.length v7270.1 : Int)), (32, aI i7946)] (by kernel_rfl) ?_
           refine srL [(0, aD (.slice tC) a0), (1, .one (.slc 19)), (5, aB x7268.1), (7, .one (.ptr 7 0)), (8, aI v7949), (9, aI (1 : Int)), (10, aI x7947.2.2.1), (11, aB v7989), (23, aD (.slice tC) a0), (24, aI (List.length a0 : Int)), (25, aI i7267), (30, aD (.slice tI) v7270.1), (31, aI (List.length v7270.1 : Int)), (32, aI i7946)] (by kernel_rfl) ?_
           obtain rfl := Option.some.inj h
           refine swL [(0, aD (.slice tC) a0), (1, .one (.slc 19)), (5, aB x7268.1), (7, .one (.ptr 7 0)), (8, aI v7949), (9, aI (1 : Int)), (10, aI (w64 (x7947.2.2.1 + (1 : Int)))), (11, aB v7989), (23, aD (.slice tC) a0), (24, aI (List.length a0 : Int)), (25, aI i7267), (30, aD (.slice tI) v7270.1), (31, aI (List.length v7270.1 : Int)), (32, aI i7946)] (by kernel_rfl) ?_
           refine blockQ_norm ?_
           exact exM (by kernel_rfl)
          ·replace h := ofF h7993 h
           obtain rfl := Option.some.inj h
           refine wkL [(0, aD (.slice tC) a0), (1, .one (.slc 19)), (5, aB x7268.1), (7, .one (.ptr 7 0)), (8, aI x7947.1), (9, aI x7947.2.1), (10, aI x7947.2.2.1), (11, aB v7989), (23, aD (.slice tC) a0), (24, aI (List.length a0 : Int)), (25, aI i7267), (30, aD (.slice tI) v7270.1), (31, aI (List.length v7270.1 : Int)), (32, aI i7946)] (by kernel_rfl) ?_
           refine blockQ_norm ?_
           exact exM (by kernel_rfl)
        ·intro e fr L hJ
         obtain ⟨rfl, rfl, rfl⟩ := hJ
         refine ltk [(0, aD (.slice tC) a0), (1, .one (.slc 19)), (5, aB x7268.1), (7, .one (.ptr 7 0)), (8, aI v7994.1), (9, aI v7994.2.1), (10, aI v7994.2.2.1), (11, aB v7994.2.2.2), (23, aD (.slice tC) a0), (24, aI (List.length a0 : Int)), (25, aI i7267), (30, aD (.slice tI) v7270.1), (31, aI (List.length v7270.1 : Int)), (32, aI i7946)] [(19, .seq tI x7268.2), (7, .one tC v7270)] (by kernel_rfl) ?_
         refine seqQ_norm ?_
         obtain rfl := Option.some.inj h
         refine swL [(0, aD (.slice tC) a0), (1, .one (.slc 19)), (5, aB x7268.1), (7, .one (.ptr 7 0)), (8, aI v7994.1), (9, aI v7994.2.1), (10, aI v7994.2.2.1), (11, aB v7994.2.2.2), (23, aD (.slice tC) a0), (24, aI (List.length a0 : Int)), (25, aI i7267), (30, aD (.slice tI) v7270.1), (31, aI (List.length v7270.1 : Int)), (32, aI (w64 (i7946 + (1 : Int))))] (by kernel_rfl) ?_
         exact round_next' (by kernel_rfl) (by kernel_rfl)
       ·obtain rfl := stepL_false h7951 h
        refine wxL 4 [(0, aD (.slice tC) a0), (1, .one (.slc 19)), (5, aB x7268.1), (7, .one (.ptr 7 0)), (8, aI x7947.1), (9, aI x7947.2.1), (10, aI x7947.2.2.1), (11, aB x7947.2.2.2), (23, aD (.slice tC) a0), (24, aI (List.length a0 : Int)), (25, aI i7267)] (by kernel_rfl) ?_
        refine seqQ_exit ?_
        refine round_exit ?_
        exact exM (by kernel_rfl)
      ·intro e fr L hJ
       obtain ⟨rfl, rfl, rfl⟩ := hJ
       refine ltk [(0, aD (.slice tC) a0), (1, .one (.slc 19)), (5, aB x7268.1), (7, .one (.ptr 7 0)), (8, aI v7997.1), (9, aI v7997.2.1), (10, aI v7997.2.2.1), (11, aB v7997.2.2.2), (23, aD (.slice tC) a0), (24, aI (List.length a0 : Int)), (25, aI i7267)] [(19, .seq tI x7268.2), (7, .one tC v7270)] (by kernel_rfl) ?_
       refine blockQ_hit ?_
       refine seqQ_norm ?_
       refine W_seq (by kernel_rfl) ?_
       refine sr [(0, aD (.slice tC) a0), (1, .one (.slc 19)), (5, aB x7268.1), (8, aI v7997.1), (9, aI v7997.2.1), (10, aI v7997.2.2.1), (11, aB v7997.2.2.2), (23, aD (.slice tC) a0), (24, aI (List.length a0 : Int)), (25, aI i7267), (54, aD (.slice tI) v7270.2), (55, aI (List.length v7270.2 : Int)), (56, aI (0 : Int))] [(19, .seq tI x7268.2)] (by kernel_rfl) ?_
       refine W_block (id := 6) (by kernel_rfl) ?_
       obtain ⟨v8157, h8158, h⟩ := bind_of h
       refine W_len (t := 54) (u := tI) (xs := v7270.2) (by kernel_rfl) (fun h8161 => ?_)
       obtain ⟨h8159, h8160⟩ := forL_iter h8161 h8158
       refine W_weaken [0, 1, 5, 8, 9, 10, 11, 23, 24, 25, 54, 55, 56] [19] (fr' := ((ref_choices_s913 a0 i7267 x7268 v7270) ((0 : Int), (v7997.1, v7997.2.1, v7997.2.2.1, v7997.2.2.2))).1) (L' := ((ref_choices_s913 a0 i7267 x7268 v7270) ((0 : Int), (v7997.1, v7997.2.1, v7997.2.2.1, v7997.2.2.2))).2) (by kernel_rfl) ?_
       refine W_cutK (W_loop (S := (ref_choices_s913 a0 i7267 x7268 v7270)) (J := (exQ (.exit 6) (ref_choices_s914 a0 i7267 x7268))) (by kernel_rfl) ?_ h8159 _ v8157 h8160) ?_
       ·rintro ⟨i8106, x8107⟩ s h
        refine sr [(0, aD (.slice tC) a0), (1, .one (.slc 19)), (5, aB x7268.1), (8, aI x8107.1), (9, aI x8107.2.1), (10, aI x8107.2.2.1), (11, aB x8107.2.2.2), (23, aD (.slice tC) a0), (24, aI (List.length a0 : Int)), (25, aI i7267), (54, aD (.slice tI) v7270.2), (55, aI (List.length v7270.2 : Int)), (56, aI i8106), (57, aB (decide (i8106 < (List.length v7270.2 : Int))))] [(19, .seq tI x7268.2)] (by kernel_rfl) ?_
        refine W_seq (by kernel_rfl) ?_
        refine W_cond (o := .tmp 57) (b := decide (i8106 < (List.length v7270.2 : Int))) (by kernel_rfl) (by kernel_rfl) (fun h8111 => ?_) (fun h8111 => ?_)
        ·replace h := stepL_true h8111 h
         obtain ⟨v8109, _, h8110, h, rfl⟩ := h
         refine wkL [(0, aD (.slice tC) a0), (1, .one (.slc 19)), (5, aB x7268.1), (8, aI x8107.1), (9, aI x8107.2.1), (10, aI x8107.2.2.1), (11, aB x8107.2.2.2), (23, aD (.slice tC) a0), (24, aI (List.length a0 : Int)), (25, aI i7267), (54, aD (.slice tI) v7270.2), (55, aI (List.length v7270.2 : Int)), (56, aI i8106)] (by kernel_rfl) ?_
         refine seqQ_norm ?_
         refine W_seq (by kernel_rfl) ?_
         obtain ⟨v8154, h8155, h⟩ := bind_of h
         refine W_cutK (Q' := (exQ .normal (ref_choices_s911 a0 i7267 x7268 v7270 i8106)) v8154) ?_ ?_
         ·replace h := h8155
          refine W_block (id := 7) (by kernel_rfl) ?_
          refine sro [(1, .val (.dat tI v8109))] [(0, aD (.slice tC) a0), (1, .one (.slc 19)), (5, aB x7268.1), (8, aI x8107.1), (9, aI x8107.2.1), (10, aI x8107.2.2.1), (11, aB x8107.2.2.2), (15, aI v8109), (23, aD (.slice tC) a0), (24, aI (List.length a0 : Int)), (25, aI i7267), (54, aD (.slice tI) v7270.2), (55, aI (List.length v7270.2 : Int)), (56, aI i8106)] [(19, .seq tI x7268.2)] [Idx v7270.2 i8106 v8109] (by kernel_rfl) (allP1 (Idx.of h8110)) ?_
          refine W_seq (by kernel_rfl) ?_
          obtain ⟨v8149, h8150, h⟩ := bind_of h
          refine W_cutK (Q' := (exQ .normal (ref_choices_s909 a0 i7267 x7268 v7270 i8106 x8107 v8109)) v8149) ?_ ?_
          ·replace h := h8150
           refine W_region (by kernel_rfl) ?_
           refine wo 2 [(0, aD (.slice tC) a0), (1, .one (.slc 19)), (5, aB x7268.1), (8, aI x8107.1), (9, aI x8107.2.1), (10, aI x8107.2.2.1), (11, aB x8107.2.2.2), (15, aI v8109), (23, aD (.slice tC) a0), (24, aI (List.length a0 : Int)), (25, aI i7267), (54, aD (.slice tI) v7270.2), (55, aI (List.length v7270.2 : Int)), (56, aI i8106), (61, aB x8107.2.2.2)] [(19, .seq tI x7268.2)] (by kernel_rfl) ?_
           rcases Bool.eq_false_or_eq_true (x8107.2.2.2) with h8146 | h8146
           ·replace h := ofT h8146 h
            refine woo 9 [(4, .known true), (6, .known true), (8, .known true), (10, .known true), (12, .known true), (15, .val (.dat .bool true))] [(0, aD (.slice tC) a0), (1, .one (.slc 19)), (5, aB x7268.1), (8, aI x8107.1), (9, aI x8107.2.1), (10, aI x8107.2.2.1), (11, aB true), (15, aI v8109), (23, aD (.slice tC) a0), (24, aI (List.length a0 : Int)), (25, aI i7267), (54, aD (.slice tI) v7270.2), (55, aI (List.length v7270.2 : Int)), (56, aI i8106)] [(19, .seq tI x7268.2)] [(x8107.2.2.2 = true), (x8107.2.2.2 = true), (x8107.2.2.2 = true), (x8107.2.2.2 = true), (x8107.2.2.2 = true), (x8107.2.2.2 = true)] (by kernel_rfl) (allP2 h8146 (allP2 h8146 (allP2 h8146 (allP2 h8146 (allP2 h8146 (allP1 h8146)))))) ?_
            obtain rfl := Option.some.inj h
            refine wfL [(0, aD (.slice tC) a0), (1, .one (.slc 19)), (5, aB x7268.1), (8, aI x8107.1), (9, aI x8107.2.1), (10, aI x8107.2.2.1), (11, aB true), (15, aI v8109), (23, aD (.slice tC) a0), (24, aI (List.length a0 : Int)), (25, aI i7267), (54, aD (.slice tI) v7270.2), (55, aI (List.length v7270.2 : Int)), (56, aI i8106)] (by kernel_rfl) ?_
            exact exM (by kernel_rfl)
           ·replace h := ofF h8146 h
            obtain ⟨v8147, h8148, h⟩ := bind_of h
            refine woo 9 [(4, .known false), (6, .known false), (8, .known false), (10, .known false), (11, .val (.dat tI v8147)), (12, .known false), (15, .val (.dat .bool false))] [(0, aD (.slice tC) a0), (1, .one (.slc 19)), (5, aB x7268.1), (8, aI x8107.1), (9, aI x8107.2.1), (10, aI x8107.2.2.1), (11, aB (v8147 == (0 : Int))), (15, aI v8109), (23, aD (.slice tC) a0), (24, aI (List.length a0 : Int)), (25, aI i7267), (54, aD (.slice tI) v7270.2), (55, aI (List.length v7270.2 : Int)), (56, aI i8106)] [(19, .seq tI x7268.2)] [(x8107.2.2.2 = false), (x8107.2.2.2 = false), (x8107.2.2.2 = false), InR v8109 (List.length x7268.2), (x8107.2.2.2 = false), Idx x7268.2 v8109 v8147, (x8107.2.2.2 = false), (x8107.2.2.2 = false)] (by kernel_rfl) (allP2 h8146 (allP2 h8146 (allP2 h8146 (allP2 (InR.of h8148) (allP2 h8146 (allP2 (Idx.of h8148) (allP2 h8146 (allP1 h8146)))))))) ?_
            obtain rfl := Option.some.inj h
            refine wfL [(0, aD (.slice tC) a0), (1, .one (.slc 19)), (5, aB x7268.1), (8, aI x8107.1), (9, aI x8107.2.1), (10, aI x8107.2.2.1), (11, aB (v8147 == (0 : Int))), (15, aI v8109), (23, aD (.slice tC) a0), (24, aI (List.length a0 : Int)), (25, aI i7267), (54, aD (.slice tI) v7270.2), (55, aI (List.length v7270.2 : Int)), (56, aI i8106)] (by kernel_rfl) ?_
            exact exM (by kernel_rfl)
          ·intro e fr L hJ
           obtain ⟨rfl, rfl, rfl⟩ := hJ
           refine ltk [(0, aD (.slice tC) a0), (1, .one (.slc 19)), (5, aB x7268.1), (8, aI x8107.1), (9, aI x8107.2.1), (10, aI x8107.2.2.1), (11, aB v8149), (15, aI v8109), (23, aD (.slice tC) a0), (24, aI (List.length a0 : Int)), (25, aI i7267), (54, aD (.slice tI) v7270.2), (55, aI (List.length v7270.2 : Int)), (56, aI i8106)] [(19, .seq tI x7268.2)] (by kernel_rfl) ?_
           refine seqQ_norm ?_
           refine W_seq (by kernel_rfl) ?_
           obtain ⟨v8151, h8152, h⟩ := bind_of h
           refine W_run 5 [(7, .val (.dat tI v8151))] [0, 1, 5, 8, 9, 10, 11, 15, 23, 24, 25, 54, 55, 56, 72] [19] (fr' := [(0, aD (.slice tC) a0), (1, .one (.slc 19)), (5, aB x7268.1), (8, aI x8107.1), (9, aI x8107.2.1), (10, aI x8107.2.2.1), (11, aB v8149), (15, aI v8109), (23, aD (.slice tC) a0), (24, aI (List.length a0 : Int)), (25, aI i7267), (54, aD (.slice tI) v7270.2), (55, aI (List.length v7270.2 : Int)), (56, aI i8106), (72, aB (decide (v8151 < (0 : Int))))]) (L' := [(19, .seq tI x7268.2)]) (obs := [InR v8109 (List.length x7268.2), Idx x7268.2 v8109 v8151]) (by kernel_rfl) (by kernel_rfl) (by kernel_rfl) (allP2 (InR.of h8152) (allP1 (Idx.of h8152))) ?_
           refine seqQ_norm ?_
           refine W_cond (o := .tmp 72) (b := decide (v8151 < (0 : Int))) (by kernel_rfl) (by kernel_rfl) (fun h8153 => ?_) (fun h8153 => ?_)
           ·replace h := ofT h8153 h
            refine srL [(0, aD (.slice tC) a0), (1, .one (.slc 19)), (5, aB x7268.1), (8, aI v8109), (10, aI x8107.2.2.1), (11, aB v8149), (23, aD (.slice tC) a0), (24, aI (List.length a0 : Int)), (25, aI i7267), (54, aD (.slice tI) v7270.2), (55, aI (List.length v7270.2 : Int)), (56, aI i8106)] (by kernel_rfl) ?_
            refine srL [(0, aD (.slice tC) a0), (1, .one (.slc 19)), (5, aB x7268.1), (8, aI v8109), (9, aI (0 : Int)), (10, aI x8107.2.2.1), (11, aB v8149), (23, aD (.slice tC) a0), (24, aI (List.length a0 : Int)), (25, aI i7267), (54, aD (.slice tI) v7270.2), (55, aI (List.length v7270.2 : Int)), (56, aI i8106)] (by kernel_rfl) ?_
            obtain rfl := Option.some.inj h
            refine swL [(0, aD (.slice tC) a0), (1, .one (.slc 19)), (5, aB x7268.1), (8, aI v8109), (9, aI (0 : Int)), (10, aI (w64 (x8107.2.2.1 + (1 : Int)))), (11, aB v8149), (23, aD (.slice tC) a0), (24, aI (List.length a0 : Int)), (25, aI i7267), (54, aD (.slice tI) v7270.2), (55, aI (List.length v7270.2 : Int)), (56, aI i8106)] (by kernel_rfl) ?_
            refine blockQ_norm ?_
            exact exM (by kernel_rfl)
           ·replace h := ofF h8153 h
            obtain rfl := Option.some.inj h
            refine wkL [(0, aD (.slice tC) a0), (1, .one (.slc 19)), (5, aB x7268.1), (8, aI x8107.1), (9, aI x8107.2.1), (10, aI x8107.2.2.1), (11, aB v8149), (23, aD (.slice tC) a0), (24, aI (List.length a0 : Int)), (25, aI i7267), (54, aD (.slice tI) v7270.2), (55, aI (List.length v7270.2 : Int)), (56, aI i8106)] (by kernel_rfl) ?_
            refine blockQ_norm ?_
            exact exM (by kernel_rfl)
         ·intro e fr L hJ
          obtain ⟨rfl, rfl, rfl⟩ := hJ
          refine ltk [(0, aD (.slice tC) a0), (1, .one (.slc 19)), (5, aB x7268.1), (8, aI v8154.1), (9, aI v8154.2.1), (10, aI v8154.2.2.1), (11, aB v8154.2.2.2), (23, aD (.slice tC) a0), (24, aI (List.length a0 : Int)), (25, aI i7267), (54, aD (.slice tI) v7270.2), (55, aI (List.length v7270.2 : Int)), (56, aI i8106)] [(19, .seq tI x7268.2)] (by kernel_rfl) ?_
          refine seqQ_norm ?_
          obtain rfl := Option.some.inj h
          refine swL [(0, aD (.slice tC) a0), (1, .one (.slc 19)), (5, aB x7268.1), (8, aI v8154.1), (9, aI v8154.2.1), (10, aI v8154.2.2.1), (11, aB v8154.2.2.2), (23, aD (.slice tC) a0), (24, aI (List.length a0 : Int)), (25, aI i7267), (54, aD (.slice tI) v7270.2), (55, aI (List.length v7270.2 : Int)), (56, aI (w64 (i8106 + (1 : Int))))] (by kernel_rfl) ?_
          exact round_next' (by kernel_rfl) (by kernel_rfl)
        ·obtain rfl := stepL_false h8111 h
         refine wxL 6 [(0, aD (.slice tC) a0), (1, .one (.slc 19)), (5, aB x7268.1), (8, aI x8107.1), (9, aI x8107.2.1), (10, aI x8107.2.2.1), (11, aB x8107.2.2.2), (23, aD (.slice tC) a0), (24, aI (List.length a0 : Int)), (25, aI i7267)] (by kernel_rfl) ?_
         refine seqQ_exit ?_
         refine round_exit ?_
         exact exM (by kernel_rfl)
       ·intro e fr L hJ
        obtain ⟨rfl, rfl, rfl⟩ := hJ
        refine ltk [(0, aD (.slice tC) a0), (1, .one (.slc 19)), (5, aB x7268.1), (8, aI v8157.1), (9, aI v8157.2.1), (10, aI v8157.2.2.1), (11, aB v8157.2.2.2), (23, aD (.slice tC) a0), (24, aI (List.length a0 : Int)), (25, aI i7267)] [(19, .seq tI x7268.2)] (by kernel_rfl) ?_
        refine blockQ_hit ?_
        refine seqQ_norm ?_
        refine W_seq (by kernel_rfl) ?_
        refine sr [(0, aD (.slice tC) a0), (1, .one (.slc 19)), (5, aB x7268.1), (8, aI v8157.1), (9, aI v8157.2.1), (10, aI v8157.2.2.1), (23, aD (.slice tC) a0), (24, aI (List.length a0 : Int)), (25, aI i7267), (77, aB v8157.2.2.2)] [(19, .seq tI x7268.2)] (by kernel_rfl) ?_
        refine W_cond (o := .tmp 77) (b := v8157.2.2.2) (by kernel_rfl) (by kernel_rfl) (fun h8162 => ?_) (fun h8162 => ?_)
        ·replace h := ofT h8162 h
         obtain rfl := Option.some.inj h
         refine wxL 3 [(0, aD (.slice tC) a0), (1, .one (.slc 19)), (5, aB x7268.1), (23, aD (.slice tC) a0), (24, aI (List.length a0 : Int)), (25, aI i7267)] (by kernel_rfl) ?_
         refine seqQ_exit ?_
         refine blockQ_hit ?_
         refine escQ_brk ?_
         exact exM (by kernel_rfl)
        ·replace h := ofF h8162 h
         refine wkL [(0, aD (.slice tC) a0), (1, .one (.slc 19)), (5, aB x7268.1), (8, aI v8157.1), (9, aI v8157.2.1), (10, aI v8157.2.2.1), (23, aD (.slice tC) a0), (24, aI (List.length a0 : Int)), (25, aI i7267)] (by kernel_rfl) ?_
         refine seqQ_norm ?_
         refine W_seq (by kernel_rfl) ?_
         refine srL [(0, aD (.slice tC) a0), (1, .one (.slc 19)), (5, aB x7268.1), (8, aI v8157.1), (9, aI v8157.2.1), (10, aI v8157.2.2.1), (23, aD (.slice tC) a0), (24, aI (List.length a0 : Int)), (25, aI i7267), (79, aB (v8157.2.2.1 == (0 : Int)))] (by kernel_rfl) ?_
         refine W_cond (o := .tmp 79) (b := v8157.2.2.1 == (0 : Int)) (by kernel_rfl) (by kernel_rfl) (fun h8163 => ?_) (fun h8163 => ?_)
         ·replace h := ofT h8163 h
          refine sr [(4, aI (0 : Int))] [] (by kernel_rfl) ?_
          obtain rfl := Option.some.inj h
          refine wtL [(4, aI (0 : Int))] (by kernel_rfl) ?_
          refine seqQ_ret ?_
          refine blockQ_ret ?_
          refine escQ_ret ?_
          exact exM (by kernel_rfl)
         ·replace h := ofF h8163 h
          refine wkL [(0, aD (.slice tC) a0), (1, .one (.slc 19)), (5, aB x7268.1), (8, aI v8157.1), (9, aI v8157.2.1), (10, aI v8157.2.2.1), (23, aD (.slice tC) a0), (24, aI (List.length a0 : Int)), (25, aI i7267)] (by kernel_rfl) ?_
          refine seqQ_norm ?_
          refine srL [(0, aD (.slice tC) a0), (1, .one (.slc 19)), (5, aB x7268.1), (8, aI v8157.1), (9, aI v8157.2.1), (23, aD (.slice tC) a0), (24, aI (List.length a0 : Int)), (25, aI i7267), (81, aB (v8157.2.2.1 == (1 : Int)))] (by kernel_rfl) ?_
          refine W_cond (o := .tmp 81) (b := v8157.2.2.1 == (1 : Int)) (by kernel_rfl) (by kernel_rfl) (fun h8164 => ?_) (fun h8164 => ?_)
          ·replace h := ofT h8164 h
           refine W_seq (by kernel_rfl) ?_
           obtain ⟨v8165, h8166, h⟩ := bind_of h
           refine W_run 5 [] [0, 1, 23, 24, 25] [19] (fr' := [(0, aD (.slice tC) a0), (1, .one (.slc 19)), (23, aD (.slice tC) a0), (24, aI (List.length a0 : Int)), (25, aI i7267)]) (L' := [(19, .seq tI (List.set x7268.2 (Int.toNat v8157.1) v8157.2.1))]) (obs := [InR v8157.1 (List.length x7268.2), InR v8157.1 (List.length x7268.2)]) (by kernel_rfl) (by kernel_rfl) (by kernel_rfl) (allP2 (InR.of h8166) (allP1 (InR.of h8166))) ?_
           refine seqQ_norm ?_
           obtain rfl := Option.some.inj h
           refine swL [(0, aD (.slice tC) a0), (1, .one (.slc 19)), (5, aB true), (23, aD (.slice tC) a0), (24, aI (List.length a0 : Int)), (25, aI i7267)] (by kernel_rfl) ?_
           refine blockQ_norm ?_
           refine escQ_brk ?_
           exact exM (by kernel_rfl)
          ·replace h := ofF h8164 h
           obtain rfl := Option.some.inj h
           refine wkL [(0, aD (.slice tC) a0), (1, .one (.slc 19)), (5, aB x7268.1), (23, aD (.slice tC) a0), (24, aI (List.length a0 : Int)), (25, aI i7267)] (by kernel_rfl) ?_
           refine blockQ_norm ?_
           refine escQ_brk ?_
           exact exM (by kernel_rfl)
     ·intro e fr L hJ
      rcases v8167 with v8169 | v8170
      ·obtain ⟨rfl, rfl, rfl⟩ := hJ
       obtain rfl := Option.some.inj h
       refine ltk [(4, aI v8169)] [] (by kernel_rfl) ?_
       refine seqQ_ret ?_
       refine round_ret ?_
       refine escQ_ret ?_
       exact exM (by kernel_rfl)
      ·obtain ⟨rfl, rfl, rfl⟩ := hJ
       refine ltk [(0, aD (.slice tC) a0), (1, .one (.slc 19)), (5, aB v8170.1), (23, aD (.slice tC) a0), (24, aI (List.length a0 : Int)), (25, aI i7267)] [(19, .seq tI v8170.2)] (by kernel_rfl) ?_
       refine seqQ_norm ?_
       obtain rfl := Option.some.inj h
       refine swL [(0, aD (.slice tC) a0), (1, .one (.slc 19)), (5, aB v8170.1), (23, aD (.slice tC) a0), (24, aI (List.length a0 : Int)), (25, aI (w64 (i7267 + (1 : Int))))] (by kernel_rfl) ?_
       exact round_next' (by kernel_rfl) (by kernel_rfl)
    ·obtain rfl := stepL_false h7272 h
     refine wxL 2 [(0, aD (.slice tC) a0), (1, .one (.slc 19)), (5, aB x7268.1)] (by kernel_rfl) ?_
     refine seqQ_exit ?_
     refine round_exit ?_
     refine escQ_brk ?_
     exact exM (by kernel_rfl)
   ·intro e fr L hJ
    rcases v8172 with v8177 | v8178
    ·obtain ⟨rfl, rfl, rfl⟩ := hJ
     obtain rfl := Option.some.inj h
     refine ltk [(4, aI v8177)] [] (by kernel_rfl) ?_
     refine blockQ_ret ?_
     refine blockQ_ret ?_
     refine round_ret ?_
     refine escQ_ret ?_
     exact exM (by kernel_rfl)
    ·obtain ⟨rfl, rfl, rfl⟩ := hJ
     obtain rfl := Option.some.inj h
     refine ltk [(0, aD (.slice tC) a0), (1, .one (.slc 19)), (5, aB v8178.1)] [(19, .seq tI v8178.2)] (by kernel_rfl) ?_
     refine blockQ_hit ?_
     refine blockQ_norm ?_
     exact round_next' (by kernel_rfl) (by kernel_rfl)
  ·replace h := ofF h5454 h
   obtain rfl := Option.some.inj h
   refine wxL 0 [(0, aD (.slice tC) a0), (1, .one (.slc 19))] (by kernel_rfl) ?_
   refine seqQ_exit ?_
   refine round_exit ?_
   refine escQ_brk ?_
   exact exM (by kernel_rfl)
 ·intro e fr L hJ
  rcases v8179 with v8183 | v8184
  ·obtain ⟨rfl, rfl, rfl⟩ := hJ
   obtain rfl := Option.some.inj h
   refine ltk [(4, aI v8183)] [] (by kernel_rfl) ?_
   refine blockQ_ret ?_
   refine seqQ_ret ?_
   exact retM (by kernel_rfl)
  ·obtain ⟨rfl, rfl, rfl⟩ := hJ
   refine ltk [(0, aD (.slice tC) a0), (1, .one (.slc 19))] [(19, .seq tI v8184)] (by kernel_rfl) ?_
   refine blockQ_hit ?_
   refine seqQ_norm ?_
   refine W_seq (by kernel_rfl) ?_
   refine sr [(0, aD (.slice tC) a0), (1, .one (.slc 19)), (16, aI (0 : Int))] [(19, .seq tI v8184)] (by kernel_rfl) ?_
   refine W_block (id := 8) (by kernel_rfl) ?_
   obtain ⟨v8227, h8228, h⟩ := bind_of h
   refine W_lenS (s := 19) (u := tI) (xs := v8184) (by kernel_rfl) (fun h8231 => ?_)
   obtain ⟨h8229, h8230⟩ := forL_iter h8231 h8228
   refine W_weaken [0, 1, 16] [19] (fr' := ((ref_choices_s927 a0 v8184) ((0 : Int), ())).1) (L' := ((ref_choices_s927 a0 v8184) ((0 : Int), ())).2) (by kernel_rfl) ?_
   refine W_cutK (W_loop (S := (ref_choices_s927 a0 v8184)) (J := (escQ (exQ .ret ref_choices_s928) (exQ (.exit 8) ref_choices_s929))) (by kernel_rfl) ?_ h8229 _ v8227 h8230) ?_
   ·rintro ⟨i8211, x8212⟩ s h
    refine W_seq (by kernel_rfl) ?_
    refine sr [(0, aD (.slice tC) a0), (1, .one (.slc 19)), (16, aI i8211), (90, aB (decide (i8211 < (List.length v8184 : Int))))] [(19, .seq tI v8184)] (by kernel_rfl) ?_
    refine W_cond (o := .tmp 90) (b := decide (i8211 < (List.length v8184 : Int))) (by kernel_rfl) (by kernel_rfl) (fun h8216 => ?_) (fun h8216 => ?_)
    ·replace h := stepL_true h8216 h
     obtain ⟨v8214, _, h8215, h, rfl⟩ := h
     refine wkL [(0, aD (.slice tC) a0), (1, .one (.slc 19)), (16, aI i8211)] (by kernel_rfl) ?_
     refine seqQ_norm ?_
     refine W_seq (by kernel_rfl) ?_
     refine W_block (id := 9) (by kernel_rfl) ?_
     refine W_seq (by kernel_rfl) ?_
     refine sro [(7, .val (.dat tI v8214))] [(0, aD (.slice tC) a0), (1, .one (.slc 19)), (16, aI i8211), (97, aB (decide (v8214 ≥ (0 : Int))))] [(19, .seq tI v8184)] [InR i8211 (List.length v8184), Idx v8184 i8211 v8214] (by kernel_rfl) (allP2 (InR.of h8215) (allP1 (Idx.of h8215))) ?_
     refine W_cond (o := .tmp 97) (b := decide (v8214 ≥ (0 : Int))) (by kernel_rfl) (by kernel_rfl) (fun h8217 => ?_) (fun h8217 => ?_)
     ·replace h := ofT h8217 h
      refine wxL 9 [(0, aD (.slice tC) a0), (1, .one (.slc 19)), (16, aI i8211)] (by kernel_rfl) ?_
      refine seqQ_exit ?_
      refine blockQ_hit ?_
      refine seqQ_norm ?_
      obtain rfl := Option.some.inj h
      refine sw [(0, aD (.slice tC) a0), (1, .one (.slc 19)), (16, aI (w64 (i8211 + (1 : Int))))] [(19, .seq tI v8184)] (by kernel_rfl) ?_
      exact round_next' (by kernel_rfl) (by kernel_rfl)
     ·replace h := ofF h8217 h
      refine wkL [(0, aD (.slice tC) a0), (1, .one (.slc 19)), (16, aI i8211)] (by kernel_rfl) ?_
      refine seqQ_norm ?_
      refine sro [] [(0, aD (.slice tC) a0), (1, .one (.slc 19)), (16, aI i8211)] [(19, .seq tI (List.set v8184 (Int.toNat i8211) (0 : Int)))] [InR i8211 (List.length v8184), InR i8211 (List.length v8184)] (by kernel_rfl) (allP2 (InR.of h8215) (allP1 (InR.of h8215))) ?_
      refine W_seq (by kernel_rfl) ?_
      refine W_region (by kernel_rfl) ?_
      refine woL 2 [(0, aD (.slice tC) a0), (1, .one (.slc 19)), (16, aI i8211), (101, aD (.slice tC) a0), (102, .one (.slc 19))] (by kernel_rfl) ?_
      obtain ⟨r8218, h8219, h⟩ := bind_of h
      refine WO_lend [(1000, 19)] (us := [none, none]) (d := 103) (p := True) (j := 3) rfl ⟨by kernel_rfl, by kernel_rfl, by kernel_rfl⟩ trivial ((ref_choices_i2_ok ih_ref_choices) h8219) (by kernel_rfl) (by kernel_rfl) ?_
      refine wo 4 [(0, aD (.slice tC) a0), (1, .one (.slc 19)), (16, aI i8211), (17, aI r8218)] [(19, .seq tI (List.set v8184 (Int.toNat i8211) (0 : Int)))] (by kernel_rfl) ?_
      refine wfL [(0, aD (.slice tC) a0), (1, .one (.slc 19)), (16, aI i8211), (17, aI r8218)] (by kernel_rfl) ?_
      refine seqQ_norm ?_
      refine W_seq (by kernel_rfl) ?_
      refine srL [(0, aD (.slice tC) a0), (1, .one (.slc 19)), (16, aI i8211), (17, aI r8218), (105, aB (decide (r8218 > (1 : Int))))] (by kernel_rfl) ?_
      refine W_cond (o := .tmp 105) (b := decide (r8218 > (1 : Int))) (by kernel_rfl) (by kernel_rfl) (fun h8220 => ?_) (fun h8220 => ?_)
      ·replace h := ofT h8220 h
       refine sr [(4, aI (2 : Int))] [] (by kernel_rfl) ?_
       obtain rfl := Option.some.inj h
       refine wtL [(4, aI (2 : Int))] (by kernel_rfl) ?_
       refine seqQ_ret ?_
       refine blockQ_ret ?_
       refine seqQ_ret ?_
       refine round_ret ?_
       refine escQ_ret ?_
       exact exM (by kernel_rfl)
      ·replace h := ofF h8220 h
       refine wkL [(0, aD (.slice tC) a0), (1, .one (.slc 19)), (16, aI i8211), (17, aI r8218)] (by kernel_rfl) ?_
       refine seqQ_norm ?_
       refine W_seq (by kernel_rfl) ?_
       obtain ⟨v8221, h8222, h⟩ := bind_of h
       refine W_run 4 [] [0, 1, 17] [19] (fr' := [(0, aD (.slice tC) a0), (1, .one (.slc 19)), (17, aI r8218)]) (L' := [(19, .seq tI (List.set (List.set v8184 (Int.toNat i8211) (0 : Int)) (Int.toNat i8211) (1 : Int)))]) (obs := [InR i8211 (List.length (List.set v8184 (Int.toNat i8211) (0 : Int))), InR i8211 (List.length (List.set v8184 (Int.toNat i8211) (0 : Int)))]) (by kernel_rfl) (by kernel_rfl) (by kernel_rfl) (allP2 (InR.of h8222) (allP1 (InR.of h8222))) ?_
       refine seqQ_norm ?_
       refine W_seq (by kernel_rfl) ?_
       refine W_region (by kernel_rfl) ?_
       refine woL 2 [(17, aI r8218), (109, aD (.slice tC) a0), (110, .one (.slc 19))] (by kernel_rfl) ?_
       obtain ⟨r8223, h8224, h⟩ := bind_of h
       refine WO_frz 19 (by kernel_rfl) ?_
       refine WO_call0 (us := [none, none]) (d := 111) (p := True) (j := 3) rfl ⟨by kernel_rfl, by kernel_rfl, by kernel_rfl⟩ trivial (ih_ref_choices h8224) (by kernel_rfl) ?_
       refine wo 4 [(17, aI r8218), (18, aI r8223)] [] (by kernel_rfl) ?_
       refine wfL [(17, aI r8218), (18, aI r8223)] (by kernel_rfl) ?_
       refine seqQ_norm ?_
       refine W_seq (by kernel_rfl) ?_
       refine srL [(17, aI r8218), (18, aI r8223), (115, aB (decide ((w64 (r8218 + r8223)) > (2 : Int))))] (by kernel_rfl) ?_
       refine W_cond (o := .tmp 115) (b := decide ((w64 (r8218 + r8223)) > (2 : Int))) (by kernel_rfl) (by kernel_rfl) (fun h8225 => ?_) (fun h8225 => ?_)
       ·replace h := ofT h8225 h
        refine srL [(4, aI (2 : Int))] (by kernel_rfl) ?_
        obtain rfl := Option.some.inj h
        refine wtL [(4, aI (2 : Int))] (by kernel_rfl) ?_
        refine seqQ_ret ?_
        refine blockQ_ret ?_
        refine seqQ_ret ?_
        refine round_ret ?_
        refine escQ_ret ?_
        exact exM (by kernel_rfl)
       ·replace h := ofF h8225 h
        refine wkL [(17, aI r8218), (18, aI r8223)] (by kernel_rfl) ?_
        refine seqQ_norm ?_
        refine srL [(4, aI (w64 (r8218 + r8223)))] (by kernel_rfl) ?_
        obtain rfl := Option.some.inj h
        refine wtL [(4, aI (w64 (r8218 + r8223)))] (by kernel_rfl) ?_
        refine blockQ_ret ?_
        refine seqQ_ret ?_
        refine round_ret ?_
        refine escQ_ret ?_
        exact exM (by kernel_rfl)
    ·obtain rfl := stepL_false h8216 h
     refine wx 8 [] [] (by kernel_rfl) ?_
     refine seqQ_exit ?_
     refine round_exit ?_
     refine escQ_brk ?_
     exact exM (by kernel_rfl)
   ·intro e fr L hJ
    rcases v8227 with v8232 | v8233
    ·obtain ⟨rfl, rfl, rfl⟩ := hJ
     obtain rfl := Option.some.inj h
     refine ltk [(4, aI v8232)] [] (by kernel_rfl) ?_
     refine blockQ_ret ?_
     refine seqQ_ret ?_
     exact retM (by kernel_rfl)
    ·obtain ⟨rfl, rfl, rfl⟩ := hJ
     refine ltk [] [] (by kernel_rfl) ?_
     refine blockQ_hit ?_
     refine seqQ_norm ?_
     refine sr [(4, aI (1 : Int))] [] (by kernel_rfl) ?_
     obtain rfl := Option.some.inj h
     refine wtL [(4, aI (1 : Int))] (by kernel_rfl) ?_
     exact retM (by kernel_rfl)
theorem ref_choices_ok : ∀ {fuel : Nat} {a0 : (List ((List Int) × (List Int)))} {a1 : (List Int)} {r : Int}, ref_choices fuel a0 a1 = some r → FnC Try.prog 83 [aD (.slice tC) a0, aD (.slice tI) a1] [] (aI r) [] := by
 intro fuel
 induction fuel with
 | zero => intros a0 a1 r h; cases h
 | succ fuel ih => intros a0 a1 r h; exact ref_choices_step_ok (fun h => ih h) (show ref_choices_step (ref_choices fuel) fuel a0 a1 = some r from h)

def ref_Choices_g5 (a2 : (List Bool)) (i70 : Int) (x71 : (List Int)) : Option (List Int) :=
(idx x71 i70).bind fun v94 =>
bif decide (i70 < (List.length a2 : Int)) then
((idx (List.set x71 (Int.toNat i70) (-1 : Int)) i70).bind fun v97 =>
(idx a2 i70).bind fun v99 =>
bif v99 then
((idx (List.set (List.set x71 (Int.toNat i70) (-1 : Int)) (Int.toNat i70) (0 : Int)) i70).bind fun v102 =>
some (List.set (List.set (List.set x71 (Int.toNat i70) (-1 : Int)) (Int.toNat i70) (0 : Int)) (Int.toNat i70) (1 : Int)))
else
(some (List.set (List.set x71 (Int.toNat i70) (-1 : Int)) (Int.toNat i70) (0 : Int))))
else
(some (List.set x71 (Int.toNat i70) (-1 : Int)))
@[reducible] def ref_Choices_s6 (a0 : Int) (a1 : (List ((List Int) × (List Int)))) (a2 : (List Bool)) (i70 : Int) (v : (List Int)) : Fr × LL := ([(0, aI a0), (1, aD (.slice tC) a1), (2, aD (.slice .bool) a2), (7, .one (.slc 10)), (8, aI i70)], [(10, .seq tI v)])
def ref_Choices_b7 (a2 : (List Bool)) (i70 : Int) (x71 : (List Int)) : Option (Flow (List Int) (List Int)) :=
(ref_Choices_g5 a2 i70 x71).bind fun v104 =>
some (.next v104)
@[reducible] def ref_Choices_s8 (a0 : Int) (a1 : (List ((List Int) × (List Int)))) (a2 : (List Bool)) (v : Int × (List Int)) : Fr × LL := ([(0, aI a0), (1, aD (.slice tC) a1), (2, aD (.slice .bool) a2), (7, .one (.slc 10)), (8, aI v.1)], [(10, .seq tI v.2)])
@[reducible] def ref_Choices_s9 (a1 : (List ((List Int) × (List Int)))) (v : (List Int)) : Fr × LL := ([(1, aD (.slice tC) a1), (7, .one (.slc 10))], [(10, .seq tI v)])
def ref_Choices (fuel : Nat) (a0 : Int) (a1 : (List ((List Int) × (List Int)))) (a2 : (List Bool)) : Option Int :=
(ck (0 ≤ a0 ∧ a0 = a0 ∧ a0 ≤ 4294967296)).bind fun _ =>
(forI (0 : Int) a0 (ref_Choices_b7 a2) (fun x71 => x71) (List.replicate (Int.toNat a0) (0 : Int))).bind fun v107 =>
(ref_choices fuel a1 v107).bind fun r111 =>
some r111
theorem ref_Choices_ok {fuel : Nat} {a0 : Int} {a1 : (List ((List Int) × (List Int)))} {a2 : (List Bool)} {r : Int} (h : ref_Choices fuel a0 a1 a2 = some r) : FnC Try.prog 52 [aI a0, aD (.slice tC) a1, aD (.slice .bool) a2] [] (aI r) [] := by
 refine fnC_of_W (B := bodyOf Try.f52) (n := 36) Try.func52 (by kernel_rfl) (by kernel_rfl) (by kernel_rfl) (by kernel_rfl) (by kernel_rfl) ?_
 intro K
 refine sr [(0, aI a0), (1, aD (.slice tC) a1), (2, aD (.slice .bool) a2)] [] (by kernel_rfl) ?_
 refine W_seq (by kernel_rfl) ?_
 obtain ⟨_, h1, h⟩ := bind_of h
 replace h1 := ck_some h1
 refine W_run 3 [] [0, 1, 2, 7] [10] (fr' := [(0, aI a0), (1, aD (.slice tC) a1), (2, aD (.slice .bool) a2), (7, .one (.slc 10))]) (L' := [(10, .seq tI (List.replicate (Int.toNat a0) (0 : Int)))]) (obs := [0 ≤ a0 ∧ a0 = a0 ∧ SmallLen a0]) (by kernel_rfl) (by kernel_rfl) (by kernel_rfl) (allP1 h1) ?_
 refine seqQ_norm ?_
 refine W_seq (by kernel_rfl) ?_
 refine srL [(0, aI a0), (1, aD (.slice tC) a1), (2, aD (.slice .bool) a2), (7, .one (.slc 10)), (8, aI (0 : Int))] (by kernel_rfl) ?_
 refine W_block (id := 0) (by kernel_rfl) ?_
 obtain ⟨v107, h108, h⟩ := bind_of h
 obtain ⟨h109, h110⟩ := forI_iter h108
 refine W_weaken [0, 1, 2, 7, 8] [10] (fr' := ((ref_Choices_s8 a0 a1 a2) ((0 : Int), List.replicate (Int.toNat a0) (0 : Int))).1) (L' := ((ref_Choices_s8 a0 a1 a2) ((0 : Int), List.replicate (Int.toNat a0) (0 : Int))).2) (by kernel_rfl) ?_
 refine W_cutK (W_loop (S := (ref_Choices_s8 a0 a1 a2)) (J := (exQ (.exit 0) (ref_Choices_s9 a1))) (by kernel_rfl) ?_ h109 _ v107 h110) ?_
 ·rintro ⟨i70, x71⟩ s h
  refine W_seq (by kernel_rfl) ?_
  refine sr [(0, aI a0), (1, aD (.slice tC) a1), (2, aD (.slice .bool) a2), (7, .one (.slc 10)), (8, aI i70), (13, aB (decide (i70 < a0)))] [(10, .seq tI x71)] (by kernel_rfl) ?_
  refine W_cond (o := .tmp 13) (b := decide (i70 < a0)) (by kernel_rfl) (by kernel_rfl) (fun h73 => ?_) (fun h73 => ?_)
  ·replace h := stepI_true h73 h
   obtain ⟨_, h, rfl⟩ := h
   refine wkL [(0, aI a0), (1, aD (.slice tC) a1), (2, aD (.slice .bool) a2), (7, .one (.slc 10)), (8, aI i70)] (by kernel_rfl) ?_
   refine seqQ_norm ?_
   refine W_seq (by kernel_rfl) ?_
   obtain ⟨v104, h105, h⟩ := bind_of h
   refine W_cutK (Q' := (exQ .normal (ref_Choices_s6 a0 a1 a2 i70)) v104) ?_ ?_
   ·replace h := h105
    refine W_block (id := 1) (by kernel_rfl) ?_
    refine W_seq (by kernel_rfl) ?_
    obtain ⟨v94, h95, h⟩ := bind_of h
    refine W_run 4 [] [0, 1, 2, 7, 8] [10] (fr' := [(0, aI a0), (1, aD (.slice tC) a1), (2, aD (.slice .bool) a2), (7, .one (.slc 10)), (8, aI i70)]) (L' := [(10, .seq tI (List.set x71 (Int.toNat i70) (-1 : Int)))]) (obs := [InR i70 (List.length x71), InR i70 (List.length x71)]) (by kernel_rfl) (by kernel_rfl) (by kernel_rfl) (allP2 (InR.of h95) (allP1 (InR.of h95))) ?_
    refine seqQ_norm ?_
    refine srL [(0, aI a0), (1, aD (.slice tC) a1), (2, aD (.slice .bool) a2), (7, .one (.slc 10)), (8, aI i70), (22, aB (decide (i70 < (List.length a2 : Int))))] (by kernel_rfl) ?_
    refine W_cond (o := .tmp 22) (b := decide (i70 < (List.length a2 : Int))) (by kernel_rfl) (by kernel_rfl) (fun h96 => ?_) (fun h96 => ?_)
    ·replace h := ofT h96 h
     refine W_seq (by kernel_rfl) ?_
     obtain ⟨v97, h98, h⟩ := bind_of h
     refine W_run 4 [] [0, 1, 2, 7, 8] [10] (fr' := [(0, aI a0), (1, aD (.slice tC) a1), (2, aD (.slice .bool) a2), (7, .one (.slc 10)), (8, aI i70)]) (L' := [(10, .seq tI (List.set (List.set x71 (Int.toNat i70) (-1 : Int)) (Int.toNat i70) (0 : Int)))]) (obs := [InR i70 (List.length (List.set x71 (Int.toNat i70) (-1 : Int))), InR i70 (List.length (List.set x71 (Int.toNat i70) (-1 : Int)))]) (by kernel_rfl) (by kernel_rfl) (by kernel_rfl) (allP2 (InR.of h98) (allP1 (InR.of h98))) ?_
     refine seqQ_norm ?_
     refine W_seq (by kernel_rfl) ?_
     obtain ⟨v99, h100, h⟩ := bind_of h
     refine W_run 4 [(5, .val (.dat .bool v99))] [0, 1, 2, 7, 8, 29] [10] (fr' := [(0, aI a0), (1, aD (.slice tC) a1), (2, aD (.slice .bool) a2), (7, .one (.slc 10)), (8, aI i70), (29, aB v99)]) (L' := [(10, .seq tI (List.set (List.set x71 (Int.toNat i70) (-1 : Int)) (Int.toNat i70) (0 : Int)))]) (obs := [Idx a2 i70 v99]) (by kernel_rfl) (by kernel_rfl) (by kernel_rfl) (allP1 (Idx.of h100)) ?_
     refine seqQ_norm ?_
     refine W_cond (o := .tmp 29) (b := v99) (by kernel_rfl) (by kernel_rfl) (fun h101 => ?_) (fun h101 => ?_)
     ·replace h := ofT h101 h
      obtain ⟨v102, h103, h⟩ := bind_of h
      obtain rfl := Option.some.inj h
      refine W_run 4 [] [0, 1, 2, 7, 8] [10] (fr' := [(0, aI a0), (1, aD (.slice tC) a1), (2, aD (.slice .bool) a2), (7, .one (.slc 10)), (8, aI i70)]) (L' := [(10, .seq tI (List.set (List.set (List.set x71 (Int.toNat i70) (-1 : Int)) (Int.toNat i70) (0 : Int)) (Int.toNat i70) (1 : Int)))]) (obs := [InR i70 (List.length (List.set (List.set x71 (Int.toNat i70) (-1 : Int)) (Int.toNat i70) (0 : Int))), InR i70 (List.length (List.set (List.set x71 (Int.toNat i70) (-1 : Int)) (Int.toNat i70) (0 : Int)))]) (by kernel_rfl) (by kernel_rfl) (by kernel_rfl) (allP2 (InR.of h103) (allP1 (InR.of h103))) ?_
      refine blockQ_norm ?_
      exact exM (by kernel_rfl)
     ·replace h := ofF h101 h
      obtain rfl := Option.some.inj h
      refine wkL [(0, aI a0), (1, aD (.slice tC) a1), (2, aD (.slice .bool) a2), (7, .one (.slc 10)), (8, aI i70)] (by kernel_rfl) ?_
      refine blockQ_norm ?_
      exact exM (by kernel_rfl)
    ·replace h := ofF h96 h
     obtain rfl := Option.some.inj h
     refine wkL [(0, aI a0), (1, aD (.slice tC) a1), (2, aD (.slice .bool) a2), (7, .one (.slc 10)), (8, aI i70)] (by kernel_rfl) ?_
     refine blockQ_norm ?_
     exact exM (by kernel_rfl)
   ·intro e fr L hJ
    obtain ⟨rfl, rfl, rfl⟩ := hJ
    refine ltk [(0, aI a0), (1, aD (.slice tC) a1), (2, aD (.slice .bool) a2), (7, .one (.slc 10)), (8, aI i70)] [(10, .seq tI v104)] (by kernel_rfl) ?_
    refine seqQ_norm ?_
    obtain rfl := Option.some.inj h
    refine swL [(0, aI a0), (1, aD (.slice tC) a1), (2, aD (.slice .bool) a2), (7, .one (.slc 10)), (8, aI (w64 (i70 + (1 : Int))))] (by kernel_rfl) ?_
    exact round_next' (by kernel_rfl) (by kernel_rfl)
  ·obtain rfl := stepI_false h73 h
   refine wxL 0 [(1, aD (.slice tC) a1), (7, .one (.slc 10))] (by kernel_rfl) ?_
   refine seqQ_exit ?_
   refine round_exit ?_
   exact exM (by kernel_rfl)
 ·intro e fr L hJ
  obtain ⟨rfl, rfl, rfl⟩ := hJ
  refine ltk [(1, aD (.slice tC) a1), (7, .one (.slc 10))] [(10, .seq tI v107)] (by kernel_rfl) ?_
  refine blockQ_hit ?_
  refine seqQ_norm ?_
  refine W_seq (by kernel_rfl) ?_
  refine W_region (by kernel_rfl) ?_
  refine wo 2 [(33, aD (.slice tC) a1), (34, .one (.slc 10))] [(10, .seq tI v107)] (by kernel_rfl) ?_
  obtain ⟨r111, h112, h⟩ := bind_of h
  refine WO_frz 10 (by kernel_rfl) ?_
  refine WO_call0 (us := [none, none]) (d := 35) (p := True) (j := 3) rfl ⟨by kernel_rfl, by kernel_rfl, by kernel_rfl⟩ trivial (ref_choices_ok h112) (by kernel_rfl) ?_
  refine wo 4 [(6, aI r111)] [] (by kernel_rfl) ?_
  refine wfL [(6, aI r111)] (by kernel_rfl) ?_
  refine seqQ_norm ?_
  obtain rfl := Option.some.inj h
  refine wtL [(6, aI r111)] (by kernel_rfl) ?_
  exact retM (by kernel_rfl)

def law_WholeClauses_g5 (r1 : (Int × (List ((List Int) × (List Int))) × Int)) (v60 : ((List Int) × (List Int))) : Option Bool :=
bif decide ((w64 ((List.length v60.1 : Int) + (List.length v60.2 : Int))) > (3 : Int)) then
(some true)
else
((ref_Inside r1.1 v60.1).bind fun r76 =>
bif !r76 then
(some true)
else
((ref_Inside r1.1 v60.2).bind fun r79 =>
some (!r79)))
@[reducible] def law_WholeClauses_s6 (a0 : (Int × (Int × (List (List (Int × (Int × Int))))))) (a1 : Int) (a2 : Int) (r1 : (Int × (List ((List Int) × (List Int))) × Int)) (i57 : Int) (v : Bool) : Fr × LL := ([(1, aI a1), (2, aI a2), (3, .one (.ptr 3 0)), (7, aI r1.1), (8, aD (.slice tC) r1.2.1), (57, aD (.slice tC) r1.2.1), (58, aI (List.length r1.2.1 : Int)), (59, aI i57), (84, aB v)], [(3, .one tM a0)])
def law_WholeClauses_b7 (r1 : (Int × (List ((List Int) × (List Int))) × Int)) (i57 : Int) (v60 : ((List Int) × (List Int))) (x58 : Unit) : Option (Flow Unit (Esc Bool Unit)) :=
(law_WholeClauses_g5 r1 v60).bind fun v81 =>
bif v81 then
(some (.done (.ret false)))
else
(some (.next ()))
@[reducible] def law_WholeClauses_s8 (a0 : (Int × (Int × (List (List (Int × (Int × Int))))))) (a1 : Int) (a2 : Int) (r1 : (Int × (List ((List Int) × (List Int))) × Int)) (v : Int × Unit) : Fr × LL := ([(1, aI a1), (2, aI a2), (3, .one (.ptr 3 0)), (7, aI r1.1), (8, aD (.slice tC) r1.2.1), (57, aD (.slice tC) r1.2.1), (58, aI (List.length r1.2.1 : Int)), (59, aI v.1)], [(3, .one tM a0)])
@[reducible] def law_WholeClauses_s9 (v : Bool) : Fr × LL := ([(6, aB v)], [])
@[reducible] def law_WholeClauses_s10 (a0 : (Int × (Int × (List (List (Int × (Int × Int))))))) (a1 : Int) (a2 : Int) (r1 : (Int × (List ((List Int) × (List Int))) × Int)) (v : Unit) : Fr × LL := ([(1, aI a1), (2, aI a2), (3, .one (.ptr 3 0)), (7, aI r1.1), (8, aD (.slice tC) r1.2.1)], [(3, .one tM a0)])
@[reducible] def law_WholeClauses_s16 (a0 : (Int × (Int × (List (List (Int × (Int × Int))))))) (a1 : Int) (a2 : Int) (r1 : (Int × (List ((List Int) × (List Int))) × Int)) (x127 : Int) (v : Int) : Fr × LL := ([(1, aI a1), (2, aI a2), (3, .one (.ptr 3 0)), (7, aI r1.1), (8, aD (.slice tC) r1.2.1), (13, aI x127), (14, aI v)], [(3, .one tM a0)])
def law_WholeClauses_b17 (a0 : (Int × (Int × (List (List (Int × (Int × Int))))))) (a1 : Int) (a2 : Int) (fuel : Nat) (r1 : (Int × (List ((List Int) × (List Int))) × Int)) (x127 : Int) : Option (Flow Int (Esc Bool Unit)) :=
(ck (0 ≤ IntKind.wrap .u64 (a1))).bind fun _ =>
bif decide (x127 < (bShl .i64 (1 : Int) (IntKind.wrap .u64 (a1)))) then
(((ref_Asked fuel a0 a1 a2 x127).bind fun r186 =>
bif r186 then
(some (1 : Int))
else
(some (0 : Int))).bind fun v189 =>
(ref_Bits a1 x127).bind fun r191 =>
(ref_Choices fuel r1.1 r1.2.1 r191).bind fun r193 =>
bif r193 != v189 then
(some (.done (.ret false)))
else
(some (.next (w64 (x127 + (1 : Int))))))
else
(some (.done (.brk ())))
@[reducible] def law_WholeClauses_s18 (a0 : (Int × (Int × (List (List (Int × (Int × Int))))))) (a1 : Int) (a2 : Int) (r1 : (Int × (List ((List Int) × (List Int))) × Int)) (v : Int) : Fr × LL := ([(1, aI a1), (2, aI a2), (3, .one (.ptr 3 0)), (7, aI r1.1), (8, aD (.slice tC) r1.2.1), (13, aI v)], [(3, .one tM a0)])
@[reducible] def law_WholeClauses_s19 (v : Bool) : Fr × LL := ([(6, aB v)], [])
@[reducible] def law_WholeClauses_s20 (v : Unit) : Fr × LL := ([], [])
def law_WholeClauses (fuel : Nat) (a0 : (Int × (Int × (List (List (Int × (Int × Int))))))) (a1 : Int) (a2 : Int) : Option Bool :=
(whole_Clauses fuel a0 a1 a2).bind fun r1 =>
(ref_UnrollCheck a0 a1 a2).bind fun r3 =>
bif r3 != (0 : Int) then
(some (((r1.2.2 == r3) && (r1.1 == (0 : Int))) && ((List.length r1.2.1 : Int) == (0 : Int))))
else
(bif (((r1.2.2 != (0 : Int)) || (decide (r1.1 < a1))) || (decide (r1.1 > (20000 : Int)))) || (decide ((List.length r1.2.1 : Int) > (60000 : Int))) then
(some false)
else
((forL (law_WholeClauses_b7 r1) (fun x58 => (.brk ())) r1.2.1 0 ()).bind fun v85 =>
match v85 with
| .ret v90 =>
(some v90)
| .brk v91 =>
((iter (law_WholeClauses_b17 a0 a1 a2 fuel r1) fuel (0 : Int)).bind fun v196 =>
match v196 with
| .ret v200 =>
(some v200)
| .brk v201 =>
(some true))))
theorem law_WholeClauses_ok {fuel : Nat} {a0 : (Int × (Int × (List (List (Int × (Int × Int))))))} {a1 : Int} {a2 : Int} {r : Bool} (h : law_WholeClauses fuel a0 a1 a2 = some r) : FnC Try.prog 12 [aD tM a0, aI a1, aI a2] [] (aB r) [] := by
 refine fnC_of_W (B := bodyOf Try.f12) (n := 106) Try.func12 (by kernel_rfl) (by kernel_rfl) (by kernel_rfl) (by kernel_rfl) (by kernel_rfl) ?_
 intro K
 refine sr [(1, aI a1), (2, aI a2), (3, .one (.ptr 3 0))] [(3, .one tM a0)] (by kernel_rfl) ?_
 refine W_seq (by kernel_rfl) ?_
 refine W_region (by kernel_rfl) ?_
 refine woL 3 [(1, aI a1), (2, aI a2), (3, .one (.ptr 3 0)), (16, aD tM a0), (17, aI a1), (18, aI a2)] (by kernel_rfl) ?_
 obtain ⟨r1, h2, h⟩ := bind_of h
 refine WO_call0 (us := [none, none, none]) (d := 19) (p := True) (j := 4) rfl ⟨by kernel_rfl, by kernel_rfl, by kernel_rfl⟩ trivial (whole_Clauses_ok h2) (by kernel_rfl) ?_
 refine wo 11 [(1, aI a1), (2, aI a2), (3, .one (.ptr 3 0)), (7, aI r1.1), (8, aD (.slice tC) r1.2.1), (9, aI r1.2.2)] [(3, .one tM a0)] (by kernel_rfl) ?_
 refine wfL [(1, aI a1), (2, aI a2), (3, .one (.ptr 3 0)), (7, aI r1.1), (8, aD (.slice tC) r1.2.1), (9, aI r1.2.2)] (by kernel_rfl) ?_
 refine seqQ_norm ?_
 refine W_seq (by kernel_rfl) ?_
 refine W_region (by kernel_rfl) ?_
 refine woL 3 [(1, aI a1), (2, aI a2), (3, .one (.ptr 3 0)), (7, aI r1.1), (8, aD (.slice tC) r1.2.1), (9, aI r1.2.2), (23, aD tM a0), (24, aI a1), (25, aI a2)] (by kernel_rfl) ?_
 obtain ⟨r3, h4, h⟩ := bind_of h
 refine WO_call0 (us := [none, none, none]) (d := 26) (p := True) (j := 4) rfl ⟨by kernel_rfl, by kernel_rfl, by kernel_rfl⟩ trivial (ref_UnrollCheck_ok h4) (by kernel_rfl) ?_
 refine wo 5 [(1, aI a1), (2, aI a2), (3, .one (.ptr 3 0)), (7, aI r1.1), (8, aD (.slice tC) r1.2.1), (9, aI r1.2.2), (10, aI r3)] [(3, .one tM a0)] (by kernel_rfl) ?_
 refine wfL [(1, aI a1), (2, aI a2), (3, .one (.ptr 3 0)), (7, aI r1.1), (8, aD (.slice tC) r1.2.1), (9, aI r1.2.2), (10, aI r3)] (by kernel_rfl) ?_
 refine seqQ_norm ?_
 refine W_seq (by kernel_rfl) ?_
 refine srL [(1, aI a1), (2, aI a2), (3, .one (.ptr 3 0)), (7, aI r1.1), (8, aD (.slice tC) r1.2.1), (9, aI r1.2.2), (10, aI r3), (28, aB (r3 != (0 : Int)))] (by kernel_rfl) ?_
 refine W_cond (o := .tmp 28) (b := r3 != (0 : Int)) (by kernel_rfl) (by kernel_rfl) (fun h5 => ?_) (fun h5 => ?_)
 ·replace h := ofT h5 h
  refine sr [(6, aB (((r1.2.2 == r3) && (r1.1 == (0 : Int))) && ((List.length r1.2.1 : Int) == (0 : Int))))] [] (by kernel_rfl) ?_
  obtain rfl := Option.some.inj h
  refine wtL [(6, aB (((r1.2.2 == r3) && (r1.1 == (0 : Int))) && ((List.length r1.2.1 : Int) == (0 : Int))))] (by kernel_rfl) ?_
  refine seqQ_ret ?_
  exact retM (by kernel_rfl)
 ·replace h := ofF h5 h
  refine wkL [(1, aI a1), (2, aI a2), (3, .one (.ptr 3 0)), (7, aI r1.1), (8, aD (.slice tC) r1.2.1), (9, aI r1.2.2)] (by kernel_rfl) ?_
  refine seqQ_norm ?_
  refine W_seq (by kernel_rfl) ?_
  refine srL [(1, aI a1), (2, aI a2), (3, .one (.ptr 3 0)), (7, aI r1.1), (8, aD (.slice tC) r1.2.1), (56, aB ((((r1.2.2 != (0 : Int)) || (decide (r1.1 < a1))) || (decide (r1.1 > (20000 : Int)))) || (decide ((List.length r1.2.1 : Int) > (60000 : Int)))))] (by kernel_rfl) ?_
  refine W_cond (o := .tmp 56) (b := (((r1.2.2 != (0 : Int)) || (decide (r1.1 < a1))) || (decide (r1.1 > (20000 : Int)))) || (decide ((List.length r1.2.1 : Int) > (60000 : Int)))) (by kernel_rfl) (by kernel_rfl) (fun h6 => ?_) (fun h6 => ?_)
  ·replace h := ofT h6 h
   refine sr [(6, aB false)] [] (by kernel_rfl) ?_
   obtain rfl := Option.some.inj h
   refine wtL [(6, aB false)] (by kernel_rfl) ?_
   refine seqQ_ret ?_
   exact retM (by kernel_rfl)
  ·replace h := ofF h6 h
   refine wkL [(1, aI a1), (2, aI a2), (3, .one (.ptr 3 0)), (7, aI r1.1), (8, aD (.slice tC) r1.2.1)] (by kernel_rfl) ?_
   refine seqQ_norm ?_
   refine W_seq (by kernel_rfl) ?_
   refine srL [(1, aI a1), (2, aI a2), (3, .one (.ptr 3 0)), (7, aI r1.1), (8, aD (.slice tC) r1.2.1), (57, aD (.slice tC) r1.2.1), (58, aI (List.length r1.2.1 : Int)), (59, aI (0 : Int))] (by kernel_rfl) ?_
   refine W_block (id := 0) (by kernel_rfl) ?_
   obtain ⟨v85, h86, h⟩ := bind_of h
   refine W_len (t := 57) (u := tC) (xs := r1.2.1) (by kernel_rfl) (fun h89 => ?_)
   obtain ⟨h87, h88⟩ := forL_iter h89 h86
   refine W_weaken [1, 2, 3, 7, 8, 57, 58, 59] [3] (fr' := ((law_WholeClauses_s8 a0 a1 a2 r1) ((0 : Int), ())).1) (L' := ((law_WholeClauses_s8 a0 a1 a2 r1) ((0 : Int), ())).2) (by kernel_rfl) ?_
   refine W_cutK (W_loop (S := (law_WholeClauses_s8 a0 a1 a2 r1)) (J := (escQ (exQ .ret law_WholeClauses_s9) (exQ (.exit 0) (law_WholeClauses_s10 a0 a1 a2 r1)))) (by kernel_rfl) ?_ h87 _ v85 h88) ?_
   ·rintro ⟨i57, x58⟩ s h
    refine sr [(1, aI a1), (2, aI a2), (3, .one (.ptr 3 0)), (7, aI r1.1), (8, aD (.slice tC) r1.2.1), (57, aD (.slice tC) r1.2.1), (58, aI (List.length r1.2.1 : Int)), (59, aI i57), (60, aB (decide (i57 < (List.length r1.2.1 : Int))))] [(3, .one tM a0)] (by kernel_rfl) ?_
    refine W_seq (by kernel_rfl) ?_
    refine W_cond (o := .tmp 60) (b := decide (i57 < (List.length r1.2.1 : Int))) (by kernel_rfl) (by kernel_rfl) (fun h62 => ?_) (fun h62 => ?_)
    ·replace h := stepL_true h62 h
     obtain ⟨v60, _, h61, h, rfl⟩ := h
     refine wkL [(1, aI a1), (2, aI a2), (3, .one (.ptr 3 0)), (7, aI r1.1), (8, aD (.slice tC) r1.2.1), (57, aD (.slice tC) r1.2.1), (58, aI (List.length r1.2.1 : Int)), (59, aI i57)] (by kernel_rfl) ?_
     refine seqQ_norm ?_
     refine W_seq (by kernel_rfl) ?_
     refine W_block (id := 1) (by kernel_rfl) ?_
     refine sro [(1, .val (.dat tC v60)), (5, .typed)] [(1, aI a1), (2, aI a2), (3, .one (.ptr 3 0)), (7, aI r1.1), (8, aD (.slice tC) r1.2.1), (12, .one (.ptr 12 0)), (57, aD (.slice tC) r1.2.1), (58, aI (List.length r1.2.1 : Int)), (59, aI i57)] [(3, .one tM a0), (12, .one tC v60)] [Idx r1.2.1 i57 v60, True] (by kernel_rfl) (allP2 (Idx.of h61) (allP1 trivial)) ?_
     refine W_seq (by kernel_rfl) ?_
     obtain ⟨v81, h82, h⟩ := bind_of h
     refine W_cutK (Q' := (exQ .normal (law_WholeClauses_s6 a0 a1 a2 r1 i57)) v81) ?_ ?_
     ·replace h := h82
      refine W_region (by kernel_rfl) ?_
      refine wo 9 [(1, aI a1), (2, aI a2), (3, .one (.ptr 3 0)), (7, aI r1.1), (8, aD (.slice tC) r1.2.1), (12, .one (.ptr 12 0)), (57, aD (.slice tC) r1.2.1), (58, aI (List.length r1.2.1 : Int)), (59, aI i57), (71, aB (decide ((w64 ((List.length v60.1 : Int) + (List.length v60.2 : Int))) > (3 : Int))))] [(3, .one tM a0), (12, .one tC v60)] (by kernel_rfl) ?_
      rcases Bool.eq_false_or_eq_true (decide ((w64 ((List.length v60.1 : Int) + (List.length v60.2 : Int))) > (3 : Int))) with h75 | h75
      ·replace h := ofT h75 h
       refine woo 22 [(18, .known true), (20, .known true), (22, .known true), (24, .known true), (26, .known true), (29, .val (.dat .bool true)), (32, .known true), (34, .known true), (36, .known true), (38, .known true), (40, .known true), (43, .val (.dat .bool true))] [(1, aI a1), (2, aI a2), (3, .one (.ptr 3 0)), (7, aI r1.1), (8, aD (.slice tC) r1.2.1), (57, aD (.slice tC) r1.2.1), (58, aI (List.length r1.2.1 : Int)), (59, aI i57), (84, aB true)] [(3, .one tM a0), (12, .one tC v60)] [((decide ((w64 ((List.length v60.1 : Int) + (List.length v60.2 : Int))) > (3 : Int))) = true), ((decide ((w64 ((List.length v60.1 : Int) + (List.length v60.2 : Int))) > (3 : Int))) = true), ((decide ((w64 ((List.length v60.1 : Int) + (List.length v60.2 : Int))) > (3 : Int))) = true), ((decide ((w64 ((List.length v60.1 : Int) + (List.length v60.2 : Int))) > (3 : Int))) = true), ((decide ((w64 ((List.length v60.1 : Int) + (List.length v60.2 : Int))) > (3 : Int))) = true), ((decide ((w64 ((List.length v60.1 : Int) + (List.length v60.2 : Int))) > (3 : Int))) = true), (true = true), (true = true), (true = true), (true = true), (true = true), (true = true)] (by kernel_rfl) (allP2 h75 (allP2 h75 (allP2 h75 (allP2 h75 (allP2 h75 (allP2 h75 (allP2 rfl (allP2 rfl (allP2 rfl (allP2 rfl (allP2 rfl (allP1 rfl)))))))))))) ?_
       obtain rfl := Option.some.inj h
       refine wf [(1, aI a1), (2, aI a2), (3, .one (.ptr 3 0)), (7, aI r1.1), (8, aD (.slice tC) r1.2.1), (57, aD (.slice tC) r1.2.1), (58, aI (List.length r1.2.1 : Int)), (59, aI i57), (84, aB true)] [(3, .one tM a0)] (by kernel_rfl) ?_
       exact exM (by kernel_rfl)
      ·replace h := ofF h75 h
       refine woo 12 [(18, .known false), (20, .known false), (22, .known false)] [(1, aI a1), (2, aI a2), (3, .one (.ptr 3 0)), (7, aI r1.1), (8, aD (.slice tC) r1.2.1), (12, .one (.ptr 12 0)), (57, aD (.slice tC) r1.2.1), (58, aI (List.length r1.2.1 : Int)), (59, aI i57), (71, aB (decide ((w64 ((List.length v60.1 : Int) + (List.length v60.2 : Int))) > (3 : Int)))), (72, aI r1.1), (74, aD (.slice tI) v60.1)] [(3, .one tM a0), (12, .one tC v60)] [((decide ((w64 ((List.length v60.1 : Int) + (List.length v60.2 : Int))) > (3 : Int))) = false), ((decide ((w64 ((List.length v60.1 : Int) + (List.length v60.2 : Int))) > (3 : Int))) = false), ((decide ((w64 ((List.length v60.1 : Int) + (List.length v60.2 : Int))) > (3 : Int))) = false)] (by kernel_rfl) (allP2 h75 (allP2 h75 (allP1 h75))) ?_
       obtain ⟨r76, h77, h⟩ := bind_of h
       refine WO_call0 (us := [none, none]) (d := 75) (p := ((decide ((w64 ((List.length v60.1 : Int) + (List.length v60.2 : Int))) > (3 : Int))) = false)) (j := 13) rfl ⟨by kernel_rfl, by kernel_rfl, by kernel_rfl⟩ h75 (ref_Inside_ok h77) (by kernel_rfl) ?_
       refine woo 16 [(26, .known false), (29, .val (.dat .bool false))] [(1, aI a1), (2, aI a2), (3, .one (.ptr 3 0)), (7, aI r1.1), (8, aD (.slice tC) r1.2.1), (12, .one (.ptr 12 0)), (57, aD (.slice tC) r1.2.1), (58, aI (List.length r1.2.1 : Int)), (59, aI i57), (78, aB (!r76))] [(3, .one tM a0), (12, .one tC v60)] [((decide ((w64 ((List.length v60.1 : Int) + (List.length v60.2 : Int))) > (3 : Int))) = false), ((decide ((w64 ((List.length v60.1 : Int) + (List.length v60.2 : Int))) > (3 : Int))) = false)] (by kernel_rfl) (allP2 h75 (allP1 h75)) ?_
       rcases Bool.eq_false_or_eq_true (!r76) with h78 | h78
       ·replace h := ofT h78 h
        refine woo 22 [(32, .known true), (34, .known true), (36, .known true), (38, .known true), (40, .known true), (43, .val (.dat .bool true))] [(1, aI a1), (2, aI a2), (3, .one (.ptr 3 0)), (7, aI r1.1), (8, aD (.slice tC) r1.2.1), (57, aD (.slice tC) r1.2.1), (58, aI (List.length r1.2.1 : Int)), (59, aI i57), (84, aB true)] [(3, .one tM a0), (12, .one tC v60)] [((!r76) = true), ((!r76) = true), ((!r76) = true), ((!r76) = true), ((!r76) = true), ((!r76) = true)] (by kernel_rfl) (allP2 h78 (allP2 h78 (allP2 h78 (allP2 h78 (allP2 h78 (allP1 h78)))))) ?_
        obtain rfl := Option.some.inj h
        refine wf [(1, aI a1), (2, aI a2), (3, .one (.ptr 3 0)), (7, aI r1.1), (8, aD (.slice tC) r1.2.1), (57, aD (.slice tC) r1.2.1), (58, aI (List.length r1.2.1 : Int)), (59, aI i57), (84, aB true)] [(3, .one tM a0)] (by kernel_rfl) ?_
        exact exM (by kernel_rfl)
       ·replace h := ofF h78 h
        refine woo 19 [(32, .known false), (34, .known false), (36, .known false)] [(1, aI a1), (2, aI a2), (3, .one (.ptr 3 0)), (7, aI r1.1), (8, aD (.slice tC) r1.2.1), (57, aD (.slice tC) r1.2.1), (58, aI (List.length r1.2.1 : Int)), (59, aI i57), (78, aB (!r76)), (79, aI r1.1), (81, aD (.slice tI) v60.2)] [(3, .one tM a0), (12, .one tC v60)] [((!r76) = false), ((!r76) = false), ((!r76) = false)] (by kernel_rfl) (allP2 h78 (allP2 h78 (allP1 h78))) ?_
        obtain ⟨r79, h80, h⟩ := bind_of h
        refine WO_call0 (us := [none, none]) (d := 82) (p := ((!r76) = false)) (j := 20) rfl ⟨by kernel_rfl, by kernel_rfl, by kernel_rfl⟩ h78 (ref_Inside_ok h80) (by kernel_rfl) ?_
        refine woo 22 [(40, .known false), (43, .val (.dat .bool false))] [(1, aI a1), (2, aI a2), (3, .one (.ptr 3 0)), (7, aI r1.1), (8, aD (.slice tC) r1.2.1), (57, aD (.slice tC) r1.2.1), (58, aI (List.length r1.2.1 : Int)), (59, aI i57), (84, aB (!r79))] [(3, .one tM a0), (12, .one tC v60)] [((!r76) = false), ((!r76) = false)] (by kernel_rfl) (allP2 h78 (allP1 h78)) ?_
        obtain rfl := Option.some.inj h
        refine wf [(1, aI a1), (2, aI a2), (3, .one (.ptr 3 0)), (7, aI r1.1), (8, aD (.slice tC) r1.2.1), (57, aD (.slice tC) r1.2.1), (58, aI (List.length r1.2.1 : Int)), (59, aI i57), (84, aB (!r79))] [(3, .one tM a0)] (by kernel_rfl) ?_
        exact exM (by kernel_rfl)
     ·intro e fr L hJ
      obtain ⟨rfl, rfl, rfl⟩ := hJ
      refine ltk [(1, aI a1), (2, aI a2), (3, .one (.ptr 3 0)), (7, aI r1.1), (8, aD (.slice tC) r1.2.1), (57, aD (.slice tC) r1.2.1), (58, aI (List.length r1.2.1 : Int)), (59, aI i57), (84, aB v81)] [(3, .one tM a0)] (by kernel_rfl) ?_
      refine seqQ_norm ?_
      refine W_cond (o := .tmp 84) (b := v81) (by kernel_rfl) (by kernel_rfl) (fun h83 => ?_) (fun h83 => ?_)
      ·replace h := ofT h83 h
       refine sr [(6, aB false)] [] (by kernel_rfl) ?_
       obtain rfl := Option.some.inj h
       refine wtL [(6, aB false)] (by kernel_rfl) ?_
       refine blockQ_ret ?_
       refine seqQ_ret ?_
       refine round_ret ?_
       refine escQ_ret ?_
       exact exM (by kernel_rfl)
      ·replace h := ofF h83 h
       refine wkL [(1, aI a1), (2, aI a2), (3, .one (.ptr 3 0)), (7, aI r1.1), (8, aD (.slice tC) r1.2.1), (57, aD (.slice tC) r1.2.1), (58, aI (List.length r1.2.1 : Int)), (59, aI i57)] (by kernel_rfl) ?_
       refine blockQ_norm ?_
       refine seqQ_norm ?_
       obtain rfl := Option.some.inj h
       refine swL [(1, aI a1), (2, aI a2), (3, .one (.ptr 3 0)), (7, aI r1.1), (8, aD (.slice tC) r1.2.1), (57, aD (.slice tC) r1.2.1), (58, aI (List.length r1.2.1 : Int)), (59, aI (w64 (i57 + (1 : Int))))] (by kernel_rfl) ?_
       exact round_next' (by kernel_rfl) (by kernel_rfl)
    ·obtain rfl := stepL_false h62 h
     refine wxL 0 [(1, aI a1), (2, aI a2), (3, .one (.ptr 3 0)), (7, aI r1.1), (8, aD (.slice tC) r1.2.1)] (by kernel_rfl) ?_
     refine seqQ_exit ?_
     refine round_exit ?_
     refine escQ_brk ?_
     exact exM (by kernel_rfl)
   ·intro e fr L hJ
    rcases v85 with v90 | v91
    ·obtain ⟨rfl, rfl, rfl⟩ := hJ
     obtain rfl := Option.some.inj h
     refine ltk [(6, aB v90)] [] (by kernel_rfl) ?_
     refine blockQ_ret ?_
     refine seqQ_ret ?_
     exact retM (by kernel_rfl)
    ·obtain ⟨rfl, rfl, rfl⟩ := hJ
     refine ltk [(1, aI a1), (2, aI a2), (3, .one (.ptr 3 0)), (7, aI r1.1), (8, aD (.slice tC) r1.2.1)] [(3, .one tM a0)] (by kernel_rfl) ?_
     refine blockQ_hit ?_
     refine seqQ_norm ?_
     refine W_seq (by kernel_rfl) ?_
     refine sr [(1, aI a1), (2, aI a2), (3, .one (.ptr 3 0)), (7, aI r1.1), (8, aD (.slice tC) r1.2.1), (13, aI (0 : Int))] [(3, .one tM a0)] (by kernel_rfl) ?_
     refine W_block (id := 2) (by kernel_rfl) ?_
     obtain ⟨v196, h197, h⟩ := bind_of h
     refine W_weaken [1, 2, 3, 7, 8, 13] [3] (fr' := ((law_WholeClauses_s18 a0 a1 a2 r1) (0 : Int)).1) (L' := ((law_WholeClauses_s18 a0 a1 a2 r1) (0 : Int)).2) (by kernel_rfl) ?_
     refine W_cutK (W_loop (S := (law_WholeClauses_s18 a0 a1 a2 r1)) (J := (escQ (exQ .ret law_WholeClauses_s19) (exQ (.exit 2) law_WholeClauses_s20))) (by kernel_rfl) ?_ fuel _ v196 h197) ?_
     ·rintro x127 s h
      refine W_seq (by kernel_rfl) ?_
      refine W_seq (by kernel_rfl) ?_
      obtain ⟨_, h162, h⟩ := bind_of h
      replace h162 := ck_some h162
      refine W_run 5 [] [1, 2, 3, 7, 8, 13, 90] [3] (fr' := [(1, aI a1), (2, aI a2), (3, .one (.ptr 3 0)), (7, aI r1.1), (8, aD (.slice tC) r1.2.1), (13, aI x127), (90, aB (decide (x127 < (bShl .i64 (1 : Int) (IntKind.wrap .u64 (a1))))))]) (L' := [(3, .one tM a0)]) (obs := [(0 ≤ IntKind.wrap .u64 (a1))]) (by kernel_rfl) (by kernel_rfl) (by kernel_rfl) (allP1 h162) ?_
      refine seqQ_norm ?_
      refine W_cond (o := .tmp 90) (b := decide (x127 < (bShl .i64 (1 : Int) (IntKind.wrap .u64 (a1))))) (by kernel_rfl) (by kernel_rfl) (fun h163 => ?_) (fun h163 => ?_)
      ·replace h := ofT h163 h
       refine wkL [(1, aI a1), (2, aI a2), (3, .one (.ptr 3 0)), (7, aI r1.1), (8, aD (.slice tC) r1.2.1), (13, aI x127)] (by kernel_rfl) ?_
       refine seqQ_norm ?_
       refine W_seq (by kernel_rfl) ?_
       refine W_block (id := 3) (by kernel_rfl) ?_
       refine srL [(1, aI a1), (2, aI a2), (3, .one (.ptr 3 0)), (7, aI r1.1), (8, aD (.slice tC) r1.2.1), (13, aI x127), (14, aI (0 : Int))] (by kernel_rfl) ?_
       refine W_seq (by kernel_rfl) ?_
       obtain ⟨v189, h190, h⟩ := bind_of h
       refine W_cutK (Q' := (exQ .normal (law_WholeClauses_s16 a0 a1 a2 r1 x127)) v189) ?_ ?_
       ·replace h := h190
        refine W_seq (by kernel_rfl) ?_
        refine W_region (by kernel_rfl) ?_
        refine wo 4 [(1, aI a1), (2, aI a2), (3, .one (.ptr 3 0)), (7, aI r1.1), (8, aD (.slice tC) r1.2.1), (13, aI x127), (14, aI (0 : Int)), (93, aD tM a0), (94, aI a1), (95, aI a2), (96, aI x127)] [(3, .one tM a0)] (by kernel_rfl) ?_
        obtain ⟨r186, h187, h⟩ := bind_of h
        refine WO_call0 (us := [none, none, none, none]) (d := 97) (p := True) (j := 5) rfl ⟨by kernel_rfl, by kernel_rfl, by kernel_rfl⟩ trivial (ref_Asked_ok h187) (by kernel_rfl) ?_
        refine wf [(1, aI a1), (2, aI a2), (3, .one (.ptr 3 0)), (7, aI r1.1), (8, aD (.slice tC) r1.2.1), (13, aI x127), (14, aI (0 : Int)), (97, aB r186)] [(3, .one tM a0)] (by kernel_rfl) ?_
        refine seqQ_norm ?_
        refine W_cond (o := .tmp 97) (b := r186) (by kernel_rfl) (by kernel_rfl) (fun h188 => ?_) (fun h188 => ?_)
        ·replace h := ofT h188 h
         obtain rfl := Option.some.inj h
         refine swL [(1, aI a1), (2, aI a2), (3, .one (.ptr 3 0)), (7, aI r1.1), (8, aD (.slice tC) r1.2.1), (13, aI x127), (14, aI (1 : Int))] (by kernel_rfl) ?_
         exact exM (by kernel_rfl)
        ·replace h := ofF h188 h
         obtain rfl := Option.some.inj h
         refine wkL [(1, aI a1), (2, aI a2), (3, .one (.ptr 3 0)), (7, aI r1.1), (8, aD (.slice tC) r1.2.1), (13, aI x127), (14, aI (0 : Int))] (by kernel_rfl) ?_
         exact exM (by kernel_rfl)
       ·intro e fr L hJ
        obtain ⟨rfl, rfl, rfl⟩ := hJ
        refine ltk [(1, aI a1), (2, aI a2), (3, .one (.ptr 3 0)), (7, aI r1.1), (8, aD (.slice tC) r1.2.1), (13, aI x127), (14, aI v189)] [(3, .one tM a0)] (by kernel_rfl) ?_
        refine seqQ_norm ?_
        refine W_seq (by kernel_rfl) ?_
        refine W_region (by kernel_rfl) ?_
        refine woL 4 [(1, aI a1), (2, aI a2), (3, .one (.ptr 3 0)), (7, aI r1.1), (8, aD (.slice tC) r1.2.1), (13, aI x127), (14, aI v189), (98, aI r1.1), (99, aD (.slice tC) r1.2.1), (100, aI a1), (101, aI x127)] (by kernel_rfl) ?_
        obtain ⟨r191, h192, h⟩ := bind_of h
        refine WO_call0 (us := [none, none]) (d := 102) (p := True) (j := 5) rfl ⟨by kernel_rfl, by kernel_rfl, by kernel_rfl⟩ trivial (ref_Bits_ok h192) (by kernel_rfl) ?_
        obtain ⟨r193, h194, h⟩ := bind_of h
        refine WO_call0 (us := [none, none, none]) (d := 103) (p := True) (j := 6) rfl ⟨by kernel_rfl, by kernel_rfl, by kernel_rfl⟩ trivial (ref_Choices_ok h194) (by kernel_rfl) ?_
        refine wo 8 [(1, aI a1), (2, aI a2), (3, .one (.ptr 3 0)), (7, aI r1.1), (8, aD (.slice tC) r1.2.1), (13, aI x127), (105, aB (r193 != v189))] [(3, .one tM a0)] (by kernel_rfl) ?_
        refine wfL [(1, aI a1), (2, aI a2), (3, .one (.ptr 3 0)), (7, aI r1.1), (8, aD (.slice tC) r1.2.1), (13, aI x127), (105, aB (r193 != v189))] (by kernel_rfl) ?_
        refine seqQ_norm ?_
        refine W_cond (o := .tmp 105) (b := r193 != v189) (by kernel_rfl) (by kernel_rfl) (fun h195 => ?_) (fun h195 => ?_)
        ·replace h := ofT h195 h
         refine sr [(6, aB false)] [] (by kernel_rfl) ?_
         obtain rfl := Option.some.inj h
         refine wtL [(6, aB false)] (by kernel_rfl) ?_
         refine blockQ_ret ?_
         refine seqQ_ret ?_
         refine round_ret ?_
         refine escQ_ret ?_
         exact exM (by kernel_rfl)
        ·replace h := ofF h195 h
         refine wkL [(1, aI a1), (2, aI a2), (3, .one (.ptr 3 0)), (7, aI r1.1), (8, aD (.slice tC) r1.2.1), (13, aI x127)] (by kernel_rfl) ?_
         refine blockQ_norm ?_
         refine seqQ_norm ?_
         obtain rfl := Option.some.inj h
         refine swL [(1, aI a1), (2, aI a2), (3, .one (.ptr 3 0)), (7, aI r1.1), (8, aD (.slice tC) r1.2.1), (13, aI (w64 (x127 + (1 : Int))))] (by kernel_rfl) ?_
         exact round_next' (by kernel_rfl) (by kernel_rfl)
      ·replace h := ofF h163 h
       obtain rfl := Option.some.inj h
       refine wx 2 [] [] (by kernel_rfl) ?_
       refine seqQ_exit ?_
       refine round_exit ?_
       refine escQ_brk ?_
       exact exM (by kernel_rfl)
     ·intro e fr L hJ
      rcases v196 with v200 | v201
      ·obtain ⟨rfl, rfl, rfl⟩ := hJ
       obtain rfl := Option.some.inj h
       refine ltk [(6, aB v200)] [] (by kernel_rfl) ?_
       refine blockQ_ret ?_
       refine seqQ_ret ?_
       exact retM (by kernel_rfl)
      ·obtain ⟨rfl, rfl, rfl⟩ := hJ
       refine ltk [] [] (by kernel_rfl) ?_
       refine blockQ_hit ?_
       refine seqQ_norm ?_
       refine sr [(6, aB true)] [] (by kernel_rfl) ?_
       obtain rfl := Option.some.inj h
       refine wtL [(6, aB true)] (by kernel_rfl) ?_
       exact retM (by kernel_rfl)
end Go.Proofs.Ytnblafiefaalgaa.wholeClauses
