/- What the functions that FuncsValues calls compute, as models, and that they compute it: written by a program of mine. -/
import Derived.Test.YtbjfglckfknheaaProg
import Derived.Test.YtbjfglckfknheaaFuncsValuesM1
set_option linter.all false
set_option maxRecDepth 100000
namespace Go.Proofs.Ytbjfglckfknheaa.funcsValues
open Go Go.Sl
@[reducible] def ref_FuncsCheck_s192 (a0 : (List (Int × (Int × (Int × (Int × (Int × (List Int)))))))) (i1492 : Int) (v1495 : (Int × (Int × (Int × (Int × (Int × (List Int))))))) (v : Bool) : Fr × LL := ([(0, aD (.slice (.pair tI (.pair tI (.pair tI (.pair tI (.pair tI (.slice tI))))))) a0), (3, aI i1492), (4, .one (.ptr 4 0)), (5, aI (0 : Int)), (12, aD (.slice (.pair tI (.pair tI (.pair tI (.pair tI (.pair tI (.slice tI))))))) a0), (13, aI (List.length a0 : Int)), (14, aI i1492), (30, aB v)], [(4, .one (.pair tI (.pair tI (.pair tI (.pair tI (.pair tI (.slice tI)))))) v1495)])
def ref_FuncsCheck_g193 (v1495 : (Int × (Int × (Int × (Int × (Int × (List Int))))))) (v2007 : Int) : Option Bool :=
(ref_Within v2007 v1495.2.1 (4 : Int)).bind fun r2023 =>
bif !r2023 then
(some true)
else
(bif v1495.1 == (2 : Int) then
(bif v1495.2.1 != (1 : Int) then
(some true)
else
(bif v1495.1 == (4 : Int) then
(some (decide ((List.length v1495.2.2.2.2.2 : Int) > (4 : Int))))
else
(some false)))
else
(bif v1495.1 == (4 : Int) then
(some (decide ((List.length v1495.2.2.2.2.2 : Int) > (4 : Int))))
else
(some false)))
def ref_FuncsCheck_b202 (a0 : (List (Int × (Int × (Int × (Int × (Int × (List Int)))))))) (v1495 : (Int × (Int × (Int × (Int × (Int × (List Int))))))) (i2187 : Int) (v2190 : Int) (x2188 : Unit) : Option (Flow Unit (Esc Int Unit)) :=
(idx a0 v2190).bind fun v2193 =>
bif v2193.2.1 != v1495.2.1 then
(some (.done (.ret (3 : Int))))
else
(some (.next ()))
@[reducible] def ref_FuncsCheck_s203 (a0 : (List (Int × (Int × (Int × (Int × (Int × (List Int)))))))) (i1492 : Int) (v1495 : (Int × (Int × (Int × (Int × (Int × (List Int))))))) (v : Int × Unit) : Fr × LL := ([(0, aD (.slice (.pair tI (.pair tI (.pair tI (.pair tI (.pair tI (.slice tI))))))) a0), (3, aI i1492), (4, .one (.ptr 4 0)), (12, aD (.slice (.pair tI (.pair tI (.pair tI (.pair tI (.pair tI (.slice tI))))))) a0), (13, aI (List.length a0 : Int)), (14, aI i1492), (96, aD (.slice tI) v1495.2.2.2.2.2), (97, aI (List.length v1495.2.2.2.2.2 : Int)), (98, aI v.1)], [(4, .one (.pair tI (.pair tI (.pair tI (.pair tI (.pair tI (.slice tI)))))) v1495)])
@[reducible] def ref_FuncsCheck_s204 (v : Int) : Fr × LL := ([(2, aI v)], [])
@[reducible] def ref_FuncsCheck_s205 (a0 : (List (Int × (Int × (Int × (Int × (Int × (List Int)))))))) (i1492 : Int) (v1495 : (Int × (Int × (Int × (Int × (Int × (List Int))))))) (v : Unit) : Fr × LL := ([(0, aD (.slice (.pair tI (.pair tI (.pair tI (.pair tI (.pair tI (.slice tI))))))) a0), (3, aI i1492), (4, .one (.ptr 4 0)), (12, aD (.slice (.pair tI (.pair tI (.pair tI (.pair tI (.pair tI (.slice tI))))))) a0), (13, aI (List.length a0 : Int)), (14, aI i1492)], [(4, .one (.pair tI (.pair tI (.pair tI (.pair tI (.pair tI (.slice tI)))))) v1495)])
@[reducible] def ref_FuncsCheck_s206 (a0 : (List (Int × (Int × (Int × (Int × (Int × (List Int)))))))) (i1492 : Int) (v1495 : (Int × (Int × (Int × (Int × (Int × (List Int))))))) (v : Bool) : Fr × LL := ([(0, aD (.slice (.pair tI (.pair tI (.pair tI (.pair tI (.pair tI (.slice tI))))))) a0), (3, aI i1492), (4, .one (.ptr 4 0)), (12, aD (.slice (.pair tI (.pair tI (.pair tI (.pair tI (.pair tI (.slice tI))))))) a0), (13, aI (List.length a0 : Int)), (14, aI i1492), (84, aB v)], [(4, .one (.pair tI (.pair tI (.pair tI (.pair tI (.pair tI (.slice tI)))))) v1495)])
def ref_FuncsCheck_g207 (a0 : (List (Int × (Int × (Int × (Int × (Int × (List Int)))))))) (i1492 : Int) (v1495 : (Int × (Int × (Int × (Int × (Int × (List Int))))))) : Option (Esc Int Unit) :=
bif v1495.1 == (4 : Int) then
(((ref_Inside i1492 [v1495.2.2.2.1]).bind fun r2162 =>
bif !r2162 then
(some true)
else
((ref_Inside i1492 v1495.2.2.2.2.2).bind fun r2165 =>
some (!r2165))).bind fun v2167 =>
bif v2167 then
(some (.ret (2 : Int)))
else
((idx a0 v1495.2.2.2.1).bind fun v2170 =>
bif v2170.2.1 != (List.length v1495.2.2.2.2.2 : Int) then
(some (.ret (3 : Int)))
else
((forL (ref_FuncsCheck_b202 a0 v1495) (fun x2188 => (.brk ())) v1495.2.2.2.2.2 0 ()).bind fun v2197 =>
match v2197 with
| .ret v2202 =>
(some (.ret v2202))
| .brk v2203 =>
(some (.brk ())))))
else
(some (.brk ()))
def ref_FuncsCheck_g208 (a0 : (List (Int × (Int × (Int × (Int × (Int × (List Int)))))))) (v1495 : (Int × (Int × (Int × (Int × (Int × (List Int))))))) : Option Bool :=
(idx a0 v1495.2.2.2.1).bind fun v2222 =>
bif v2222.2.1 != (w64 (v1495.2.1 - (1 : Int))) then
(some true)
else
((idx a0 v1495.2.2.2.2.1).bind fun v2225 =>
some (v2225.2.1 != (w64 (v1495.2.1 + (1 : Int)))))
@[reducible] def ref_FuncsCheck_s209 (a0 : (List (Int × (Int × (Int × (Int × (Int × (List Int)))))))) (i1492 : Int) (v : Bool) : Fr × LL := ([(0, aD (.slice (.pair tI (.pair tI (.pair tI (.pair tI (.pair tI (.slice tI))))))) a0), (12, aD (.slice (.pair tI (.pair tI (.pair tI (.pair tI (.pair tI (.slice tI))))))) a0), (13, aI (List.length a0 : Int)), (14, aI i1492), (143, aB v)], [])
@[reducible] def ref_FuncsCheck_s210 (v : Int) : Fr × LL := ([(2, aI v)], [])
@[reducible] def ref_FuncsCheck_s211 (a0 : (List (Int × (Int × (Int × (Int × (Int × (List Int)))))))) (i1492 : Int) (v1495 : (Int × (Int × (Int × (Int × (Int × (List Int))))))) (v : Unit) : Fr × LL := ([(0, aD (.slice (.pair tI (.pair tI (.pair tI (.pair tI (.pair tI (.slice tI))))))) a0), (3, aI i1492), (4, .one (.ptr 4 0)), (12, aD (.slice (.pair tI (.pair tI (.pair tI (.pair tI (.pair tI (.slice tI))))))) a0), (13, aI (List.length a0 : Int)), (14, aI i1492)], [(4, .one (.pair tI (.pair tI (.pair tI (.pair tI (.pair tI (.slice tI)))))) v1495)])
@[reducible] def ref_FuncsCheck_s212 (a0 : (List (Int × (Int × (Int × (Int × (Int × (List Int)))))))) (i1492 : Int) (v1495 : (Int × (Int × (Int × (Int × (Int × (List Int))))))) (v : Bool) : Fr × LL := ([(0, aD (.slice (.pair tI (.pair tI (.pair tI (.pair tI (.pair tI (.slice tI))))))) a0), (3, aI i1492), (4, .one (.ptr 4 0)), (12, aD (.slice (.pair tI (.pair tI (.pair tI (.pair tI (.pair tI (.slice tI))))))) a0), (13, aI (List.length a0 : Int)), (14, aI i1492), (68, aB v)], [(4, .one (.pair tI (.pair tI (.pair tI (.pair tI (.pair tI (.slice tI)))))) v1495)])
@[reducible] def ref_FuncsCheck_s213 (a0 : (List (Int × (Int × (Int × (Int × (Int × (List Int)))))))) (i1492 : Int) (v1495 : (Int × (Int × (Int × (Int × (Int × (List Int))))))) (v : Bool) : Fr × LL := ([(0, aD (.slice (.pair tI (.pair tI (.pair tI (.pair tI (.pair tI (.slice tI))))))) a0), (3, aI i1492), (4, .one (.ptr 4 0)), (12, aD (.slice (.pair tI (.pair tI (.pair tI (.pair tI (.pair tI (.slice tI))))))) a0), (13, aI (List.length a0 : Int)), (14, aI i1492), (56, aB v)], [(4, .one (.pair tI (.pair tI (.pair tI (.pair tI (.pair tI (.slice tI)))))) v1495)])
@[reducible] def ref_FuncsCheck_s214 (a0 : (List (Int × (Int × (Int × (Int × (Int × (List Int)))))))) (i1492 : Int) (v1495 : (Int × (Int × (Int × (Int × (Int × (List Int))))))) (v : Int) : Fr × LL := ([(0, aD (.slice (.pair tI (.pair tI (.pair tI (.pair tI (.pair tI (.slice tI))))))) a0), (3, aI i1492), (4, .one (.ptr 4 0)), (5, aI v), (12, aD (.slice (.pair tI (.pair tI (.pair tI (.pair tI (.pair tI (.slice tI))))))) a0), (13, aI (List.length a0 : Int)), (14, aI i1492)], [(4, .one (.pair tI (.pair tI (.pair tI (.pair tI (.pair tI (.slice tI)))))) v1495)])
def ref_FuncsCheck_g215 (a0 : (List (Int × (Int × (Int × (Int × (Int × (List Int)))))))) (i1492 : Int) (v1495 : (Int × (Int × (Int × (Int × (Int × (List Int))))))) : Option (Esc Int Unit) :=
(ref_Within (1 : Int) v1495.1 (5 : Int)).bind fun r1986 =>
bif !r1986 then
(some (.ret (6 : Int)))
else
(((bif v1495.1 == (2 : Int) then
(some true)
else
(some (v1495.1 == (5 : Int)))).bind fun v2004 =>
bif v2004 then
(some (1 : Int))
else
(some (0 : Int))).bind fun v2007 =>
(ref_FuncsCheck_g193 v1495 v2007).bind fun v2030 =>
bif v2030 then
(some (.ret (1 : Int)))
else
((bif v1495.1 == (3 : Int) then
((ref_Inside v1495.2.1 [v1495.2.2.1]).bind fun r2040 =>
some (!r2040))
else
(some false)).bind fun v2042 =>
bif v2042 then
(some (.ret (4 : Int)))
else
((ref_FuncsCheck_g207 a0 i1492 v1495).bind fun v2204 =>
match v2204 with
| .ret v2206 =>
(some (.ret v2206))
| .brk v2207 =>
(bif v1495.1 == (5 : Int) then
((ref_Inside i1492 [v1495.2.2.2.1, v1495.2.2.2.2.1]).bind fun r2209 =>
bif !r2209 then
(some (.ret (2 : Int)))
else
((ref_FuncsCheck_g208 a0 v1495).bind fun v2227 =>
bif v2227 then
(some (.ret (3 : Int)))
else
(some (.brk ()))))
else
(some (.brk ()))))))
@[reducible] def ref_FuncsCheck_s216 (v : Int) : Fr × LL := ([(2, aI v)], [])
@[reducible] def ref_FuncsCheck_s217 (a0 : (List (Int × (Int × (Int × (Int × (Int × (List Int)))))))) (i1492 : Int) (v : Unit) : Fr × LL := ([(0, aD (.slice (.pair tI (.pair tI (.pair tI (.pair tI (.pair tI (.slice tI))))))) a0), (12, aD (.slice (.pair tI (.pair tI (.pair tI (.pair tI (.pair tI (.slice tI))))))) a0), (13, aI (List.length a0 : Int)), (14, aI i1492)], [])
def ref_FuncsCheck_b218 (a0 : (List (Int × (Int × (Int × (Int × (Int × (List Int)))))))) (i1492 : Int) (v1495 : (Int × (Int × (Int × (Int × (Int × (List Int))))))) (x1493 : Unit) : Option (Flow Unit (Esc Int Unit)) :=
(ref_FuncsCheck_g215 a0 i1492 v1495).bind fun v2230 =>
match v2230 with
| .ret v2232 =>
(some (.done (.ret v2232)))
| .brk v2233 =>
(some (.next ()))
@[reducible] def ref_FuncsCheck_s219 (a0 : (List (Int × (Int × (Int × (Int × (Int × (List Int)))))))) (v : Int × Unit) : Fr × LL := ([(0, aD (.slice (.pair tI (.pair tI (.pair tI (.pair tI (.pair tI (.slice tI))))))) a0), (12, aD (.slice (.pair tI (.pair tI (.pair tI (.pair tI (.pair tI (.slice tI))))))) a0), (13, aI (List.length a0 : Int)), (14, aI v.1)], [])
@[reducible] def ref_FuncsCheck_s220 (v : Int) : Fr × LL := ([(2, aI v)], [])
@[reducible] def ref_FuncsCheck_s221 (v : Unit) : Fr × LL := ([], [])
def ref_FuncsCheck (a0 : (List (Int × (Int × (Int × (Int × (Int × (List Int)))))))) : Option Int :=
(ref_Within (1 : Int) (List.length a0 : Int) (12 : Int)).bind fun r1 =>
bif !r1 then
(some (1 : Int))
else
((forL (ref_FuncsCheck_b218 a0) (fun x1493 => (.brk ())) a0 0 ()).bind fun v2235 =>
match v2235 with
| .ret v2240 =>
(some v2240)
| .brk v2241 =>
(some (0 : Int)))
theorem ref_FuncsCheck_ok {a0 : (List (Int × (Int × (Int × (Int × (Int × (List Int)))))))} {r : Int} (h : ref_FuncsCheck a0 = some r) : FnC Try.prog 32 [aD (.slice (.pair tI (.pair tI (.pair tI (.pair tI (.pair tI (.slice tI))))))) a0] [] (aI r) [] := by
  refine fnC_of_W (B := bodyOf Try.f32) (n := 145) Try.func32 (by kernel_rfl) (by kernel_rfl) (by kernel_rfl) (by kernel_rfl) (by kernel_rfl) ?_
  intro K
  refine W_seq (by kernel_rfl) ?_
  refine W_run 1 [] [0] [] (fr' := [(0, aD (.slice (.pair tI (.pair tI (.pair tI (.pair tI (.pair tI (.slice tI))))))) a0)]) (L' := []) (obs := []) (by kernel_rfl) (by kernel_rfl) (by kernel_rfl) allP0 ?_
  refine seqQ_norm ?_
  refine W_seq (by kernel_rfl) ?_
  refine W_seq (by kernel_rfl) ?_
  refine W_region (by kernel_rfl) ?_
  refine WO_run (j := 2) (k := 2) (orcs := []) (kF := [0, 9]) (kL := []) (fr' := [(0, aD (.slice (.pair tI (.pair tI (.pair tI (.pair tI (.pair tI (.slice tI))))))) a0), (9, aI (List.length a0 : Int))]) (L' := []) (obs := []) rfl (by kernel_rfl) allP0 ?_
  obtain ⟨r1, h2, h⟩ := bind_of h
  refine WO_call0 (us := [none, none, none]) (d := 10) (p := True) (j := 3) rfl ⟨by kernel_rfl, by kernel_rfl, by kernel_rfl⟩ trivial (ref_Within_ok h2) (by kernel_rfl) ?_
  refine WO_run (j := 4) (k := 1) (orcs := []) (kF := [0, 11]) (kL := []) (fr' := [(0, aD (.slice (.pair tI (.pair tI (.pair tI (.pair tI (.pair tI (.slice tI))))))) a0), (11, aB (!r1))]) (L' := []) (obs := []) rfl (by kernel_rfl) allP0 ?_
  refine WO_fin [0, 11] [] (fr' := [(0, aD (.slice (.pair tI (.pair tI (.pair tI (.pair tI (.pair tI (.slice tI))))))) a0), (11, aB (!r1))]) (L' := []) (by kernel_rfl) (by kernel_rfl) ?_
  refine seqQ_norm ?_
  refine W_cond (o := .tmp 11) (b := !r1) (by kernel_rfl) (by kernel_rfl) (fun h3 => ?_) (fun h3 => ?_)
  · replace h := ofT h3 h
    refine W_seq (by kernel_rfl) ?_
    refine W_run 1 [] [2] [] (fr' := [(2, aI (1 : Int))]) (L' := []) (obs := []) (by kernel_rfl) (by kernel_rfl) (by kernel_rfl) allP0 ?_
    refine seqQ_norm ?_
    obtain rfl := Option.some.inj h
    refine W_ret [2] [] (fr' := [(2, aI (1 : Int))]) (L' := []) (by kernel_rfl) (by kernel_rfl) ?_
    refine seqQ_ret ?_
    exact retQ_mk (by kernel_rfl) (by kernel_rfl) (by kernel_rfl)
  · replace h := ofF h3 h
    refine W_skip [0] [] (fr' := [(0, aD (.slice (.pair tI (.pair tI (.pair tI (.pair tI (.pair tI (.slice tI))))))) a0)]) (L' := []) (by kernel_rfl) (by kernel_rfl) ?_
    refine seqQ_norm ?_
    refine W_seq (by kernel_rfl) ?_
    refine W_seq (by kernel_rfl) ?_
    refine W_run 3 [] [0, 12, 13, 14] [] (fr' := [(0, aD (.slice (.pair tI (.pair tI (.pair tI (.pair tI (.pair tI (.slice tI))))))) a0), (12, aD (.slice (.pair tI (.pair tI (.pair tI (.pair tI (.pair tI (.slice tI))))))) a0), (13, aI (List.length a0 : Int)), (14, aI (0 : Int))]) (L' := []) (obs := []) (by kernel_rfl) (by kernel_rfl) (by kernel_rfl) allP0 ?_
    refine seqQ_norm ?_
    refine W_block (id := 0) (by kernel_rfl) ?_
    obtain ⟨v2235, h2236, h⟩ := bind_of h
    refine W_len (t := 12) (u := (.pair tI (.pair tI (.pair tI (.pair tI (.pair tI (.slice tI))))))) (xs := a0) (by kernel_rfl) (fun h2239 => ?_)
    obtain ⟨h2237, h2238⟩ := forL_iter h2239 h2236
    refine W_weaken [0, 12, 13, 14] [] (fr' := ((ref_FuncsCheck_s219 a0) ((0 : Int), ())).1) (L' := ((ref_FuncsCheck_s219 a0) ((0 : Int), ())).2) (by kernel_rfl) ?_
    refine W_cutK (W_loop (S := (ref_FuncsCheck_s219 a0)) (J := (escQ (exQ .ret ref_FuncsCheck_s220) (exQ (.exit 0) ref_FuncsCheck_s221))) (by kernel_rfl) ?_ h2237 _ v2235 h2238) ?_
    · rintro ⟨i1492, x1493⟩ s h
      refine W_seq (by kernel_rfl) ?_
      refine W_run 1 [] [0, 12, 13, 14, 15] [] (fr' := [(0, aD (.slice (.pair tI (.pair tI (.pair tI (.pair tI (.pair tI (.slice tI))))))) a0), (12, aD (.slice (.pair tI (.pair tI (.pair tI (.pair tI (.pair tI (.slice tI))))))) a0), (13, aI (List.length a0 : Int)), (14, aI i1492), (15, aB (decide (i1492 < (List.length a0 : Int))))]) (L' := []) (obs := []) (by kernel_rfl) (by kernel_rfl) (by kernel_rfl) allP0 ?_
      refine seqQ_norm ?_
      refine W_seq (by kernel_rfl) ?_
      refine W_cond (o := .tmp 15) (b := decide (i1492 < (List.length a0 : Int))) (by kernel_rfl) (by kernel_rfl) (fun h1497 => ?_) (fun h1497 => ?_)
      · replace h := stepL_true h1497 h
        obtain ⟨v1495, _, h1496, h, rfl⟩ := h
        refine W_skip [0, 12, 13, 14] [] (fr' := [(0, aD (.slice (.pair tI (.pair tI (.pair tI (.pair tI (.pair tI (.slice tI))))))) a0), (12, aD (.slice (.pair tI (.pair tI (.pair tI (.pair tI (.pair tI (.slice tI))))))) a0), (13, aI (List.length a0 : Int)), (14, aI i1492)]) (L' := []) (by kernel_rfl) (by kernel_rfl) ?_
        refine seqQ_norm ?_
        refine W_seq (by kernel_rfl) ?_
        obtain ⟨v2230, h2231, h⟩ := bind_of h
        refine W_cutK (Q' := (escQ (exQ .ret ref_FuncsCheck_s216) (exQ .normal (ref_FuncsCheck_s217 a0 i1492))) v2230) ?_ ?_
        · replace h := h2231
          refine W_block (id := 1) (by kernel_rfl) ?_
          refine W_seq (by kernel_rfl) ?_
          refine W_run 6 [(3, .val (.dat (.pair tI (.pair tI (.pair tI (.pair tI (.pair tI (.slice tI)))))) v1495)), (7, .typed)] [0, 3, 4, 12, 13, 14] [4] (fr' := [(0, aD (.slice (.pair tI (.pair tI (.pair tI (.pair tI (.pair tI (.slice tI))))))) a0), (3, aI i1492), (4, .one (.ptr 4 0)), (12, aD (.slice (.pair tI (.pair tI (.pair tI (.pair tI (.pair tI (.slice tI))))))) a0), (13, aI (List.length a0 : Int)), (14, aI i1492)]) (L' := [(4, .one (.pair tI (.pair tI (.pair tI (.pair tI (.pair tI (.slice tI)))))) v1495)]) (obs := [Idx a0 i1492 v1495, True]) (by kernel_rfl) (by kernel_rfl) (by kernel_rfl) (allP2 (Idx.of h1496) (allP1 trivial)) ?_
          refine seqQ_norm ?_
          refine W_seq (by kernel_rfl) ?_
          refine W_seq (by kernel_rfl) ?_
          refine W_region (by kernel_rfl) ?_
          refine WO_run (j := 2) (k := 2) (orcs := []) (kF := [0, 3, 4, 12, 13, 14, 20]) (kL := [4]) (fr' := [(0, aD (.slice (.pair tI (.pair tI (.pair tI (.pair tI (.pair tI (.slice tI))))))) a0), (3, aI i1492), (4, .one (.ptr 4 0)), (12, aD (.slice (.pair tI (.pair tI (.pair tI (.pair tI (.pair tI (.slice tI))))))) a0), (13, aI (List.length a0 : Int)), (14, aI i1492), (20, aI v1495.1)]) (L' := [(4, .one (.pair tI (.pair tI (.pair tI (.pair tI (.pair tI (.slice tI)))))) v1495)]) (obs := []) rfl (by kernel_rfl) allP0 ?_
          obtain ⟨r1986, h1987, h⟩ := bind_of h
          refine WO_call0 (us := [none, none, none]) (d := 21) (p := True) (j := 3) rfl ⟨by kernel_rfl, by kernel_rfl, by kernel_rfl⟩ trivial (ref_Within_ok h1987) (by kernel_rfl) ?_
          refine WO_run (j := 4) (k := 1) (orcs := []) (kF := [0, 3, 4, 12, 13, 14, 22]) (kL := [4]) (fr' := [(0, aD (.slice (.pair tI (.pair tI (.pair tI (.pair tI (.pair tI (.slice tI))))))) a0), (3, aI i1492), (4, .one (.ptr 4 0)), (12, aD (.slice (.pair tI (.pair tI (.pair tI (.pair tI (.pair tI (.slice tI))))))) a0), (13, aI (List.length a0 : Int)), (14, aI i1492), (22, aB (!r1986))]) (L' := [(4, .one (.pair tI (.pair tI (.pair tI (.pair tI (.pair tI (.slice tI)))))) v1495)]) (obs := []) rfl (by kernel_rfl) allP0 ?_
          refine WO_fin [0, 3, 4, 12, 13, 14, 22] [4] (fr' := [(0, aD (.slice (.pair tI (.pair tI (.pair tI (.pair tI (.pair tI (.slice tI))))))) a0), (3, aI i1492), (4, .one (.ptr 4 0)), (12, aD (.slice (.pair tI (.pair tI (.pair tI (.pair tI (.pair tI (.slice tI))))))) a0), (13, aI (List.length a0 : Int)), (14, aI i1492), (22, aB (!r1986))]) (L' := [(4, .one (.pair tI (.pair tI (.pair tI (.pair tI (.pair tI (.slice tI)))))) v1495)]) (by kernel_rfl) (by kernel_rfl) ?_
          refine seqQ_norm ?_
          refine W_cond (o := .tmp 22) (b := !r1986) (by kernel_rfl) (by kernel_rfl) (fun h1988 => ?_) (fun h1988 => ?_)
          · replace h := ofT h1988 h
            refine W_seq (by kernel_rfl) ?_
            refine W_run 1 [] [2] [] (fr' := [(2, aI (6 : Int))]) (L' := []) (obs := []) (by kernel_rfl) (by kernel_rfl) (by kernel_rfl) allP0 ?_
            refine seqQ_norm ?_
            obtain rfl := Option.some.inj h
            refine W_ret [2] [] (fr' := [(2, aI (6 : Int))]) (L' := []) (by kernel_rfl) (by kernel_rfl) ?_
            refine seqQ_ret ?_
            refine blockQ_ret ?_
            refine escQ_ret ?_
            exact exQ_mk (by kernel_rfl) (by kernel_rfl)
          · replace h := ofF h1988 h
            refine W_skip [0, 3, 4, 12, 13, 14] [4] (fr' := [(0, aD (.slice (.pair tI (.pair tI (.pair tI (.pair tI (.pair tI (.slice tI))))))) a0), (3, aI i1492), (4, .one (.ptr 4 0)), (12, aD (.slice (.pair tI (.pair tI (.pair tI (.pair tI (.pair tI (.slice tI))))))) a0), (13, aI (List.length a0 : Int)), (14, aI i1492)]) (L' := [(4, .one (.pair tI (.pair tI (.pair tI (.pair tI (.pair tI (.slice tI)))))) v1495)]) (by kernel_rfl) (by kernel_rfl) ?_
            refine seqQ_norm ?_
            refine W_seq (by kernel_rfl) ?_
            refine W_run 1 [] [0, 3, 4, 5, 12, 13, 14] [4] (fr' := [(0, aD (.slice (.pair tI (.pair tI (.pair tI (.pair tI (.pair tI (.slice tI))))))) a0), (3, aI i1492), (4, .one (.ptr 4 0)), (5, aI (0 : Int)), (12, aD (.slice (.pair tI (.pair tI (.pair tI (.pair tI (.pair tI (.slice tI))))))) a0), (13, aI (List.length a0 : Int)), (14, aI i1492)]) (L' := [(4, .one (.pair tI (.pair tI (.pair tI (.pair tI (.pair tI (.slice tI)))))) v1495)]) (obs := []) (by kernel_rfl) (by kernel_rfl) (by kernel_rfl) allP0 ?_
            refine seqQ_norm ?_
            refine W_seq (by kernel_rfl) ?_
            obtain ⟨v2007, h2008, h⟩ := bind_of h
            refine W_cutK (Q' := (exQ .normal (ref_FuncsCheck_s214 a0 i1492 v1495)) v2007) ?_ ?_
            · replace h := h2008
              refine W_seq (by kernel_rfl) ?_
              obtain ⟨v2004, h2005, h⟩ := bind_of h
              refine W_cutK (Q' := (exQ .normal (ref_FuncsCheck_s192 a0 i1492 v1495)) v2004) ?_ ?_
              · replace h := h2005
                refine W_region (by kernel_rfl) ?_
                refine WO_run (j := 4) (k := 4) (orcs := []) (kF := [0, 3, 4, 5, 12, 13, 14, 26]) (kL := [4]) (fr' := [(0, aD (.slice (.pair tI (.pair tI (.pair tI (.pair tI (.pair tI (.slice tI))))))) a0), (3, aI i1492), (4, .one (.ptr 4 0)), (5, aI (0 : Int)), (12, aD (.slice (.pair tI (.pair tI (.pair tI (.pair tI (.pair tI (.slice tI))))))) a0), (13, aI (List.length a0 : Int)), (14, aI i1492), (26, aB (v1495.1 == (2 : Int)))]) (L' := [(4, .one (.pair tI (.pair tI (.pair tI (.pair tI (.pair tI (.slice tI)))))) v1495)]) (obs := []) rfl (by kernel_rfl) allP0 ?_
                rcases Bool.eq_false_or_eq_true (v1495.1 == (2 : Int)) with h2003 | h2003
                · replace h := ofT h2003 h
                  refine WO_run (j := 8) (k := 4) (orcs := [(8, .known true), (10, .known true), (12, .known true), (15, .val (.dat .bool true))]) (kF := [0, 3, 4, 5, 12, 13, 14, 30]) (kL := [4]) (fr' := [(0, aD (.slice (.pair tI (.pair tI (.pair tI (.pair tI (.pair tI (.slice tI))))))) a0), (3, aI i1492), (4, .one (.ptr 4 0)), (5, aI (0 : Int)), (12, aD (.slice (.pair tI (.pair tI (.pair tI (.pair tI (.pair tI (.slice tI))))))) a0), (13, aI (List.length a0 : Int)), (14, aI i1492), (30, aB true)]) (L' := [(4, .one (.pair tI (.pair tI (.pair tI (.pair tI (.pair tI (.slice tI)))))) v1495)]) (obs := [((v1495.1 == (2 : Int)) = true), ((v1495.1 == (2 : Int)) = true), ((v1495.1 == (2 : Int)) = true), ((v1495.1 == (2 : Int)) = true)]) rfl (by kernel_rfl) (allP2 h2003 (allP2 h2003 (allP2 h2003 (allP1 h2003)))) ?_
                  obtain rfl := Option.some.inj h
                  refine WO_fin [0, 3, 4, 5, 12, 13, 14, 30] [4] (fr' := [(0, aD (.slice (.pair tI (.pair tI (.pair tI (.pair tI (.pair tI (.slice tI))))))) a0), (3, aI i1492), (4, .one (.ptr 4 0)), (5, aI (0 : Int)), (12, aD (.slice (.pair tI (.pair tI (.pair tI (.pair tI (.pair tI (.slice tI))))))) a0), (13, aI (List.length a0 : Int)), (14, aI i1492), (30, aB true)]) (L' := [(4, .one (.pair tI (.pair tI (.pair tI (.pair tI (.pair tI (.slice tI)))))) v1495)]) (by kernel_rfl) (by kernel_rfl) ?_
                  exact exQ_mk (by kernel_rfl) (by kernel_rfl)
                · replace h := ofF h2003 h
                  refine WO_run (j := 8) (k := 4) (orcs := [(8, .known false), (10, .known false), (12, .known false), (15, .val (.dat .bool false))]) (kF := [0, 3, 4, 5, 12, 13, 14, 30]) (kL := [4]) (fr' := [(0, aD (.slice (.pair tI (.pair tI (.pair tI (.pair tI (.pair tI (.slice tI))))))) a0), (3, aI i1492), (4, .one (.ptr 4 0)), (5, aI (0 : Int)), (12, aD (.slice (.pair tI (.pair tI (.pair tI (.pair tI (.pair tI (.slice tI))))))) a0), (13, aI (List.length a0 : Int)), (14, aI i1492), (30, aB (v1495.1 == (5 : Int)))]) (L' := [(4, .one (.pair tI (.pair tI (.pair tI (.pair tI (.pair tI (.slice tI)))))) v1495)]) (obs := [((v1495.1 == (2 : Int)) = false), ((v1495.1 == (2 : Int)) = false), ((v1495.1 == (2 : Int)) = false), ((v1495.1 == (2 : Int)) = false)]) rfl (by kernel_rfl) (allP2 h2003 (allP2 h2003 (allP2 h2003 (allP1 h2003)))) ?_
                  obtain rfl := Option.some.inj h
                  refine WO_fin [0, 3, 4, 5, 12, 13, 14, 30] [4] (fr' := [(0, aD (.slice (.pair tI (.pair tI (.pair tI (.pair tI (.pair tI (.slice tI))))))) a0), (3, aI i1492), (4, .one (.ptr 4 0)), (5, aI (0 : Int)), (12, aD (.slice (.pair tI (.pair tI (.pair tI (.pair tI (.pair tI (.slice tI))))))) a0), (13, aI (List.length a0 : Int)), (14, aI i1492), (30, aB (v1495.1 == (5 : Int)))]) (L' := [(4, .one (.pair tI (.pair tI (.pair tI (.pair tI (.pair tI (.slice tI)))))) v1495)]) (by kernel_rfl) (by kernel_rfl) ?_
                  exact exQ_mk (by kernel_rfl) (by kernel_rfl)
              · intro e fr L hJ
                obtain ⟨rfl, rfl, rfl⟩ := hJ
                refine LT_keep [0, 3, 4, 5, 12, 13, 14, 30] [4] (fr' := [(0, aD (.slice (.pair tI (.pair tI (.pair tI (.pair tI (.pair tI (.slice tI))))))) a0), (3, aI i1492), (4, .one (.ptr 4 0)), (5, aI (0 : Int)), (12, aD (.slice (.pair tI (.pair tI (.pair tI (.pair tI (.pair tI (.slice tI))))))) a0), (13, aI (List.length a0 : Int)), (14, aI i1492), (30, aB v2004)]) (L' := [(4, .one (.pair tI (.pair tI (.pair tI (.pair tI (.pair tI (.slice tI)))))) v1495)]) (by kernel_rfl) ?_
                refine seqQ_norm ?_
                refine W_cond (o := .tmp 30) (b := v2004) (by kernel_rfl) (by kernel_rfl) (fun h2006 => ?_) (fun h2006 => ?_)
                · replace h := ofT h2006 h
                  obtain rfl := Option.some.inj h
                  refine W_run 1 [] [0, 3, 4, 5, 12, 13, 14] [4] (fr' := [(0, aD (.slice (.pair tI (.pair tI (.pair tI (.pair tI (.pair tI (.slice tI))))))) a0), (3, aI i1492), (4, .one (.ptr 4 0)), (5, aI (1 : Int)), (12, aD (.slice (.pair tI (.pair tI (.pair tI (.pair tI (.pair tI (.slice tI))))))) a0), (13, aI (List.length a0 : Int)), (14, aI i1492)]) (L' := [(4, .one (.pair tI (.pair tI (.pair tI (.pair tI (.pair tI (.slice tI)))))) v1495)]) (obs := []) (by kernel_rfl) (by kernel_rfl) (by kernel_rfl) allP0 ?_
                  exact exQ_mk (by kernel_rfl) (by kernel_rfl)
                · replace h := ofF h2006 h
                  obtain rfl := Option.some.inj h
                  refine W_skip [0, 3, 4, 5, 12, 13, 14] [4] (fr' := [(0, aD (.slice (.pair tI (.pair tI (.pair tI (.pair tI (.pair tI (.slice tI))))))) a0), (3, aI i1492), (4, .one (.ptr 4 0)), (5, aI (0 : Int)), (12, aD (.slice (.pair tI (.pair tI (.pair tI (.pair tI (.pair tI (.slice tI))))))) a0), (13, aI (List.length a0 : Int)), (14, aI i1492)]) (L' := [(4, .one (.pair tI (.pair tI (.pair tI (.pair tI (.pair tI (.slice tI)))))) v1495)]) (by kernel_rfl) (by kernel_rfl) ?_
                  exact exQ_mk (by kernel_rfl) (by kernel_rfl)
            · intro e fr L hJ
              obtain ⟨rfl, rfl, rfl⟩ := hJ
              refine LT_keep [0, 3, 4, 5, 12, 13, 14] [4] (fr' := [(0, aD (.slice (.pair tI (.pair tI (.pair tI (.pair tI (.pair tI (.slice tI))))))) a0), (3, aI i1492), (4, .one (.ptr 4 0)), (5, aI v2007), (12, aD (.slice (.pair tI (.pair tI (.pair tI (.pair tI (.pair tI (.slice tI))))))) a0), (13, aI (List.length a0 : Int)), (14, aI i1492)]) (L' := [(4, .one (.pair tI (.pair tI (.pair tI (.pair tI (.pair tI (.slice tI)))))) v1495)]) (by kernel_rfl) ?_
              refine seqQ_norm ?_
              refine W_seq (by kernel_rfl) ?_
              refine W_seq (by kernel_rfl) ?_
              obtain ⟨v2030, h2031, h⟩ := bind_of h
              refine W_cutK (Q' := (exQ .normal (ref_FuncsCheck_s213 a0 i1492 v1495)) v2030) ?_ ?_
              · replace h := h2031
                refine W_region (by kernel_rfl) ?_
                refine WO_run (j := 3) (k := 3) (orcs := []) (kF := [0, 3, 4, 12, 13, 14, 31, 33]) (kL := [4]) (fr' := [(0, aD (.slice (.pair tI (.pair tI (.pair tI (.pair tI (.pair tI (.slice tI))))))) a0), (3, aI i1492), (4, .one (.ptr 4 0)), (12, aD (.slice (.pair tI (.pair tI (.pair tI (.pair tI (.pair tI (.slice tI))))))) a0), (13, aI (List.length a0 : Int)), (14, aI i1492), (31, aI v2007), (33, aI v1495.2.1)]) (L' := [(4, .one (.pair tI (.pair tI (.pair tI (.pair tI (.pair tI (.slice tI)))))) v1495)]) (obs := []) rfl (by kernel_rfl) allP0 ?_
                obtain ⟨r2023, h2024, h⟩ := bind_of h
                refine WO_call0 (us := [none, none, none]) (d := 34) (p := True) (j := 4) rfl ⟨by kernel_rfl, by kernel_rfl, by kernel_rfl⟩ trivial (ref_Within_ok h2024) (by kernel_rfl) ?_
                refine WO_run (j := 6) (k := 2) (orcs := []) (kF := [0, 3, 4, 12, 13, 14, 36]) (kL := [4]) (fr' := [(0, aD (.slice (.pair tI (.pair tI (.pair tI (.pair tI (.pair tI (.slice tI))))))) a0), (3, aI i1492), (4, .one (.ptr 4 0)), (12, aD (.slice (.pair tI (.pair tI (.pair tI (.pair tI (.pair tI (.slice tI))))))) a0), (13, aI (List.length a0 : Int)), (14, aI i1492), (36, aB (!r2023))]) (L' := [(4, .one (.pair tI (.pair tI (.pair tI (.pair tI (.pair tI (.slice tI)))))) v1495)]) (obs := []) rfl (by kernel_rfl) allP0 ?_
                rcases Bool.eq_false_or_eq_true (!r2023) with h2025 | h2025
                · replace h := ofT h2025 h
                  refine WO_run (j := 26) (k := 20) (orcs := [(12, .known true), (14, .known true), (16, .known true), (18, .known true), (20, .known true), (22, .known true), (24, .known true), (26, .known true), (29, .val (.dat .bool true)), (32, .known true), (34, .known true), (36, .known true), (38, .known true), (40, .known true), (42, .known true), (44, .known true), (46, .known true), (48, .known true), (51, .val (.dat .bool true))]) (kF := [0, 3, 4, 12, 13, 14, 56]) (kL := [4]) (fr' := [(0, aD (.slice (.pair tI (.pair tI (.pair tI (.pair tI (.pair tI (.slice tI))))))) a0), (3, aI i1492), (4, .one (.ptr 4 0)), (12, aD (.slice (.pair tI (.pair tI (.pair tI (.pair tI (.pair tI (.slice tI))))))) a0), (13, aI (List.length a0 : Int)), (14, aI i1492), (56, aB true)]) (L' := [(4, .one (.pair tI (.pair tI (.pair tI (.pair tI (.pair tI (.slice tI)))))) v1495)]) (obs := [((!r2023) = true), ((!r2023) = true), ((!r2023) = true), ((!r2023) = true), ((!r2023) = true), ((!r2023) = true), (true = true), (true = true), (true = true), (true = true), (true = true), (true = true)]) rfl (by kernel_rfl) (allP2 h2025 (allP2 h2025 (allP2 h2025 (allP2 h2025 (allP2 h2025 (allP2 h2025 (allP2 rfl (allP2 rfl (allP2 rfl (allP2 rfl (allP2 rfl (allP1 rfl)))))))))))) ?_
                  obtain rfl := Option.some.inj h
                  refine WO_fin [0, 3, 4, 12, 13, 14, 56] [4] (fr' := [(0, aD (.slice (.pair tI (.pair tI (.pair tI (.pair tI (.pair tI (.slice tI))))))) a0), (3, aI i1492), (4, .one (.ptr 4 0)), (12, aD (.slice (.pair tI (.pair tI (.pair tI (.pair tI (.pair tI (.slice tI))))))) a0), (13, aI (List.length a0 : Int)), (14, aI i1492), (56, aB true)]) (L' := [(4, .one (.pair tI (.pair tI (.pair tI (.pair tI (.pair tI (.slice tI)))))) v1495)]) (by kernel_rfl) (by kernel_rfl) ?_
                  exact exQ_mk (by kernel_rfl) (by kernel_rfl)
                · replace h := ofF h2025 h
                  refine WO_run (j := 10) (k := 4) (orcs := [(12, .known false), (14, .known false), (16, .known false), (18, .known false)]) (kF := [0, 3, 4, 12, 13, 14, 36, 40]) (kL := [4]) (fr' := [(0, aD (.slice (.pair tI (.pair tI (.pair tI (.pair tI (.pair tI (.slice tI))))))) a0), (3, aI i1492), (4, .one (.ptr 4 0)), (12, aD (.slice (.pair tI (.pair tI (.pair tI (.pair tI (.pair tI (.slice tI))))))) a0), (13, aI (List.length a0 : Int)), (14, aI i1492), (36, aB (!r2023)), (40, aB (v1495.1 == (2 : Int)))]) (L' := [(4, .one (.pair tI (.pair tI (.pair tI (.pair tI (.pair tI (.slice tI)))))) v1495)]) (obs := [((!r2023) = false), ((!r2023) = false), ((!r2023) = false), ((!r2023) = false)]) rfl (by kernel_rfl) (allP2 h2025 (allP2 h2025 (allP2 h2025 (allP1 h2025)))) ?_
                  rcases Bool.eq_false_or_eq_true (v1495.1 == (2 : Int)) with h2026 | h2026
                  · replace h := ofT h2026 h
                    refine WO_run (j := 16) (k := 6) (orcs := [(20, .known true), (22, .known true), (24, .known true), (26, .known false), (27, .val (.dat .bool true)), (29, .val (.dat .bool false))]) (kF := [0, 3, 4, 12, 13, 14, 46]) (kL := [4]) (fr' := [(0, aD (.slice (.pair tI (.pair tI (.pair tI (.pair tI (.pair tI (.slice tI))))))) a0), (3, aI i1492), (4, .one (.ptr 4 0)), (12, aD (.slice (.pair tI (.pair tI (.pair tI (.pair tI (.pair tI (.slice tI))))))) a0), (13, aI (List.length a0 : Int)), (14, aI i1492), (46, aB (v1495.2.1 != (1 : Int)))]) (L' := [(4, .one (.pair tI (.pair tI (.pair tI (.pair tI (.pair tI (.slice tI)))))) v1495)]) (obs := [((v1495.1 == (2 : Int)) = true), ((v1495.1 == (2 : Int)) = true), ((v1495.1 == (2 : Int)) = true), ((!r2023) = false), ((v1495.1 == (2 : Int)) = true), ((!r2023) = false)]) rfl (by kernel_rfl) (allP2 h2026 (allP2 h2026 (allP2 h2026 (allP2 h2025 (allP2 h2026 (allP1 h2025)))))) ?_
                    rcases Bool.eq_false_or_eq_true (v1495.2.1 != (1 : Int)) with h2027 | h2027
                    · replace h := ofT h2027 h
                      refine WO_run (j := 26) (k := 10) (orcs := [(32, .known true), (34, .known true), (36, .known true), (38, .known true), (40, .known true), (42, .known true), (44, .known true), (46, .known true), (48, .known true), (51, .val (.dat .bool true))]) (kF := [0, 3, 4, 12, 13, 14, 56]) (kL := [4]) (fr' := [(0, aD (.slice (.pair tI (.pair tI (.pair tI (.pair tI (.pair tI (.slice tI))))))) a0), (3, aI i1492), (4, .one (.ptr 4 0)), (12, aD (.slice (.pair tI (.pair tI (.pair tI (.pair tI (.pair tI (.slice tI))))))) a0), (13, aI (List.length a0 : Int)), (14, aI i1492), (56, aB true)]) (L' := [(4, .one (.pair tI (.pair tI (.pair tI (.pair tI (.pair tI (.slice tI)))))) v1495)]) (obs := [((v1495.2.1 != (1 : Int)) = true), ((v1495.2.1 != (1 : Int)) = true), ((v1495.2.1 != (1 : Int)) = true), ((v1495.2.1 != (1 : Int)) = true), ((v1495.2.1 != (1 : Int)) = true), ((v1495.2.1 != (1 : Int)) = true)]) rfl (by kernel_rfl) (allP2 h2027 (allP2 h2027 (allP2 h2027 (allP2 h2027 (allP2 h2027 (allP1 h2027)))))) ?_
                      obtain rfl := Option.some.inj h
                      refine WO_fin [0, 3, 4, 12, 13, 14, 56] [4] (fr' := [(0, aD (.slice (.pair tI (.pair tI (.pair tI (.pair tI (.pair tI (.slice tI))))))) a0), (3, aI i1492), (4, .one (.ptr 4 0)), (12, aD (.slice (.pair tI (.pair tI (.pair tI (.pair tI (.pair tI (.slice tI))))))) a0), (13, aI (List.length a0 : Int)), (14, aI i1492), (56, aB true)]) (L' := [(4, .one (.pair tI (.pair tI (.pair tI (.pair tI (.pair tI (.slice tI)))))) v1495)]) (by kernel_rfl) (by kernel_rfl) ?_
                      exact exQ_mk (by kernel_rfl) (by kernel_rfl)
                    · replace h := ofF h2027 h
                      refine WO_run (j := 20) (k := 4) (orcs := [(32, .known false), (34, .known false), (36, .known false), (38, .known false)]) (kF := [0, 3, 4, 12, 13, 14, 46, 50]) (kL := [4]) (fr' := [(0, aD (.slice (.pair tI (.pair tI (.pair tI (.pair tI (.pair tI (.slice tI))))))) a0), (3, aI i1492), (4, .one (.ptr 4 0)), (12, aD (.slice (.pair tI (.pair tI (.pair tI (.pair tI (.pair tI (.slice tI))))))) a0), (13, aI (List.length a0 : Int)), (14, aI i1492), (46, aB (v1495.2.1 != (1 : Int))), (50, aB (v1495.1 == (4 : Int)))]) (L' := [(4, .one (.pair tI (.pair tI (.pair tI (.pair tI (.pair tI (.slice tI)))))) v1495)]) (obs := [((v1495.2.1 != (1 : Int)) = false), ((v1495.2.1 != (1 : Int)) = false), ((v1495.2.1 != (1 : Int)) = false), ((v1495.2.1 != (1 : Int)) = false)]) rfl (by kernel_rfl) (allP2 h2027 (allP2 h2027 (allP2 h2027 (allP1 h2027)))) ?_
                      rcases Bool.eq_false_or_eq_true (v1495.1 == (4 : Int)) with h2028 | h2028
                      · replace h := ofT h2028 h
                        refine WO_run (j := 26) (k := 6) (orcs := [(40, .known true), (42, .known true), (44, .known true), (46, .known true), (48, .known false), (49, .val (.dat .bool true)), (51, .val (.dat .bool false))]) (kF := [0, 3, 4, 12, 13, 14, 56]) (kL := [4]) (fr' := [(0, aD (.slice (.pair tI (.pair tI (.pair tI (.pair tI (.pair tI (.slice tI))))))) a0), (3, aI i1492), (4, .one (.ptr 4 0)), (12, aD (.slice (.pair tI (.pair tI (.pair tI (.pair tI (.pair tI (.slice tI))))))) a0), (13, aI (List.length a0 : Int)), (14, aI i1492), (56, aB (decide ((List.length v1495.2.2.2.2.2 : Int) > (4 : Int))))]) (L' := [(4, .one (.pair tI (.pair tI (.pair tI (.pair tI (.pair tI (.slice tI)))))) v1495)]) (obs := [((v1495.1 == (4 : Int)) = true), ((v1495.1 == (4 : Int)) = true), ((v1495.1 == (4 : Int)) = true), ((v1495.1 == (4 : Int)) = true), ((v1495.2.1 != (1 : Int)) = false), ((v1495.1 == (4 : Int)) = true), ((v1495.2.1 != (1 : Int)) = false)]) rfl (by kernel_rfl) (allP2 h2028 (allP2 h2028 (allP2 h2028 (allP2 h2028 (allP2 h2027 (allP2 h2028 (allP1 h2027))))))) ?_
                        obtain rfl := Option.some.inj h
                        refine WO_fin [0, 3, 4, 12, 13, 14, 56] [4] (fr' := [(0, aD (.slice (.pair tI (.pair tI (.pair tI (.pair tI (.pair tI (.slice tI))))))) a0), (3, aI i1492), (4, .one (.ptr 4 0)), (12, aD (.slice (.pair tI (.pair tI (.pair tI (.pair tI (.pair tI (.slice tI))))))) a0), (13, aI (List.length a0 : Int)), (14, aI i1492), (56, aB (decide ((List.length v1495.2.2.2.2.2 : Int) > (4 : Int))))]) (L' := [(4, .one (.pair tI (.pair tI (.pair tI (.pair tI (.pair tI (.slice tI)))))) v1495)]) (by kernel_rfl) (by kernel_rfl) ?_
                        exact exQ_mk (by kernel_rfl) (by kernel_rfl)
                      · replace h := ofF h2028 h
                        refine WO_run (j := 26) (k := 6) (orcs := [(40, .known false), (42, .known false), (44, .known false), (46, .known false), (48, .known false), (49, .val (.dat .bool false)), (51, .val (.dat .bool false))]) (kF := [0, 3, 4, 12, 13, 14, 56]) (kL := [4]) (fr' := [(0, aD (.slice (.pair tI (.pair tI (.pair tI (.pair tI (.pair tI (.slice tI))))))) a0), (3, aI i1492), (4, .one (.ptr 4 0)), (12, aD (.slice (.pair tI (.pair tI (.pair tI (.pair tI (.pair tI (.slice tI))))))) a0), (13, aI (List.length a0 : Int)), (14, aI i1492), (56, aB false)]) (L' := [(4, .one (.pair tI (.pair tI (.pair tI (.pair tI (.pair tI (.slice tI)))))) v1495)]) (obs := [((v1495.1 == (4 : Int)) = false), ((v1495.1 == (4 : Int)) = false), ((v1495.1 == (4 : Int)) = false), ((v1495.1 == (4 : Int)) = false), ((v1495.2.1 != (1 : Int)) = false), ((v1495.1 == (4 : Int)) = false), ((v1495.2.1 != (1 : Int)) = false)]) rfl (by kernel_rfl) (allP2 h2028 (allP2 h2028 (allP2 h2028 (allP2 h2028 (allP2 h2027 (allP2 h2028 (allP1 h2027))))))) ?_
                        obtain rfl := Option.some.inj h
                        refine WO_fin [0, 3, 4, 12, 13, 14, 56] [4] (fr' := [(0, aD (.slice (.pair tI (.pair tI (.pair tI (.pair tI (.pair tI (.slice tI))))))) a0), (3, aI i1492), (4, .one (.ptr 4 0)), (12, aD (.slice (.pair tI (.pair tI (.pair tI (.pair tI (.pair tI (.slice tI))))))) a0), (13, aI (List.length a0 : Int)), (14, aI i1492), (56, aB false)]) (L' := [(4, .one (.pair tI (.pair tI (.pair tI (.pair tI (.pair tI (.slice tI)))))) v1495)]) (by kernel_rfl) (by kernel_rfl) ?_
                        exact exQ_mk (by kernel_rfl) (by kernel_rfl)
                  · replace h := ofF h2026 h
                    refine WO_run (j := 20) (k := 10) (orcs := [(20, .known false), (22, .known false), (24, .known false), (26, .known false), (27, .val (.dat .bool false)), (29, .val (.dat .bool false)), (32, .known false), (34, .known false), (36, .known false), (38, .known false)]) (kF := [0, 3, 4, 12, 13, 14, 46, 50]) (kL := [4]) (fr' := [(0, aD (.slice (.pair tI (.pair tI (.pair tI (.pair tI (.pair tI (.slice tI))))))) a0), (3, aI i1492), (4, .one (.ptr 4 0)), (12, aD (.slice (.pair tI (.pair tI (.pair tI (.pair tI (.pair tI (.slice tI))))))) a0), (13, aI (List.length a0 : Int)), (14, aI i1492), (46, aB false), (50, aB (v1495.1 == (4 : Int)))]) (L' := [(4, .one (.pair tI (.pair tI (.pair tI (.pair tI (.pair tI (.slice tI)))))) v1495)]) (obs := [((v1495.1 == (2 : Int)) = false), ((v1495.1 == (2 : Int)) = false), ((v1495.1 == (2 : Int)) = false), ((!r2023) = false), ((v1495.1 == (2 : Int)) = false), ((!r2023) = false), (false = false), (false = false), (false = false), (false = false)]) rfl (by kernel_rfl) (allP2 h2026 (allP2 h2026 (allP2 h2026 (allP2 h2025 (allP2 h2026 (allP2 h2025 (allP2 rfl (allP2 rfl (allP2 rfl (allP1 rfl)))))))))) ?_
                    rcases Bool.eq_false_or_eq_true (v1495.1 == (4 : Int)) with h2029 | h2029
                    · replace h := ofT h2029 h
                      refine WO_run (j := 26) (k := 6) (orcs := [(40, .known true), (42, .known true), (44, .known true), (46, .known true), (48, .known false), (49, .val (.dat .bool true)), (51, .val (.dat .bool false))]) (kF := [0, 3, 4, 12, 13, 14, 56]) (kL := [4]) (fr' := [(0, aD (.slice (.pair tI (.pair tI (.pair tI (.pair tI (.pair tI (.slice tI))))))) a0), (3, aI i1492), (4, .one (.ptr 4 0)), (12, aD (.slice (.pair tI (.pair tI (.pair tI (.pair tI (.pair tI (.slice tI))))))) a0), (13, aI (List.length a0 : Int)), (14, aI i1492), (56, aB (decide ((List.length v1495.2.2.2.2.2 : Int) > (4 : Int))))]) (L' := [(4, .one (.pair tI (.pair tI (.pair tI (.pair tI (.pair tI (.slice tI)))))) v1495)]) (obs := [((v1495.1 == (4 : Int)) = true), ((v1495.1 == (4 : Int)) = true), ((v1495.1 == (4 : Int)) = true), ((v1495.1 == (4 : Int)) = true), (false = false), ((v1495.1 == (4 : Int)) = true), (false = false)]) rfl (by kernel_rfl) (allP2 h2029 (allP2 h2029 (allP2 h2029 (allP2 h2029 (allP2 rfl (allP2 h2029 (allP1 rfl))))))) ?_
                      obtain rfl := Option.some.inj h
                      refine WO_fin [0, 3, 4, 12, 13, 14, 56] [4] (fr' := [(0, aD (.slice (.pair tI (.pair tI (.pair tI (.pair tI (.pair tI (.slice tI))))))) a0), (3, aI i1492), (4, .one (.ptr 4 0)), (12, aD (.slice (.pair tI (.pair tI (.pair tI (.pair tI (.pair tI (.slice tI))))))) a0), (13, aI (List.length a0 : Int)), (14, aI i1492), (56, aB (decide ((List.length v1495.2.2.2.2.2 : Int) > (4 : Int))))]) (L' := [(4, .one (.pair tI (.pair tI (.pair tI (.pair tI (.pair tI (.slice tI)))))) v1495)]) (by kernel_rfl) (by kernel_rfl) ?_
                      exact exQ_mk (by kernel_rfl) (by kernel_rfl)
                    · replace h := ofF h2029 h
                      refine WO_run (j := 26) (k := 6) (orcs := [(40, .known false), (42, .known false), (44, .known false), (46, .known false), (48, .known false), (49, .val (.dat .bool false)), (51, .val (.dat .bool false))]) (kF := [0, 3, 4, 12, 13, 14, 56]) (kL := [4]) (fr' := [(0, aD (.slice (.pair tI (.pair tI (.pair tI (.pair tI (.pair tI (.slice tI))))))) a0), (3, aI i1492), (4, .one (.ptr 4 0)), (12, aD (.slice (.pair tI (.pair tI (.pair tI (.pair tI (.pair tI (.slice tI))))))) a0), (13, aI (List.length a0 : Int)), (14, aI i1492), (56, aB false)]) (L' := [(4, .one (.pair tI (.pair tI (.pair tI (.pair tI (.pair tI (.slice tI)))))) v1495)]) (obs := [((v1495.1 == (4 : Int)) = false), ((v1495.1 == (4 : Int)) = false), ((v1495.1 == (4 : Int)) = false), ((v1495.1 == (4 : Int)) = false), (false = false), ((v1495.1 == (4 : Int)) = false), (false = false)]) rfl (by kernel_rfl) (allP2 h2029 (allP2 h2029 (allP2 h2029 (allP2 h2029 (allP2 rfl (allP2 h2029 (allP1 rfl))))))) ?_
                      obtain rfl := Option.some.inj h
                      refine WO_fin [0, 3, 4, 12, 13, 14, 56] [4] (fr' := [(0, aD (.slice (.pair tI (.pair tI (.pair tI (.pair tI (.pair tI (.slice tI))))))) a0), (3, aI i1492), (4, .one (.ptr 4 0)), (12, aD (.slice (.pair tI (.pair tI (.pair tI (.pair tI (.pair tI (.slice tI))))))) a0), (13, aI (List.length a0 : Int)), (14, aI i1492), (56, aB false)]) (L' := [(4, .one (.pair tI (.pair tI (.pair tI (.pair tI (.pair tI (.slice tI)))))) v1495)]) (by kernel_rfl) (by kernel_rfl) ?_
                      exact exQ_mk (by kernel_rfl) (by kernel_rfl)
              · intro e fr L hJ
                obtain ⟨rfl, rfl, rfl⟩ := hJ
                refine LT_keep [0, 3, 4, 12, 13, 14, 56] [4] (fr' := [(0, aD (.slice (.pair tI (.pair tI (.pair tI (.pair tI (.pair tI (.slice tI))))))) a0), (3, aI i1492), (4, .one (.ptr 4 0)), (12, aD (.slice (.pair tI (.pair tI (.pair tI (.pair tI (.pair tI (.slice tI))))))) a0), (13, aI (List.length a0 : Int)), (14, aI i1492), (56, aB v2030)]) (L' := [(4, .one (.pair tI (.pair tI (.pair tI (.pair tI (.pair tI (.slice tI)))))) v1495)]) (by kernel_rfl) ?_
                refine seqQ_norm ?_
                refine W_cond (o := .tmp 56) (b := v2030) (by kernel_rfl) (by kernel_rfl) (fun h2032 => ?_) (fun h2032 => ?_)
                · replace h := ofT h2032 h
                  refine W_seq (by kernel_rfl) ?_
                  refine W_run 1 [] [2] [] (fr' := [(2, aI (1 : Int))]) (L' := []) (obs := []) (by kernel_rfl) (by kernel_rfl) (by kernel_rfl) allP0 ?_
                  refine seqQ_norm ?_
                  obtain rfl := Option.some.inj h
                  refine W_ret [2] [] (fr' := [(2, aI (1 : Int))]) (L' := []) (by kernel_rfl) (by kernel_rfl) ?_
                  refine seqQ_ret ?_
                  refine blockQ_ret ?_
                  refine escQ_ret ?_
                  exact exQ_mk (by kernel_rfl) (by kernel_rfl)
                · replace h := ofF h2032 h
                  refine W_skip [0, 3, 4, 12, 13, 14] [4] (fr' := [(0, aD (.slice (.pair tI (.pair tI (.pair tI (.pair tI (.pair tI (.slice tI))))))) a0), (3, aI i1492), (4, .one (.ptr 4 0)), (12, aD (.slice (.pair tI (.pair tI (.pair tI (.pair tI (.pair tI (.slice tI))))))) a0), (13, aI (List.length a0 : Int)), (14, aI i1492)]) (L' := [(4, .one (.pair tI (.pair tI (.pair tI (.pair tI (.pair tI (.slice tI)))))) v1495)]) (by kernel_rfl) (by kernel_rfl) ?_
                  refine seqQ_norm ?_
                  refine W_seq (by kernel_rfl) ?_
                  refine W_seq (by kernel_rfl) ?_
                  obtain ⟨v2042, h2043, h⟩ := bind_of h
                  refine W_cutK (Q' := (exQ .normal (ref_FuncsCheck_s212 a0 i1492 v1495)) v2042) ?_ ?_
                  · replace h := h2043
                    refine W_region (by kernel_rfl) ?_
                    refine WO_run (j := 4) (k := 4) (orcs := []) (kF := [0, 3, 4, 12, 13, 14, 60]) (kL := [4]) (fr' := [(0, aD (.slice (.pair tI (.pair tI (.pair tI (.pair tI (.pair tI (.slice tI))))))) a0), (3, aI i1492), (4, .one (.ptr 4 0)), (12, aD (.slice (.pair tI (.pair tI (.pair tI (.pair tI (.pair tI (.slice tI))))))) a0), (13, aI (List.length a0 : Int)), (14, aI i1492), (60, aB (v1495.1 == (3 : Int)))]) (L' := [(4, .one (.pair tI (.pair tI (.pair tI (.pair tI (.pair tI (.slice tI)))))) v1495)]) (obs := []) rfl (by kernel_rfl) allP0 ?_
                    rcases Bool.eq_false_or_eq_true (v1495.1 == (3 : Int)) with h2039 | h2039
                    · replace h := ofT h2039 h
                      refine WO_run (j := 9) (k := 5) (orcs := [(8, .known true), (10, .known true), (12, .known true), (14, .known true), (16, .known true)]) (kF := [0, 3, 4, 12, 13, 14, 60, 62, 65]) (kL := [4, 65]) (fr' := [(0, aD (.slice (.pair tI (.pair tI (.pair tI (.pair tI (.pair tI (.slice tI))))))) a0), (3, aI i1492), (4, .one (.ptr 4 0)), (12, aD (.slice (.pair tI (.pair tI (.pair tI (.pair tI (.pair tI (.slice tI))))))) a0), (13, aI (List.length a0 : Int)), (14, aI i1492), (60, aB (v1495.1 == (3 : Int))), (62, aI v1495.2.1), (65, .one (.slc 65))]) (L' := [(4, .one (.pair tI (.pair tI (.pair tI (.pair tI (.pair tI (.slice tI)))))) v1495), (65, .seq tI [v1495.2.2.1])]) (obs := [((v1495.1 == (3 : Int)) = true), ((v1495.1 == (3 : Int)) = true), ((v1495.1 == (3 : Int)) = true), ((v1495.1 == (3 : Int)) = true), ((v1495.1 == (3 : Int)) = true)]) rfl (by kernel_rfl) (allP2 h2039 (allP2 h2039 (allP2 h2039 (allP2 h2039 (allP1 h2039))))) ?_
                      obtain ⟨r2040, h2041, h⟩ := bind_of h
                      refine WO_frz 65 (by kernel_rfl) ?_
                      refine WO_call0 (us := [none, none]) (d := 66) (p := ((v1495.1 == (3 : Int)) = true)) (j := 10) rfl ⟨by kernel_rfl, by kernel_rfl, by kernel_rfl⟩ h2039 (ref_Inside_ok h2041) (by kernel_rfl) ?_
                      refine WO_run (j := 12) (k := 2) (orcs := [(20, .known true), (23, .val (.dat .bool true))]) (kF := [0, 3, 4, 12, 13, 14, 68]) (kL := [4]) (fr' := [(0, aD (.slice (.pair tI (.pair tI (.pair tI (.pair tI (.pair tI (.slice tI))))))) a0), (3, aI i1492), (4, .one (.ptr 4 0)), (12, aD (.slice (.pair tI (.pair tI (.pair tI (.pair tI (.pair tI (.slice tI))))))) a0), (13, aI (List.length a0 : Int)), (14, aI i1492), (68, aB (!r2040))]) (L' := [(4, .one (.pair tI (.pair tI (.pair tI (.pair tI (.pair tI (.slice tI)))))) v1495)]) (obs := [((v1495.1 == (3 : Int)) = true), ((v1495.1 == (3 : Int)) = true)]) rfl (by kernel_rfl) (allP2 h2039 (allP1 h2039)) ?_
                      obtain rfl := Option.some.inj h
                      refine WO_fin [0, 3, 4, 12, 13, 14, 68] [4] (fr' := [(0, aD (.slice (.pair tI (.pair tI (.pair tI (.pair tI (.pair tI (.slice tI))))))) a0), (3, aI i1492), (4, .one (.ptr 4 0)), (12, aD (.slice (.pair tI (.pair tI (.pair tI (.pair tI (.pair tI (.slice tI))))))) a0), (13, aI (List.length a0 : Int)), (14, aI i1492), (68, aB (!r2040))]) (L' := [(4, .one (.pair tI (.pair tI (.pair tI (.pair tI (.pair tI (.slice tI)))))) v1495)]) (by kernel_rfl) (by kernel_rfl) ?_
                      exact exQ_mk (by kernel_rfl) (by kernel_rfl)
                    · replace h := ofF h2039 h
                      refine WO_run (j := 12) (k := 8) (orcs := [(8, .known false), (10, .known false), (12, .known false), (14, .known false), (16, .known false), (18, .known false), (20, .known false), (23, .val (.dat .bool false))]) (kF := [0, 3, 4, 12, 13, 14, 68]) (kL := [4]) (fr' := [(0, aD (.slice (.pair tI (.pair tI (.pair tI (.pair tI (.pair tI (.slice tI))))))) a0), (3, aI i1492), (4, .one (.ptr 4 0)), (12, aD (.slice (.pair tI (.pair tI (.pair tI (.pair tI (.pair tI (.slice tI))))))) a0), (13, aI (List.length a0 : Int)), (14, aI i1492), (68, aB false)]) (L' := [(4, .one (.pair tI (.pair tI (.pair tI (.pair tI (.pair tI (.slice tI)))))) v1495)]) (obs := [((v1495.1 == (3 : Int)) = false), ((v1495.1 == (3 : Int)) = false), ((v1495.1 == (3 : Int)) = false), ((v1495.1 == (3 : Int)) = false), ((v1495.1 == (3 : Int)) = false), ((v1495.1 == (3 : Int)) = false), ((v1495.1 == (3 : Int)) = false), ((v1495.1 == (3 : Int)) = false)]) rfl (by kernel_rfl) (allP2 h2039 (allP2 h2039 (allP2 h2039 (allP2 h2039 (allP2 h2039 (allP2 h2039 (allP2 h2039 (allP1 h2039)))))))) ?_
                      obtain rfl := Option.some.inj h
                      refine WO_fin [0, 3, 4, 12, 13, 14, 68] [4] (fr' := [(0, aD (.slice (.pair tI (.pair tI (.pair tI (.pair tI (.pair tI (.slice tI))))))) a0), (3, aI i1492), (4, .one (.ptr 4 0)), (12, aD (.slice (.pair tI (.pair tI (.pair tI (.pair tI (.pair tI (.slice tI))))))) a0), (13, aI (List.length a0 : Int)), (14, aI i1492), (68, aB false)]) (L' := [(4, .one (.pair tI (.pair tI (.pair tI (.pair tI (.pair tI (.slice tI)))))) v1495)]) (by kernel_rfl) (by kernel_rfl) ?_
                      exact exQ_mk (by kernel_rfl) (by kernel_rfl)
                  · intro e fr L hJ
                    obtain ⟨rfl, rfl, rfl⟩ := hJ
                    refine LT_keep [0, 3, 4, 12, 13, 14, 68] [4] (fr' := [(0, aD (.slice (.pair tI (.pair tI (.pair tI (.pair tI (.pair tI (.slice tI))))))) a0), (3, aI i1492), (4, .one (.ptr 4 0)), (12, aD (.slice (.pair tI (.pair tI (.pair tI (.pair tI (.pair tI (.slice tI))))))) a0), (13, aI (List.length a0 : Int)), (14, aI i1492), (68, aB v2042)]) (L' := [(4, .one (.pair tI (.pair tI (.pair tI (.pair tI (.pair tI (.slice tI)))))) v1495)]) (by kernel_rfl) ?_
                    refine seqQ_norm ?_
                    refine W_cond (o := .tmp 68) (b := v2042) (by kernel_rfl) (by kernel_rfl) (fun h2044 => ?_) (fun h2044 => ?_)
                    · replace h := ofT h2044 h
                      refine W_seq (by kernel_rfl) ?_
                      refine W_run 1 [] [2] [] (fr' := [(2, aI (4 : Int))]) (L' := []) (obs := []) (by kernel_rfl) (by kernel_rfl) (by kernel_rfl) allP0 ?_
                      refine seqQ_norm ?_
                      obtain rfl := Option.some.inj h
                      refine W_ret [2] [] (fr' := [(2, aI (4 : Int))]) (L' := []) (by kernel_rfl) (by kernel_rfl) ?_
                      refine seqQ_ret ?_
                      refine blockQ_ret ?_
                      refine escQ_ret ?_
                      exact exQ_mk (by kernel_rfl) (by kernel_rfl)
                    · replace h := ofF h2044 h
                      refine W_skip [0, 3, 4, 12, 13, 14] [4] (fr' := [(0, aD (.slice (.pair tI (.pair tI (.pair tI (.pair tI (.pair tI (.slice tI))))))) a0), (3, aI i1492), (4, .one (.ptr 4 0)), (12, aD (.slice (.pair tI (.pair tI (.pair tI (.pair tI (.pair tI (.slice tI))))))) a0), (13, aI (List.length a0 : Int)), (14, aI i1492)]) (L' := [(4, .one (.pair tI (.pair tI (.pair tI (.pair tI (.pair tI (.slice tI)))))) v1495)]) (by kernel_rfl) (by kernel_rfl) ?_
                      refine seqQ_norm ?_
                      refine W_seq (by kernel_rfl) ?_
                      obtain ⟨v2204, h2205, h⟩ := bind_of h
                      refine W_cutK (Q' := (escQ (exQ .ret ref_FuncsCheck_s210) (exQ .normal (ref_FuncsCheck_s211 a0 i1492 v1495))) v2204) ?_ ?_
                      · replace h := h2205
                        refine W_seq (by kernel_rfl) ?_
                        refine W_run 3 [] [0, 3, 4, 12, 13, 14, 71] [4] (fr' := [(0, aD (.slice (.pair tI (.pair tI (.pair tI (.pair tI (.pair tI (.slice tI))))))) a0), (3, aI i1492), (4, .one (.ptr 4 0)), (12, aD (.slice (.pair tI (.pair tI (.pair tI (.pair tI (.pair tI (.slice tI))))))) a0), (13, aI (List.length a0 : Int)), (14, aI i1492), (71, aB (v1495.1 == (4 : Int)))]) (L' := [(4, .one (.pair tI (.pair tI (.pair tI (.pair tI (.pair tI (.slice tI)))))) v1495)]) (obs := []) (by kernel_rfl) (by kernel_rfl) (by kernel_rfl) allP0 ?_
                        refine seqQ_norm ?_
                        refine W_cond (o := .tmp 71) (b := v1495.1 == (4 : Int)) (by kernel_rfl) (by kernel_rfl) (fun h2151 => ?_) (fun h2151 => ?_)
                        · replace h := ofT h2151 h
                          refine W_seq (by kernel_rfl) ?_
                          refine W_seq (by kernel_rfl) ?_
                          obtain ⟨v2167, h2168, h⟩ := bind_of h
                          refine W_cutK (Q' := (exQ .normal (ref_FuncsCheck_s206 a0 i1492 v1495)) v2167) ?_ ?_
                          · replace h := h2168
                            refine W_region (by kernel_rfl) ?_
                            refine WO_run (j := 4) (k := 4) (orcs := []) (kF := [0, 3, 4, 12, 13, 14, 72, 75]) (kL := [4, 75]) (fr' := [(0, aD (.slice (.pair tI (.pair tI (.pair tI (.pair tI (.pair tI (.slice tI))))))) a0), (3, aI i1492), (4, .one (.ptr 4 0)), (12, aD (.slice (.pair tI (.pair tI (.pair tI (.pair tI (.pair tI (.slice tI))))))) a0), (13, aI (List.length a0 : Int)), (14, aI i1492), (72, aI i1492), (75, .one (.slc 75))]) (L' := [(4, .one (.pair tI (.pair tI (.pair tI (.pair tI (.pair tI (.slice tI)))))) v1495), (75, .seq tI [v1495.2.2.2.1])]) (obs := []) rfl (by kernel_rfl) allP0 ?_
                            obtain ⟨r2162, h2163, h⟩ := bind_of h
                            refine WO_frz 75 (by kernel_rfl) ?_
                            refine WO_call0 (us := [none, none]) (d := 76) (p := True) (j := 5) rfl ⟨by kernel_rfl, by kernel_rfl, by kernel_rfl⟩ trivial (ref_Inside_ok h2163) (by kernel_rfl) ?_
                            refine WO_run (j := 7) (k := 2) (orcs := []) (kF := [0, 3, 4, 12, 13, 14, 78]) (kL := [4]) (fr' := [(0, aD (.slice (.pair tI (.pair tI (.pair tI (.pair tI (.pair tI (.slice tI))))))) a0), (3, aI i1492), (4, .one (.ptr 4 0)), (12, aD (.slice (.pair tI (.pair tI (.pair tI (.pair tI (.pair tI (.slice tI))))))) a0), (13, aI (List.length a0 : Int)), (14, aI i1492), (78, aB (!r2162))]) (L' := [(4, .one (.pair tI (.pair tI (.pair tI (.pair tI (.pair tI (.slice tI)))))) v1495)]) (obs := []) rfl (by kernel_rfl) allP0 ?_
                            rcases Bool.eq_false_or_eq_true (!r2162) with h2164 | h2164
                            · replace h := ofT h2164 h
                              refine WO_run (j := 13) (k := 6) (orcs := [(14, .known true), (16, .known true), (18, .known true), (20, .known true), (22, .known true), (25, .val (.dat .bool true))]) (kF := [0, 3, 4, 12, 13, 14, 84]) (kL := [4]) (fr' := [(0, aD (.slice (.pair tI (.pair tI (.pair tI (.pair tI (.pair tI (.slice tI))))))) a0), (3, aI i1492), (4, .one (.ptr 4 0)), (12, aD (.slice (.pair tI (.pair tI (.pair tI (.pair tI (.pair tI (.slice tI))))))) a0), (13, aI (List.length a0 : Int)), (14, aI i1492), (84, aB true)]) (L' := [(4, .one (.pair tI (.pair tI (.pair tI (.pair tI (.pair tI (.slice tI)))))) v1495)]) (obs := [((!r2162) = true), ((!r2162) = true), ((!r2162) = true), ((!r2162) = true), ((!r2162) = true), ((!r2162) = true)]) rfl (by kernel_rfl) (allP2 h2164 (allP2 h2164 (allP2 h2164 (allP2 h2164 (allP2 h2164 (allP1 h2164)))))) ?_
                              obtain rfl := Option.some.inj h
                              refine WO_fin [0, 3, 4, 12, 13, 14, 84] [4] (fr' := [(0, aD (.slice (.pair tI (.pair tI (.pair tI (.pair tI (.pair tI (.slice tI))))))) a0), (3, aI i1492), (4, .one (.ptr 4 0)), (12, aD (.slice (.pair tI (.pair tI (.pair tI (.pair tI (.pair tI (.slice tI))))))) a0), (13, aI (List.length a0 : Int)), (14, aI i1492), (84, aB true)]) (L' := [(4, .one (.pair tI (.pair tI (.pair tI (.pair tI (.pair tI (.slice tI)))))) v1495)]) (by kernel_rfl) (by kernel_rfl) ?_
                              exact exQ_mk (by kernel_rfl) (by kernel_rfl)
                            · replace h := ofF h2164 h
                              refine WO_run (j := 10) (k := 3) (orcs := [(14, .known false), (16, .known false), (18, .known false)]) (kF := [0, 3, 4, 12, 13, 14, 78, 79, 81]) (kL := [4]) (fr' := [(0, aD (.slice (.pair tI (.pair tI (.pair tI (.pair tI (.pair tI (.slice tI))))))) a0), (3, aI i1492), (4, .one (.ptr 4 0)), (12, aD (.slice (.pair tI (.pair tI (.pair tI (.pair tI (.pair tI (.slice tI))))))) a0), (13, aI (List.length a0 : Int)), (14, aI i1492), (78, aB (!r2162)), (79, aI i1492), (81, aD (.slice tI) v1495.2.2.2.2.2)]) (L' := [(4, .one (.pair tI (.pair tI (.pair tI (.pair tI (.pair tI (.slice tI)))))) v1495)]) (obs := [((!r2162) = false), ((!r2162) = false), ((!r2162) = false)]) rfl (by kernel_rfl) (allP2 h2164 (allP2 h2164 (allP1 h2164))) ?_
                              obtain ⟨r2165, h2166, h⟩ := bind_of h
                              refine WO_call0 (us := [none, none]) (d := 82) (p := ((!r2162) = false)) (j := 11) rfl ⟨by kernel_rfl, by kernel_rfl, by kernel_rfl⟩ h2164 (ref_Inside_ok h2166) (by kernel_rfl) ?_
                              refine WO_run (j := 13) (k := 2) (orcs := [(22, .known false), (25, .val (.dat .bool false))]) (kF := [0, 3, 4, 12, 13, 14, 84]) (kL := [4]) (fr' := [(0, aD (.slice (.pair tI (.pair tI (.pair tI (.pair tI (.pair tI (.slice tI))))))) a0), (3, aI i1492), (4, .one (.ptr 4 0)), (12, aD (.slice (.pair tI (.pair tI (.pair tI (.pair tI (.pair tI (.slice tI))))))) a0), (13, aI (List.length a0 : Int)), (14, aI i1492), (84, aB (!r2165))]) (L' := [(4, .one (.pair tI (.pair tI (.pair tI (.pair tI (.pair tI (.slice tI)))))) v1495)]) (obs := [((!r2162) = false), ((!r2162) = false)]) rfl (by kernel_rfl) (allP2 h2164 (allP1 h2164)) ?_
                              obtain rfl := Option.some.inj h
                              refine WO_fin [0, 3, 4, 12, 13, 14, 84] [4] (fr' := [(0, aD (.slice (.pair tI (.pair tI (.pair tI (.pair tI (.pair tI (.slice tI))))))) a0), (3, aI i1492), (4, .one (.ptr 4 0)), (12, aD (.slice (.pair tI (.pair tI (.pair tI (.pair tI (.pair tI (.slice tI))))))) a0), (13, aI (List.length a0 : Int)), (14, aI i1492), (84, aB (!r2165))]) (L' := [(4, .one (.pair tI (.pair tI (.pair tI (.pair tI (.pair tI (.slice tI)))))) v1495)]) (by kernel_rfl) (by kernel_rfl) ?_
                              exact exQ_mk (by kernel_rfl) (by kernel_rfl)
                          · intro e fr L hJ
                            obtain ⟨rfl, rfl, rfl⟩ := hJ
                            refine LT_keep [0, 3, 4, 12, 13, 14, 84] [4] (fr' := [(0, aD (.slice (.pair tI (.pair tI (.pair tI (.pair tI (.pair tI (.slice tI))))))) a0), (3, aI i1492), (4, .one (.ptr 4 0)), (12, aD (.slice (.pair tI (.pair tI (.pair tI (.pair tI (.pair tI (.slice tI))))))) a0), (13, aI (List.length a0 : Int)), (14, aI i1492), (84, aB v2167)]) (L' := [(4, .one (.pair tI (.pair tI (.pair tI (.pair tI (.pair tI (.slice tI)))))) v1495)]) (by kernel_rfl) ?_
                            refine seqQ_norm ?_
                            refine W_cond (o := .tmp 84) (b := v2167) (by kernel_rfl) (by kernel_rfl) (fun h2169 => ?_) (fun h2169 => ?_)
                            · replace h := ofT h2169 h
                              refine W_seq (by kernel_rfl) ?_
                              refine W_run 1 [] [2] [] (fr' := [(2, aI (2 : Int))]) (L' := []) (obs := []) (by kernel_rfl) (by kernel_rfl) (by kernel_rfl) allP0 ?_
                              refine seqQ_norm ?_
                              obtain rfl := Option.some.inj h
                              refine W_ret [2] [] (fr' := [(2, aI (2 : Int))]) (L' := []) (by kernel_rfl) (by kernel_rfl) ?_
                              refine seqQ_ret ?_
                              refine escQ_ret ?_
                              exact exQ_mk (by kernel_rfl) (by kernel_rfl)
                            · replace h := ofF h2169 h
                              refine W_skip [0, 3, 4, 12, 13, 14] [4] (fr' := [(0, aD (.slice (.pair tI (.pair tI (.pair tI (.pair tI (.pair tI (.slice tI))))))) a0), (3, aI i1492), (4, .one (.ptr 4 0)), (12, aD (.slice (.pair tI (.pair tI (.pair tI (.pair tI (.pair tI (.slice tI))))))) a0), (13, aI (List.length a0 : Int)), (14, aI i1492)]) (L' := [(4, .one (.pair tI (.pair tI (.pair tI (.pair tI (.pair tI (.slice tI)))))) v1495)]) (by kernel_rfl) (by kernel_rfl) ?_
                              refine seqQ_norm ?_
                              refine W_seq (by kernel_rfl) ?_
                              refine W_seq (by kernel_rfl) ?_
                              obtain ⟨v2170, h2171, h⟩ := bind_of h
                              refine W_draw2 10 [(7, .val (.dat (.pair tI (.pair tI (.pair tI (.pair tI (.pair tI (.slice tI)))))) v2170))] [] [0, 3, 4, 12, 13, 14, 94] [4] (fr' := [(0, aD (.slice (.pair tI (.pair tI (.pair tI (.pair tI (.pair tI (.slice tI))))))) a0), (3, aI i1492), (4, .one (.ptr 4 0)), (12, aD (.slice (.pair tI (.pair tI (.pair tI (.pair tI (.pair tI (.slice tI))))))) a0), (13, aI (List.length a0 : Int)), (14, aI i1492), (94, aB (v2170.2.1 != (List.length v1495.2.2.2.2.2 : Int)))]) (L' := [(4, .one (.pair tI (.pair tI (.pair tI (.pair tI (.pair tI (.slice tI)))))) v1495)]) (out := [(85, aD (.slice (.pair tI (.pair tI (.pair tI (.pair tI (.pair tI (.slice tI))))))) a0), (86, .one (.ptr 4 3)), (87, aI v1495.2.2.2.1), (88, .one (.dptr (.pair tI (.pair tI (.pair tI (.pair tI (.pair tI (.slice tI)))))) v2170)), (89, .one (.dptr tI v2170.2.1)), (90, aI v2170.2.1), (91, .one (.ptr 4 5)), (92, aD (.slice tI) v1495.2.2.2.2.2), (93, aI (List.length v1495.2.2.2.2.2 : Int)), (94, aB (v2170.2.1 != (List.length v1495.2.2.2.2.2 : Int)))]) (obs := [Idx a0 v1495.2.2.2.1 v2170]) (obs2 := []) (calls := []) (by kernel_rfl) (by kernel_rfl) (by kernel_rfl) (by kernel_rfl) (allP1 (Idx.of h2171)) allC0 (by kernel_rfl) allP0 ?_
                              refine seqQ_norm ?_
                              refine W_cond (o := .tmp 94) (b := v2170.2.1 != (List.length v1495.2.2.2.2.2 : Int)) (by kernel_rfl) (by kernel_rfl) (fun h2172 => ?_) (fun h2172 => ?_)
                              · replace h := ofT h2172 h
                                refine W_seq (by kernel_rfl) ?_
                                refine W_run 1 [] [2] [] (fr' := [(2, aI (3 : Int))]) (L' := []) (obs := []) (by kernel_rfl) (by kernel_rfl) (by kernel_rfl) allP0 ?_
                                refine seqQ_norm ?_
                                obtain rfl := Option.some.inj h
                                refine W_ret [2] [] (fr' := [(2, aI (3 : Int))]) (L' := []) (by kernel_rfl) (by kernel_rfl) ?_
                                refine seqQ_ret ?_
                                refine escQ_ret ?_
                                exact exQ_mk (by kernel_rfl) (by kernel_rfl)
                              · replace h := ofF h2172 h
                                refine W_skip [0, 3, 4, 12, 13, 14] [4] (fr' := [(0, aD (.slice (.pair tI (.pair tI (.pair tI (.pair tI (.pair tI (.slice tI))))))) a0), (3, aI i1492), (4, .one (.ptr 4 0)), (12, aD (.slice (.pair tI (.pair tI (.pair tI (.pair tI (.pair tI (.slice tI))))))) a0), (13, aI (List.length a0 : Int)), (14, aI i1492)]) (L' := [(4, .one (.pair tI (.pair tI (.pair tI (.pair tI (.pair tI (.slice tI)))))) v1495)]) (by kernel_rfl) (by kernel_rfl) ?_
                                refine seqQ_norm ?_
                                refine W_seq (by kernel_rfl) ?_
                                refine W_run 4 [] [0, 3, 4, 12, 13, 14, 96, 97, 98] [4] (fr' := [(0, aD (.slice (.pair tI (.pair tI (.pair tI (.pair tI (.pair tI (.slice tI))))))) a0), (3, aI i1492), (4, .one (.ptr 4 0)), (12, aD (.slice (.pair tI (.pair tI (.pair tI (.pair tI (.pair tI (.slice tI))))))) a0), (13, aI (List.length a0 : Int)), (14, aI i1492), (96, aD (.slice tI) v1495.2.2.2.2.2), (97, aI (List.length v1495.2.2.2.2.2 : Int)), (98, aI (0 : Int))]) (L' := [(4, .one (.pair tI (.pair tI (.pair tI (.pair tI (.pair tI (.slice tI)))))) v1495)]) (obs := []) (by kernel_rfl) (by kernel_rfl) (by kernel_rfl) allP0 ?_
                                refine seqQ_norm ?_
                                refine W_block (id := 2) (by kernel_rfl) ?_
                                obtain ⟨v2197, h2198, h⟩ := bind_of h
                                refine W_len (t := 96) (u := tI) (xs := v1495.2.2.2.2.2) (by kernel_rfl) (fun h2201 => ?_)
                                obtain ⟨h2199, h2200⟩ := forL_iter h2201 h2198
                                refine W_weaken [0, 3, 4, 12, 13, 14, 96, 97, 98] [4] (fr' := ((ref_FuncsCheck_s203 a0 i1492 v1495) ((0 : Int), ())).1) (L' := ((ref_FuncsCheck_s203 a0 i1492 v1495) ((0 : Int), ())).2) (by kernel_rfl) ?_
                                refine W_cutK (W_loop (S := (ref_FuncsCheck_s203 a0 i1492 v1495)) (J := (escQ (exQ .ret ref_FuncsCheck_s204) (exQ (.exit 2) (ref_FuncsCheck_s205 a0 i1492 v1495)))) (by kernel_rfl) ?_ h2199 _ v2197 h2200) ?_
                                · rintro ⟨i2187, x2188⟩ s h
                                  refine W_seq (by kernel_rfl) ?_
                                  refine W_run 1 [] [0, 3, 4, 12, 13, 14, 96, 97, 98, 99] [4] (fr' := [(0, aD (.slice (.pair tI (.pair tI (.pair tI (.pair tI (.pair tI (.slice tI))))))) a0), (3, aI i1492), (4, .one (.ptr 4 0)), (12, aD (.slice (.pair tI (.pair tI (.pair tI (.pair tI (.pair tI (.slice tI))))))) a0), (13, aI (List.length a0 : Int)), (14, aI i1492), (96, aD (.slice tI) v1495.2.2.2.2.2), (97, aI (List.length v1495.2.2.2.2.2 : Int)), (98, aI i2187), (99, aB (decide (i2187 < (List.length v1495.2.2.2.2.2 : Int))))]) (L' := [(4, .one (.pair tI (.pair tI (.pair tI (.pair tI (.pair tI (.slice tI)))))) v1495)]) (obs := []) (by kernel_rfl) (by kernel_rfl) (by kernel_rfl) allP0 ?_
                                  refine seqQ_norm ?_
                                  refine W_seq (by kernel_rfl) ?_
                                  refine W_cond (o := .tmp 99) (b := decide (i2187 < (List.length v1495.2.2.2.2.2 : Int))) (by kernel_rfl) (by kernel_rfl) (fun h2192 => ?_) (fun h2192 => ?_)
                                  · replace h := stepL_true h2192 h
                                    obtain ⟨v2190, _, h2191, h, rfl⟩ := h
                                    refine W_skip [0, 3, 4, 12, 13, 14, 96, 97, 98] [4] (fr' := [(0, aD (.slice (.pair tI (.pair tI (.pair tI (.pair tI (.pair tI (.slice tI))))))) a0), (3, aI i1492), (4, .one (.ptr 4 0)), (12, aD (.slice (.pair tI (.pair tI (.pair tI (.pair tI (.pair tI (.slice tI))))))) a0), (13, aI (List.length a0 : Int)), (14, aI i1492), (96, aD (.slice tI) v1495.2.2.2.2.2), (97, aI (List.length v1495.2.2.2.2.2 : Int)), (98, aI i2187)]) (L' := [(4, .one (.pair tI (.pair tI (.pair tI (.pair tI (.pair tI (.slice tI)))))) v1495)]) (by kernel_rfl) (by kernel_rfl) ?_
                                    refine seqQ_norm ?_
                                    refine W_seq (by kernel_rfl) ?_
                                    refine W_block (id := 3) (by kernel_rfl) ?_
                                    refine W_seq (by kernel_rfl) ?_
                                    refine W_run 3 [(1, .val (.dat tI v2190))] [0, 3, 4, 7, 12, 13, 14, 96, 97, 98] [4] (fr' := [(0, aD (.slice (.pair tI (.pair tI (.pair tI (.pair tI (.pair tI (.slice tI))))))) a0), (3, aI i1492), (4, .one (.ptr 4 0)), (7, aI v2190), (12, aD (.slice (.pair tI (.pair tI (.pair tI (.pair tI (.pair tI (.slice tI))))))) a0), (13, aI (List.length a0 : Int)), (14, aI i1492), (96, aD (.slice tI) v1495.2.2.2.2.2), (97, aI (List.length v1495.2.2.2.2.2 : Int)), (98, aI i2187)]) (L' := [(4, .one (.pair tI (.pair tI (.pair tI (.pair tI (.pair tI (.slice tI)))))) v1495)]) (obs := [Idx v1495.2.2.2.2.2 i2187 v2190]) (by kernel_rfl) (by kernel_rfl) (by kernel_rfl) (allP1 (Idx.of h2191)) ?_
                                    refine seqQ_norm ?_
                                    refine W_seq (by kernel_rfl) ?_
                                    obtain ⟨v2193, h2194, h⟩ := bind_of h
                                    refine W_draw2 8 [(5, .val (.dat (.pair tI (.pair tI (.pair tI (.pair tI (.pair tI (.slice tI)))))) v2193))] [] [0, 3, 4, 12, 13, 14, 96, 97, 98, 109] [4] (fr' := [(0, aD (.slice (.pair tI (.pair tI (.pair tI (.pair tI (.pair tI (.slice tI))))))) a0), (3, aI i1492), (4, .one (.ptr 4 0)), (12, aD (.slice (.pair tI (.pair tI (.pair tI (.pair tI (.pair tI (.slice tI))))))) a0), (13, aI (List.length a0 : Int)), (14, aI i1492), (96, aD (.slice tI) v1495.2.2.2.2.2), (97, aI (List.length v1495.2.2.2.2.2 : Int)), (98, aI i2187), (109, aB (v2193.2.1 != v1495.2.1))]) (L' := [(4, .one (.pair tI (.pair tI (.pair tI (.pair tI (.pair tI (.slice tI)))))) v1495)]) (out := [(102, aD (.slice (.pair tI (.pair tI (.pair tI (.pair tI (.pair tI (.slice tI))))))) a0), (103, aI v2190), (104, .one (.dptr (.pair tI (.pair tI (.pair tI (.pair tI (.pair tI (.slice tI)))))) v2193)), (105, .one (.dptr tI v2193.2.1)), (106, aI v2193.2.1), (107, .one (.ptr 4 1)), (108, aI v1495.2.1), (109, aB (v2193.2.1 != v1495.2.1))]) (obs := [Idx a0 v2190 v2193]) (obs2 := []) (calls := []) (by kernel_rfl) (by kernel_rfl) (by kernel_rfl) (by kernel_rfl) (allP1 (Idx.of h2194)) allC0 (by kernel_rfl) allP0 ?_
                                    refine seqQ_norm ?_
                                    refine W_cond (o := .tmp 109) (b := v2193.2.1 != v1495.2.1) (by kernel_rfl) (by kernel_rfl) (fun h2195 => ?_) (fun h2195 => ?_)
                                    · replace h := ofT h2195 h
                                      refine W_seq (by kernel_rfl) ?_
                                      refine W_run 1 [] [2] [] (fr' := [(2, aI (3 : Int))]) (L' := []) (obs := []) (by kernel_rfl) (by kernel_rfl) (by kernel_rfl) allP0 ?_
                                      refine seqQ_norm ?_
                                      obtain rfl := Option.some.inj h
                                      refine W_ret [2] [] (fr' := [(2, aI (3 : Int))]) (L' := []) (by kernel_rfl) (by kernel_rfl) ?_
                                      refine blockQ_ret ?_
                                      refine seqQ_ret ?_
                                      refine round_ret ?_
                                      refine escQ_ret ?_
                                      exact exQ_mk (by kernel_rfl) (by kernel_rfl)
                                    · replace h := ofF h2195 h
                                      refine W_skip [0, 3, 4, 12, 13, 14, 96, 97, 98] [4] (fr' := [(0, aD (.slice (.pair tI (.pair tI (.pair tI (.pair tI (.pair tI (.slice tI))))))) a0), (3, aI i1492), (4, .one (.ptr 4 0)), (12, aD (.slice (.pair tI (.pair tI (.pair tI (.pair tI (.pair tI (.slice tI))))))) a0), (13, aI (List.length a0 : Int)), (14, aI i1492), (96, aD (.slice tI) v1495.2.2.2.2.2), (97, aI (List.length v1495.2.2.2.2.2 : Int)), (98, aI i2187)]) (L' := [(4, .one (.pair tI (.pair tI (.pair tI (.pair tI (.pair tI (.slice tI)))))) v1495)]) (by kernel_rfl) (by kernel_rfl) ?_
                                      refine blockQ_norm ?_
                                      refine seqQ_norm ?_
                                      obtain rfl := Option.some.inj h
                                      refine W_run 2 [] [0, 3, 4, 12, 13, 14, 96, 97, 98] [4] (fr' := [(0, aD (.slice (.pair tI (.pair tI (.pair tI (.pair tI (.pair tI (.slice tI))))))) a0), (3, aI i1492), (4, .one (.ptr 4 0)), (12, aD (.slice (.pair tI (.pair tI (.pair tI (.pair tI (.pair tI (.slice tI))))))) a0), (13, aI (List.length a0 : Int)), (14, aI i1492), (96, aD (.slice tI) v1495.2.2.2.2.2), (97, aI (List.length v1495.2.2.2.2.2 : Int)), (98, aI (w64 (i2187 + (1 : Int))))]) (L' := [(4, .one (.pair tI (.pair tI (.pair tI (.pair tI (.pair tI (.slice tI)))))) v1495)]) (obs := []) (by kernel_rfl) (by kernel_rfl) (by kernel_rfl) allP0 ?_
                                      exact round_next' (by kernel_rfl) (by kernel_rfl)
                                  · obtain rfl := stepL_false h2192 h
                                    refine W_exit (id := 2) [0, 3, 4, 12, 13, 14] [4] (fr' := [(0, aD (.slice (.pair tI (.pair tI (.pair tI (.pair tI (.pair tI (.slice tI))))))) a0), (3, aI i1492), (4, .one (.ptr 4 0)), (12, aD (.slice (.pair tI (.pair tI (.pair tI (.pair tI (.pair tI (.slice tI))))))) a0), (13, aI (List.length a0 : Int)), (14, aI i1492)]) (L' := [(4, .one (.pair tI (.pair tI (.pair tI (.pair tI (.pair tI (.slice tI)))))) v1495)]) (by kernel_rfl) (by kernel_rfl) ?_
                                    refine seqQ_exit ?_
                                    refine round_exit ?_
                                    refine escQ_brk ?_
                                    exact exQ_mk (by kernel_rfl) (by kernel_rfl)
                                · intro e fr L hJ
                                  rcases v2197 with v2202 | v2203
                                  · obtain ⟨rfl, rfl, rfl⟩ := hJ
                                    obtain rfl := Option.some.inj h
                                    refine LT_keep [2] [] (fr' := [(2, aI v2202)]) (L' := []) (by kernel_rfl) ?_
                                    refine blockQ_ret ?_
                                    refine escQ_ret ?_
                                    exact exQ_mk (by kernel_rfl) (by kernel_rfl)
                                  · obtain ⟨rfl, rfl, rfl⟩ := hJ
                                    obtain rfl := Option.some.inj h
                                    refine LT_keep [0, 3, 4, 12, 13, 14] [4] (fr' := [(0, aD (.slice (.pair tI (.pair tI (.pair tI (.pair tI (.pair tI (.slice tI))))))) a0), (3, aI i1492), (4, .one (.ptr 4 0)), (12, aD (.slice (.pair tI (.pair tI (.pair tI (.pair tI (.pair tI (.slice tI))))))) a0), (13, aI (List.length a0 : Int)), (14, aI i1492)]) (L' := [(4, .one (.pair tI (.pair tI (.pair tI (.pair tI (.pair tI (.slice tI)))))) v1495)]) (by kernel_rfl) ?_
                                    refine blockQ_hit ?_
                                    refine escQ_brk ?_
                                    exact exQ_mk (by kernel_rfl) (by kernel_rfl)
                        · replace h := ofF h2151 h
                          obtain rfl := Option.some.inj h
                          refine W_skip [0, 3, 4, 12, 13, 14] [4] (fr' := [(0, aD (.slice (.pair tI (.pair tI (.pair tI (.pair tI (.pair tI (.slice tI))))))) a0), (3, aI i1492), (4, .one (.ptr 4 0)), (12, aD (.slice (.pair tI (.pair tI (.pair tI (.pair tI (.pair tI (.slice tI))))))) a0), (13, aI (List.length a0 : Int)), (14, aI i1492)]) (L' := [(4, .one (.pair tI (.pair tI (.pair tI (.pair tI (.pair tI (.slice tI)))))) v1495)]) (by kernel_rfl) (by kernel_rfl) ?_
                          refine escQ_brk ?_
                          exact exQ_mk (by kernel_rfl) (by kernel_rfl)
                      · intro e fr L hJ
                        rcases v2204 with v2206 | v2207
                        · obtain ⟨rfl, rfl, rfl⟩ := hJ
                          obtain rfl := Option.some.inj h
                          refine LT_keep [2] [] (fr' := [(2, aI v2206)]) (L' := []) (by kernel_rfl) ?_
                          refine seqQ_ret ?_
                          refine blockQ_ret ?_
                          refine escQ_ret ?_
                          exact exQ_mk (by kernel_rfl) (by kernel_rfl)
                        · obtain ⟨rfl, rfl, rfl⟩ := hJ
                          refine LT_keep [0, 3, 4, 12, 13, 14] [4] (fr' := [(0, aD (.slice (.pair tI (.pair tI (.pair tI (.pair tI (.pair tI (.slice tI))))))) a0), (3, aI i1492), (4, .one (.ptr 4 0)), (12, aD (.slice (.pair tI (.pair tI (.pair tI (.pair tI (.pair tI (.slice tI))))))) a0), (13, aI (List.length a0 : Int)), (14, aI i1492)]) (L' := [(4, .one (.pair tI (.pair tI (.pair tI (.pair tI (.pair tI (.slice tI)))))) v1495)]) (by kernel_rfl) ?_
                          refine seqQ_norm ?_
                          refine W_seq (by kernel_rfl) ?_
                          refine W_run 3 [] [0, 3, 4, 12, 13, 14, 113] [4] (fr' := [(0, aD (.slice (.pair tI (.pair tI (.pair tI (.pair tI (.pair tI (.slice tI))))))) a0), (3, aI i1492), (4, .one (.ptr 4 0)), (12, aD (.slice (.pair tI (.pair tI (.pair tI (.pair tI (.pair tI (.slice tI))))))) a0), (13, aI (List.length a0 : Int)), (14, aI i1492), (113, aB (v1495.1 == (5 : Int)))]) (L' := [(4, .one (.pair tI (.pair tI (.pair tI (.pair tI (.pair tI (.slice tI)))))) v1495)]) (obs := []) (by kernel_rfl) (by kernel_rfl) (by kernel_rfl) allP0 ?_
                          refine seqQ_norm ?_
                          refine W_cond (o := .tmp 113) (b := v1495.1 == (5 : Int)) (by kernel_rfl) (by kernel_rfl) (fun h2208 => ?_) (fun h2208 => ?_)
                          · replace h := ofT h2208 h
                            refine W_seq (by kernel_rfl) ?_
                            refine W_seq (by kernel_rfl) ?_
                            refine W_region (by kernel_rfl) ?_
                            refine WO_run (j := 6) (k := 6) (orcs := []) (kF := [0, 4, 12, 13, 14, 114, 119]) (kL := [4, 119]) (fr' := [(0, aD (.slice (.pair tI (.pair tI (.pair tI (.pair tI (.pair tI (.slice tI))))))) a0), (4, .one (.ptr 4 0)), (12, aD (.slice (.pair tI (.pair tI (.pair tI (.pair tI (.pair tI (.slice tI))))))) a0), (13, aI (List.length a0 : Int)), (14, aI i1492), (114, aI i1492), (119, .one (.slc 119))]) (L' := [(4, .one (.pair tI (.pair tI (.pair tI (.pair tI (.pair tI (.slice tI)))))) v1495), (119, .seq tI [v1495.2.2.2.1, v1495.2.2.2.2.1])]) (obs := []) rfl (by kernel_rfl) allP0 ?_
                            obtain ⟨r2209, h2210, h⟩ := bind_of h
                            refine WO_frz 119 (by kernel_rfl) ?_
                            refine WO_call0 (us := [none, none]) (d := 120) (p := True) (j := 7) rfl ⟨by kernel_rfl, by kernel_rfl, by kernel_rfl⟩ trivial (ref_Inside_ok h2210) (by kernel_rfl) ?_
                            refine WO_run (j := 8) (k := 1) (orcs := []) (kF := [0, 4, 12, 13, 14, 121]) (kL := [4]) (fr' := [(0, aD (.slice (.pair tI (.pair tI (.pair tI (.pair tI (.pair tI (.slice tI))))))) a0), (4, .one (.ptr 4 0)), (12, aD (.slice (.pair tI (.pair tI (.pair tI (.pair tI (.pair tI (.slice tI))))))) a0), (13, aI (List.length a0 : Int)), (14, aI i1492), (121, aB (!r2209))]) (L' := [(4, .one (.pair tI (.pair tI (.pair tI (.pair tI (.pair tI (.slice tI)))))) v1495)]) (obs := []) rfl (by kernel_rfl) allP0 ?_
                            refine WO_fin [0, 4, 12, 13, 14, 121] [4] (fr' := [(0, aD (.slice (.pair tI (.pair tI (.pair tI (.pair tI (.pair tI (.slice tI))))))) a0), (4, .one (.ptr 4 0)), (12, aD (.slice (.pair tI (.pair tI (.pair tI (.pair tI (.pair tI (.slice tI))))))) a0), (13, aI (List.length a0 : Int)), (14, aI i1492), (121, aB (!r2209))]) (L' := [(4, .one (.pair tI (.pair tI (.pair tI (.pair tI (.pair tI (.slice tI)))))) v1495)]) (by kernel_rfl) (by kernel_rfl) ?_
                            refine seqQ_norm ?_
                            refine W_cond (o := .tmp 121) (b := !r2209) (by kernel_rfl) (by kernel_rfl) (fun h2211 => ?_) (fun h2211 => ?_)
                            · replace h := ofT h2211 h
                              refine W_seq (by kernel_rfl) ?_
                              refine W_run 1 [] [2] [] (fr' := [(2, aI (2 : Int))]) (L' := []) (obs := []) (by kernel_rfl) (by kernel_rfl) (by kernel_rfl) allP0 ?_
                              refine seqQ_norm ?_
                              obtain rfl := Option.some.inj h
                              refine W_ret [2] [] (fr' := [(2, aI (2 : Int))]) (L' := []) (by kernel_rfl) (by kernel_rfl) ?_
                              refine seqQ_ret ?_
                              refine blockQ_ret ?_
                              refine escQ_ret ?_
                              exact exQ_mk (by kernel_rfl) (by kernel_rfl)
                            · replace h := ofF h2211 h
                              refine W_skip [0, 4, 12, 13, 14] [4] (fr' := [(0, aD (.slice (.pair tI (.pair tI (.pair tI (.pair tI (.pair tI (.slice tI))))))) a0), (4, .one (.ptr 4 0)), (12, aD (.slice (.pair tI (.pair tI (.pair tI (.pair tI (.pair tI (.slice tI))))))) a0), (13, aI (List.length a0 : Int)), (14, aI i1492)]) (L' := [(4, .one (.pair tI (.pair tI (.pair tI (.pair tI (.pair tI (.slice tI)))))) v1495)]) (by kernel_rfl) (by kernel_rfl) ?_
                              refine seqQ_norm ?_
                              refine W_seq (by kernel_rfl) ?_
                              obtain ⟨v2227, h2228, h⟩ := bind_of h
                              refine W_cutK (Q' := (exQ .normal (ref_FuncsCheck_s209 a0 i1492)) v2227) ?_ ?_
                              · replace h := h2228
                                obtain ⟨v2222, h2223, h⟩ := bind_of h
                                rcases Bool.eq_false_or_eq_true (v2222.2.1 != (w64 (v1495.2.1 - (1 : Int)))) with h2224 | h2224
                                · replace h := ofT h2224 h
                                  obtain rfl := Option.some.inj h
                                  refine W_draw2 22 [(7, .val (.dat (.pair tI (.pair tI (.pair tI (.pair tI (.pair tI (.slice tI)))))) v2222)), (22, .known true), (24, .known true), (26, .known true), (28, .known true), (30, .known true), (32, .known true), (34, .known true), (36, .known true), (38, .known true), (40, .known true), (43, .val (.dat .bool true))] [] [0, 12, 13, 14, 143] [] (fr' := [(0, aD (.slice (.pair tI (.pair tI (.pair tI (.pair tI (.pair tI (.slice tI))))))) a0), (12, aD (.slice (.pair tI (.pair tI (.pair tI (.pair tI (.pair tI (.slice tI))))))) a0), (13, aI (List.length a0 : Int)), (14, aI i1492), (143, aB true)]) (L' := []) (out := [(122, aD (.slice (.pair tI (.pair tI (.pair tI (.pair tI (.pair tI (.slice tI))))))) a0), (123, .one (.ptr 4 3)), (124, aI v1495.2.2.2.1), (125, .one (.dptr (.pair tI (.pair tI (.pair tI (.pair tI (.pair tI (.slice tI)))))) v2222)), (126, .one (.dptr tI v2222.2.1)), (127, aI v2222.2.1), (128, .one (.ptr 4 1)), (129, aI v1495.2.1), (130, aI (w64 (v1495.2.1 - (1 : Int)))), (131, aB (v2222.2.1 != (w64 (v1495.2.1 - (1 : Int))))), (132, aB (v2222.2.1 != (w64 (v1495.2.1 - (1 : Int))))), (133, .tup []), (134, .tup []), (135, .tup []), (136, .tup []), (137, .tup []), (138, .tup []), (139, .tup []), (140, .tup []), (141, .tup []), (142, .tup []), (143, aB true)]) (obs := [Idx a0 v1495.2.2.2.1 v2222, ((v2222.2.1 != (w64 (v1495.2.1 - (1 : Int)))) = true), ((v2222.2.1 != (w64 (v1495.2.1 - (1 : Int)))) = true), ((v2222.2.1 != (w64 (v1495.2.1 - (1 : Int)))) = true), ((v2222.2.1 != (w64 (v1495.2.1 - (1 : Int)))) = true), ((v2222.2.1 != (w64 (v1495.2.1 - (1 : Int)))) = true), ((v2222.2.1 != (w64 (v1495.2.1 - (1 : Int)))) = true), ((v2222.2.1 != (w64 (v1495.2.1 - (1 : Int)))) = true), ((v2222.2.1 != (w64 (v1495.2.1 - (1 : Int)))) = true), ((v2222.2.1 != (w64 (v1495.2.1 - (1 : Int)))) = true), ((v2222.2.1 != (w64 (v1495.2.1 - (1 : Int)))) = true), ((v2222.2.1 != (w64 (v1495.2.1 - (1 : Int)))) = true)]) (obs2 := []) (calls := []) (by kernel_rfl) (by kernel_rfl) (by kernel_rfl) (by kernel_rfl) (allP2 (Idx.of h2223) (allP2 h2224 (allP2 h2224 (allP2 h2224 (allP2 h2224 (allP2 h2224 (allP2 h2224 (allP2 h2224 (allP2 h2224 (allP2 h2224 (allP2 h2224 (allP1 h2224)))))))))))) allC0 (by kernel_rfl) allP0 ?_
                                  exact exQ_mk (by kernel_rfl) (by kernel_rfl)
                                · replace h := ofF h2224 h
                                  obtain ⟨v2225, h2226, h⟩ := bind_of h
                                  obtain rfl := Option.some.inj h
                                  refine W_draw2 22 [(7, .val (.dat (.pair tI (.pair tI (.pair tI (.pair tI (.pair tI (.slice tI)))))) v2222)), (22, .known false), (24, .known false), (26, .known false), (28, .known false), (29, .val (.dat (.pair tI (.pair tI (.pair tI (.pair tI (.pair tI (.slice tI)))))) v2225)), (30, .known false), (32, .known false), (34, .known false), (36, .known false), (38, .known false), (40, .known false), (43, .val (.dat .bool false))] [] [0, 12, 13, 14, 143] [] (fr' := [(0, aD (.slice (.pair tI (.pair tI (.pair tI (.pair tI (.pair tI (.slice tI))))))) a0), (12, aD (.slice (.pair tI (.pair tI (.pair tI (.pair tI (.pair tI (.slice tI))))))) a0), (13, aI (List.length a0 : Int)), (14, aI i1492), (143, aB (v2225.2.1 != (w64 (v1495.2.1 + (1 : Int)))))]) (L' := []) (out := [(122, aD (.slice (.pair tI (.pair tI (.pair tI (.pair tI (.pair tI (.slice tI))))))) a0), (123, .one (.ptr 4 3)), (124, aI v1495.2.2.2.1), (125, .one (.dptr (.pair tI (.pair tI (.pair tI (.pair tI (.pair tI (.slice tI)))))) v2222)), (126, .one (.dptr tI v2222.2.1)), (127, aI v2222.2.1), (128, .one (.ptr 4 1)), (129, aI v1495.2.1), (130, aI (w64 (v1495.2.1 - (1 : Int)))), (131, aB (v2222.2.1 != (w64 (v1495.2.1 - (1 : Int))))), (132, aB (v2222.2.1 != (w64 (v1495.2.1 - (1 : Int))))), (133, aD (.slice (.pair tI (.pair tI (.pair tI (.pair tI (.pair tI (.slice tI))))))) a0), (134, .one (.ptr 4 4)), (135, aI v1495.2.2.2.2.1), (136, .one (.dptr (.pair tI (.pair tI (.pair tI (.pair tI (.pair tI (.slice tI)))))) v2225)), (137, .one (.dptr tI v2225.2.1)), (138, aI v2225.2.1), (139, .one (.ptr 4 1)), (140, aI v1495.2.1), (141, aI (w64 (v1495.2.1 + (1 : Int)))), (142, aB (v2225.2.1 != (w64 (v1495.2.1 + (1 : Int))))), (143, aB (v2225.2.1 != (w64 (v1495.2.1 + (1 : Int)))))]) (obs := [Idx a0 v1495.2.2.2.1 v2222, ((v2222.2.1 != (w64 (v1495.2.1 - (1 : Int)))) = false), ((v2222.2.1 != (w64 (v1495.2.1 - (1 : Int)))) = false), ((v2222.2.1 != (w64 (v1495.2.1 - (1 : Int)))) = false), ((v2222.2.1 != (w64 (v1495.2.1 - (1 : Int)))) = false), Idx a0 v1495.2.2.2.2.1 v2225, ((v2222.2.1 != (w64 (v1495.2.1 - (1 : Int)))) = false), ((v2222.2.1 != (w64 (v1495.2.1 - (1 : Int)))) = false), ((v2222.2.1 != (w64 (v1495.2.1 - (1 : Int)))) = false), ((v2222.2.1 != (w64 (v1495.2.1 - (1 : Int)))) = false), ((v2222.2.1 != (w64 (v1495.2.1 - (1 : Int)))) = false), ((v2222.2.1 != (w64 (v1495.2.1 - (1 : Int)))) = false), ((v2222.2.1 != (w64 (v1495.2.1 - (1 : Int)))) = false)]) (obs2 := []) (calls := []) (by kernel_rfl) (by kernel_rfl) (by kernel_rfl) (by kernel_rfl) (allP2 (Idx.of h2223) (allP2 h2224 (allP2 h2224 (allP2 h2224 (allP2 h2224 (allP2 (Idx.of h2226) (allP2 h2224 (allP2 h2224 (allP2 h2224 (allP2 h2224 (allP2 h2224 (allP2 h2224 (allP1 h2224))))))))))))) allC0 (by kernel_rfl) allP0 ?_
                                  exact exQ_mk (by kernel_rfl) (by kernel_rfl)
                              · intro e fr L hJ
                                obtain ⟨rfl, rfl, rfl⟩ := hJ
                                refine LT_keep [0, 12, 13, 14, 143] [] (fr' := [(0, aD (.slice (.pair tI (.pair tI (.pair tI (.pair tI (.pair tI (.slice tI))))))) a0), (12, aD (.slice (.pair tI (.pair tI (.pair tI (.pair tI (.pair tI (.slice tI))))))) a0), (13, aI (List.length a0 : Int)), (14, aI i1492), (143, aB v2227)]) (L' := []) (by kernel_rfl) ?_
                                refine seqQ_norm ?_
                                refine W_cond (o := .tmp 143) (b := v2227) (by kernel_rfl) (by kernel_rfl) (fun h2229 => ?_) (fun h2229 => ?_)
                                · replace h := ofT h2229 h
                                  refine W_seq (by kernel_rfl) ?_
                                  refine W_run 1 [] [2] [] (fr' := [(2, aI (3 : Int))]) (L' := []) (obs := []) (by kernel_rfl) (by kernel_rfl) (by kernel_rfl) allP0 ?_
                                  refine seqQ_norm ?_
                                  obtain rfl := Option.some.inj h
                                  refine W_ret [2] [] (fr' := [(2, aI (3 : Int))]) (L' := []) (by kernel_rfl) (by kernel_rfl) ?_
                                  refine blockQ_ret ?_
                                  refine escQ_ret ?_
                                  exact exQ_mk (by kernel_rfl) (by kernel_rfl)
                                · replace h := ofF h2229 h
                                  obtain rfl := Option.some.inj h
                                  refine W_skip [0, 12, 13, 14] [] (fr' := [(0, aD (.slice (.pair tI (.pair tI (.pair tI (.pair tI (.pair tI (.slice tI))))))) a0), (12, aD (.slice (.pair tI (.pair tI (.pair tI (.pair tI (.pair tI (.slice tI))))))) a0), (13, aI (List.length a0 : Int)), (14, aI i1492)]) (L' := []) (by kernel_rfl) (by kernel_rfl) ?_
                                  refine blockQ_norm ?_
                                  refine escQ_brk ?_
                                  exact exQ_mk (by kernel_rfl) (by kernel_rfl)
                          · replace h := ofF h2208 h
                            obtain rfl := Option.some.inj h
                            refine W_skip [0, 12, 13, 14] [] (fr' := [(0, aD (.slice (.pair tI (.pair tI (.pair tI (.pair tI (.pair tI (.slice tI))))))) a0), (12, aD (.slice (.pair tI (.pair tI (.pair tI (.pair tI (.pair tI (.slice tI))))))) a0), (13, aI (List.length a0 : Int)), (14, aI i1492)]) (L' := []) (by kernel_rfl) (by kernel_rfl) ?_
                            refine blockQ_norm ?_
                            refine escQ_brk ?_
                            exact exQ_mk (by kernel_rfl) (by kernel_rfl)
        · intro e fr L hJ
          rcases v2230 with v2232 | v2233
          · obtain ⟨rfl, rfl, rfl⟩ := hJ
            obtain rfl := Option.some.inj h
            refine LT_keep [2] [] (fr' := [(2, aI v2232)]) (L' := []) (by kernel_rfl) ?_
            refine seqQ_ret ?_
            refine round_ret ?_
            refine escQ_ret ?_
            exact exQ_mk (by kernel_rfl) (by kernel_rfl)
          · obtain ⟨rfl, rfl, rfl⟩ := hJ
            refine LT_keep [0, 12, 13, 14] [] (fr' := [(0, aD (.slice (.pair tI (.pair tI (.pair tI (.pair tI (.pair tI (.slice tI))))))) a0), (12, aD (.slice (.pair tI (.pair tI (.pair tI (.pair tI (.pair tI (.slice tI))))))) a0), (13, aI (List.length a0 : Int)), (14, aI i1492)]) (L' := []) (by kernel_rfl) ?_
            refine seqQ_norm ?_
            obtain rfl := Option.some.inj h
            refine W_run 2 [] [0, 12, 13, 14] [] (fr' := [(0, aD (.slice (.pair tI (.pair tI (.pair tI (.pair tI (.pair tI (.slice tI))))))) a0), (12, aD (.slice (.pair tI (.pair tI (.pair tI (.pair tI (.pair tI (.slice tI))))))) a0), (13, aI (List.length a0 : Int)), (14, aI (w64 (i1492 + (1 : Int))))]) (L' := []) (obs := []) (by kernel_rfl) (by kernel_rfl) (by kernel_rfl) allP0 ?_
            exact round_next' (by kernel_rfl) (by kernel_rfl)
      · obtain rfl := stepL_false h1497 h
        refine W_exit (id := 0) [] [] (fr' := []) (L' := []) (by kernel_rfl) (by kernel_rfl) ?_
        refine seqQ_exit ?_
        refine round_exit ?_
        refine escQ_brk ?_
        exact exQ_mk (by kernel_rfl) (by kernel_rfl)
    · intro e fr L hJ
      rcases v2235 with v2240 | v2241
      · obtain ⟨rfl, rfl, rfl⟩ := hJ
        obtain rfl := Option.some.inj h
        refine LT_keep [2] [] (fr' := [(2, aI v2240)]) (L' := []) (by kernel_rfl) ?_
        refine blockQ_ret ?_
        refine seqQ_ret ?_
        exact retQ_mk (by kernel_rfl) (by kernel_rfl) (by kernel_rfl)
      · obtain ⟨rfl, rfl, rfl⟩ := hJ
        refine LT_keep [] [] (fr' := []) (L' := []) (by kernel_rfl) ?_
        refine blockQ_hit ?_
        refine seqQ_norm ?_
        refine W_seq (by kernel_rfl) ?_
        refine W_run 1 [] [2] [] (fr' := [(2, aI (0 : Int))]) (L' := []) (obs := []) (by kernel_rfl) (by kernel_rfl) (by kernel_rfl) allP0 ?_
        refine seqQ_norm ?_
        obtain rfl := Option.some.inj h
        refine W_ret [2] [] (fr' := [(2, aI (0 : Int))]) (L' := []) (by kernel_rfl) (by kernel_rfl) ?_
        exact retQ_mk (by kernel_rfl) (by kernel_rfl) (by kernel_rfl)

def ref_Func_b1 (a0 : (List (Int × (Int × (Int × (Int × (Int × (List Int)))))))) (a2 : (List Int)) (rf_ref_Func : (List (Int × (Int × (Int × (Int × (Int × (List Int))))))) → Int → (List Int) → Int → Option (Int × Int)) (i42 : Int) (v45 : Int) (x43 : (Int × (List Int))) : Option (Flow (Int × (List Int)) (Esc (Int × Int) (Int × (List Int)))) :=
(rf_ref_Func a0 v45 a2 x43.1).bind fun r48 =>
bif decide (r48.1 < (0 : Int)) then
(some (.done (.ret ((-1 : Int), (0 : Int)))))
else
((ck ((List.length x43.2 : Int) + 1 ≤ 4294967296)).bind fun _ =>
some (.next (r48.2, x43.2 ++ [r48.1])))
@[reducible] def ref_Func_s2 (a0 : (List (Int × (Int × (Int × (Int × (Int × (List Int)))))))) (a2 : (List Int)) (v2 : (Int × (Int × (Int × (Int × (Int × (List Int))))))) (v : Int × (Int × (List Int))) : Fr × LL := ([(0, aD (.slice (.pair tI (.pair tI (.pair tI (.pair tI (.pair tI (.slice tI))))))) a0), (2, aD (.slice tI) a2), (3, aI v.2.1), (10, .one (.ptr 10 0)), (12, .one (.slc 68)), (48, aD (.slice tI) v2.2.2.2.2.2), (49, aI (List.length v2.2.2.2.2.2 : Int)), (50, aI v.1)], [(10, .one (.pair tI (.pair tI (.pair tI (.pair tI (.pair tI (.slice tI)))))) v2), (68, .seq tI v.2.2)])
@[reducible] def ref_Func_s3 (v : (Int × Int)) : Fr × LL := ([(8, aI v.1), (9, aI v.2)], [])
@[reducible] def ref_Func_s4 (a0 : (List (Int × (Int × (Int × (Int × (Int × (List Int)))))))) (v2 : (Int × (Int × (Int × (Int × (Int × (List Int))))))) (v : (Int × (List Int))) : Fr × LL := ([(0, aD (.slice (.pair tI (.pair tI (.pair tI (.pair tI (.pair tI (.slice tI))))))) a0), (3, aI v.1), (10, .one (.ptr 10 0)), (12, .one (.slc 68))], [(10, .one (.pair tI (.pair tI (.pair tI (.pair tI (.pair tI (.slice tI)))))) v2), (68, .seq tI v.2)])
def ref_Func_b5 (a0 : (List (Int × (Int × (Int × (Int × (Int × (List Int)))))))) (a2 : (List Int)) (v2 : (Int × (Int × (Int × (Int × (Int × (List Int))))))) (rf_ref_Func : (List (Int × (Int × (Int × (Int × (Int × (List Int))))))) → Int → (List Int) → Int → Option (Int × Int)) (x74 : (Int × Int × Int)) : Option (Flow (Int × Int × Int) (Int × Int)) :=
(idx a2 (w64 ((List.length a2 : Int) - (1 : Int)))).bind fun v82 =>
bif (decide (x74.2.2 < v82)) && (decide (x74.1 ≥ (0 : Int))) then
((ck ((0 : Int) + (List.length (sub a2 (0 : Int) (w64 ((List.length a2 : Int) - (1 : Int)))) : Int) ≤ 4294967296)).bind fun _ =>
(ck ((List.length ([] ++ (sub a2 (0 : Int) (w64 ((List.length a2 : Int) - (1 : Int))))) : Int) + 2 ≤ 4294967296)).bind fun _ =>
(rf_ref_Func a0 v2.2.2.2.2.1 (([] ++ (sub a2 (0 : Int) (w64 ((List.length a2 : Int) - (1 : Int))))) ++ [x74.2.2, x74.1]) x74.2.1).bind fun r87 =>
some (.next (r87.1, r87.2, w64 (x74.2.2 + (1 : Int)))))
else
(some (.done (x74.1, x74.2.1)))
@[reducible] def ref_Func_s6 (a0 : (List (Int × (Int × (Int × (Int × (Int × (List Int)))))))) (a2 : (List Int)) (v2 : (Int × (Int × (Int × (Int × (Int × (List Int))))))) (v : (Int × Int × Int)) : Fr × LL := ([(0, aD (.slice (.pair tI (.pair tI (.pair tI (.pair tI (.pair tI (.slice tI))))))) a0), (2, aD (.slice tI) a2), (10, .one (.ptr 10 0)), (17, aI (w64 ((List.length a2 : Int) - (1 : Int)))), (18, aI v.1), (19, aI v.2.1), (20, aI v.2.2)], [(10, .one (.pair tI (.pair tI (.pair tI (.pair tI (.pair tI (.slice tI)))))) v2)])
@[reducible] def ref_Func_s7 (v : (Int × Int)) : Fr × LL := ([(18, aI v.1), (19, aI v.2)], [])
@[reducible] def ref_Func_s8 (a0 : (List (Int × (Int × (Int × (Int × (Int × (List Int)))))))) (a2 : (List Int)) (a3 : Int) (v2 : (Int × (Int × (Int × (Int × (Int × (List Int))))))) (v : Int) : Fr × LL := ([(0, aD (.slice (.pair tI (.pair tI (.pair tI (.pair tI (.pair tI (.slice tI))))))) a0), (2, aD (.slice tI) a2), (3, aI (w64 (a3 - (1 : Int)))), (10, .one (.ptr 10 0)), (11, aI v)], [(10, .one (.pair tI (.pair tI (.pair tI (.pair tI (.pair tI (.slice tI)))))) v2)])
@[reducible] def ref_Func_s9 (a0 : (List (Int × (Int × (Int × (Int × (Int × (List Int)))))))) (a2 : (List Int)) (a3 : Int) (v2 : (Int × (Int × (Int × (Int × (Int × (List Int))))))) (v : Int) : Fr × LL := ([(0, aD (.slice (.pair tI (.pair tI (.pair tI (.pair tI (.pair tI (.slice tI))))))) a0), (2, aD (.slice tI) a2), (3, aI (w64 (a3 - (1 : Int)))), (10, .one (.ptr 10 0)), (11, aI v)], [(10, .one (.pair tI (.pair tI (.pair tI (.pair tI (.pair tI (.slice tI)))))) v2)])
def ref_Func_step (rf_ref_Func : (List (Int × (Int × (Int × (Int × (Int × (List Int))))))) → Int → (List Int) → Int → Option (Int × Int)) (fuel : Nat) (a0 : (List (Int × (Int × (Int × (Int × (Int × (List Int)))))))) (a1 : Int) (a2 : (List Int)) (a3 : Int) : Option (Int × Int) :=
bif a3 == (0 : Int) then
(some ((-1 : Int), (0 : Int)))
else
((idx a0 a1).bind fun v2 =>
(bif v2.1 == (2 : Int) then
((idx a2 (0 : Int)).bind fun v11 =>
some (w64 (v11 + (1 : Int))))
else
(some (0 : Int))).bind fun v13 =>
(bif v2.1 == (3 : Int) then
((idx a2 v2.2.2.1).bind fun v22 =>
some v22)
else
(some v13)).bind fun v24 =>
bif v2.1 == (4 : Int) then
((forL (ref_Func_b1 a0 a2 rf_ref_Func) (fun x43 => (.brk (x43.1, x43.2))) v2.2.2.2.2.2 0 (w64 (a3 - (1 : Int)), [])).bind fun v53 =>
match v53 with
| .ret v58 =>
(some (v58.1, v58.2))
| .brk v59 =>
((rf_ref_Func a0 v2.2.2.2.1 v59.2 v59.1).bind fun r60 =>
some (r60.1, r60.2)))
else
(bif v2.1 == (5 : Int) then
((ck (0 ≤ (0 : Int) ∧ (0 : Int) ≤ w64 ((List.length a2 : Int) - (1 : Int)) ∧ w64 ((List.length a2 : Int) - (1 : Int)) ≤ (List.length a2 : Int))).bind fun _ =>
(rf_ref_Func a0 v2.2.2.2.1 (sub a2 (0 : Int) (w64 ((List.length a2 : Int) - (1 : Int)))) (w64 (a3 - (1 : Int)))).bind fun r64 =>
(iter (ref_Func_b5 a0 a2 v2 rf_ref_Func) fuel (r64.1, r64.2, (0 : Int))).bind fun v89 =>
bif decide (v89.1 < (0 : Int)) then
(some ((-1 : Int), (0 : Int)))
else
(some (v89.1, v89.2)))
else
(bif decide (v24 > (1000 : Int)) then
(some ((-1 : Int), (0 : Int)))
else
(some (v24, w64 (a3 - (1 : Int)))))))
def ref_Func : Nat → (List (Int × (Int × (Int × (Int × (Int × (List Int))))))) → Int → (List Int) → Int → Option (Int × Int)
  | 0 => fun _ _ _ _ => none
  | fuel + 1 => fun a0 a1 a2 a3 => ref_Func_step (ref_Func fuel) fuel a0 a1 a2 a3
theorem ref_Func_step_ok {rf_ref_Func : (List (Int × (Int × (Int × (Int × (Int × (List Int))))))) → Int → (List Int) → Int → Option (Int × Int)} (ih_ref_Func : ∀ {a0 : (List (Int × (Int × (Int × (Int × (Int × (List Int)))))))} {a1 : Int} {a2 : (List Int)} {a3 : Int} {r : (Int × Int)}, rf_ref_Func a0 a1 a2 a3 = some r → FnC Try.prog 36 [aD (.slice (.pair tI (.pair tI (.pair tI (.pair tI (.pair tI (.slice tI))))))) a0, aI a1, aD (.slice tI) a2, aI a3] [] (.tup [.dat tI r.1, .dat tI r.2]) []) {fuel : Nat} {a0 : (List (Int × (Int × (Int × (Int × (Int × (List Int)))))))} {a1 : Int} {a2 : (List Int)} {a3 : Int} {r : (Int × Int)} (h : ref_Func_step rf_ref_Func fuel a0 a1 a2 a3 = some r) : FnC Try.prog 36 [aD (.slice (.pair tI (.pair tI (.pair tI (.pair tI (.pair tI (.slice tI))))))) a0, aI a1, aD (.slice tI) a2, aI a3] [] (.tup [.dat tI r.1, .dat tI r.2]) [] := by
  refine fnC_of_W (B := bodyOf Try.f36) (n := 132) Try.func36 (by kernel_rfl) (by kernel_rfl) (by kernel_rfl) (by kernel_rfl) (by kernel_rfl) ?_
  intro K
  refine W_seq (by kernel_rfl) ?_
  refine W_run 2 [] [0, 1, 2, 3] [] (fr' := [(0, aD (.slice (.pair tI (.pair tI (.pair tI (.pair tI (.pair tI (.slice tI))))))) a0), (1, aI a1), (2, aD (.slice tI) a2), (3, aI a3)]) (L' := []) (obs := []) (by kernel_rfl) (by kernel_rfl) (by kernel_rfl) allP0 ?_
  refine seqQ_norm ?_
  refine W_seq (by kernel_rfl) ?_
  refine W_seq (by kernel_rfl) ?_
  refine W_run 2 [] [0, 1, 2, 3, 22] [] (fr' := [(0, aD (.slice (.pair tI (.pair tI (.pair tI (.pair tI (.pair tI (.slice tI))))))) a0), (1, aI a1), (2, aD (.slice tI) a2), (3, aI a3), (22, aB (a3 == (0 : Int)))]) (L' := []) (obs := []) (by kernel_rfl) (by kernel_rfl) (by kernel_rfl) allP0 ?_
  refine seqQ_norm ?_
  refine W_cond (o := .tmp 22) (b := a3 == (0 : Int)) (by kernel_rfl) (by kernel_rfl) (fun h1 => ?_) (fun h1 => ?_)
  · replace h := ofT h1 h
    refine W_seq (by kernel_rfl) ?_
    refine W_run 2 [] [8, 9] [] (fr' := [(8, aI (-1 : Int)), (9, aI (0 : Int))]) (L' := []) (obs := []) (by kernel_rfl) (by kernel_rfl) (by kernel_rfl) allP0 ?_
    refine seqQ_norm ?_
    obtain rfl := Option.some.inj h
    refine W_ret [8, 9] [] (fr' := [(8, aI (-1 : Int)), (9, aI (0 : Int))]) (L' := []) (by kernel_rfl) (by kernel_rfl) ?_
    refine seqQ_ret ?_
    exact retQ_mk (by kernel_rfl) (by kernel_rfl) (by kernel_rfl)
  · replace h := ofF h1 h
    refine W_skip [0, 1, 2, 3] [] (fr' := [(0, aD (.slice (.pair tI (.pair tI (.pair tI (.pair tI (.pair tI (.slice tI))))))) a0), (1, aI a1), (2, aD (.slice tI) a2), (3, aI a3)]) (L' := []) (by kernel_rfl) (by kernel_rfl) ?_
    refine seqQ_norm ?_
    refine W_seq (by kernel_rfl) ?_
    refine W_run 3 [] [0, 1, 2, 3] [] (fr' := [(0, aD (.slice (.pair tI (.pair tI (.pair tI (.pair tI (.pair tI (.slice tI))))))) a0), (1, aI a1), (2, aD (.slice tI) a2), (3, aI (w64 (a3 - (1 : Int))))]) (L' := []) (obs := []) (by kernel_rfl) (by kernel_rfl) (by kernel_rfl) allP0 ?_
    refine seqQ_norm ?_
    refine W_seq (by kernel_rfl) ?_
    obtain ⟨v2, h3, h⟩ := bind_of h
    refine W_run 6 [(5, .val (.dat (.pair tI (.pair tI (.pair tI (.pair tI (.pair tI (.slice tI)))))) v2)), (9, .typed)] [0, 2, 3, 10] [10] (fr' := [(0, aD (.slice (.pair tI (.pair tI (.pair tI (.pair tI (.pair tI (.slice tI))))))) a0), (2, aD (.slice tI) a2), (3, aI (w64 (a3 - (1 : Int)))), (10, .one (.ptr 10 0))]) (L' := [(10, .one (.pair tI (.pair tI (.pair tI (.pair tI (.pair tI (.slice tI)))))) v2)]) (obs := [Idx a0 a1 v2, True]) (by kernel_rfl) (by kernel_rfl) (by kernel_rfl) (allP2 (Idx.of h3) (allP1 trivial)) ?_
    refine seqQ_norm ?_
    refine W_seq (by kernel_rfl) ?_
    refine W_run 1 [] [0, 2, 3, 10, 11] [10] (fr' := [(0, aD (.slice (.pair tI (.pair tI (.pair tI (.pair tI (.pair tI (.slice tI))))))) a0), (2, aD (.slice tI) a2), (3, aI (w64 (a3 - (1 : Int)))), (10, .one (.ptr 10 0)), (11, aI (0 : Int))]) (L' := [(10, .one (.pair tI (.pair tI (.pair tI (.pair tI (.pair tI (.slice tI)))))) v2)]) (obs := []) (by kernel_rfl) (by kernel_rfl) (by kernel_rfl) allP0 ?_
    refine seqQ_norm ?_
    refine W_seq (by kernel_rfl) ?_
    obtain ⟨v13, h14, h⟩ := bind_of h
    refine W_cutK (Q' := (exQ .normal (ref_Func_s9 a0 a2 a3 v2)) v13) ?_ ?_
    · replace h := h14
      refine W_seq (by kernel_rfl) ?_
      refine W_run 3 [] [0, 2, 3, 10, 11, 31] [10] (fr' := [(0, aD (.slice (.pair tI (.pair tI (.pair tI (.pair tI (.pair tI (.slice tI))))))) a0), (2, aD (.slice tI) a2), (3, aI (w64 (a3 - (1 : Int)))), (10, .one (.ptr 10 0)), (11, aI (0 : Int)), (31, aB (v2.1 == (2 : Int)))]) (L' := [(10, .one (.pair tI (.pair tI (.pair tI (.pair tI (.pair tI (.slice tI)))))) v2)]) (obs := []) (by kernel_rfl) (by kernel_rfl) (by kernel_rfl) allP0 ?_
      refine seqQ_norm ?_
      refine W_cond (o := .tmp 31) (b := v2.1 == (2 : Int)) (by kernel_rfl) (by kernel_rfl) (fun h10 => ?_) (fun h10 => ?_)
      · replace h := ofT h10 h
        obtain ⟨v11, h12, h⟩ := bind_of h
        obtain rfl := Option.some.inj h
        refine W_run 5 [(3, .val (.dat tI v11))] [0, 2, 3, 10, 11] [10] (fr' := [(0, aD (.slice (.pair tI (.pair tI (.pair tI (.pair tI (.pair tI (.slice tI))))))) a0), (2, aD (.slice tI) a2), (3, aI (w64 (a3 - (1 : Int)))), (10, .one (.ptr 10 0)), (11, aI (w64 (v11 + (1 : Int))))]) (L' := [(10, .one (.pair tI (.pair tI (.pair tI (.pair tI (.pair tI (.slice tI)))))) v2)]) (obs := [Idx a2 (0 : Int) v11]) (by kernel_rfl) (by kernel_rfl) (by kernel_rfl) (allP1 (Idx.of h12)) ?_
        exact exQ_mk (by kernel_rfl) (by kernel_rfl)
      · replace h := ofF h10 h
        obtain rfl := Option.some.inj h
        refine W_skip [0, 2, 3, 10, 11] [10] (fr' := [(0, aD (.slice (.pair tI (.pair tI (.pair tI (.pair tI (.pair tI (.slice tI))))))) a0), (2, aD (.slice tI) a2), (3, aI (w64 (a3 - (1 : Int)))), (10, .one (.ptr 10 0)), (11, aI (0 : Int))]) (L' := [(10, .one (.pair tI (.pair tI (.pair tI (.pair tI (.pair tI (.slice tI)))))) v2)]) (by kernel_rfl) (by kernel_rfl) ?_
        exact exQ_mk (by kernel_rfl) (by kernel_rfl)
    · intro e fr L hJ
      obtain ⟨rfl, rfl, rfl⟩ := hJ
      refine LT_keep [0, 2, 3, 10, 11] [10] (fr' := [(0, aD (.slice (.pair tI (.pair tI (.pair tI (.pair tI (.pair tI (.slice tI))))))) a0), (2, aD (.slice tI) a2), (3, aI (w64 (a3 - (1 : Int)))), (10, .one (.ptr 10 0)), (11, aI v13)]) (L' := [(10, .one (.pair tI (.pair tI (.pair tI (.pair tI (.pair tI (.slice tI)))))) v2)]) (by kernel_rfl) ?_
      refine seqQ_norm ?_
      refine W_seq (by kernel_rfl) ?_
      obtain ⟨v24, h25, h⟩ := bind_of h
      refine W_cutK (Q' := (exQ .normal (ref_Func_s8 a0 a2 a3 v2)) v24) ?_ ?_
      · replace h := h25
        refine W_seq (by kernel_rfl) ?_
        refine W_run 3 [] [0, 2, 3, 10, 11, 38] [10] (fr' := [(0, aD (.slice (.pair tI (.pair tI (.pair tI (.pair tI (.pair tI (.slice tI))))))) a0), (2, aD (.slice tI) a2), (3, aI (w64 (a3 - (1 : Int)))), (10, .one (.ptr 10 0)), (11, aI v13), (38, aB (v2.1 == (3 : Int)))]) (L' := [(10, .one (.pair tI (.pair tI (.pair tI (.pair tI (.pair tI (.slice tI)))))) v2)]) (obs := []) (by kernel_rfl) (by kernel_rfl) (by kernel_rfl) allP0 ?_
        refine seqQ_norm ?_
        refine W_cond (o := .tmp 38) (b := v2.1 == (3 : Int)) (by kernel_rfl) (by kernel_rfl) (fun h21 => ?_) (fun h21 => ?_)
        · replace h := ofT h21 h
          obtain ⟨v22, h23, h⟩ := bind_of h
          obtain rfl := Option.some.inj h
          refine W_run 6 [(7, .val (.dat tI v22))] [0, 2, 3, 10, 11] [10] (fr' := [(0, aD (.slice (.pair tI (.pair tI (.pair tI (.pair tI (.pair tI (.slice tI))))))) a0), (2, aD (.slice tI) a2), (3, aI (w64 (a3 - (1 : Int)))), (10, .one (.ptr 10 0)), (11, aI v22)]) (L' := [(10, .one (.pair tI (.pair tI (.pair tI (.pair tI (.pair tI (.slice tI)))))) v2)]) (obs := [Idx a2 v2.2.2.1 v22]) (by kernel_rfl) (by kernel_rfl) (by kernel_rfl) (allP1 (Idx.of h23)) ?_
          exact exQ_mk (by kernel_rfl) (by kernel_rfl)
        · replace h := ofF h21 h
          obtain rfl := Option.some.inj h
          refine W_skip [0, 2, 3, 10, 11] [10] (fr' := [(0, aD (.slice (.pair tI (.pair tI (.pair tI (.pair tI (.pair tI (.slice tI))))))) a0), (2, aD (.slice tI) a2), (3, aI (w64 (a3 - (1 : Int)))), (10, .one (.ptr 10 0)), (11, aI v13)]) (L' := [(10, .one (.pair tI (.pair tI (.pair tI (.pair tI (.pair tI (.slice tI)))))) v2)]) (by kernel_rfl) (by kernel_rfl) ?_
          exact exQ_mk (by kernel_rfl) (by kernel_rfl)
      · intro e fr L hJ
        obtain ⟨rfl, rfl, rfl⟩ := hJ
        refine LT_keep [0, 2, 3, 10, 11] [10] (fr' := [(0, aD (.slice (.pair tI (.pair tI (.pair tI (.pair tI (.pair tI (.slice tI))))))) a0), (2, aD (.slice tI) a2), (3, aI (w64 (a3 - (1 : Int)))), (10, .one (.ptr 10 0)), (11, aI v24)]) (L' := [(10, .one (.pair tI (.pair tI (.pair tI (.pair tI (.pair tI (.slice tI)))))) v2)]) (by kernel_rfl) ?_
        refine seqQ_norm ?_
        refine W_seq (by kernel_rfl) ?_
        refine W_seq (by kernel_rfl) ?_
        refine W_run 3 [] [0, 2, 3, 10, 11, 46] [10] (fr' := [(0, aD (.slice (.pair tI (.pair tI (.pair tI (.pair tI (.pair tI (.slice tI))))))) a0), (2, aD (.slice tI) a2), (3, aI (w64 (a3 - (1 : Int)))), (10, .one (.ptr 10 0)), (11, aI v24), (46, aB (v2.1 == (4 : Int)))]) (L' := [(10, .one (.pair tI (.pair tI (.pair tI (.pair tI (.pair tI (.slice tI)))))) v2)]) (obs := []) (by kernel_rfl) (by kernel_rfl) (by kernel_rfl) allP0 ?_
        refine seqQ_norm ?_
        refine W_cond (o := .tmp 46) (b := v2.1 == (4 : Int)) (by kernel_rfl) (by kernel_rfl) (fun h26 => ?_) (fun h26 => ?_)
        · replace h := ofT h26 h
          refine W_seq (by kernel_rfl) ?_
          refine W_run 1 [] [0, 2, 3, 10, 12] [10] (fr' := [(0, aD (.slice (.pair tI (.pair tI (.pair tI (.pair tI (.pair tI (.slice tI))))))) a0), (2, aD (.slice tI) a2), (3, aI (w64 (a3 - (1 : Int)))), (10, .one (.ptr 10 0)), (12, .one (.nilS))]) (L' := [(10, .one (.pair tI (.pair tI (.pair tI (.pair tI (.pair tI (.slice tI)))))) v2)]) (obs := []) (by kernel_rfl) (by kernel_rfl) (by kernel_rfl) allP0 ?_
          refine seqQ_norm ?_
          refine W_seq (by kernel_rfl) ?_
          refine W_seq (by kernel_rfl) ?_
          refine W_run 4 [] [0, 2, 3, 10, 12, 48, 49, 50] [10] (fr' := [(0, aD (.slice (.pair tI (.pair tI (.pair tI (.pair tI (.pair tI (.slice tI))))))) a0), (2, aD (.slice tI) a2), (3, aI (w64 (a3 - (1 : Int)))), (10, .one (.ptr 10 0)), (12, .one (.nilS)), (48, aD (.slice tI) v2.2.2.2.2.2), (49, aI (List.length v2.2.2.2.2.2 : Int)), (50, aI (0 : Int))]) (L' := [(10, .one (.pair tI (.pair tI (.pair tI (.pair tI (.pair tI (.slice tI)))))) v2)]) (obs := []) (by kernel_rfl) (by kernel_rfl) (by kernel_rfl) allP0 ?_
          refine seqQ_norm ?_
          refine W_block (id := 0) (by kernel_rfl) ?_
          obtain ⟨v53, h54, h⟩ := bind_of h
          refine W_len (t := 48) (u := tI) (xs := v2.2.2.2.2.2) (by kernel_rfl) (fun h57 => ?_)
          obtain ⟨h55, h56⟩ := forL_iter h57 h54
          refine W_mine 12 68 tI (by kernel_rfl) ?_
          refine W_weaken [0, 2, 3, 10, 12, 48, 49, 50] [10, 68] (fr' := ((ref_Func_s2 a0 a2 v2) ((0 : Int), (w64 (a3 - (1 : Int)), []))).1) (L' := ((ref_Func_s2 a0 a2 v2) ((0 : Int), (w64 (a3 - (1 : Int)), []))).2) (by kernel_rfl) ?_
          refine W_cutK (W_loop (S := (ref_Func_s2 a0 a2 v2)) (J := (escQ (exQ .ret ref_Func_s3) (exQ (.exit 0) (ref_Func_s4 a0 v2)))) (by kernel_rfl) ?_ h55 _ v53 h56) ?_
          · rintro ⟨i42, x43⟩ s h
            refine W_seq (by kernel_rfl) ?_
            refine W_run 1 [] [0, 2, 3, 10, 12, 48, 49, 50, 51] [10, 68] (fr' := [(0, aD (.slice (.pair tI (.pair tI (.pair tI (.pair tI (.pair tI (.slice tI))))))) a0), (2, aD (.slice tI) a2), (3, aI x43.1), (10, .one (.ptr 10 0)), (12, .one (.slc 68)), (48, aD (.slice tI) v2.2.2.2.2.2), (49, aI (List.length v2.2.2.2.2.2 : Int)), (50, aI i42), (51, aB (decide (i42 < (List.length v2.2.2.2.2.2 : Int))))]) (L' := [(10, .one (.pair tI (.pair tI (.pair tI (.pair tI (.pair tI (.slice tI)))))) v2), (68, .seq tI x43.2)]) (obs := []) (by kernel_rfl) (by kernel_rfl) (by kernel_rfl) allP0 ?_
            refine seqQ_norm ?_
            refine W_seq (by kernel_rfl) ?_
            refine W_cond (o := .tmp 51) (b := decide (i42 < (List.length v2.2.2.2.2.2 : Int))) (by kernel_rfl) (by kernel_rfl) (fun h47 => ?_) (fun h47 => ?_)
            · replace h := stepL_true h47 h
              obtain ⟨v45, _, h46, h, rfl⟩ := h
              refine W_skip [0, 2, 3, 10, 12, 48, 49, 50] [10, 68] (fr' := [(0, aD (.slice (.pair tI (.pair tI (.pair tI (.pair tI (.pair tI (.slice tI))))))) a0), (2, aD (.slice tI) a2), (3, aI x43.1), (10, .one (.ptr 10 0)), (12, .one (.slc 68)), (48, aD (.slice tI) v2.2.2.2.2.2), (49, aI (List.length v2.2.2.2.2.2 : Int)), (50, aI i42)]) (L' := [(10, .one (.pair tI (.pair tI (.pair tI (.pair tI (.pair tI (.slice tI)))))) v2), (68, .seq tI x43.2)]) (by kernel_rfl) (by kernel_rfl) ?_
              refine seqQ_norm ?_
              refine W_seq (by kernel_rfl) ?_
              refine W_block (id := 1) (by kernel_rfl) ?_
              refine W_seq (by kernel_rfl) ?_
              refine W_run 3 [(1, .val (.dat tI v45))] [0, 2, 3, 10, 12, 14, 48, 49, 50] [10, 68] (fr' := [(0, aD (.slice (.pair tI (.pair tI (.pair tI (.pair tI (.pair tI (.slice tI))))))) a0), (2, aD (.slice tI) a2), (3, aI x43.1), (10, .one (.ptr 10 0)), (12, .one (.slc 68)), (14, aI v45), (48, aD (.slice tI) v2.2.2.2.2.2), (49, aI (List.length v2.2.2.2.2.2 : Int)), (50, aI i42)]) (L' := [(10, .one (.pair tI (.pair tI (.pair tI (.pair tI (.pair tI (.slice tI)))))) v2), (68, .seq tI x43.2)]) (obs := [Idx v2.2.2.2.2.2 i42 v45]) (by kernel_rfl) (by kernel_rfl) (by kernel_rfl) (allP1 (Idx.of h46)) ?_
              refine seqQ_norm ?_
              refine W_seq (by kernel_rfl) ?_
              refine W_region (by kernel_rfl) ?_
              refine WO_run (j := 4) (k := 4) (orcs := []) (kF := [0, 2, 10, 12, 48, 49, 50, 55, 56, 57, 58]) (kL := [10, 68]) (fr' := [(0, aD (.slice (.pair tI (.pair tI (.pair tI (.pair tI (.pair tI (.slice tI))))))) a0), (2, aD (.slice tI) a2), (10, .one (.ptr 10 0)), (12, .one (.slc 68)), (48, aD (.slice tI) v2.2.2.2.2.2), (49, aI (List.length v2.2.2.2.2.2 : Int)), (50, aI i42), (55, aD (.slice (.pair tI (.pair tI (.pair tI (.pair tI (.pair tI (.slice tI))))))) a0), (56, aI v45), (57, aD (.slice tI) a2), (58, aI x43.1)]) (L' := [(10, .one (.pair tI (.pair tI (.pair tI (.pair tI (.pair tI (.slice tI)))))) v2), (68, .seq tI x43.2)]) (obs := []) rfl (by kernel_rfl) allP0 ?_
              obtain ⟨r48, h49, h⟩ := bind_of h
              refine WO_call0 (us := [none, none, none, none]) (d := 59) (p := True) (j := 5) rfl ⟨by kernel_rfl, by kernel_rfl, by kernel_rfl⟩ trivial (ih_ref_Func h49) (by kernel_rfl) ?_
              refine WO_run (j := 10) (k := 5) (orcs := []) (kF := [0, 2, 10, 12, 15, 16, 48, 49, 50]) (kL := [10, 68]) (fr' := [(0, aD (.slice (.pair tI (.pair tI (.pair tI (.pair tI (.pair tI (.slice tI))))))) a0), (2, aD (.slice tI) a2), (10, .one (.ptr 10 0)), (12, .one (.slc 68)), (15, aI r48.1), (16, aI r48.2), (48, aD (.slice tI) v2.2.2.2.2.2), (49, aI (List.length v2.2.2.2.2.2 : Int)), (50, aI i42)]) (L' := [(10, .one (.pair tI (.pair tI (.pair tI (.pair tI (.pair tI (.slice tI)))))) v2), (68, .seq tI x43.2)]) (obs := []) rfl (by kernel_rfl) allP0 ?_
              refine WO_fin [0, 2, 10, 12, 15, 16, 48, 49, 50] [10, 68] (fr' := [(0, aD (.slice (.pair tI (.pair tI (.pair tI (.pair tI (.pair tI (.slice tI))))))) a0), (2, aD (.slice tI) a2), (10, .one (.ptr 10 0)), (12, .one (.slc 68)), (15, aI r48.1), (16, aI r48.2), (48, aD (.slice tI) v2.2.2.2.2.2), (49, aI (List.length v2.2.2.2.2.2 : Int)), (50, aI i42)]) (L' := [(10, .one (.pair tI (.pair tI (.pair tI (.pair tI (.pair tI (.slice tI)))))) v2), (68, .seq tI x43.2)]) (by kernel_rfl) (by kernel_rfl) ?_
              refine seqQ_norm ?_
              refine W_seq (by kernel_rfl) ?_
              refine W_seq (by kernel_rfl) ?_
              refine W_run 2 [] [0, 2, 10, 12, 15, 16, 48, 49, 50, 63] [10, 68] (fr' := [(0, aD (.slice (.pair tI (.pair tI (.pair tI (.pair tI (.pair tI (.slice tI))))))) a0), (2, aD (.slice tI) a2), (10, .one (.ptr 10 0)), (12, .one (.slc 68)), (15, aI r48.1), (16, aI r48.2), (48, aD (.slice tI) v2.2.2.2.2.2), (49, aI (List.length v2.2.2.2.2.2 : Int)), (50, aI i42), (63, aB (decide (r48.1 < (0 : Int))))]) (L' := [(10, .one (.pair tI (.pair tI (.pair tI (.pair tI (.pair tI (.slice tI)))))) v2), (68, .seq tI x43.2)]) (obs := []) (by kernel_rfl) (by kernel_rfl) (by kernel_rfl) allP0 ?_
              refine seqQ_norm ?_
              refine W_cond (o := .tmp 63) (b := decide (r48.1 < (0 : Int))) (by kernel_rfl) (by kernel_rfl) (fun h50 => ?_) (fun h50 => ?_)
              · replace h := ofT h50 h
                refine W_seq (by kernel_rfl) ?_
                refine W_run 2 [] [8, 9] [] (fr' := [(8, aI (-1 : Int)), (9, aI (0 : Int))]) (L' := []) (obs := []) (by kernel_rfl) (by kernel_rfl) (by kernel_rfl) allP0 ?_
                refine seqQ_norm ?_
                obtain rfl := Option.some.inj h
                refine W_ret [8, 9] [] (fr' := [(8, aI (-1 : Int)), (9, aI (0 : Int))]) (L' := []) (by kernel_rfl) (by kernel_rfl) ?_
                refine seqQ_ret ?_
                refine blockQ_ret ?_
                refine seqQ_ret ?_
                refine round_ret ?_
                refine escQ_ret ?_
                exact exQ_mk (by kernel_rfl) (by kernel_rfl)
              · replace h := ofF h50 h
                refine W_skip [0, 2, 10, 12, 15, 16, 48, 49, 50] [10, 68] (fr' := [(0, aD (.slice (.pair tI (.pair tI (.pair tI (.pair tI (.pair tI (.slice tI))))))) a0), (2, aD (.slice tI) a2), (10, .one (.ptr 10 0)), (12, .one (.slc 68)), (15, aI r48.1), (16, aI r48.2), (48, aD (.slice tI) v2.2.2.2.2.2), (49, aI (List.length v2.2.2.2.2.2 : Int)), (50, aI i42)]) (L' := [(10, .one (.pair tI (.pair tI (.pair tI (.pair tI (.pair tI (.slice tI)))))) v2), (68, .seq tI x43.2)]) (by kernel_rfl) (by kernel_rfl) ?_
                refine seqQ_norm ?_
                refine W_seq (by kernel_rfl) ?_
                refine W_run 2 [] [0, 2, 3, 10, 12, 15, 48, 49, 50] [10, 68] (fr' := [(0, aD (.slice (.pair tI (.pair tI (.pair tI (.pair tI (.pair tI (.slice tI))))))) a0), (2, aD (.slice tI) a2), (3, aI r48.2), (10, .one (.ptr 10 0)), (12, .one (.slc 68)), (15, aI r48.1), (48, aD (.slice tI) v2.2.2.2.2.2), (49, aI (List.length v2.2.2.2.2.2 : Int)), (50, aI i42)]) (L' := [(10, .one (.pair tI (.pair tI (.pair tI (.pair tI (.pair tI (.slice tI)))))) v2), (68, .seq tI x43.2)]) (obs := []) (by kernel_rfl) (by kernel_rfl) (by kernel_rfl) allP0 ?_
                refine seqQ_norm ?_
                obtain ⟨_, h51, h⟩ := bind_of h
                replace h51 := ck_some h51
                refine W_run 5 [] [0, 2, 3, 10, 12, 48, 49, 50] [10, 68] (fr' := [(0, aD (.slice (.pair tI (.pair tI (.pair tI (.pair tI (.pair tI (.slice tI))))))) a0), (2, aD (.slice tI) a2), (3, aI r48.2), (10, .one (.ptr 10 0)), (12, .one (.slc 68)), (48, aD (.slice tI) v2.2.2.2.2.2), (49, aI (List.length v2.2.2.2.2.2 : Int)), (50, aI i42)]) (L' := [(10, .one (.pair tI (.pair tI (.pair tI (.pair tI (.pair tI (.slice tI)))))) v2), (68, .seq tI (x43.2 ++ [r48.1]))]) (obs := [SmallLen (List.length x43.2 + List.length [r48.1])]) (by kernel_rfl) (by kernel_rfl) (by kernel_rfl) (allP1 h51) ?_
                refine blockQ_norm ?_
                refine seqQ_norm ?_
                obtain rfl := Option.some.inj h
                refine W_run 2 [] [0, 2, 3, 10, 12, 48, 49, 50] [10, 68] (fr' := [(0, aD (.slice (.pair tI (.pair tI (.pair tI (.pair tI (.pair tI (.slice tI))))))) a0), (2, aD (.slice tI) a2), (3, aI r48.2), (10, .one (.ptr 10 0)), (12, .one (.slc 68)), (48, aD (.slice tI) v2.2.2.2.2.2), (49, aI (List.length v2.2.2.2.2.2 : Int)), (50, aI (w64 (i42 + (1 : Int))))]) (L' := [(10, .one (.pair tI (.pair tI (.pair tI (.pair tI (.pair tI (.slice tI)))))) v2), (68, .seq tI (x43.2 ++ [r48.1]))]) (obs := []) (by kernel_rfl) (by kernel_rfl) (by kernel_rfl) allP0 ?_
                exact round_next' (by kernel_rfl) (by kernel_rfl)
            · obtain rfl := stepL_false h47 h
              refine W_exit (id := 0) [0, 3, 10, 12] [10, 68] (fr' := [(0, aD (.slice (.pair tI (.pair tI (.pair tI (.pair tI (.pair tI (.slice tI))))))) a0), (3, aI x43.1), (10, .one (.ptr 10 0)), (12, .one (.slc 68))]) (L' := [(10, .one (.pair tI (.pair tI (.pair tI (.pair tI (.pair tI (.slice tI)))))) v2), (68, .seq tI x43.2)]) (by kernel_rfl) (by kernel_rfl) ?_
              refine seqQ_exit ?_
              refine round_exit ?_
              refine escQ_brk ?_
              exact exQ_mk (by kernel_rfl) (by kernel_rfl)
          · intro e fr L hJ
            rcases v53 with v58 | v59
            · obtain ⟨rfl, rfl, rfl⟩ := hJ
              obtain rfl := Option.some.inj h
              refine LT_keep [8, 9] [] (fr' := [(8, aI v58.1), (9, aI v58.2)]) (L' := []) (by kernel_rfl) ?_
              refine blockQ_ret ?_
              refine seqQ_ret ?_
              refine seqQ_ret ?_
              exact retQ_mk (by kernel_rfl) (by kernel_rfl) (by kernel_rfl)
            · obtain ⟨rfl, rfl, rfl⟩ := hJ
              refine LT_keep [0, 3, 10, 12] [10, 68] (fr' := [(0, aD (.slice (.pair tI (.pair tI (.pair tI (.pair tI (.pair tI (.slice tI))))))) a0), (3, aI v59.1), (10, .one (.ptr 10 0)), (12, .one (.slc 68))]) (L' := [(10, .one (.pair tI (.pair tI (.pair tI (.pair tI (.pair tI (.slice tI)))))) v2), (68, .seq tI v59.2)]) (by kernel_rfl) ?_
              refine blockQ_hit ?_
              refine seqQ_norm ?_
              refine W_seq (by kernel_rfl) ?_
              refine W_region (by kernel_rfl) ?_
              refine WO_run (j := 5) (k := 5) (orcs := []) (kF := [70, 72, 73, 74]) (kL := [10, 68]) (fr' := [(70, aD (.slice (.pair tI (.pair tI (.pair tI (.pair tI (.pair tI (.slice tI))))))) a0), (72, aI v2.2.2.2.1), (73, .one (.slc 68)), (74, aI v59.1)]) (L' := [(10, .one (.pair tI (.pair tI (.pair tI (.pair tI (.pair tI (.slice tI)))))) v2), (68, .seq tI v59.2)]) (obs := []) rfl (by kernel_rfl) allP0 ?_
              obtain ⟨r60, h61, h⟩ := bind_of h
              refine WO_frz 68 (by kernel_rfl) ?_
              refine WO_call0 (us := [none, none, none, none]) (d := 75) (p := True) (j := 6) rfl ⟨by kernel_rfl, by kernel_rfl, by kernel_rfl⟩ trivial (ih_ref_Func h61) (by kernel_rfl) ?_
              refine WO_run (j := 10) (k := 4) (orcs := []) (kF := [8, 9]) (kL := [10]) (fr' := [(8, aI r60.1), (9, aI r60.2)]) (L' := [(10, .one (.pair tI (.pair tI (.pair tI (.pair tI (.pair tI (.slice tI)))))) v2)]) (obs := []) rfl (by kernel_rfl) allP0 ?_
              refine WO_fin [8, 9] [] (fr' := [(8, aI r60.1), (9, aI r60.2)]) (L' := []) (by kernel_rfl) (by kernel_rfl) ?_
              refine seqQ_norm ?_
              obtain rfl := Option.some.inj h
              refine W_ret [8, 9] [] (fr' := [(8, aI r60.1), (9, aI r60.2)]) (L' := []) (by kernel_rfl) (by kernel_rfl) ?_
              refine seqQ_ret ?_
              exact retQ_mk (by kernel_rfl) (by kernel_rfl) (by kernel_rfl)
        · replace h := ofF h26 h
          refine W_skip [0, 2, 3, 10, 11] [10] (fr' := [(0, aD (.slice (.pair tI (.pair tI (.pair tI (.pair tI (.pair tI (.slice tI))))))) a0), (2, aD (.slice tI) a2), (3, aI (w64 (a3 - (1 : Int)))), (10, .one (.ptr 10 0)), (11, aI v24)]) (L' := [(10, .one (.pair tI (.pair tI (.pair tI (.pair tI (.pair tI (.slice tI)))))) v2)]) (by kernel_rfl) (by kernel_rfl) ?_
          refine seqQ_norm ?_
          refine W_seq (by kernel_rfl) ?_
          refine W_seq (by kernel_rfl) ?_
          refine W_run 3 [] [0, 2, 3, 10, 11, 80] [10] (fr' := [(0, aD (.slice (.pair tI (.pair tI (.pair tI (.pair tI (.pair tI (.slice tI))))))) a0), (2, aD (.slice tI) a2), (3, aI (w64 (a3 - (1 : Int)))), (10, .one (.ptr 10 0)), (11, aI v24), (80, aB (v2.1 == (5 : Int)))]) (L' := [(10, .one (.pair tI (.pair tI (.pair tI (.pair tI (.pair tI (.slice tI)))))) v2)]) (obs := []) (by kernel_rfl) (by kernel_rfl) (by kernel_rfl) allP0 ?_
          refine seqQ_norm ?_
          refine W_cond (o := .tmp 80) (b := v2.1 == (5 : Int)) (by kernel_rfl) (by kernel_rfl) (fun h62 => ?_) (fun h62 => ?_)
          · replace h := ofT h62 h
            refine W_seq (by kernel_rfl) ?_
            refine W_run 4 [] [0, 2, 3, 10, 17] [10] (fr' := [(0, aD (.slice (.pair tI (.pair tI (.pair tI (.pair tI (.pair tI (.slice tI))))))) a0), (2, aD (.slice tI) a2), (3, aI (w64 (a3 - (1 : Int)))), (10, .one (.ptr 10 0)), (17, aI (w64 ((List.length a2 : Int) - (1 : Int))))]) (L' := [(10, .one (.pair tI (.pair tI (.pair tI (.pair tI (.pair tI (.slice tI)))))) v2)]) (obs := []) (by kernel_rfl) (by kernel_rfl) (by kernel_rfl) allP0 ?_
            refine seqQ_norm ?_
            refine W_seq (by kernel_rfl) ?_
            obtain ⟨_, h63, h⟩ := bind_of h
            replace h63 := ck_some h63
            obtain ⟨r64, h65, h⟩ := bind_of h
            refine W_draw2 12 [] [(7, [none, none, none, none], .tup [.dat tI r64.1, .dat tI r64.2])] [0, 2, 10, 17, 18, 19] [10] (fr' := [(0, aD (.slice (.pair tI (.pair tI (.pair tI (.pair tI (.pair tI (.slice tI))))))) a0), (2, aD (.slice tI) a2), (10, .one (.ptr 10 0)), (17, aI (w64 ((List.length a2 : Int) - (1 : Int)))), (18, aI r64.1), (19, aI r64.2)]) (L' := [(10, .one (.pair tI (.pair tI (.pair tI (.pair tI (.pair tI (.slice tI)))))) v2)]) (out := [(85, aD (.slice (.pair tI (.pair tI (.pair tI (.pair tI (.pair tI (.slice tI))))))) a0), (86, .one (.ptr 10 3)), (87, aI v2.2.2.2.1), (88, aD (.slice tI) a2), (89, aI (w64 ((List.length a2 : Int) - (1 : Int)))), (90, aD (.slice tI) (sub a2 (0 : Int) (w64 ((List.length a2 : Int) - (1 : Int))))), (91, aI (w64 (a3 - (1 : Int)))), (92, .tup [.dat tI r64.1, .dat tI r64.2]), (84, .tup [.dat tI r64.1, .dat tI r64.2]), (93, aI r64.1), (94, aI r64.2), (18, aI r64.1)]) (obs := [Cuts (0 : Int) (w64 ((List.length a2 : Int) - (1 : Int))) (List.length a2), True]) (obs2 := []) (calls := [(36, [aD (.slice (.pair tI (.pair tI (.pair tI (.pair tI (.pair tI (.slice tI))))))) a0, aI v2.2.2.2.1, aD (.slice tI) (sub a2 (0 : Int) (w64 ((List.length a2 : Int) - (1 : Int)))), aI (w64 (a3 - (1 : Int)))], .tup [.dat tI r64.1, .dat tI r64.2])]) (by kernel_rfl) (by kernel_rfl) (by kernel_rfl) (by kernel_rfl) (allP2 h63 (allP1 trivial)) (allC1 (by kernel_rfl) (ih_ref_Func h65) (by kernel_rfl) allC0) (by kernel_rfl) allP0 ?_
            refine seqQ_norm ?_
            refine W_seq (by kernel_rfl) ?_
            refine W_seq (by kernel_rfl) ?_
            refine W_run 1 [] [0, 2, 10, 17, 18, 19, 20] [10] (fr' := [(0, aD (.slice (.pair tI (.pair tI (.pair tI (.pair tI (.pair tI (.slice tI))))))) a0), (2, aD (.slice tI) a2), (10, .one (.ptr 10 0)), (17, aI (w64 ((List.length a2 : Int) - (1 : Int)))), (18, aI r64.1), (19, aI r64.2), (20, aI (0 : Int))]) (L' := [(10, .one (.pair tI (.pair tI (.pair tI (.pair tI (.pair tI (.slice tI)))))) v2)]) (obs := []) (by kernel_rfl) (by kernel_rfl) (by kernel_rfl) allP0 ?_
            refine seqQ_norm ?_
            refine W_block (id := 2) (by kernel_rfl) ?_
            obtain ⟨v89, h90, h⟩ := bind_of h
            refine W_weaken [0, 2, 10, 17, 18, 19, 20] [10] (fr' := ((ref_Func_s6 a0 a2 v2) (r64.1, r64.2, (0 : Int))).1) (L' := ((ref_Func_s6 a0 a2 v2) (r64.1, r64.2, (0 : Int))).2) (by kernel_rfl) ?_
            refine W_cutK (W_loop (S := (ref_Func_s6 a0 a2 v2)) (J := (exQ (.exit 2) ref_Func_s7)) (by kernel_rfl) ?_ fuel _ v89 h90) ?_
            · rintro x74 s h
              refine W_seq (by kernel_rfl) ?_
              refine W_seq (by kernel_rfl) ?_
              obtain ⟨v82, h83, h⟩ := bind_of h
              refine W_run 10 [(7, .val (.dat tI v82))] [0, 2, 10, 17, 18, 19, 20, 104] [10] (fr' := [(0, aD (.slice (.pair tI (.pair tI (.pair tI (.pair tI (.pair tI (.slice tI))))))) a0), (2, aD (.slice tI) a2), (10, .one (.ptr 10 0)), (17, aI (w64 ((List.length a2 : Int) - (1 : Int)))), (18, aI x74.1), (19, aI x74.2.1), (20, aI x74.2.2), (104, aB ((decide (x74.2.2 < v82)) && (decide (x74.1 ≥ (0 : Int)))))]) (L' := [(10, .one (.pair tI (.pair tI (.pair tI (.pair tI (.pair tI (.slice tI)))))) v2)]) (obs := [Idx a2 (w64 ((List.length a2 : Int) - (1 : Int))) v82]) (by kernel_rfl) (by kernel_rfl) (by kernel_rfl) (allP1 (Idx.of h83)) ?_
              refine seqQ_norm ?_
              refine W_cond (o := .tmp 104) (b := (decide (x74.2.2 < v82)) && (decide (x74.1 ≥ (0 : Int)))) (by kernel_rfl) (by kernel_rfl) (fun h84 => ?_) (fun h84 => ?_)
              · replace h := ofT h84 h
                refine W_skip [0, 2, 10, 17, 18, 19, 20] [10] (fr' := [(0, aD (.slice (.pair tI (.pair tI (.pair tI (.pair tI (.pair tI (.slice tI))))))) a0), (2, aD (.slice tI) a2), (10, .one (.ptr 10 0)), (17, aI (w64 ((List.length a2 : Int) - (1 : Int)))), (18, aI x74.1), (19, aI x74.2.1), (20, aI x74.2.2)]) (L' := [(10, .one (.pair tI (.pair tI (.pair tI (.pair tI (.pair tI (.slice tI)))))) v2)]) (by kernel_rfl) (by kernel_rfl) ?_
                refine seqQ_norm ?_
                refine W_seq (by kernel_rfl) ?_
                refine W_block (id := 3) (by kernel_rfl) ?_
                obtain ⟨_, h85, h⟩ := bind_of h
                replace h85 := ck_some h85
                obtain ⟨_, h86, h⟩ := bind_of h
                replace h86 := ck_some h86
                refine W_drawC5 13 [(3, [111], [(111, .seq tI [])]), (7, [111], [(111, .seq tI ([] ++ (sub a2 (0 : Int) (w64 ((List.length a2 : Int) - (1 : Int))))))]), (11, [111], [(111, .seq tI (([] ++ (sub a2 (0 : Int) (w64 ((List.length a2 : Int) - (1 : Int))))) ++ [x74.2.2, x74.1]))])] [] [(3, .one (.slc 111)), (7, .one (.slc 111)), (11, .one (.slc 111))] [] [] [0, 2, 10, 17, 18, 19, 20, 108, 110, 119, 120] [10, 111] (out := [(108, aD (.slice (.pair tI (.pair tI (.pair tI (.pair tI (.pair tI (.slice tI))))))) a0), (109, .one (.ptr 10 4)), (110, aI v2.2.2.2.2.1), (111, .one (.slc 111)), (112, aD (.slice tI) a2), (113, aI (w64 ((List.length a2 : Int) - (1 : Int)))), (114, aD (.slice tI) (sub a2 (0 : Int) (w64 ((List.length a2 : Int) - (1 : Int))))), (115, .one (.slc 111)), (116, aI x74.2.2), (117, aI x74.1), (118, aD (.slice tI) [x74.2.2, x74.1]), (119, .one (.slc 111)), (120, aI x74.2.1)]) (obs := [Cuts (0 : Int) (w64 ((List.length a2 : Int) - (1 : Int))) (List.length a2), True]) (calls := []) (fr' := [(0, aD (.slice (.pair tI (.pair tI (.pair tI (.pair tI (.pair tI (.slice tI))))))) a0), (2, aD (.slice tI) a2), (10, .one (.ptr 10 0)), (17, aI (w64 ((List.length a2 : Int) - (1 : Int)))), (18, aI x74.1), (19, aI x74.2.1), (20, aI x74.2.2), (108, aD (.slice (.pair tI (.pair tI (.pair tI (.pair tI (.pair tI (.slice tI))))))) a0), (110, aI v2.2.2.2.2.1), (119, .one (.slc 111)), (120, aI x74.2.1)]) (L' := [(10, .one (.pair tI (.pair tI (.pair tI (.pair tI (.pair tI (.slice tI)))))) v2), (111, .seq tI (([] ++ (sub a2 (0 : Int) (w64 ((List.length a2 : Int) - (1 : Int))))) ++ [x74.2.2, x74.1]))]) (by kernel_rfl) (by kernel_rfl) (by kernel_rfl) (by kernel_rfl) (by kernel_rfl) (allP2 h63 (allP1 trivial)) allD0 (chDo (ty := false) (d := 111) (nm := 111) (ob := .seq tI []) (av := .one (.slc 111)) (p := True) (by kernel_rfl) trivial (by kernel_rfl) (chDo (ty := false) (d := 115) (nm := 111) (ob := .seq tI ([] ++ (sub a2 (0 : Int) (w64 ((List.length a2 : Int) - (1 : Int)))))) (av := .one (.slc 111)) (p := SmallLen (List.length ([] : (List Int)) + List.length (sub a2 (0 : Int) (w64 ((List.length a2 : Int) - (1 : Int)))))) (by kernel_rfl) h85 (by kernel_rfl) (chDo (ty := false) (d := 119) (nm := 111) (ob := .seq tI (([] ++ (sub a2 (0 : Int) (w64 ((List.length a2 : Int) - (1 : Int))))) ++ [x74.2.2, x74.1])) (av := .one (.slc 111)) (p := SmallLen (List.length ([] ++ (sub a2 (0 : Int) (w64 ((List.length a2 : Int) - (1 : Int))))) + List.length [x74.2.2, x74.1])) (by kernel_rfl) h86 (by kernel_rfl) chNil))) mkNil (by kernel_rfl) ?_
                obtain ⟨r87, h88, h⟩ := bind_of h
                refine WO_frz 111 (by kernel_rfl) ?_
                refine WO_call0 (us := [none, none, none, none]) (d := 121) (p := True) (j := 14) rfl ⟨by kernel_rfl, by kernel_rfl, by kernel_rfl⟩ trivial (ih_ref_Func h88) (by kernel_rfl) ?_
                refine WO_run (j := 19) (k := 5) (orcs := []) (kF := [0, 2, 10, 17, 18, 19, 20]) (kL := [10]) (fr' := [(0, aD (.slice (.pair tI (.pair tI (.pair tI (.pair tI (.pair tI (.slice tI))))))) a0), (2, aD (.slice tI) a2), (10, .one (.ptr 10 0)), (17, aI (w64 ((List.length a2 : Int) - (1 : Int)))), (18, aI r87.1), (19, aI r87.2), (20, aI x74.2.2)]) (L' := [(10, .one (.pair tI (.pair tI (.pair tI (.pair tI (.pair tI (.slice tI)))))) v2)]) (obs := []) rfl (by kernel_rfl) allP0 ?_
                refine WO_fin [0, 2, 10, 17, 18, 19, 20] [10] (fr' := [(0, aD (.slice (.pair tI (.pair tI (.pair tI (.pair tI (.pair tI (.slice tI))))))) a0), (2, aD (.slice tI) a2), (10, .one (.ptr 10 0)), (17, aI (w64 ((List.length a2 : Int) - (1 : Int)))), (18, aI r87.1), (19, aI r87.2), (20, aI x74.2.2)]) (L' := [(10, .one (.pair tI (.pair tI (.pair tI (.pair tI (.pair tI (.slice tI)))))) v2)]) (by kernel_rfl) (by kernel_rfl) ?_
                refine ⟨rfl, ?_⟩
                refine blockQ_norm ?_
                refine seqQ_norm ?_
                obtain rfl := Option.some.inj h
                refine W_run 3 [] [0, 2, 10, 17, 18, 19, 20] [10] (fr' := [(0, aD (.slice (.pair tI (.pair tI (.pair tI (.pair tI (.pair tI (.slice tI))))))) a0), (2, aD (.slice tI) a2), (10, .one (.ptr 10 0)), (17, aI (w64 ((List.length a2 : Int) - (1 : Int)))), (18, aI r87.1), (19, aI r87.2), (20, aI (w64 (x74.2.2 + (1 : Int))))]) (L' := [(10, .one (.pair tI (.pair tI (.pair tI (.pair tI (.pair tI (.slice tI)))))) v2)]) (obs := []) (by kernel_rfl) (by kernel_rfl) (by kernel_rfl) allP0 ?_
                exact round_next' (by kernel_rfl) (by kernel_rfl)
              · replace h := ofF h84 h
                obtain rfl := Option.some.inj h
                refine W_exit (id := 2) [18, 19] [] (fr' := [(18, aI x74.1), (19, aI x74.2.1)]) (L' := []) (by kernel_rfl) (by kernel_rfl) ?_
                refine seqQ_exit ?_
                refine round_exit ?_
                exact exQ_mk (by kernel_rfl) (by kernel_rfl)
            · intro e fr L hJ
              obtain ⟨rfl, rfl, rfl⟩ := hJ
              refine LT_keep [18, 19] [] (fr' := [(18, aI v89.1), (19, aI v89.2)]) (L' := []) (by kernel_rfl) ?_
              refine blockQ_hit ?_
              refine seqQ_norm ?_
              refine W_seq (by kernel_rfl) ?_
              refine W_seq (by kernel_rfl) ?_
              refine W_run 2 [] [18, 19, 125] [] (fr' := [(18, aI v89.1), (19, aI v89.2), (125, aB (decide (v89.1 < (0 : Int))))]) (L' := []) (obs := []) (by kernel_rfl) (by kernel_rfl) (by kernel_rfl) allP0 ?_
              refine seqQ_norm ?_
              refine W_cond (o := .tmp 125) (b := decide (v89.1 < (0 : Int))) (by kernel_rfl) (by kernel_rfl) (fun h93 => ?_) (fun h93 => ?_)
              · replace h := ofT h93 h
                refine W_seq (by kernel_rfl) ?_
                refine W_run 2 [] [8, 9] [] (fr' := [(8, aI (-1 : Int)), (9, aI (0 : Int))]) (L' := []) (obs := []) (by kernel_rfl) (by kernel_rfl) (by kernel_rfl) allP0 ?_
                refine seqQ_norm ?_
                obtain rfl := Option.some.inj h
                refine W_ret [8, 9] [] (fr' := [(8, aI (-1 : Int)), (9, aI (0 : Int))]) (L' := []) (by kernel_rfl) (by kernel_rfl) ?_
                refine seqQ_ret ?_
                refine seqQ_ret ?_
                exact retQ_mk (by kernel_rfl) (by kernel_rfl) (by kernel_rfl)
              · replace h := ofF h93 h
                refine W_skip [18, 19] [] (fr' := [(18, aI v89.1), (19, aI v89.2)]) (L' := []) (by kernel_rfl) (by kernel_rfl) ?_
                refine seqQ_norm ?_
                refine W_seq (by kernel_rfl) ?_
                refine W_run 4 [] [8, 9] [] (fr' := [(8, aI v89.1), (9, aI v89.2)]) (L' := []) (obs := []) (by kernel_rfl) (by kernel_rfl) (by kernel_rfl) allP0 ?_
                refine seqQ_norm ?_
                obtain rfl := Option.some.inj h
                refine W_ret [8, 9] [] (fr' := [(8, aI v89.1), (9, aI v89.2)]) (L' := []) (by kernel_rfl) (by kernel_rfl) ?_
                refine seqQ_ret ?_
                exact retQ_mk (by kernel_rfl) (by kernel_rfl) (by kernel_rfl)
          · replace h := ofF h62 h
            refine W_skip [3, 11] [] (fr' := [(3, aI (w64 (a3 - (1 : Int)))), (11, aI v24)]) (L' := []) (by kernel_rfl) (by kernel_rfl) ?_
            refine seqQ_norm ?_
            refine W_seq (by kernel_rfl) ?_
            refine W_seq (by kernel_rfl) ?_
            refine W_run 2 [] [3, 11, 129] [] (fr' := [(3, aI (w64 (a3 - (1 : Int)))), (11, aI v24), (129, aB (decide (v24 > (1000 : Int))))]) (L' := []) (obs := []) (by kernel_rfl) (by kernel_rfl) (by kernel_rfl) allP0 ?_
            refine seqQ_norm ?_
            refine W_cond (o := .tmp 129) (b := decide (v24 > (1000 : Int))) (by kernel_rfl) (by kernel_rfl) (fun h94 => ?_) (fun h94 => ?_)
            · replace h := ofT h94 h
              refine W_seq (by kernel_rfl) ?_
              refine W_run 2 [] [8, 9] [] (fr' := [(8, aI (-1 : Int)), (9, aI (0 : Int))]) (L' := []) (obs := []) (by kernel_rfl) (by kernel_rfl) (by kernel_rfl) allP0 ?_
              refine seqQ_norm ?_
              obtain rfl := Option.some.inj h
              refine W_ret [8, 9] [] (fr' := [(8, aI (-1 : Int)), (9, aI (0 : Int))]) (L' := []) (by kernel_rfl) (by kernel_rfl) ?_
              refine seqQ_ret ?_
              exact retQ_mk (by kernel_rfl) (by kernel_rfl) (by kernel_rfl)
            · replace h := ofF h94 h
              refine W_skip [3, 11] [] (fr' := [(3, aI (w64 (a3 - (1 : Int)))), (11, aI v24)]) (L' := []) (by kernel_rfl) (by kernel_rfl) ?_
              refine seqQ_norm ?_
              refine W_seq (by kernel_rfl) ?_
              refine W_run 4 [] [8, 9] [] (fr' := [(8, aI v24), (9, aI (w64 (a3 - (1 : Int))))]) (L' := []) (obs := []) (by kernel_rfl) (by kernel_rfl) (by kernel_rfl) allP0 ?_
              refine seqQ_norm ?_
              obtain rfl := Option.some.inj h
              refine W_ret [8, 9] [] (fr' := [(8, aI v24), (9, aI (w64 (a3 - (1 : Int))))]) (L' := []) (by kernel_rfl) (by kernel_rfl) ?_
              exact retQ_mk (by kernel_rfl) (by kernel_rfl) (by kernel_rfl)
theorem ref_Func_ok : ∀ {fuel : Nat} {a0 : (List (Int × (Int × (Int × (Int × (Int × (List Int)))))))} {a1 : Int} {a2 : (List Int)} {a3 : Int} {r : (Int × Int)}, ref_Func fuel a0 a1 a2 a3 = some r → FnC Try.prog 36 [aD (.slice (.pair tI (.pair tI (.pair tI (.pair tI (.pair tI (.slice tI))))))) a0, aI a1, aD (.slice tI) a2, aI a3] [] (.tup [.dat tI r.1, .dat tI r.2]) [] := by
  intro fuel
  induction fuel with
  | zero => intros a0 a1 a2 a3 r h; cases h
  | succ fuel ih => intros a0 a1 a2 a3 r h; exact ref_Func_step_ok (fun h => ih h) (show ref_Func_step (ref_Func fuel) fuel a0 a1 a2 a3 = some r from h)

@[reducible] def law_FuncsValues_s3 (a0 : (List (Int × (Int × (Int × (Int × (Int × (List Int)))))))) (a1 : (List Int)) (r1 : (Int × Int)) (r3 : Int) (v : Bool) : Fr × LL := ([(0, aD (.slice (.pair tI (.pair tI (.pair tI (.pair tI (.pair tI (.slice tI))))))) a0), (1, aD (.slice tI) a1), (5, aI r1.1), (6, aI r1.2), (7, aI r3), (33, aB v)], [])
def law_FuncsValues_g4 (a0 : (List (Int × (Int × (Int × (Int × (Int × (List Int)))))))) (a1 : (List Int)) (r3 : Int) : Option Int :=
(bif r3 == (0 : Int) then
((idx a0 (w64 ((List.length a0 : Int) - (1 : Int)))).bind fun v36 =>
some ((List.length a1 : Int) != v36.2.1))
else
(some false)).bind fun v38 =>
bif v38 then
(some (3 : Int))
else
(some r3)
@[reducible] def law_FuncsValues_s17 (a0 : (List (Int × (Int × (Int × (Int × (Int × (List Int)))))))) (a1 : (List Int)) (r1 : (Int × Int)) (i135 : Int) (x136 : Int) (v : Bool) : Fr × LL := ([(0, aD (.slice (.pair tI (.pair tI (.pair tI (.pair tI (.pair tI (.slice tI))))))) a0), (1, aD (.slice tI) a1), (5, aI r1.1), (6, aI r1.2), (7, aI x136), (34, aD (.slice tI) a1), (35, aI (List.length a1 : Int)), (36, aI i135), (46, aB v)], [])
def law_FuncsValues_g18 (x136 : Int) (v138 : Int) : Option Int :=
(bif x136 == (0 : Int) then
((ref_Within (0 : Int) v138 (20 : Int)).bind fun r172 =>
some (!r172))
else
(some false)).bind fun v174 =>
bif v174 then
(some (4 : Int))
else
(some x136)
@[reducible] def law_FuncsValues_s19 (a0 : (List (Int × (Int × (Int × (Int × (Int × (List Int)))))))) (a1 : (List Int)) (r1 : (Int × Int)) (i135 : Int) (v : Int) : Fr × LL := ([(0, aD (.slice (.pair tI (.pair tI (.pair tI (.pair tI (.pair tI (.slice tI))))))) a0), (1, aD (.slice tI) a1), (5, aI r1.1), (6, aI r1.2), (7, aI v), (34, aD (.slice tI) a1), (35, aI (List.length a1 : Int)), (36, aI i135)], [])
def law_FuncsValues_b20 (i135 : Int) (v138 : Int) (x136 : Int) : Option (Flow Int Int) :=
(law_FuncsValues_g18 x136 v138).bind fun v177 =>
some (.next v177)
@[reducible] def law_FuncsValues_s21 (a0 : (List (Int × (Int × (Int × (Int × (Int × (List Int)))))))) (a1 : (List Int)) (r1 : (Int × Int)) (v : Int × Int) : Fr × LL := ([(0, aD (.slice (.pair tI (.pair tI (.pair tI (.pair tI (.pair tI (.slice tI))))))) a0), (1, aD (.slice tI) a1), (5, aI r1.1), (6, aI r1.2), (7, aI v.2), (34, aD (.slice tI) a1), (35, aI (List.length a1 : Int)), (36, aI v.1)], [])
@[reducible] def law_FuncsValues_s22 (a0 : (List (Int × (Int × (Int × (Int × (Int × (List Int)))))))) (a1 : (List Int)) (r1 : (Int × Int)) (v : Int) : Fr × LL := ([(0, aD (.slice (.pair tI (.pair tI (.pair tI (.pair tI (.pair tI (.slice tI))))))) a0), (1, aD (.slice tI) a1), (5, aI r1.1), (6, aI r1.2), (7, aI v)], [])
@[reducible] def law_FuncsValues_s23 (a0 : (List (Int × (Int × (Int × (Int × (Int × (List Int)))))))) (a1 : (List Int)) (r1 : (Int × Int)) (v : Int) : Fr × LL := ([(0, aD (.slice (.pair tI (.pair tI (.pair tI (.pair tI (.pair tI (.slice tI))))))) a0), (1, aD (.slice tI) a1), (5, aI r1.1), (6, aI r1.2), (7, aI v)], [])
def law_FuncsValues (fuel : Nat) (a0 : (List (Int × (Int × (Int × (Int × (Int × (List Int)))))))) (a1 : (List Int)) : Option Bool :=
(funcs_Value fuel a0 a1).bind fun r1 =>
(ref_FuncsCheck a0).bind fun r3 =>
(law_FuncsValues_g4 a0 a1 r3).bind fun v41 =>
(forL law_FuncsValues_b20 (fun x136 => x136) a1 0 v41).bind fun v180 =>
bif v180 != (0 : Int) then
(some ((r1.2 == v180) && (r1.1 == (0 : Int))))
else
((ref_Func fuel a0 (w64 ((List.length a0 : Int) - (1 : Int))) a1 (20000 : Int)).bind fun r186 =>
bif decide (r186.1 < (0 : Int)) then
(some ((r1.2 == (7 : Int)) && (r1.1 == (0 : Int))))
else
(some ((r1.2 == (0 : Int)) && (r1.1 == r186.1))))
theorem law_FuncsValues_ok {fuel : Nat} {a0 : (List (Int × (Int × (Int × (Int × (Int × (List Int)))))))} {a1 : (List Int)} {r : Bool} (h : law_FuncsValues fuel a0 a1 = some r) : FnC Try.prog 11 [aD (.slice (.pair tI (.pair tI (.pair tI (.pair tI (.pair tI (.slice tI))))))) a0, aD (.slice tI) a1] [] (aB r) [] := by
  refine fnC_of_W (B := bodyOf Try.f11) (n := 81) Try.func11 (by kernel_rfl) (by kernel_rfl) (by kernel_rfl) (by kernel_rfl) (by kernel_rfl) ?_
  intro K
  refine W_seq (by kernel_rfl) ?_
  refine W_run 1 [] [0, 1] [] (fr' := [(0, aD (.slice (.pair tI (.pair tI (.pair tI (.pair tI (.pair tI (.slice tI))))))) a0), (1, aD (.slice tI) a1)]) (L' := []) (obs := []) (by kernel_rfl) (by kernel_rfl) (by kernel_rfl) allP0 ?_
  refine seqQ_norm ?_
  refine W_seq (by kernel_rfl) ?_
  refine W_region (by kernel_rfl) ?_
  refine WO_run (j := 2) (k := 2) (orcs := []) (kF := [0, 1, 13, 14]) (kL := []) (fr' := [(0, aD (.slice (.pair tI (.pair tI (.pair tI (.pair tI (.pair tI (.slice tI))))))) a0), (1, aD (.slice tI) a1), (13, aD (.slice (.pair tI (.pair tI (.pair tI (.pair tI (.pair tI (.slice tI))))))) a0), (14, aD (.slice tI) a1)]) (L' := []) (obs := []) rfl (by kernel_rfl) allP0 ?_
  obtain ⟨r1, h2, h⟩ := bind_of h
  refine WO_call0 (us := [none, none]) (d := 15) (p := True) (j := 3) rfl ⟨by kernel_rfl, by kernel_rfl, by kernel_rfl⟩ trivial (funcs_Value_ok h2) (by kernel_rfl) ?_
  refine WO_run (j := 8) (k := 5) (orcs := []) (kF := [0, 1, 5, 6]) (kL := []) (fr' := [(0, aD (.slice (.pair tI (.pair tI (.pair tI (.pair tI (.pair tI (.slice tI))))))) a0), (1, aD (.slice tI) a1), (5, aI r1.1), (6, aI r1.2)]) (L' := []) (obs := []) rfl (by kernel_rfl) allP0 ?_
  refine WO_fin [0, 1, 5, 6] [] (fr' := [(0, aD (.slice (.pair tI (.pair tI (.pair tI (.pair tI (.pair tI (.slice tI))))))) a0), (1, aD (.slice tI) a1), (5, aI r1.1), (6, aI r1.2)]) (L' := []) (by kernel_rfl) (by kernel_rfl) ?_
  refine seqQ_norm ?_
  refine W_seq (by kernel_rfl) ?_
  refine W_region (by kernel_rfl) ?_
  refine WO_run (j := 1) (k := 1) (orcs := []) (kF := [0, 1, 5, 6, 18]) (kL := []) (fr' := [(0, aD (.slice (.pair tI (.pair tI (.pair tI (.pair tI (.pair tI (.slice tI))))))) a0), (1, aD (.slice tI) a1), (5, aI r1.1), (6, aI r1.2), (18, aD (.slice (.pair tI (.pair tI (.pair tI (.pair tI (.pair tI (.slice tI))))))) a0)]) (L' := []) (obs := []) rfl (by kernel_rfl) allP0 ?_
  obtain ⟨r3, h4, h⟩ := bind_of h
  refine WO_call0 (us := [none]) (d := 19) (p := True) (j := 2) rfl ⟨by kernel_rfl, by kernel_rfl, by kernel_rfl⟩ trivial (ref_FuncsCheck_ok h4) (by kernel_rfl) ?_
  refine WO_run (j := 3) (k := 1) (orcs := []) (kF := [0, 1, 5, 6, 7]) (kL := []) (fr' := [(0, aD (.slice (.pair tI (.pair tI (.pair tI (.pair tI (.pair tI (.slice tI))))))) a0), (1, aD (.slice tI) a1), (5, aI r1.1), (6, aI r1.2), (7, aI r3)]) (L' := []) (obs := []) rfl (by kernel_rfl) allP0 ?_
  refine WO_fin [0, 1, 5, 6, 7] [] (fr' := [(0, aD (.slice (.pair tI (.pair tI (.pair tI (.pair tI (.pair tI (.slice tI))))))) a0), (1, aD (.slice tI) a1), (5, aI r1.1), (6, aI r1.2), (7, aI r3)]) (L' := []) (by kernel_rfl) (by kernel_rfl) ?_
  refine seqQ_norm ?_
  refine W_seq (by kernel_rfl) ?_
  obtain ⟨v41, h42, h⟩ := bind_of h
  refine W_cutK (Q' := (exQ .normal (law_FuncsValues_s23 a0 a1 r1)) v41) ?_ ?_
  · replace h := h42
    refine W_seq (by kernel_rfl) ?_
    obtain ⟨v38, h39, h⟩ := bind_of h
    refine W_cutK (Q' := (exQ .normal (law_FuncsValues_s3 a0 a1 r1 r3)) v38) ?_ ?_
    · replace h := h39
      refine W_region (by kernel_rfl) ?_
      refine WO_run (j := 3) (k := 3) (orcs := []) (kF := [0, 1, 5, 6, 7, 22]) (kL := []) (fr' := [(0, aD (.slice (.pair tI (.pair tI (.pair tI (.pair tI (.pair tI (.slice tI))))))) a0), (1, aD (.slice tI) a1), (5, aI r1.1), (6, aI r1.2), (7, aI r3), (22, aB (r3 == (0 : Int)))]) (L' := []) (obs := []) rfl (by kernel_rfl) allP0 ?_
      rcases Bool.eq_false_or_eq_true (r3 == (0 : Int)) with h35 | h35
      · replace h := ofT h35 h
        obtain ⟨v36, h37, h⟩ := bind_of h
        refine WO_run (j := 14) (k := 11) (orcs := [(6, .known true), (8, .known true), (10, .known true), (12, .known true), (14, .known true), (16, .known true), (18, .known true), (19, .val (.dat (.pair tI (.pair tI (.pair tI (.pair tI (.pair tI (.slice tI)))))) v36)), (20, .known true), (22, .known true), (24, .known true), (27, .val (.dat .bool true))]) (kF := [0, 1, 5, 6, 7, 33]) (kL := []) (fr' := [(0, aD (.slice (.pair tI (.pair tI (.pair tI (.pair tI (.pair tI (.slice tI))))))) a0), (1, aD (.slice tI) a1), (5, aI r1.1), (6, aI r1.2), (7, aI r3), (33, aB ((List.length a1 : Int) != v36.2.1))]) (L' := []) (obs := [((r3 == (0 : Int)) = true), ((r3 == (0 : Int)) = true), ((r3 == (0 : Int)) = true), ((r3 == (0 : Int)) = true), ((r3 == (0 : Int)) = true), ((r3 == (0 : Int)) = true), ((r3 == (0 : Int)) = true), Idx a0 (w64 ((List.length a0 : Int) - (1 : Int))) v36, ((r3 == (0 : Int)) = true), ((r3 == (0 : Int)) = true), ((r3 == (0 : Int)) = true), ((r3 == (0 : Int)) = true)]) rfl (by kernel_rfl) (allP2 h35 (allP2 h35 (allP2 h35 (allP2 h35 (allP2 h35 (allP2 h35 (allP2 h35 (allP2 (Idx.of h37) (allP2 h35 (allP2 h35 (allP2 h35 (allP1 h35)))))))))))) ?_
        obtain rfl := Option.some.inj h
        refine WO_fin [0, 1, 5, 6, 7, 33] [] (fr' := [(0, aD (.slice (.pair tI (.pair tI (.pair tI (.pair tI (.pair tI (.slice tI))))))) a0), (1, aD (.slice tI) a1), (5, aI r1.1), (6, aI r1.2), (7, aI r3), (33, aB ((List.length a1 : Int) != v36.2.1))]) (L' := []) (by kernel_rfl) (by kernel_rfl) ?_
        exact exQ_mk (by kernel_rfl) (by kernel_rfl)
      · replace h := ofF h35 h
        refine WO_run (j := 14) (k := 11) (orcs := [(6, .known false), (8, .known false), (10, .known false), (12, .known false), (14, .known false), (16, .known false), (18, .known false), (20, .known false), (22, .known false), (24, .known false), (27, .val (.dat .bool false))]) (kF := [0, 1, 5, 6, 7, 33]) (kL := []) (fr' := [(0, aD (.slice (.pair tI (.pair tI (.pair tI (.pair tI (.pair tI (.slice tI))))))) a0), (1, aD (.slice tI) a1), (5, aI r1.1), (6, aI r1.2), (7, aI r3), (33, aB false)]) (L' := []) (obs := [((r3 == (0 : Int)) = false), ((r3 == (0 : Int)) = false), ((r3 == (0 : Int)) = false), ((r3 == (0 : Int)) = false), ((r3 == (0 : Int)) = false), ((r3 == (0 : Int)) = false), ((r3 == (0 : Int)) = false), ((r3 == (0 : Int)) = false), ((r3 == (0 : Int)) = false), ((r3 == (0 : Int)) = false), ((r3 == (0 : Int)) = false)]) rfl (by kernel_rfl) (allP2 h35 (allP2 h35 (allP2 h35 (allP2 h35 (allP2 h35 (allP2 h35 (allP2 h35 (allP2 h35 (allP2 h35 (allP2 h35 (allP1 h35))))))))))) ?_
        obtain rfl := Option.some.inj h
        refine WO_fin [0, 1, 5, 6, 7, 33] [] (fr' := [(0, aD (.slice (.pair tI (.pair tI (.pair tI (.pair tI (.pair tI (.slice tI))))))) a0), (1, aD (.slice tI) a1), (5, aI r1.1), (6, aI r1.2), (7, aI r3), (33, aB false)]) (L' := []) (by kernel_rfl) (by kernel_rfl) ?_
        exact exQ_mk (by kernel_rfl) (by kernel_rfl)
    · intro e fr L hJ
      obtain ⟨rfl, rfl, rfl⟩ := hJ
      refine LT_keep [0, 1, 5, 6, 7, 33] [] (fr' := [(0, aD (.slice (.pair tI (.pair tI (.pair tI (.pair tI (.pair tI (.slice tI))))))) a0), (1, aD (.slice tI) a1), (5, aI r1.1), (6, aI r1.2), (7, aI r3), (33, aB v38)]) (L' := []) (by kernel_rfl) ?_
      refine seqQ_norm ?_
      refine W_cond (o := .tmp 33) (b := v38) (by kernel_rfl) (by kernel_rfl) (fun h40 => ?_) (fun h40 => ?_)
      · replace h := ofT h40 h
        obtain rfl := Option.some.inj h
        refine W_run 1 [] [0, 1, 5, 6, 7] [] (fr' := [(0, aD (.slice (.pair tI (.pair tI (.pair tI (.pair tI (.pair tI (.slice tI))))))) a0), (1, aD (.slice tI) a1), (5, aI r1.1), (6, aI r1.2), (7, aI (3 : Int))]) (L' := []) (obs := []) (by kernel_rfl) (by kernel_rfl) (by kernel_rfl) allP0 ?_
        exact exQ_mk (by kernel_rfl) (by kernel_rfl)
      · replace h := ofF h40 h
        obtain rfl := Option.some.inj h
        refine W_skip [0, 1, 5, 6, 7] [] (fr' := [(0, aD (.slice (.pair tI (.pair tI (.pair tI (.pair tI (.pair tI (.slice tI))))))) a0), (1, aD (.slice tI) a1), (5, aI r1.1), (6, aI r1.2), (7, aI r3)]) (L' := []) (by kernel_rfl) (by kernel_rfl) ?_
        exact exQ_mk (by kernel_rfl) (by kernel_rfl)
  · intro e fr L hJ
    obtain ⟨rfl, rfl, rfl⟩ := hJ
    refine LT_keep [0, 1, 5, 6, 7] [] (fr' := [(0, aD (.slice (.pair tI (.pair tI (.pair tI (.pair tI (.pair tI (.slice tI))))))) a0), (1, aD (.slice tI) a1), (5, aI r1.1), (6, aI r1.2), (7, aI v41)]) (L' := []) (by kernel_rfl) ?_
    refine seqQ_norm ?_
    refine W_seq (by kernel_rfl) ?_
    refine W_seq (by kernel_rfl) ?_
    refine W_run 3 [] [0, 1, 5, 6, 7, 34, 35, 36] [] (fr' := [(0, aD (.slice (.pair tI (.pair tI (.pair tI (.pair tI (.pair tI (.slice tI))))))) a0), (1, aD (.slice tI) a1), (5, aI r1.1), (6, aI r1.2), (7, aI v41), (34, aD (.slice tI) a1), (35, aI (List.length a1 : Int)), (36, aI (0 : Int))]) (L' := []) (obs := []) (by kernel_rfl) (by kernel_rfl) (by kernel_rfl) allP0 ?_
    refine seqQ_norm ?_
    refine W_block (id := 0) (by kernel_rfl) ?_
    obtain ⟨v180, h181, h⟩ := bind_of h
    refine W_len (t := 34) (u := tI) (xs := a1) (by kernel_rfl) (fun h184 => ?_)
    obtain ⟨h182, h183⟩ := forL_iter h184 h181
    refine W_weaken [0, 1, 5, 6, 7, 34, 35, 36] [] (fr' := ((law_FuncsValues_s21 a0 a1 r1) ((0 : Int), v41)).1) (L' := ((law_FuncsValues_s21 a0 a1 r1) ((0 : Int), v41)).2) (by kernel_rfl) ?_
    refine W_cutK (W_loop (S := (law_FuncsValues_s21 a0 a1 r1)) (J := (exQ (.exit 0) (law_FuncsValues_s22 a0 a1 r1))) (by kernel_rfl) ?_ h182 _ v180 h183) ?_
    · rintro ⟨i135, x136⟩ s h
      refine W_seq (by kernel_rfl) ?_
      refine W_run 1 [] [0, 1, 5, 6, 7, 34, 35, 36, 37] [] (fr' := [(0, aD (.slice (.pair tI (.pair tI (.pair tI (.pair tI (.pair tI (.slice tI))))))) a0), (1, aD (.slice tI) a1), (5, aI r1.1), (6, aI r1.2), (7, aI x136), (34, aD (.slice tI) a1), (35, aI (List.length a1 : Int)), (36, aI i135), (37, aB (decide (i135 < (List.length a1 : Int))))]) (L' := []) (obs := []) (by kernel_rfl) (by kernel_rfl) (by kernel_rfl) allP0 ?_
      refine seqQ_norm ?_
      refine W_seq (by kernel_rfl) ?_
      refine W_cond (o := .tmp 37) (b := decide (i135 < (List.length a1 : Int))) (by kernel_rfl) (by kernel_rfl) (fun h140 => ?_) (fun h140 => ?_)
      · replace h := stepL_true h140 h
        obtain ⟨v138, _, h139, h, rfl⟩ := h
        refine W_skip [0, 1, 5, 6, 7, 34, 35, 36] [] (fr' := [(0, aD (.slice (.pair tI (.pair tI (.pair tI (.pair tI (.pair tI (.slice tI))))))) a0), (1, aD (.slice tI) a1), (5, aI r1.1), (6, aI r1.2), (7, aI x136), (34, aD (.slice tI) a1), (35, aI (List.length a1 : Int)), (36, aI i135)]) (L' := []) (by kernel_rfl) (by kernel_rfl) ?_
        refine seqQ_norm ?_
        refine W_seq (by kernel_rfl) ?_
        obtain ⟨v177, h178, h⟩ := bind_of h
        refine W_cutK (Q' := (exQ .normal (law_FuncsValues_s19 a0 a1 r1 i135)) v177) ?_ ?_
        · replace h := h178
          refine W_block (id := 1) (by kernel_rfl) ?_
          refine W_seq (by kernel_rfl) ?_
          refine W_run 3 [(1, .val (.dat tI v138))] [0, 1, 5, 6, 7, 9, 34, 35, 36] [] (fr' := [(0, aD (.slice (.pair tI (.pair tI (.pair tI (.pair tI (.pair tI (.slice tI))))))) a0), (1, aD (.slice tI) a1), (5, aI r1.1), (6, aI r1.2), (7, aI x136), (9, aI v138), (34, aD (.slice tI) a1), (35, aI (List.length a1 : Int)), (36, aI i135)]) (L' := []) (obs := [Idx a1 i135 v138]) (by kernel_rfl) (by kernel_rfl) (by kernel_rfl) (allP1 (Idx.of h139)) ?_
          refine seqQ_norm ?_
          refine W_seq (by kernel_rfl) ?_
          obtain ⟨v174, h175, h⟩ := bind_of h
          refine W_cutK (Q' := (exQ .normal (law_FuncsValues_s17 a0 a1 r1 i135 x136)) v174) ?_ ?_
          · replace h := h175
            refine W_region (by kernel_rfl) ?_
            refine WO_run (j := 3) (k := 3) (orcs := []) (kF := [0, 1, 5, 6, 7, 9, 34, 35, 36, 42]) (kL := []) (fr' := [(0, aD (.slice (.pair tI (.pair tI (.pair tI (.pair tI (.pair tI (.slice tI))))))) a0), (1, aD (.slice tI) a1), (5, aI r1.1), (6, aI r1.2), (7, aI x136), (9, aI v138), (34, aD (.slice tI) a1), (35, aI (List.length a1 : Int)), (36, aI i135), (42, aB (x136 == (0 : Int)))]) (L' := []) (obs := []) rfl (by kernel_rfl) allP0 ?_
            rcases Bool.eq_false_or_eq_true (x136 == (0 : Int)) with h171 | h171
            · replace h := ofT h171 h
              refine WO_run (j := 4) (k := 1) (orcs := [(6, .known true)]) (kF := [0, 1, 5, 6, 7, 34, 35, 36, 42, 43]) (kL := []) (fr' := [(0, aD (.slice (.pair tI (.pair tI (.pair tI (.pair tI (.pair tI (.slice tI))))))) a0), (1, aD (.slice tI) a1), (5, aI r1.1), (6, aI r1.2), (7, aI x136), (34, aD (.slice tI) a1), (35, aI (List.length a1 : Int)), (36, aI i135), (42, aB (x136 == (0 : Int))), (43, aI v138)]) (L' := []) (obs := [((x136 == (0 : Int)) = true)]) rfl (by kernel_rfl) (allP1 h171) ?_
              obtain ⟨r172, h173, h⟩ := bind_of h
              refine WO_call0 (us := [none, none, none]) (d := 44) (p := ((x136 == (0 : Int)) = true)) (j := 5) rfl ⟨by kernel_rfl, by kernel_rfl, by kernel_rfl⟩ h171 (ref_Within_ok h173) (by kernel_rfl) ?_
              refine WO_run (j := 7) (k := 2) (orcs := [(10, .known true), (13, .val (.dat .bool true))]) (kF := [0, 1, 5, 6, 7, 34, 35, 36, 46]) (kL := []) (fr' := [(0, aD (.slice (.pair tI (.pair tI (.pair tI (.pair tI (.pair tI (.slice tI))))))) a0), (1, aD (.slice tI) a1), (5, aI r1.1), (6, aI r1.2), (7, aI x136), (34, aD (.slice tI) a1), (35, aI (List.length a1 : Int)), (36, aI i135), (46, aB (!r172))]) (L' := []) (obs := [((x136 == (0 : Int)) = true), ((x136 == (0 : Int)) = true)]) rfl (by kernel_rfl) (allP2 h171 (allP1 h171)) ?_
              obtain rfl := Option.some.inj h
              refine WO_fin [0, 1, 5, 6, 7, 34, 35, 36, 46] [] (fr' := [(0, aD (.slice (.pair tI (.pair tI (.pair tI (.pair tI (.pair tI (.slice tI))))))) a0), (1, aD (.slice tI) a1), (5, aI r1.1), (6, aI r1.2), (7, aI x136), (34, aD (.slice tI) a1), (35, aI (List.length a1 : Int)), (36, aI i135), (46, aB (!r172))]) (L' := []) (by kernel_rfl) (by kernel_rfl) ?_
              exact exQ_mk (by kernel_rfl) (by kernel_rfl)
            · replace h := ofF h171 h
              refine WO_run (j := 7) (k := 4) (orcs := [(6, .known false), (8, .known false), (10, .known false), (13, .val (.dat .bool false))]) (kF := [0, 1, 5, 6, 7, 34, 35, 36, 46]) (kL := []) (fr' := [(0, aD (.slice (.pair tI (.pair tI (.pair tI (.pair tI (.pair tI (.slice tI))))))) a0), (1, aD (.slice tI) a1), (5, aI r1.1), (6, aI r1.2), (7, aI x136), (34, aD (.slice tI) a1), (35, aI (List.length a1 : Int)), (36, aI i135), (46, aB false)]) (L' := []) (obs := [((x136 == (0 : Int)) = false), ((x136 == (0 : Int)) = false), ((x136 == (0 : Int)) = false), ((x136 == (0 : Int)) = false)]) rfl (by kernel_rfl) (allP2 h171 (allP2 h171 (allP2 h171 (allP1 h171)))) ?_
              obtain rfl := Option.some.inj h
              refine WO_fin [0, 1, 5, 6, 7, 34, 35, 36, 46] [] (fr' := [(0, aD (.slice (.pair tI (.pair tI (.pair tI (.pair tI (.pair tI (.slice tI))))))) a0), (1, aD (.slice tI) a1), (5, aI r1.1), (6, aI r1.2), (7, aI x136), (34, aD (.slice tI) a1), (35, aI (List.length a1 : Int)), (36, aI i135), (46, aB false)]) (L' := []) (by kernel_rfl) (by kernel_rfl) ?_
              exact exQ_mk (by kernel_rfl) (by kernel_rfl)
          · intro e fr L hJ
            obtain ⟨rfl, rfl, rfl⟩ := hJ
            refine LT_keep [0, 1, 5, 6, 7, 34, 35, 36, 46] [] (fr' := [(0, aD (.slice (.pair tI (.pair tI (.pair tI (.pair tI (.pair tI (.slice tI))))))) a0), (1, aD (.slice tI) a1), (5, aI r1.1), (6, aI r1.2), (7, aI x136), (34, aD (.slice tI) a1), (35, aI (List.length a1 : Int)), (36, aI i135), (46, aB v174)]) (L' := []) (by kernel_rfl) ?_
            refine seqQ_norm ?_
            refine W_cond (o := .tmp 46) (b := v174) (by kernel_rfl) (by kernel_rfl) (fun h176 => ?_) (fun h176 => ?_)
            · replace h := ofT h176 h
              obtain rfl := Option.some.inj h
              refine W_run 1 [] [0, 1, 5, 6, 7, 34, 35, 36] [] (fr' := [(0, aD (.slice (.pair tI (.pair tI (.pair tI (.pair tI (.pair tI (.slice tI))))))) a0), (1, aD (.slice tI) a1), (5, aI r1.1), (6, aI r1.2), (7, aI (4 : Int)), (34, aD (.slice tI) a1), (35, aI (List.length a1 : Int)), (36, aI i135)]) (L' := []) (obs := []) (by kernel_rfl) (by kernel_rfl) (by kernel_rfl) allP0 ?_
              refine blockQ_norm ?_
              exact exQ_mk (by kernel_rfl) (by kernel_rfl)
            · replace h := ofF h176 h
              obtain rfl := Option.some.inj h
              refine W_skip [0, 1, 5, 6, 7, 34, 35, 36] [] (fr' := [(0, aD (.slice (.pair tI (.pair tI (.pair tI (.pair tI (.pair tI (.slice tI))))))) a0), (1, aD (.slice tI) a1), (5, aI r1.1), (6, aI r1.2), (7, aI x136), (34, aD (.slice tI) a1), (35, aI (List.length a1 : Int)), (36, aI i135)]) (L' := []) (by kernel_rfl) (by kernel_rfl) ?_
              refine blockQ_norm ?_
              exact exQ_mk (by kernel_rfl) (by kernel_rfl)
        · intro e fr L hJ
          obtain ⟨rfl, rfl, rfl⟩ := hJ
          refine LT_keep [0, 1, 5, 6, 7, 34, 35, 36] [] (fr' := [(0, aD (.slice (.pair tI (.pair tI (.pair tI (.pair tI (.pair tI (.slice tI))))))) a0), (1, aD (.slice tI) a1), (5, aI r1.1), (6, aI r1.2), (7, aI v177), (34, aD (.slice tI) a1), (35, aI (List.length a1 : Int)), (36, aI i135)]) (L' := []) (by kernel_rfl) ?_
          refine seqQ_norm ?_
          obtain rfl := Option.some.inj h
          refine W_run 2 [] [0, 1, 5, 6, 7, 34, 35, 36] [] (fr' := [(0, aD (.slice (.pair tI (.pair tI (.pair tI (.pair tI (.pair tI (.slice tI))))))) a0), (1, aD (.slice tI) a1), (5, aI r1.1), (6, aI r1.2), (7, aI v177), (34, aD (.slice tI) a1), (35, aI (List.length a1 : Int)), (36, aI (w64 (i135 + (1 : Int))))]) (L' := []) (obs := []) (by kernel_rfl) (by kernel_rfl) (by kernel_rfl) allP0 ?_
          exact round_next' (by kernel_rfl) (by kernel_rfl)
      · obtain rfl := stepL_false h140 h
        refine W_exit (id := 0) [0, 1, 5, 6, 7] [] (fr' := [(0, aD (.slice (.pair tI (.pair tI (.pair tI (.pair tI (.pair tI (.slice tI))))))) a0), (1, aD (.slice tI) a1), (5, aI r1.1), (6, aI r1.2), (7, aI x136)]) (L' := []) (by kernel_rfl) (by kernel_rfl) ?_
        refine seqQ_exit ?_
        refine round_exit ?_
        exact exQ_mk (by kernel_rfl) (by kernel_rfl)
    · intro e fr L hJ
      obtain ⟨rfl, rfl, rfl⟩ := hJ
      refine LT_keep [0, 1, 5, 6, 7] [] (fr' := [(0, aD (.slice (.pair tI (.pair tI (.pair tI (.pair tI (.pair tI (.slice tI))))))) a0), (1, aD (.slice tI) a1), (5, aI r1.1), (6, aI r1.2), (7, aI v180)]) (L' := []) (by kernel_rfl) ?_
      refine blockQ_hit ?_
      refine seqQ_norm ?_
      refine W_seq (by kernel_rfl) ?_
      refine W_seq (by kernel_rfl) ?_
      refine W_run 2 [] [0, 1, 5, 6, 7, 49] [] (fr' := [(0, aD (.slice (.pair tI (.pair tI (.pair tI (.pair tI (.pair tI (.slice tI))))))) a0), (1, aD (.slice tI) a1), (5, aI r1.1), (6, aI r1.2), (7, aI v180), (49, aB (v180 != (0 : Int)))]) (L' := []) (obs := []) (by kernel_rfl) (by kernel_rfl) (by kernel_rfl) allP0 ?_
      refine seqQ_norm ?_
      refine W_cond (o := .tmp 49) (b := v180 != (0 : Int)) (by kernel_rfl) (by kernel_rfl) (fun h185 => ?_) (fun h185 => ?_)
      · replace h := ofT h185 h
        refine W_seq (by kernel_rfl) ?_
        refine W_run 8 [] [4] [] (fr' := [(4, aB ((r1.2 == v180) && (r1.1 == (0 : Int))))]) (L' := []) (obs := []) (by kernel_rfl) (by kernel_rfl) (by kernel_rfl) allP0 ?_
        refine seqQ_norm ?_
        obtain rfl := Option.some.inj h
        refine W_ret [4] [] (fr' := [(4, aB ((r1.2 == v180) && (r1.1 == (0 : Int))))]) (L' := []) (by kernel_rfl) (by kernel_rfl) ?_
        refine seqQ_ret ?_
        exact retQ_mk (by kernel_rfl) (by kernel_rfl) (by kernel_rfl)
      · replace h := ofF h185 h
        refine W_skip [0, 1, 5, 6] [] (fr' := [(0, aD (.slice (.pair tI (.pair tI (.pair tI (.pair tI (.pair tI (.slice tI))))))) a0), (1, aD (.slice tI) a1), (5, aI r1.1), (6, aI r1.2)]) (L' := []) (by kernel_rfl) (by kernel_rfl) ?_
        refine seqQ_norm ?_
        refine W_seq (by kernel_rfl) ?_
        refine W_region (by kernel_rfl) ?_
        refine WO_run (j := 5) (k := 5) (orcs := []) (kF := [5, 6, 58, 61, 62]) (kL := []) (fr' := [(5, aI r1.1), (6, aI r1.2), (58, aD (.slice (.pair tI (.pair tI (.pair tI (.pair tI (.pair tI (.slice tI))))))) a0), (61, aI (w64 ((List.length a0 : Int) - (1 : Int)))), (62, aD (.slice tI) a1)]) (L' := []) (obs := []) rfl (by kernel_rfl) allP0 ?_
        obtain ⟨r186, h187, h⟩ := bind_of h
        refine WO_call0 (us := [none, none, none, none]) (d := 63) (p := True) (j := 6) rfl ⟨by kernel_rfl, by kernel_rfl, by kernel_rfl⟩ trivial (ref_Func_ok h187) (by kernel_rfl) ?_
        refine WO_run (j := 11) (k := 5) (orcs := []) (kF := [5, 6, 10]) (kL := []) (fr' := [(5, aI r1.1), (6, aI r1.2), (10, aI r186.1)]) (L' := []) (obs := []) rfl (by kernel_rfl) allP0 ?_
        refine WO_fin [5, 6, 10] [] (fr' := [(5, aI r1.1), (6, aI r1.2), (10, aI r186.1)]) (L' := []) (by kernel_rfl) (by kernel_rfl) ?_
        refine seqQ_norm ?_
        refine W_seq (by kernel_rfl) ?_
        refine W_seq (by kernel_rfl) ?_
        refine W_run 2 [] [5, 6, 10, 67] [] (fr' := [(5, aI r1.1), (6, aI r1.2), (10, aI r186.1), (67, aB (decide (r186.1 < (0 : Int))))]) (L' := []) (obs := []) (by kernel_rfl) (by kernel_rfl) (by kernel_rfl) allP0 ?_
        refine seqQ_norm ?_
        refine W_cond (o := .tmp 67) (b := decide (r186.1 < (0 : Int))) (by kernel_rfl) (by kernel_rfl) (fun h188 => ?_) (fun h188 => ?_)
        · replace h := ofT h188 h
          refine W_seq (by kernel_rfl) ?_
          refine W_run 7 [] [4] [] (fr' := [(4, aB ((r1.2 == (7 : Int)) && (r1.1 == (0 : Int))))]) (L' := []) (obs := []) (by kernel_rfl) (by kernel_rfl) (by kernel_rfl) allP0 ?_
          refine seqQ_norm ?_
          obtain rfl := Option.some.inj h
          refine W_ret [4] [] (fr' := [(4, aB ((r1.2 == (7 : Int)) && (r1.1 == (0 : Int))))]) (L' := []) (by kernel_rfl) (by kernel_rfl) ?_
          refine seqQ_ret ?_
          exact retQ_mk (by kernel_rfl) (by kernel_rfl) (by kernel_rfl)
        · replace h := ofF h188 h
          refine W_skip [5, 6, 10] [] (fr' := [(5, aI r1.1), (6, aI r1.2), (10, aI r186.1)]) (L' := []) (by kernel_rfl) (by kernel_rfl) ?_
          refine seqQ_norm ?_
          refine W_seq (by kernel_rfl) ?_
          refine W_run 8 [] [4] [] (fr' := [(4, aB ((r1.2 == (0 : Int)) && (r1.1 == r186.1)))]) (L' := []) (obs := []) (by kernel_rfl) (by kernel_rfl) (by kernel_rfl) allP0 ?_
          refine seqQ_norm ?_
          obtain rfl := Option.some.inj h
          refine W_ret [4] [] (fr' := [(4, aB ((r1.2 == (0 : Int)) && (r1.1 == r186.1)))]) (L' := []) (by kernel_rfl) (by kernel_rfl) ?_
          exact retQ_mk (by kernel_rfl) (by kernel_rfl) (by kernel_rfl)
end Go.Proofs.Ytbjfglckfknheaa.funcsValues
