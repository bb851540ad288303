/- What the functions that FuncsAcks calls compute, as models, and that they compute it: written by a program of mine. -/
import Derived.Test.YtmongadolmofnaaProg
import Derived.Test.YtmongadolmofnaaSl3
set_option linter.all false
set_option maxRecDepth 100000
namespace Go.Proofs.Ytmongadolmofnaa.funcsAcks
open Go Go.Sl
def funcs_ack_b1 (a0 : Int) (rf_funcs_ack : Int → Int → Option (Int × Bool)) (x9 : (Int × Int × Bool)) : Option (Flow (Int × Int × Bool) (Int × Bool)) :=
bif (decide (x9.1 > (0 : Int))) && x9.2.2 then
((rf_funcs_ack (w64 (a0 - (1 : Int))) x9.2.1).bind fun r14 =>
some (.next (w64 (x9.1 - (1 : Int)), r14.1, r14.2)))
else
(some (.done (x9.2.1, x9.2.2)))
@[reducible] def funcs_ack_s2 (a0 : Int) (v : (Int × Int × Bool)) : Fr × LL := ([(0, aI a0), (1, aI v.1), (6, aI v.2.1), (7, aB v.2.2)], [])
@[reducible] def funcs_ack_s3 (v : (Int × Bool)) : Fr × LL := ([(6, aI v.1), (7, aB v.2)], [])
def funcs_ack_step (rf_funcs_ack : Int → Int → Option (Int × Bool)) (fuel : Nat) (a0 : Int) (a1 : Int) : Option (Int × Bool) :=
bif decide (a1 ≥ (1000 : Int)) then
(some ((0 : Int), false))
else
(bif a0 == (0 : Int) then
(some (w64 (a1 + (1 : Int)), true))
else
((rf_funcs_ack (w64 (a0 - (1 : Int))) (1 : Int)).bind fun r3 =>
(iter (funcs_ack_b1 a0 rf_funcs_ack) fuel (a1, r3.1, r3.2)).bind fun v16 =>
some (v16.1, v16.2)))
def funcs_ack : Nat → Int → Int → Option (Int × Bool)
  | 0 => fun _ _ => none
  | fuel + 1 => fun a0 a1 => funcs_ack_step (funcs_ack fuel) fuel a0 a1
theorem funcs_ack_step_ok {rf_funcs_ack : Int → Int → Option (Int × Bool)} (ih_funcs_ack : ∀ {a0 : Int} {a1 : Int} {r : (Int × Bool)}, rf_funcs_ack a0 a1 = some r → FnC Try.prog 46 [aI a0, aI a1] [] (.tup [.dat tI r.1, .dat .bool r.2]) []) {fuel : Nat} {a0 : Int} {a1 : Int} {r : (Int × Bool)} (h : funcs_ack_step rf_funcs_ack fuel a0 a1 = some r) : FnC Try.prog 46 [aI a0, aI a1] [] (.tup [.dat tI r.1, .dat .bool r.2]) [] := by
  refine fnC_of_W (B := bodyOf Try.f46) (n := 36) Try.func46 (by kernel_rfl) (by kernel_rfl) (by kernel_rfl) (by kernel_rfl) (by kernel_rfl) ?_
  intro K
  refine W_seq (by kernel_rfl) ?_
  refine W_run 2 [] [0, 1] [] (fr' := [(0, aI a0), (1, aI a1)]) (L' := []) (obs := []) (by kernel_rfl) (by kernel_rfl) (by kernel_rfl) allP0 ?_
  refine seqQ_norm ?_
  refine W_seq (by kernel_rfl) ?_
  refine W_seq (by kernel_rfl) ?_
  refine W_run 2 [] [0, 1, 9] [] (fr' := [(0, aI a0), (1, aI a1), (9, aB (decide (a1 ≥ (1000 : Int))))]) (L' := []) (obs := []) (by kernel_rfl) (by kernel_rfl) (by kernel_rfl) allP0 ?_
  refine seqQ_norm ?_
  refine W_cond (o := .tmp 9) (b := decide (a1 ≥ (1000 : Int))) (by kernel_rfl) (by kernel_rfl) (fun h1 => ?_) (fun h1 => ?_)
  · replace h := ofT h1 h
    refine W_seq (by kernel_rfl) ?_
    refine W_run 2 [] [4, 5] [] (fr' := [(4, aI (0 : Int)), (5, aB false)]) (L' := []) (obs := []) (by kernel_rfl) (by kernel_rfl) (by kernel_rfl) allP0 ?_
    refine seqQ_norm ?_
    obtain rfl := Option.some.inj h
    refine W_ret [4, 5] [] (fr' := [(4, aI (0 : Int)), (5, aB false)]) (L' := []) (by kernel_rfl) (by kernel_rfl) ?_
    refine seqQ_ret ?_
    exact retQ_mk (by kernel_rfl) (by kernel_rfl) (by kernel_rfl)
  · replace h := ofF h1 h
    refine W_skip [0, 1] [] (fr' := [(0, aI a0), (1, aI a1)]) (L' := []) (by kernel_rfl) (by kernel_rfl) ?_
    refine seqQ_norm ?_
    refine W_seq (by kernel_rfl) ?_
    refine W_seq (by kernel_rfl) ?_
    refine W_run 2 [] [0, 1, 11] [] (fr' := [(0, aI a0), (1, aI a1), (11, aB (a0 == (0 : Int)))]) (L' := []) (obs := []) (by kernel_rfl) (by kernel_rfl) (by kernel_rfl) allP0 ?_
    refine seqQ_norm ?_
    refine W_cond (o := .tmp 11) (b := a0 == (0 : Int)) (by kernel_rfl) (by kernel_rfl) (fun h2 => ?_) (fun h2 => ?_)
    · replace h := ofT h2 h
      refine W_seq (by kernel_rfl) ?_
      refine W_run 4 [] [4, 5] [] (fr' := [(4, aI (w64 (a1 + (1 : Int)))), (5, aB true)]) (L' := []) (obs := []) (by kernel_rfl) (by kernel_rfl) (by kernel_rfl) allP0 ?_
      refine seqQ_norm ?_
      obtain rfl := Option.some.inj h
      refine W_ret [4, 5] [] (fr' := [(4, aI (w64 (a1 + (1 : Int)))), (5, aB true)]) (L' := []) (by kernel_rfl) (by kernel_rfl) ?_
      refine seqQ_ret ?_
      exact retQ_mk (by kernel_rfl) (by kernel_rfl) (by kernel_rfl)
    · replace h := ofF h2 h
      refine W_skip [0, 1] [] (fr' := [(0, aI a0), (1, aI a1)]) (L' := []) (by kernel_rfl) (by kernel_rfl) ?_
      refine seqQ_norm ?_
      refine W_seq (by kernel_rfl) ?_
      refine W_region (by kernel_rfl) ?_
      refine WO_run (j := 2) (k := 2) (orcs := []) (kF := [0, 1, 16]) (kL := []) (fr' := [(0, aI a0), (1, aI a1), (16, aI (w64 (a0 - (1 : Int))))]) (L' := []) (obs := []) rfl (by kernel_rfl) allP0 ?_
      obtain ⟨r3, h4, h⟩ := bind_of h
      refine WO_call0 (us := [none, none]) (d := 17) (p := True) (j := 3) rfl ⟨by kernel_rfl, by kernel_rfl, by kernel_rfl⟩ trivial (ih_funcs_ack h4) (by kernel_rfl) ?_
      refine WO_run (j := 8) (k := 5) (orcs := []) (kF := [0, 1, 6, 7]) (kL := []) (fr' := [(0, aI a0), (1, aI a1), (6, aI r3.1), (7, aB r3.2)]) (L' := []) (obs := []) rfl (by kernel_rfl) allP0 ?_
      refine WO_fin [0, 1, 6, 7] [] (fr' := [(0, aI a0), (1, aI a1), (6, aI r3.1), (7, aB r3.2)]) (L' := []) (by kernel_rfl) (by kernel_rfl) ?_
      refine seqQ_norm ?_
      refine W_seq (by kernel_rfl) ?_
      refine W_block (id := 0) (by kernel_rfl) ?_
      obtain ⟨v16, h17, h⟩ := bind_of h
      refine W_weaken [0, 1, 6, 7] [] (fr' := ((funcs_ack_s2 a0) (a1, r3.1, r3.2)).1) (L' := ((funcs_ack_s2 a0) (a1, r3.1, r3.2)).2) (by kernel_rfl) ?_
      refine W_cutK (W_loop (S := (funcs_ack_s2 a0)) (J := (exQ (.exit 0) funcs_ack_s3)) (by kernel_rfl) ?_ fuel _ v16 h17) ?_
      · rintro x9 s h
        refine W_seq (by kernel_rfl) ?_
        refine W_seq (by kernel_rfl) ?_
        refine W_run 5 [] [0, 1, 6, 7, 24] [] (fr' := [(0, aI a0), (1, aI x9.1), (6, aI x9.2.1), (7, aB x9.2.2), (24, aB ((decide (x9.1 > (0 : Int))) && x9.2.2))]) (L' := []) (obs := []) (by kernel_rfl) (by kernel_rfl) (by kernel_rfl) allP0 ?_
        refine seqQ_norm ?_
        refine W_cond (o := .tmp 24) (b := (decide (x9.1 > (0 : Int))) && x9.2.2) (by kernel_rfl) (by kernel_rfl) (fun h13 => ?_) (fun h13 => ?_)
        · replace h := ofT h13 h
          refine W_skip [0, 1, 6] [] (fr' := [(0, aI a0), (1, aI x9.1), (6, aI x9.2.1)]) (L' := []) (by kernel_rfl) (by kernel_rfl) ?_
          refine seqQ_norm ?_
          refine W_seq (by kernel_rfl) ?_
          refine W_block (id := 1) (by kernel_rfl) ?_
          refine W_region (by kernel_rfl) ?_
          refine WO_run (j := 3) (k := 3) (orcs := []) (kF := [0, 1, 6, 29, 30]) (kL := []) (fr' := [(0, aI a0), (1, aI x9.1), (6, aI x9.2.1), (29, aI (w64 (a0 - (1 : Int)))), (30, aI x9.2.1)]) (L' := []) (obs := []) rfl (by kernel_rfl) allP0 ?_
          obtain ⟨r14, h15, h⟩ := bind_of h
          refine WO_call0 (us := [none, none]) (d := 31) (p := True) (j := 4) rfl ⟨by kernel_rfl, by kernel_rfl, by kernel_rfl⟩ trivial (ih_funcs_ack h15) (by kernel_rfl) ?_
          refine WO_run (j := 9) (k := 5) (orcs := []) (kF := [0, 1, 6, 7]) (kL := []) (fr' := [(0, aI a0), (1, aI x9.1), (6, aI r14.1), (7, aB r14.2)]) (L' := []) (obs := []) rfl (by kernel_rfl) allP0 ?_
          refine WO_fin [0, 1, 6, 7] [] (fr' := [(0, aI a0), (1, aI x9.1), (6, aI r14.1), (7, aB r14.2)]) (L' := []) (by kernel_rfl) (by kernel_rfl) ?_
          refine blockQ_norm ?_
          refine seqQ_norm ?_
          obtain rfl := Option.some.inj h
          refine W_run 3 [] [0, 1, 6, 7] [] (fr' := [(0, aI a0), (1, aI (w64 (x9.1 - (1 : Int)))), (6, aI r14.1), (7, aB r14.2)]) (L' := []) (obs := []) (by kernel_rfl) (by kernel_rfl) (by kernel_rfl) allP0 ?_
          exact round_next' (by kernel_rfl) (by kernel_rfl)
        · replace h := ofF h13 h
          obtain rfl := Option.some.inj h
          refine W_exit (id := 0) [6, 7] [] (fr' := [(6, aI x9.2.1), (7, aB x9.2.2)]) (L' := []) (by kernel_rfl) (by kernel_rfl) ?_
          refine seqQ_exit ?_
          refine round_exit ?_
          exact exQ_mk (by kernel_rfl) (by kernel_rfl)
      · intro e fr L hJ
        obtain ⟨rfl, rfl, rfl⟩ := hJ
        refine LT_keep [6, 7] [] (fr' := [(6, aI v16.1), (7, aB v16.2)]) (L' := []) (by kernel_rfl) ?_
        refine blockQ_hit ?_
        refine seqQ_norm ?_
        refine W_seq (by kernel_rfl) ?_
        refine W_run 4 [] [4, 5] [] (fr' := [(4, aI v16.1), (5, aB v16.2)]) (L' := []) (obs := []) (by kernel_rfl) (by kernel_rfl) (by kernel_rfl) allP0 ?_
        refine seqQ_norm ?_
        obtain rfl := Option.some.inj h
        refine W_ret [4, 5] [] (fr' := [(4, aI v16.1), (5, aB v16.2)]) (L' := []) (by kernel_rfl) (by kernel_rfl) ?_
        exact retQ_mk (by kernel_rfl) (by kernel_rfl) (by kernel_rfl)
theorem funcs_ack_ok : ∀ {fuel : Nat} {a0 : Int} {a1 : Int} {r : (Int × Bool)}, funcs_ack fuel a0 a1 = some r → FnC Try.prog 46 [aI a0, aI a1] [] (.tup [.dat tI r.1, .dat .bool r.2]) [] := by
  intro fuel
  induction fuel with
  | zero => intros a0 a1 r h; cases h
  | succ fuel ih => intros a0 a1 r h; exact funcs_ack_step_ok (fun h => ih h) (show funcs_ack_step (funcs_ack fuel) fuel a0 a1 = some r from h)

def funcs_Ack (fuel : Nat) (a0 : Int) (a1 : Int) : Option (Int × Int) :=
bif ((decide (a0 < (0 : Int))) || (decide (a1 < (0 : Int)))) || (decide (a0 > (4 : Int))) then
(some ((0 : Int), (4 : Int)))
else
((funcs_ack fuel a0 a1).bind fun r2 =>
bif !r2.2 then
(some ((0 : Int), (7 : Int)))
else
(some (r2.1, (0 : Int))))
theorem funcs_Ack_ok {fuel : Nat} {a0 : Int} {a1 : Int} {r : (Int × Int)} (h : funcs_Ack fuel a0 a1 = some r) : FnC Try.prog 28 [aI a0, aI a1] [] (.tup [.dat tI r.1, .dat tI r.2]) [] := by
  refine fnC_of_W (B := bodyOf Try.f28) (n := 27) Try.func28 (by kernel_rfl) (by kernel_rfl) (by kernel_rfl) (by kernel_rfl) (by kernel_rfl) ?_
  intro K
  refine W_seq (by kernel_rfl) ?_
  refine W_run 2 [] [0, 1] [] (fr' := [(0, aI a0), (1, aI a1)]) (L' := []) (obs := []) (by kernel_rfl) (by kernel_rfl) (by kernel_rfl) allP0 ?_
  refine seqQ_norm ?_
  refine W_seq (by kernel_rfl) ?_
  refine W_seq (by kernel_rfl) ?_
  refine W_run 10 [] [0, 1, 17] [] (fr' := [(0, aI a0), (1, aI a1), (17, aB (((decide (a0 < (0 : Int))) || (decide (a1 < (0 : Int)))) || (decide (a0 > (4 : Int)))))]) (L' := []) (obs := []) (by kernel_rfl) (by kernel_rfl) (by kernel_rfl) allP0 ?_
  refine seqQ_norm ?_
  refine W_cond (o := .tmp 17) (b := ((decide (a0 < (0 : Int))) || (decide (a1 < (0 : Int)))) || (decide (a0 > (4 : Int)))) (by kernel_rfl) (by kernel_rfl) (fun h1 => ?_) (fun h1 => ?_)
  · replace h := ofT h1 h
    refine W_seq (by kernel_rfl) ?_
    refine W_run 2 [] [4, 5] [] (fr' := [(4, aI (0 : Int)), (5, aI (4 : Int))]) (L' := []) (obs := []) (by kernel_rfl) (by kernel_rfl) (by kernel_rfl) allP0 ?_
    refine seqQ_norm ?_
    obtain rfl := Option.some.inj h
    refine W_ret [4, 5] [] (fr' := [(4, aI (0 : Int)), (5, aI (4 : Int))]) (L' := []) (by kernel_rfl) (by kernel_rfl) ?_
    refine seqQ_ret ?_
    exact retQ_mk (by kernel_rfl) (by kernel_rfl) (by kernel_rfl)
  · replace h := ofF h1 h
    refine W_skip [0, 1] [] (fr' := [(0, aI a0), (1, aI a1)]) (L' := []) (by kernel_rfl) (by kernel_rfl) ?_
    refine seqQ_norm ?_
    refine W_seq (by kernel_rfl) ?_
    refine W_region (by kernel_rfl) ?_
    refine WO_run (j := 2) (k := 2) (orcs := []) (kF := [19, 20]) (kL := []) (fr' := [(19, aI a0), (20, aI a1)]) (L' := []) (obs := []) rfl (by kernel_rfl) allP0 ?_
    obtain ⟨r2, h3, h⟩ := bind_of h
    refine WO_call0 (us := [none, none]) (d := 21) (p := True) (j := 3) rfl ⟨by kernel_rfl, by kernel_rfl, by kernel_rfl⟩ trivial (funcs_ack_ok h3) (by kernel_rfl) ?_
    refine WO_run (j := 8) (k := 5) (orcs := []) (kF := [6, 7]) (kL := []) (fr' := [(6, aI r2.1), (7, aB r2.2)]) (L' := []) (obs := []) rfl (by kernel_rfl) allP0 ?_
    refine WO_fin [6, 7] [] (fr' := [(6, aI r2.1), (7, aB r2.2)]) (L' := []) (by kernel_rfl) (by kernel_rfl) ?_
    refine seqQ_norm ?_
    refine W_seq (by kernel_rfl) ?_
    refine W_seq (by kernel_rfl) ?_
    refine W_run 2 [] [6, 25] [] (fr' := [(6, aI r2.1), (25, aB (!r2.2))]) (L' := []) (obs := []) (by kernel_rfl) (by kernel_rfl) (by kernel_rfl) allP0 ?_
    refine seqQ_norm ?_
    refine W_cond (o := .tmp 25) (b := !r2.2) (by kernel_rfl) (by kernel_rfl) (fun h4 => ?_) (fun h4 => ?_)
    · replace h := ofT h4 h
      refine W_seq (by kernel_rfl) ?_
      refine W_run 2 [] [4, 5] [] (fr' := [(4, aI (0 : Int)), (5, aI (7 : Int))]) (L' := []) (obs := []) (by kernel_rfl) (by kernel_rfl) (by kernel_rfl) allP0 ?_
      refine seqQ_norm ?_
      obtain rfl := Option.some.inj h
      refine W_ret [4, 5] [] (fr' := [(4, aI (0 : Int)), (5, aI (7 : Int))]) (L' := []) (by kernel_rfl) (by kernel_rfl) ?_
      refine seqQ_ret ?_
      exact retQ_mk (by kernel_rfl) (by kernel_rfl) (by kernel_rfl)
    · replace h := ofF h4 h
      refine W_skip [6] [] (fr' := [(6, aI r2.1)]) (L' := []) (by kernel_rfl) (by kernel_rfl) ?_
      refine seqQ_norm ?_
      refine W_seq (by kernel_rfl) ?_
      refine W_run 3 [] [4, 5] [] (fr' := [(4, aI r2.1), (5, aI (0 : Int))]) (L' := []) (obs := []) (by kernel_rfl) (by kernel_rfl) (by kernel_rfl) allP0 ?_
      refine seqQ_norm ?_
      obtain rfl := Option.some.inj h
      refine W_ret [4, 5] [] (fr' := [(4, aI r2.1), (5, aI (0 : Int))]) (L' := []) (by kernel_rfl) (by kernel_rfl) ?_
      exact retQ_mk (by kernel_rfl) (by kernel_rfl) (by kernel_rfl)

def ref_Within (a0 : Int) (a1 : Int) (a2 : Int) : Option Bool :=
some ((decide (a0 ≤ a1)) && (decide (a1 ≤ a2)))
theorem ref_Within_ok {a0 : Int} {a1 : Int} {a2 : Int} {r : Bool} (h : ref_Within a0 a1 a2 = some r) : FnC Try.prog 15 [aI a0, aI a1, aI a2] [] (aB r) [] := by
  refine fnC_of_W (B := bodyOf Try.f15) (n := 15) Try.func15 (by kernel_rfl) (by kernel_rfl) (by kernel_rfl) (by kernel_rfl) (by kernel_rfl) ?_
  intro K
  refine W_seq (by kernel_rfl) ?_
  refine W_run 1 [] [0, 1, 2] [] (fr' := [(0, aI a0), (1, aI a1), (2, aI a2)]) (L' := []) (obs := []) (by kernel_rfl) (by kernel_rfl) (by kernel_rfl) allP0 ?_
  refine seqQ_norm ?_
  refine W_seq (by kernel_rfl) ?_
  refine W_run 9 [] [6] [] (fr' := [(6, aB ((decide (a0 ≤ a1)) && (decide (a1 ≤ a2))))]) (L' := []) (obs := []) (by kernel_rfl) (by kernel_rfl) (by kernel_rfl) allP0 ?_
  refine seqQ_norm ?_
  obtain rfl := Option.some.inj h
  refine W_ret [6] [] (fr' := [(6, aB ((decide (a0 ≤ a1)) && (decide (a1 ≤ a2))))]) (L' := []) (by kernel_rfl) (by kernel_rfl) ?_
  exact retQ_mk (by kernel_rfl) (by kernel_rfl) (by kernel_rfl)

def ref_Ack_b7 (a1 : Int) (x34 : (Int × Int)) : Option (Flow (Int × Int) Int) :=
bif (decide (x34.2 < a1)) && (decide (x34.1 < (4000 : Int))) then
(some (.next (w64 (x34.1 + x34.1), w64 (x34.2 + (1 : Int)))))
else
(some (.done x34.1))
@[reducible] def ref_Ack_s8 (a0 : Int) (a1 : Int) (v : (Int × Int)) : Fr × LL := ([(0, aI a0), (1, aI a1), (5, aI v.1), (6, aI v.2)], [])
@[reducible] def ref_Ack_s9 (a0 : Int) (a1 : Int) (v : Int) : Fr × LL := ([(0, aI a0), (1, aI a1), (5, aI v)], [])
@[reducible] def ref_Ack_s10 (v : Int) : Fr × LL := ([(5, aI v)], [])
@[reducible] def ref_Ack_s11 (a0 : Int) (a1 : Int) (v : Int) : Fr × LL := ([(0, aI a0), (1, aI a1), (5, aI v)], [])
@[reducible] def ref_Ack_s12 (a0 : Int) (a1 : Int) (v : Int) : Fr × LL := ([(0, aI a0), (1, aI a1), (5, aI v)], [])
@[reducible] def ref_Ack_s13 (a0 : Int) (a1 : Int) (v : Int) : Fr × LL := ([(0, aI a0), (1, aI a1), (5, aI v)], [])
def ref_Ack (fuel : Nat) (a0 : Int) (a1 : Int) : Option Int :=
(bif a0 == (1 : Int) then
(some (w64 (a1 + (2 : Int))))
else
(some (w64 (a1 + (1 : Int))))).bind fun v4 =>
(bif a0 == (2 : Int) then
(some (w64 ((w64 (a1 + a1)) + (3 : Int))))
else
(some v4)).bind fun v9 =>
(bif a0 == (3 : Int) then
((iter (ref_Ack_b7 a1) fuel ((8 : Int), (0 : Int))).bind fun v37 =>
some (w64 (v37 - (3 : Int))))
else
(some v9)).bind fun v41 =>
(bif a0 == (4 : Int) then
(bif decide (a1 > (0 : Int)) then
(some (1001 : Int))
else
(some (13 : Int)))
else
(some v41)).bind fun v49 =>
bif decide (v49 > (1000 : Int)) then
(some (-1 : Int))
else
(some v49)
theorem ref_Ack_ok {fuel : Nat} {a0 : Int} {a1 : Int} {r : Int} (h : ref_Ack fuel a0 a1 = some r) : FnC Try.prog 29 [aI a0, aI a1] [] (aI r) [] := by
  refine fnC_of_W (B := bodyOf Try.f29) (n := 42) Try.func29 (by kernel_rfl) (by kernel_rfl) (by kernel_rfl) (by kernel_rfl) (by kernel_rfl) ?_
  intro K
  refine W_seq (by kernel_rfl) ?_
  refine W_run 1 [] [0, 1] [] (fr' := [(0, aI a0), (1, aI a1)]) (L' := []) (obs := []) (by kernel_rfl) (by kernel_rfl) (by kernel_rfl) allP0 ?_
  refine seqQ_norm ?_
  refine W_seq (by kernel_rfl) ?_
  refine W_run 3 [] [0, 1, 5] [] (fr' := [(0, aI a0), (1, aI a1), (5, aI (w64 (a1 + (1 : Int))))]) (L' := []) (obs := []) (by kernel_rfl) (by kernel_rfl) (by kernel_rfl) allP0 ?_
  refine seqQ_norm ?_
  refine W_seq (by kernel_rfl) ?_
  obtain ⟨v4, h5, h⟩ := bind_of h
  refine W_cutK (Q' := (exQ .normal (ref_Ack_s13 a0 a1)) v4) ?_ ?_
  · replace h := h5
    refine W_seq (by kernel_rfl) ?_
    refine W_run 2 [] [0, 1, 5, 10] [] (fr' := [(0, aI a0), (1, aI a1), (5, aI (w64 (a1 + (1 : Int)))), (10, aB (a0 == (1 : Int)))]) (L' := []) (obs := []) (by kernel_rfl) (by kernel_rfl) (by kernel_rfl) allP0 ?_
    refine seqQ_norm ?_
    refine W_cond (o := .tmp 10) (b := a0 == (1 : Int)) (by kernel_rfl) (by kernel_rfl) (fun h3 => ?_) (fun h3 => ?_)
    · replace h := ofT h3 h
      obtain rfl := Option.some.inj h
      refine W_run 3 [] [0, 1, 5] [] (fr' := [(0, aI a0), (1, aI a1), (5, aI (w64 (a1 + (2 : Int))))]) (L' := []) (obs := []) (by kernel_rfl) (by kernel_rfl) (by kernel_rfl) allP0 ?_
      exact exQ_mk (by kernel_rfl) (by kernel_rfl)
    · replace h := ofF h3 h
      obtain rfl := Option.some.inj h
      refine W_skip [0, 1, 5] [] (fr' := [(0, aI a0), (1, aI a1), (5, aI (w64 (a1 + (1 : Int))))]) (L' := []) (by kernel_rfl) (by kernel_rfl) ?_
      exact exQ_mk (by kernel_rfl) (by kernel_rfl)
  · intro e fr L hJ
    obtain ⟨rfl, rfl, rfl⟩ := hJ
    refine LT_keep [0, 1, 5] [] (fr' := [(0, aI a0), (1, aI a1), (5, aI v4)]) (L' := []) (by kernel_rfl) ?_
    refine seqQ_norm ?_
    refine W_seq (by kernel_rfl) ?_
    obtain ⟨v9, h10, h⟩ := bind_of h
    refine W_cutK (Q' := (exQ .normal (ref_Ack_s12 a0 a1)) v9) ?_ ?_
    · replace h := h10
      refine W_seq (by kernel_rfl) ?_
      refine W_run 2 [] [0, 1, 5, 14] [] (fr' := [(0, aI a0), (1, aI a1), (5, aI v4), (14, aB (a0 == (2 : Int)))]) (L' := []) (obs := []) (by kernel_rfl) (by kernel_rfl) (by kernel_rfl) allP0 ?_
      refine seqQ_norm ?_
      refine W_cond (o := .tmp 14) (b := a0 == (2 : Int)) (by kernel_rfl) (by kernel_rfl) (fun h8 => ?_) (fun h8 => ?_)
      · replace h := ofT h8 h
        obtain rfl := Option.some.inj h
        refine W_run 5 [] [0, 1, 5] [] (fr' := [(0, aI a0), (1, aI a1), (5, aI (w64 ((w64 (a1 + a1)) + (3 : Int))))]) (L' := []) (obs := []) (by kernel_rfl) (by kernel_rfl) (by kernel_rfl) allP0 ?_
        exact exQ_mk (by kernel_rfl) (by kernel_rfl)
      · replace h := ofF h8 h
        obtain rfl := Option.some.inj h
        refine W_skip [0, 1, 5] [] (fr' := [(0, aI a0), (1, aI a1), (5, aI v4)]) (L' := []) (by kernel_rfl) (by kernel_rfl) ?_
        exact exQ_mk (by kernel_rfl) (by kernel_rfl)
    · intro e fr L hJ
      obtain ⟨rfl, rfl, rfl⟩ := hJ
      refine LT_keep [0, 1, 5] [] (fr' := [(0, aI a0), (1, aI a1), (5, aI v9)]) (L' := []) (by kernel_rfl) ?_
      refine seqQ_norm ?_
      refine W_seq (by kernel_rfl) ?_
      obtain ⟨v41, h42, h⟩ := bind_of h
      refine W_cutK (Q' := (exQ .normal (ref_Ack_s11 a0 a1)) v41) ?_ ?_
      · replace h := h42
        refine W_seq (by kernel_rfl) ?_
        refine W_run 2 [] [0, 1, 5, 20] [] (fr' := [(0, aI a0), (1, aI a1), (5, aI v9), (20, aB (a0 == (3 : Int)))]) (L' := []) (obs := []) (by kernel_rfl) (by kernel_rfl) (by kernel_rfl) allP0 ?_
        refine seqQ_norm ?_
        refine W_cond (o := .tmp 20) (b := a0 == (3 : Int)) (by kernel_rfl) (by kernel_rfl) (fun h31 => ?_) (fun h31 => ?_)
        · replace h := ofT h31 h
          refine W_seq (by kernel_rfl) ?_
          refine W_run 1 [] [0, 1, 5] [] (fr' := [(0, aI a0), (1, aI a1), (5, aI (8 : Int))]) (L' := []) (obs := []) (by kernel_rfl) (by kernel_rfl) (by kernel_rfl) allP0 ?_
          refine seqQ_norm ?_
          refine W_seq (by kernel_rfl) ?_
          refine W_seq (by kernel_rfl) ?_
          refine W_run 1 [] [0, 1, 5, 6] [] (fr' := [(0, aI a0), (1, aI a1), (5, aI (8 : Int)), (6, aI (0 : Int))]) (L' := []) (obs := []) (by kernel_rfl) (by kernel_rfl) (by kernel_rfl) allP0 ?_
          refine seqQ_norm ?_
          refine W_block (id := 0) (by kernel_rfl) ?_
          obtain ⟨v37, h38, h⟩ := bind_of h
          refine W_weaken [0, 1, 5, 6] [] (fr' := ((ref_Ack_s8 a0 a1) ((8 : Int), (0 : Int))).1) (L' := ((ref_Ack_s8 a0 a1) ((8 : Int), (0 : Int))).2) (by kernel_rfl) ?_
          refine W_cutK (W_loop (S := (ref_Ack_s8 a0 a1)) (J := (exQ (.exit 0) (ref_Ack_s9 a0 a1))) (by kernel_rfl) ?_ fuel _ v37 h38) ?_
          · rintro x34 s h
            refine W_seq (by kernel_rfl) ?_
            refine W_seq (by kernel_rfl) ?_
            refine W_run 7 [] [0, 1, 5, 6, 27] [] (fr' := [(0, aI a0), (1, aI a1), (5, aI x34.1), (6, aI x34.2), (27, aB ((decide (x34.2 < a1)) && (decide (x34.1 < (4000 : Int)))))]) (L' := []) (obs := []) (by kernel_rfl) (by kernel_rfl) (by kernel_rfl) allP0 ?_
            refine seqQ_norm ?_
            refine W_cond (o := .tmp 27) (b := (decide (x34.2 < a1)) && (decide (x34.1 < (4000 : Int)))) (by kernel_rfl) (by kernel_rfl) (fun h36 => ?_) (fun h36 => ?_)
            · replace h := ofT h36 h
              refine W_skip [0, 1, 5, 6] [] (fr' := [(0, aI a0), (1, aI a1), (5, aI x34.1), (6, aI x34.2)]) (L' := []) (by kernel_rfl) (by kernel_rfl) ?_
              refine seqQ_norm ?_
              refine W_seq (by kernel_rfl) ?_
              refine W_block (id := 1) (by kernel_rfl) ?_
              refine W_run 4 [] [0, 1, 5, 6] [] (fr' := [(0, aI a0), (1, aI a1), (5, aI (w64 (x34.1 + x34.1))), (6, aI x34.2)]) (L' := []) (obs := []) (by kernel_rfl) (by kernel_rfl) (by kernel_rfl) allP0 ?_
              refine blockQ_norm ?_
              refine seqQ_norm ?_
              obtain rfl := Option.some.inj h
              refine W_run 3 [] [0, 1, 5, 6] [] (fr' := [(0, aI a0), (1, aI a1), (5, aI (w64 (x34.1 + x34.1))), (6, aI (w64 (x34.2 + (1 : Int))))]) (L' := []) (obs := []) (by kernel_rfl) (by kernel_rfl) (by kernel_rfl) allP0 ?_
              exact round_next' (by kernel_rfl) (by kernel_rfl)
            · replace h := ofF h36 h
              obtain rfl := Option.some.inj h
              refine W_exit (id := 0) [0, 1, 5] [] (fr' := [(0, aI a0), (1, aI a1), (5, aI x34.1)]) (L' := []) (by kernel_rfl) (by kernel_rfl) ?_
              refine seqQ_exit ?_
              refine round_exit ?_
              exact exQ_mk (by kernel_rfl) (by kernel_rfl)
          · intro e fr L hJ
            obtain ⟨rfl, rfl, rfl⟩ := hJ
            refine LT_keep [0, 1, 5] [] (fr' := [(0, aI a0), (1, aI a1), (5, aI v37)]) (L' := []) (by kernel_rfl) ?_
            refine blockQ_hit ?_
            refine seqQ_norm ?_
            obtain rfl := Option.some.inj h
            refine W_run 3 [] [0, 1, 5] [] (fr' := [(0, aI a0), (1, aI a1), (5, aI (w64 (v37 - (3 : Int))))]) (L' := []) (obs := []) (by kernel_rfl) (by kernel_rfl) (by kernel_rfl) allP0 ?_
            exact exQ_mk (by kernel_rfl) (by kernel_rfl)
        · replace h := ofF h31 h
          obtain rfl := Option.some.inj h
          refine W_skip [0, 1, 5] [] (fr' := [(0, aI a0), (1, aI a1), (5, aI v9)]) (L' := []) (by kernel_rfl) (by kernel_rfl) ?_
          exact exQ_mk (by kernel_rfl) (by kernel_rfl)
      · intro e fr L hJ
        obtain ⟨rfl, rfl, rfl⟩ := hJ
        refine LT_keep [0, 1, 5] [] (fr' := [(0, aI a0), (1, aI a1), (5, aI v41)]) (L' := []) (by kernel_rfl) ?_
        refine seqQ_norm ?_
        refine W_seq (by kernel_rfl) ?_
        obtain ⟨v49, h50, h⟩ := bind_of h
        refine W_cutK (Q' := (exQ .normal ref_Ack_s10) v49) ?_ ?_
        · replace h := h50
          refine W_seq (by kernel_rfl) ?_
          refine W_run 2 [] [1, 5, 36] [] (fr' := [(1, aI a1), (5, aI v41), (36, aB (a0 == (4 : Int)))]) (L' := []) (obs := []) (by kernel_rfl) (by kernel_rfl) (by kernel_rfl) allP0 ?_
          refine seqQ_norm ?_
          refine W_cond (o := .tmp 36) (b := a0 == (4 : Int)) (by kernel_rfl) (by kernel_rfl) (fun h47 => ?_) (fun h47 => ?_)
          · replace h := ofT h47 h
            refine W_seq (by kernel_rfl) ?_
            refine W_run 1 [] [1, 5] [] (fr' := [(1, aI a1), (5, aI (13 : Int))]) (L' := []) (obs := []) (by kernel_rfl) (by kernel_rfl) (by kernel_rfl) allP0 ?_
            refine seqQ_norm ?_
            refine W_seq (by kernel_rfl) ?_
            refine W_run 2 [] [5, 38] [] (fr' := [(5, aI (13 : Int)), (38, aB (decide (a1 > (0 : Int))))]) (L' := []) (obs := []) (by kernel_rfl) (by kernel_rfl) (by kernel_rfl) allP0 ?_
            refine seqQ_norm ?_
            refine W_cond (o := .tmp 38) (b := decide (a1 > (0 : Int))) (by kernel_rfl) (by kernel_rfl) (fun h48 => ?_) (fun h48 => ?_)
            · replace h := ofT h48 h
              obtain rfl := Option.some.inj h
              refine W_run 1 [] [5] [] (fr' := [(5, aI (1001 : Int))]) (L' := []) (obs := []) (by kernel_rfl) (by kernel_rfl) (by kernel_rfl) allP0 ?_
              exact exQ_mk (by kernel_rfl) (by kernel_rfl)
            · replace h := ofF h48 h
              obtain rfl := Option.some.inj h
              refine W_skip [5] [] (fr' := [(5, aI (13 : Int))]) (L' := []) (by kernel_rfl) (by kernel_rfl) ?_
              exact exQ_mk (by kernel_rfl) (by kernel_rfl)
          · replace h := ofF h47 h
            obtain rfl := Option.some.inj h
            refine W_skip [5] [] (fr' := [(5, aI v41)]) (L' := []) (by kernel_rfl) (by kernel_rfl) ?_
            exact exQ_mk (by kernel_rfl) (by kernel_rfl)
        · intro e fr L hJ
          obtain ⟨rfl, rfl, rfl⟩ := hJ
          refine LT_keep [5] [] (fr' := [(5, aI v49)]) (L' := []) (by kernel_rfl) ?_
          refine seqQ_norm ?_
          refine W_seq (by kernel_rfl) ?_
          refine W_seq (by kernel_rfl) ?_
          refine W_run 2 [] [5, 40] [] (fr' := [(5, aI v49), (40, aB (decide (v49 > (1000 : Int))))]) (L' := []) (obs := []) (by kernel_rfl) (by kernel_rfl) (by kernel_rfl) allP0 ?_
          refine seqQ_norm ?_
          refine W_cond (o := .tmp 40) (b := decide (v49 > (1000 : Int))) (by kernel_rfl) (by kernel_rfl) (fun h51 => ?_) (fun h51 => ?_)
          · replace h := ofT h51 h
            refine W_seq (by kernel_rfl) ?_
            refine W_run 1 [] [4] [] (fr' := [(4, aI (-1 : Int))]) (L' := []) (obs := []) (by kernel_rfl) (by kernel_rfl) (by kernel_rfl) allP0 ?_
            refine seqQ_norm ?_
            obtain rfl := Option.some.inj h
            refine W_ret [4] [] (fr' := [(4, aI (-1 : Int))]) (L' := []) (by kernel_rfl) (by kernel_rfl) ?_
            refine seqQ_ret ?_
            exact retQ_mk (by kernel_rfl) (by kernel_rfl) (by kernel_rfl)
          · replace h := ofF h51 h
            refine W_skip [5] [] (fr' := [(5, aI v49)]) (L' := []) (by kernel_rfl) (by kernel_rfl) ?_
            refine seqQ_norm ?_
            refine W_seq (by kernel_rfl) ?_
            refine W_run 2 [] [4] [] (fr' := [(4, aI v49)]) (L' := []) (obs := []) (by kernel_rfl) (by kernel_rfl) (by kernel_rfl) allP0 ?_
            refine seqQ_norm ?_
            obtain rfl := Option.some.inj h
            refine W_ret [4] [] (fr' := [(4, aI v49)]) (L' := []) (by kernel_rfl) (by kernel_rfl) ?_
            exact retQ_mk (by kernel_rfl) (by kernel_rfl) (by kernel_rfl)

@[reducible] def law_FuncsAcks_s1 (v : Bool) : Fr × LL := ([(4, aB v)], [])
@[reducible] def law_FuncsAcks_s2 (a0 : Int) (a1 : Int) (r1 : (Int × Int)) (v : Bool) : Fr × LL := ([(0, aI a0), (1, aI a1), (5, aI r1.1), (6, aI r1.2), (33, aB v)], [])
def law_FuncsAcks (fuel : Nat) (a0 : Int) (a1 : Int) : Option Bool :=
(funcs_Ack fuel a0 a1).bind fun r1 =>
(ref_Within (0 : Int) a0 (4 : Int)).bind fun r3 =>
bif (!r3) || (decide (a1 < (0 : Int))) then
(some ((r1.2 == (4 : Int)) && (r1.1 == (0 : Int))))
else
((bif decide (a1 > (1000 : Int)) then
(some true)
else
((ref_Ack fuel a0 a1).bind fun r13 =>
some (decide (r13 < (0 : Int))))).bind fun v15 =>
bif v15 then
(some ((r1.2 == (7 : Int)) && (r1.1 == (0 : Int))))
else
((bif r1.2 == (0 : Int) then
((ref_Ack fuel a0 a1).bind fun r25 =>
some (r1.1 == r25))
else
(some false)).bind fun v27 =>
some v27))
theorem law_FuncsAcks_ok {fuel : Nat} {a0 : Int} {a1 : Int} {r : Bool} (h : law_FuncsAcks fuel a0 a1 = some r) : FnC Try.prog 11 [aI a0, aI a1] [] (aB r) [] := by
  refine fnC_of_W (B := bodyOf Try.f11) (n := 49) Try.func11 (by kernel_rfl) (by kernel_rfl) (by kernel_rfl) (by kernel_rfl) (by kernel_rfl) ?_
  intro K
  refine W_seq (by kernel_rfl) ?_
  refine W_run 1 [] [0, 1] [] (fr' := [(0, aI a0), (1, aI a1)]) (L' := []) (obs := []) (by kernel_rfl) (by kernel_rfl) (by kernel_rfl) allP0 ?_
  refine seqQ_norm ?_
  refine W_seq (by kernel_rfl) ?_
  refine W_region (by kernel_rfl) ?_
  refine WO_run (j := 2) (k := 2) (orcs := []) (kF := [0, 1, 8, 9]) (kL := []) (fr' := [(0, aI a0), (1, aI a1), (8, aI a0), (9, aI a1)]) (L' := []) (obs := []) rfl (by kernel_rfl) allP0 ?_
  obtain ⟨r1, h2, h⟩ := bind_of h
  refine WO_call0 (us := [none, none]) (d := 10) (p := True) (j := 3) rfl ⟨by kernel_rfl, by kernel_rfl, by kernel_rfl⟩ trivial (funcs_Ack_ok h2) (by kernel_rfl) ?_
  refine WO_run (j := 8) (k := 5) (orcs := []) (kF := [0, 1, 5, 6]) (kL := []) (fr' := [(0, aI a0), (1, aI a1), (5, aI r1.1), (6, aI r1.2)]) (L' := []) (obs := []) rfl (by kernel_rfl) allP0 ?_
  refine WO_fin [0, 1, 5, 6] [] (fr' := [(0, aI a0), (1, aI a1), (5, aI r1.1), (6, aI r1.2)]) (L' := []) (by kernel_rfl) (by kernel_rfl) ?_
  refine seqQ_norm ?_
  refine W_seq (by kernel_rfl) ?_
  refine W_seq (by kernel_rfl) ?_
  refine W_region (by kernel_rfl) ?_
  refine WO_run (j := 1) (k := 1) (orcs := []) (kF := [0, 1, 5, 6, 13]) (kL := []) (fr' := [(0, aI a0), (1, aI a1), (5, aI r1.1), (6, aI r1.2), (13, aI a0)]) (L' := []) (obs := []) rfl (by kernel_rfl) allP0 ?_
  obtain ⟨r3, h4, h⟩ := bind_of h
  refine WO_call0 (us := [none, none, none]) (d := 14) (p := True) (j := 2) rfl ⟨by kernel_rfl, by kernel_rfl, by kernel_rfl⟩ trivial (ref_Within_ok h4) (by kernel_rfl) ?_
  refine WO_run (j := 7) (k := 5) (orcs := []) (kF := [0, 1, 5, 6, 19]) (kL := []) (fr' := [(0, aI a0), (1, aI a1), (5, aI r1.1), (6, aI r1.2), (19, aB ((!r3) || (decide (a1 < (0 : Int)))))]) (L' := []) (obs := []) rfl (by kernel_rfl) allP0 ?_
  refine WO_fin [0, 1, 5, 6, 19] [] (fr' := [(0, aI a0), (1, aI a1), (5, aI r1.1), (6, aI r1.2), (19, aB ((!r3) || (decide (a1 < (0 : Int)))))]) (L' := []) (by kernel_rfl) (by kernel_rfl) ?_
  refine seqQ_norm ?_
  refine W_cond (o := .tmp 19) (b := (!r3) || (decide (a1 < (0 : Int)))) (by kernel_rfl) (by kernel_rfl) (fun h5 => ?_) (fun h5 => ?_)
  · replace h := ofT h5 h
    refine W_seq (by kernel_rfl) ?_
    refine W_run 7 [] [4] [] (fr' := [(4, aB ((r1.2 == (4 : Int)) && (r1.1 == (0 : Int))))]) (L' := []) (obs := []) (by kernel_rfl) (by kernel_rfl) (by kernel_rfl) allP0 ?_
    refine seqQ_norm ?_
    obtain rfl := Option.some.inj h
    refine W_ret [4] [] (fr' := [(4, aB ((r1.2 == (4 : Int)) && (r1.1 == (0 : Int))))]) (L' := []) (by kernel_rfl) (by kernel_rfl) ?_
    refine seqQ_ret ?_
    exact retQ_mk (by kernel_rfl) (by kernel_rfl) (by kernel_rfl)
  · replace h := ofF h5 h
    refine W_skip [0, 1, 5, 6] [] (fr' := [(0, aI a0), (1, aI a1), (5, aI r1.1), (6, aI r1.2)]) (L' := []) (by kernel_rfl) (by kernel_rfl) ?_
    refine seqQ_norm ?_
    refine W_seq (by kernel_rfl) ?_
    refine W_seq (by kernel_rfl) ?_
    obtain ⟨v15, h16, h⟩ := bind_of h
    refine W_cutK (Q' := (exQ .normal (law_FuncsAcks_s2 a0 a1 r1)) v15) ?_ ?_
    · replace h := h16
      refine W_region (by kernel_rfl) ?_
      refine WO_run (j := 3) (k := 3) (orcs := []) (kF := [0, 1, 5, 6, 28]) (kL := []) (fr' := [(0, aI a0), (1, aI a1), (5, aI r1.1), (6, aI r1.2), (28, aB (decide (a1 > (1000 : Int))))]) (L' := []) (obs := []) rfl (by kernel_rfl) allP0 ?_
      rcases Bool.eq_false_or_eq_true (decide (a1 > (1000 : Int))) with h12 | h12
      · replace h := ofT h12 h
        refine WO_run (j := 8) (k := 5) (orcs := [(6, .known true), (8, .known true), (10, .known true), (12, .known true), (15, .val (.dat .bool true))]) (kF := [0, 1, 5, 6, 33]) (kL := []) (fr' := [(0, aI a0), (1, aI a1), (5, aI r1.1), (6, aI r1.2), (33, aB true)]) (L' := []) (obs := [((decide (a1 > (1000 : Int))) = true), ((decide (a1 > (1000 : Int))) = true), ((decide (a1 > (1000 : Int))) = true), ((decide (a1 > (1000 : Int))) = true), ((decide (a1 > (1000 : Int))) = true)]) rfl (by kernel_rfl) (allP2 h12 (allP2 h12 (allP2 h12 (allP2 h12 (allP1 h12))))) ?_
        obtain rfl := Option.some.inj h
        refine WO_fin [0, 1, 5, 6, 33] [] (fr' := [(0, aI a0), (1, aI a1), (5, aI r1.1), (6, aI r1.2), (33, aB true)]) (L' := []) (by kernel_rfl) (by kernel_rfl) ?_
        exact exQ_mk (by kernel_rfl) (by kernel_rfl)
      · replace h := ofF h12 h
        refine WO_run (j := 5) (k := 2) (orcs := [(6, .known false), (8, .known false)]) (kF := [0, 1, 5, 6, 28, 29, 30]) (kL := []) (fr' := [(0, aI a0), (1, aI a1), (5, aI r1.1), (6, aI r1.2), (28, aB (decide (a1 > (1000 : Int)))), (29, aI a0), (30, aI a1)]) (L' := []) (obs := [((decide (a1 > (1000 : Int))) = false), ((decide (a1 > (1000 : Int))) = false)]) rfl (by kernel_rfl) (allP2 h12 (allP1 h12)) ?_
        obtain ⟨r13, h14, h⟩ := bind_of h
        refine WO_call0 (us := [none, none]) (d := 31) (p := ((decide (a1 > (1000 : Int))) = false)) (j := 6) rfl ⟨by kernel_rfl, by kernel_rfl, by kernel_rfl⟩ h12 (ref_Ack_ok h14) (by kernel_rfl) ?_
        refine WO_run (j := 8) (k := 2) (orcs := [(12, .known false), (15, .val (.dat .bool false))]) (kF := [0, 1, 5, 6, 33]) (kL := []) (fr' := [(0, aI a0), (1, aI a1), (5, aI r1.1), (6, aI r1.2), (33, aB (decide (r13 < (0 : Int))))]) (L' := []) (obs := [((decide (a1 > (1000 : Int))) = false), ((decide (a1 > (1000 : Int))) = false)]) rfl (by kernel_rfl) (allP2 h12 (allP1 h12)) ?_
        obtain rfl := Option.some.inj h
        refine WO_fin [0, 1, 5, 6, 33] [] (fr' := [(0, aI a0), (1, aI a1), (5, aI r1.1), (6, aI r1.2), (33, aB (decide (r13 < (0 : Int))))]) (L' := []) (by kernel_rfl) (by kernel_rfl) ?_
        exact exQ_mk (by kernel_rfl) (by kernel_rfl)
    · intro e fr L hJ
      obtain ⟨rfl, rfl, rfl⟩ := hJ
      refine LT_keep [0, 1, 5, 6, 33] [] (fr' := [(0, aI a0), (1, aI a1), (5, aI r1.1), (6, aI r1.2), (33, aB v15)]) (L' := []) (by kernel_rfl) ?_
      refine seqQ_norm ?_
      refine W_cond (o := .tmp 33) (b := v15) (by kernel_rfl) (by kernel_rfl) (fun h17 => ?_) (fun h17 => ?_)
      · replace h := ofT h17 h
        refine W_seq (by kernel_rfl) ?_
        refine W_run 7 [] [4] [] (fr' := [(4, aB ((r1.2 == (7 : Int)) && (r1.1 == (0 : Int))))]) (L' := []) (obs := []) (by kernel_rfl) (by kernel_rfl) (by kernel_rfl) allP0 ?_
        refine seqQ_norm ?_
        obtain rfl := Option.some.inj h
        refine W_ret [4] [] (fr' := [(4, aB ((r1.2 == (7 : Int)) && (r1.1 == (0 : Int))))]) (L' := []) (by kernel_rfl) (by kernel_rfl) ?_
        refine seqQ_ret ?_
        exact retQ_mk (by kernel_rfl) (by kernel_rfl) (by kernel_rfl)
      · replace h := ofF h17 h
        refine W_skip [0, 1, 5, 6] [] (fr' := [(0, aI a0), (1, aI a1), (5, aI r1.1), (6, aI r1.2)]) (L' := []) (by kernel_rfl) (by kernel_rfl) ?_
        refine seqQ_norm ?_
        refine W_seq (by kernel_rfl) ?_
        obtain ⟨v27, h28, h⟩ := bind_of h
        refine W_cutK (Q' := (exQ .normal law_FuncsAcks_s1) v27) ?_ ?_
        · replace h := h28
          refine W_region (by kernel_rfl) ?_
          refine WO_run (j := 3) (k := 3) (orcs := []) (kF := [0, 1, 5, 42]) (kL := []) (fr' := [(0, aI a0), (1, aI a1), (5, aI r1.1), (42, aB (r1.2 == (0 : Int)))]) (L' := []) (obs := []) rfl (by kernel_rfl) allP0 ?_
          rcases Bool.eq_false_or_eq_true (r1.2 == (0 : Int)) with h24 | h24
          · replace h := ofT h24 h
            refine WO_run (j := 6) (k := 3) (orcs := [(6, .known true), (8, .known true), (10, .known true)]) (kF := [42, 43, 44, 45]) (kL := []) (fr' := [(42, aB (r1.2 == (0 : Int))), (43, aI r1.1), (44, aI a0), (45, aI a1)]) (L' := []) (obs := [((r1.2 == (0 : Int)) = true), ((r1.2 == (0 : Int)) = true), ((r1.2 == (0 : Int)) = true)]) rfl (by kernel_rfl) (allP2 h24 (allP2 h24 (allP1 h24))) ?_
            obtain ⟨r25, h26, h⟩ := bind_of h
            refine WO_call0 (us := [none, none]) (d := 46) (p := ((r1.2 == (0 : Int)) = true)) (j := 7) rfl ⟨by kernel_rfl, by kernel_rfl, by kernel_rfl⟩ h24 (ref_Ack_ok h26) (by kernel_rfl) ?_
            refine WO_run (j := 10) (k := 3) (orcs := [(14, .known true), (17, .val (.dat .bool true))]) (kF := [4]) (kL := []) (fr' := [(4, aB (r1.1 == r25))]) (L' := []) (obs := [((r1.2 == (0 : Int)) = true), ((r1.2 == (0 : Int)) = true)]) rfl (by kernel_rfl) (allP2 h24 (allP1 h24)) ?_
            obtain rfl := Option.some.inj h
            refine WO_fin [4] [] (fr' := [(4, aB (r1.1 == r25))]) (L' := []) (by kernel_rfl) (by kernel_rfl) ?_
            exact exQ_mk (by kernel_rfl) (by kernel_rfl)
          · replace h := ofF h24 h
            refine WO_run (j := 10) (k := 7) (orcs := [(6, .known false), (8, .known false), (10, .known false), (12, .known false), (14, .known false), (17, .val (.dat .bool false))]) (kF := [4]) (kL := []) (fr' := [(4, aB false)]) (L' := []) (obs := [((r1.2 == (0 : Int)) = false), ((r1.2 == (0 : Int)) = false), ((r1.2 == (0 : Int)) = false), ((r1.2 == (0 : Int)) = false), ((r1.2 == (0 : Int)) = false), ((r1.2 == (0 : Int)) = false)]) rfl (by kernel_rfl) (allP2 h24 (allP2 h24 (allP2 h24 (allP2 h24 (allP2 h24 (allP1 h24)))))) ?_
            obtain rfl := Option.some.inj h
            refine WO_fin [4] [] (fr' := [(4, aB false)]) (L' := []) (by kernel_rfl) (by kernel_rfl) ?_
            exact exQ_mk (by kernel_rfl) (by kernel_rfl)
        · intro e fr L hJ
          obtain ⟨rfl, rfl, rfl⟩ := hJ
          refine LT_keep [4] [] (fr' := [(4, aB v27)]) (L' := []) (by kernel_rfl) ?_
          refine seqQ_norm ?_
          obtain rfl := Option.some.inj h
          refine W_ret [4] [] (fr' := [(4, aB v27)]) (L' := []) (by kernel_rfl) (by kernel_rfl) ?_
          exact retQ_mk (by kernel_rfl) (by kernel_rfl) (by kernel_rfl)
end Go.Proofs.Ytmongadolmofnaa.funcsAcks
