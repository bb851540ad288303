/- What the functions that PairOpens calls compute, as models, and that they compute it: written by a program of mine. -/
import Derived.Test.YtmongadolmofnaaProg
import Derived.Test.YtmongadolmofnaaSl3
set_option linter.all false
set_option maxRecDepth 100000
namespace Go.Proofs.Ytmongadolmofnaa.pairOpens
open Go Go.Sl
def pair_sums (a0 : Int) : Option Int :=
some (w64 (Int.tdiv (w64 (a0 * (w64 (a0 + (1 : Int))))) (2 : Int)))
theorem pair_sums_ok {a0 : Int} {r : Int} (h : pair_sums a0 = some r) : FnC Try.prog 37 [aI a0] [] (aI r) [] := by
  refine fnC_of_W (B := bodyOf Try.f37) (n := 8) Try.func37 (by kernel_rfl) (by kernel_rfl) (by kernel_rfl) (by kernel_rfl) (by kernel_rfl) ?_
  intro K
  refine W_seq (by kernel_rfl) ?_
  refine W_run 1 [] [0] [] (fr' := [(0, aI a0)]) (L' := []) (obs := []) (by kernel_rfl) (by kernel_rfl) (by kernel_rfl) allP0 ?_
  refine seqQ_norm ?_
  refine W_seq (by kernel_rfl) ?_
  refine W_run 6 [] [2] [] (fr' := [(2, aI (w64 (Int.tdiv (w64 (a0 * (w64 (a0 + (1 : Int))))) (2 : Int))))]) (L' := []) (obs := [((2 : Int) ≠ 0)]) (by kernel_rfl) (by kernel_rfl) (by kernel_rfl) (allP1 (by decide)) ?_
  refine seqQ_norm ?_
  obtain rfl := Option.some.inj h
  refine W_ret [2] [] (fr' := [(2, aI (w64 (Int.tdiv (w64 (a0 * (w64 (a0 + (1 : Int))))) (2 : Int))))]) (L' := []) (by kernel_rfl) (by kernel_rfl) ?_
  exact retQ_mk (by kernel_rfl) (by kernel_rfl) (by kernel_rfl)

def pair_Open_b1 (a0 : Int) (x18 : (Int × Int)) : Option (Flow (Int × Int) Int) :=
bif decide (x18.1 < x18.2) then
((pair_sums (w64 (Int.tdiv (w64 ((w64 (x18.1 + x18.2)) + (1 : Int))) (2 : Int)))).bind fun r24 =>
bif decide (r24 ≤ a0) then
(some (.next (w64 (Int.tdiv (w64 ((w64 (x18.1 + x18.2)) + (1 : Int))) (2 : Int)), x18.2)))
else
(some (.next (x18.1, w64 ((w64 (Int.tdiv (w64 ((w64 (x18.1 + x18.2)) + (1 : Int))) (2 : Int))) - (1 : Int))))))
else
(some (.done x18.1))
@[reducible] def pair_Open_s2 (a0 : Int) (v : (Int × Int)) : Fr × LL := ([(0, aI a0), (5, aI v.1), (6, aI v.2)], [])
@[reducible] def pair_Open_s3 (a0 : Int) (v : Int) : Fr × LL := ([(0, aI a0), (5, aI v)], [])
@[reducible] def pair_Open_s4 (a0 : Int) (v : Bool) : Fr × LL := ([(0, aI a0), (16, aB v)], [])
def pair_Open (fuel : Nat) (a0 : Int) : Option (Int × Int × Int) :=
(bif decide (a0 < (0 : Int)) then
(some true)
else
((pair_sums (2000001 : Int)).bind fun r8 =>
some (decide (a0 ≥ r8)))).bind fun v10 =>
bif v10 then
(some ((0 : Int), (0 : Int), (4 : Int)))
else
((iter (pair_Open_b1 a0) fuel ((0 : Int), (2000000 : Int))).bind fun v27 =>
(pair_sums v27).bind fun r31 =>
bif decide ((imax (w64 (v27 - (w64 (a0 - r31)))) (w64 (a0 - r31))) > (1000000 : Int)) then
(some ((0 : Int), (0 : Int), (4 : Int)))
else
(some (w64 (v27 - (w64 (a0 - r31))), w64 (a0 - r31), (0 : Int))))
theorem pair_Open_ok {fuel : Nat} {a0 : Int} {r : (Int × Int × Int)} (h : pair_Open fuel a0 = some r) : FnC Try.prog 17 [aI a0] [] (.tup [.dat tI r.1, .dat tI r.2.1, .dat tI r.2.2]) [] := by
  refine fnC_of_W (B := bodyOf Try.f17) (n := 45) Try.func17 (by kernel_rfl) (by kernel_rfl) (by kernel_rfl) (by kernel_rfl) (by kernel_rfl) ?_
  intro K
  refine W_seq (by kernel_rfl) ?_
  refine W_run 3 [] [0] [] (fr' := [(0, aI a0)]) (L' := []) (obs := []) (by kernel_rfl) (by kernel_rfl) (by kernel_rfl) allP0 ?_
  refine seqQ_norm ?_
  refine W_seq (by kernel_rfl) ?_
  refine W_seq (by kernel_rfl) ?_
  obtain ⟨v10, h11, h⟩ := bind_of h
  refine W_cutK (Q' := (exQ .normal (pair_Open_s4 a0)) v10) ?_ ?_
  · replace h := h11
    refine W_region (by kernel_rfl) ?_
    refine WO_run (j := 3) (k := 3) (orcs := []) (kF := [0, 12]) (kL := []) (fr' := [(0, aI a0), (12, aB (decide (a0 < (0 : Int))))]) (L' := []) (obs := []) rfl (by kernel_rfl) allP0 ?_
    rcases Bool.eq_false_or_eq_true (decide (a0 < (0 : Int))) with h7 | h7
    · replace h := ofT h7 h
      refine WO_run (j := 7) (k := 4) (orcs := [(6, .known true), (8, .known true), (10, .known true), (13, .val (.dat .bool true))]) (kF := [0, 16]) (kL := []) (fr' := [(0, aI a0), (16, aB true)]) (L' := []) (obs := [((decide (a0 < (0 : Int))) = true), ((decide (a0 < (0 : Int))) = true), ((decide (a0 < (0 : Int))) = true), ((decide (a0 < (0 : Int))) = true)]) rfl (by kernel_rfl) (allP2 h7 (allP2 h7 (allP2 h7 (allP1 h7)))) ?_
      obtain rfl := Option.some.inj h
      refine WO_fin [0, 16] [] (fr' := [(0, aI a0), (16, aB true)]) (L' := []) (by kernel_rfl) (by kernel_rfl) ?_
      exact exQ_mk (by kernel_rfl) (by kernel_rfl)
    · replace h := ofF h7 h
      refine WO_run (j := 4) (k := 1) (orcs := [(6, .known false)]) (kF := [0, 12, 13]) (kL := []) (fr' := [(0, aI a0), (12, aB (decide (a0 < (0 : Int)))), (13, aI a0)]) (L' := []) (obs := [((decide (a0 < (0 : Int))) = false)]) rfl (by kernel_rfl) (allP1 h7) ?_
      obtain ⟨r8, h9, h⟩ := bind_of h
      refine WO_call0 (us := [none]) (d := 14) (p := ((decide (a0 < (0 : Int))) = false)) (j := 5) rfl ⟨by kernel_rfl, by kernel_rfl, by kernel_rfl⟩ h7 (pair_sums_ok h9) (by kernel_rfl) ?_
      refine WO_run (j := 7) (k := 2) (orcs := [(10, .known false), (13, .val (.dat .bool false))]) (kF := [0, 16]) (kL := []) (fr' := [(0, aI a0), (16, aB (decide (a0 ≥ r8)))]) (L' := []) (obs := [((decide (a0 < (0 : Int))) = false), ((decide (a0 < (0 : Int))) = false)]) rfl (by kernel_rfl) (allP2 h7 (allP1 h7)) ?_
      obtain rfl := Option.some.inj h
      refine WO_fin [0, 16] [] (fr' := [(0, aI a0), (16, aB (decide (a0 ≥ r8)))]) (L' := []) (by kernel_rfl) (by kernel_rfl) ?_
      exact exQ_mk (by kernel_rfl) (by kernel_rfl)
  · intro e fr L hJ
    obtain ⟨rfl, rfl, rfl⟩ := hJ
    refine LT_keep [0, 16] [] (fr' := [(0, aI a0), (16, aB v10)]) (L' := []) (by kernel_rfl) ?_
    refine seqQ_norm ?_
    refine W_cond (o := .tmp 16) (b := v10) (by kernel_rfl) (by kernel_rfl) (fun h12 => ?_) (fun h12 => ?_)
    · replace h := ofT h12 h
      refine W_seq (by kernel_rfl) ?_
      refine W_run 3 [] [2, 3, 4] [] (fr' := [(2, aI (0 : Int)), (3, aI (0 : Int)), (4, aI (4 : Int))]) (L' := []) (obs := []) (by kernel_rfl) (by kernel_rfl) (by kernel_rfl) allP0 ?_
      refine seqQ_norm ?_
      obtain rfl := Option.some.inj h
      refine W_ret [2, 3, 4] [] (fr' := [(2, aI (0 : Int)), (3, aI (0 : Int)), (4, aI (4 : Int))]) (L' := []) (by kernel_rfl) (by kernel_rfl) ?_
      refine seqQ_ret ?_
      exact retQ_mk (by kernel_rfl) (by kernel_rfl) (by kernel_rfl)
    · replace h := ofF h12 h
      refine W_skip [0] [] (fr' := [(0, aI a0)]) (L' := []) (by kernel_rfl) (by kernel_rfl) ?_
      refine seqQ_norm ?_
      refine W_seq (by kernel_rfl) ?_
      refine W_run 2 [] [0, 5, 6] [] (fr' := [(0, aI a0), (5, aI (0 : Int)), (6, aI (2000000 : Int))]) (L' := []) (obs := []) (by kernel_rfl) (by kernel_rfl) (by kernel_rfl) allP0 ?_
      refine seqQ_norm ?_
      refine W_seq (by kernel_rfl) ?_
      refine W_block (id := 0) (by kernel_rfl) ?_
      obtain ⟨v27, h28, h⟩ := bind_of h
      refine W_weaken [0, 5, 6] [] (fr' := ((pair_Open_s2 a0) ((0 : Int), (2000000 : Int))).1) (L' := ((pair_Open_s2 a0) ((0 : Int), (2000000 : Int))).2) (by kernel_rfl) ?_
      refine W_cutK (W_loop (S := (pair_Open_s2 a0)) (J := (exQ (.exit 0) (pair_Open_s3 a0))) (by kernel_rfl) ?_ fuel _ v27 h28) ?_
      · rintro x18 s h
        refine W_seq (by kernel_rfl) ?_
        refine W_seq (by kernel_rfl) ?_
        refine W_run 3 [] [0, 5, 6, 19] [] (fr' := [(0, aI a0), (5, aI x18.1), (6, aI x18.2), (19, aB (decide (x18.1 < x18.2)))]) (L' := []) (obs := []) (by kernel_rfl) (by kernel_rfl) (by kernel_rfl) allP0 ?_
        refine seqQ_norm ?_
        refine W_cond (o := .tmp 19) (b := decide (x18.1 < x18.2)) (by kernel_rfl) (by kernel_rfl) (fun h23 => ?_) (fun h23 => ?_)
        · replace h := ofT h23 h
          refine W_skip [0, 5, 6] [] (fr' := [(0, aI a0), (5, aI x18.1), (6, aI x18.2)]) (L' := []) (by kernel_rfl) (by kernel_rfl) ?_
          refine seqQ_norm ?_
          refine W_block (id := 1) (by kernel_rfl) ?_
          refine W_seq (by kernel_rfl) ?_
          refine W_run 6 [] [0, 5, 6, 7] [] (fr' := [(0, aI a0), (5, aI x18.1), (6, aI x18.2), (7, aI (w64 (Int.tdiv (w64 ((w64 (x18.1 + x18.2)) + (1 : Int))) (2 : Int))))]) (L' := []) (obs := [((2 : Int) ≠ 0)]) (by kernel_rfl) (by kernel_rfl) (by kernel_rfl) (allP1 (by decide)) ?_
          refine seqQ_norm ?_
          refine W_seq (by kernel_rfl) ?_
          refine W_region (by kernel_rfl) ?_
          refine WO_run (j := 1) (k := 1) (orcs := []) (kF := [0, 5, 6, 7, 25]) (kL := []) (fr' := [(0, aI a0), (5, aI x18.1), (6, aI x18.2), (7, aI (w64 (Int.tdiv (w64 ((w64 (x18.1 + x18.2)) + (1 : Int))) (2 : Int)))), (25, aI (w64 (Int.tdiv (w64 ((w64 (x18.1 + x18.2)) + (1 : Int))) (2 : Int))))]) (L' := []) (obs := []) rfl (by kernel_rfl) allP0 ?_
          obtain ⟨r24, h25, h⟩ := bind_of h
          refine WO_call0 (us := [none]) (d := 26) (p := True) (j := 2) rfl ⟨by kernel_rfl, by kernel_rfl, by kernel_rfl⟩ trivial (pair_sums_ok h25) (by kernel_rfl) ?_
          refine WO_run (j := 4) (k := 2) (orcs := []) (kF := [0, 5, 6, 7, 28]) (kL := []) (fr' := [(0, aI a0), (5, aI x18.1), (6, aI x18.2), (7, aI (w64 (Int.tdiv (w64 ((w64 (x18.1 + x18.2)) + (1 : Int))) (2 : Int)))), (28, aB (decide (r24 ≤ a0)))]) (L' := []) (obs := []) rfl (by kernel_rfl) allP0 ?_
          refine WO_fin [0, 5, 6, 7, 28] [] (fr' := [(0, aI a0), (5, aI x18.1), (6, aI x18.2), (7, aI (w64 (Int.tdiv (w64 ((w64 (x18.1 + x18.2)) + (1 : Int))) (2 : Int)))), (28, aB (decide (r24 ≤ a0)))]) (L' := []) (by kernel_rfl) (by kernel_rfl) ?_
          refine seqQ_norm ?_
          refine W_cond (o := .tmp 28) (b := decide (r24 ≤ a0)) (by kernel_rfl) (by kernel_rfl) (fun h26 => ?_) (fun h26 => ?_)
          · replace h := ofT h26 h
            obtain rfl := Option.some.inj h
            refine W_run 2 [] [0, 5, 6] [] (fr' := [(0, aI a0), (5, aI (w64 (Int.tdiv (w64 ((w64 (x18.1 + x18.2)) + (1 : Int))) (2 : Int)))), (6, aI x18.2)]) (L' := []) (obs := []) (by kernel_rfl) (by kernel_rfl) (by kernel_rfl) allP0 ?_
            refine blockQ_norm ?_
            exact round_next' (by kernel_rfl) (by kernel_rfl)
          · replace h := ofF h26 h
            obtain rfl := Option.some.inj h
            refine W_run 3 [] [0, 5, 6] [] (fr' := [(0, aI a0), (5, aI x18.1), (6, aI (w64 ((w64 (Int.tdiv (w64 ((w64 (x18.1 + x18.2)) + (1 : Int))) (2 : Int))) - (1 : Int))))]) (L' := []) (obs := []) (by kernel_rfl) (by kernel_rfl) (by kernel_rfl) allP0 ?_
            refine blockQ_norm ?_
            exact round_next' (by kernel_rfl) (by kernel_rfl)
        · replace h := ofF h23 h
          obtain rfl := Option.some.inj h
          refine W_exit (id := 0) [0, 5] [] (fr' := [(0, aI a0), (5, aI x18.1)]) (L' := []) (by kernel_rfl) (by kernel_rfl) ?_
          refine seqQ_exit ?_
          refine round_exit ?_
          exact exQ_mk (by kernel_rfl) (by kernel_rfl)
      · intro e fr L hJ
        obtain ⟨rfl, rfl, rfl⟩ := hJ
        refine LT_keep [0, 5] [] (fr' := [(0, aI a0), (5, aI v27)]) (L' := []) (by kernel_rfl) ?_
        refine blockQ_hit ?_
        refine seqQ_norm ?_
        refine W_seq (by kernel_rfl) ?_
        refine W_region (by kernel_rfl) ?_
        refine WO_run (j := 2) (k := 2) (orcs := []) (kF := [5, 32, 33]) (kL := []) (fr' := [(5, aI v27), (32, aI a0), (33, aI v27)]) (L' := []) (obs := []) rfl (by kernel_rfl) allP0 ?_
        obtain ⟨r31, h32, h⟩ := bind_of h
        refine WO_call0 (us := [none]) (d := 34) (p := True) (j := 3) rfl ⟨by kernel_rfl, by kernel_rfl, by kernel_rfl⟩ trivial (pair_sums_ok h32) (by kernel_rfl) ?_
        refine WO_run (j := 5) (k := 2) (orcs := []) (kF := [5, 8]) (kL := []) (fr' := [(5, aI v27), (8, aI (w64 (a0 - r31)))]) (L' := []) (obs := []) rfl (by kernel_rfl) allP0 ?_
        refine WO_fin [5, 8] [] (fr' := [(5, aI v27), (8, aI (w64 (a0 - r31)))]) (L' := []) (by kernel_rfl) (by kernel_rfl) ?_
        refine seqQ_norm ?_
        refine W_seq (by kernel_rfl) ?_
        refine W_run 4 [] [8, 9] [] (fr' := [(8, aI (w64 (a0 - r31))), (9, aI (w64 (v27 - (w64 (a0 - r31)))))]) (L' := []) (obs := []) (by kernel_rfl) (by kernel_rfl) (by kernel_rfl) allP0 ?_
        refine seqQ_norm ?_
        refine W_seq (by kernel_rfl) ?_
        refine W_seq (by kernel_rfl) ?_
        refine W_run 4 [] [8, 9, 42] [] (fr' := [(8, aI (w64 (a0 - r31))), (9, aI (w64 (v27 - (w64 (a0 - r31))))), (42, aB (decide ((imax (w64 (v27 - (w64 (a0 - r31)))) (w64 (a0 - r31))) > (1000000 : Int))))]) (L' := []) (obs := []) (by kernel_rfl) (by kernel_rfl) (by kernel_rfl) allP0 ?_
        refine seqQ_norm ?_
        refine W_cond (o := .tmp 42) (b := decide ((imax (w64 (v27 - (w64 (a0 - r31)))) (w64 (a0 - r31))) > (1000000 : Int))) (by kernel_rfl) (by kernel_rfl) (fun h33 => ?_) (fun h33 => ?_)
        · replace h := ofT h33 h
          refine W_seq (by kernel_rfl) ?_
          refine W_run 3 [] [2, 3, 4] [] (fr' := [(2, aI (0 : Int)), (3, aI (0 : Int)), (4, aI (4 : Int))]) (L' := []) (obs := []) (by kernel_rfl) (by kernel_rfl) (by kernel_rfl) allP0 ?_
          refine seqQ_norm ?_
          obtain rfl := Option.some.inj h
          refine W_ret [2, 3, 4] [] (fr' := [(2, aI (0 : Int)), (3, aI (0 : Int)), (4, aI (4 : Int))]) (L' := []) (by kernel_rfl) (by kernel_rfl) ?_
          refine seqQ_ret ?_
          exact retQ_mk (by kernel_rfl) (by kernel_rfl) (by kernel_rfl)
        · replace h := ofF h33 h
          refine W_skip [8, 9] [] (fr' := [(8, aI (w64 (a0 - r31))), (9, aI (w64 (v27 - (w64 (a0 - r31)))))]) (L' := []) (by kernel_rfl) (by kernel_rfl) ?_
          refine seqQ_norm ?_
          refine W_seq (by kernel_rfl) ?_
          refine W_run 5 [] [2, 3, 4] [] (fr' := [(2, aI (w64 (v27 - (w64 (a0 - r31))))), (3, aI (w64 (a0 - r31))), (4, aI (0 : Int))]) (L' := []) (obs := []) (by kernel_rfl) (by kernel_rfl) (by kernel_rfl) allP0 ?_
          refine seqQ_norm ?_
          obtain rfl := Option.some.inj h
          refine W_ret [2, 3, 4] [] (fr' := [(2, aI (w64 (v27 - (w64 (a0 - r31))))), (3, aI (w64 (a0 - r31))), (4, aI (0 : Int))]) (L' := []) (by kernel_rfl) (by kernel_rfl) ?_
          exact retQ_mk (by kernel_rfl) (by kernel_rfl) (by kernel_rfl)

def ref_Within (a0 : Int) (a1 : Int) (a2 : Int) : Option Bool :=
some ((decide (a0 ≤ a1)) && (decide (a1 ≤ a2)))
theorem ref_Within_ok {a0 : Int} {a1 : Int} {a2 : Int} {r : Bool} (h : ref_Within a0 a1 a2 = some r) : FnC Try.prog 15 [aI a0, aI a1, aI a2] [] (aB r) [] := by
  refine fnC_of_W (B := bodyOf Try.f15) (n := 15) Try.func15 (by kernel_rfl) (by kernel_rfl) (by kernel_rfl) (by kernel_rfl) (by kernel_rfl) ?_
  intro K
  refine W_seq (by kernel_rfl) ?_
  refine W_run 1 [] [0, 1, 2] [] (fr' := [(0, aI a0), (1, aI a1), (2, aI a2)]) (L' := []) (obs := []) (by kernel_rfl) (by kernel_rfl) (by kernel_rfl) allP0 ?_
  refine seqQ_norm ?_
  refine W_seq (by kernel_rfl) ?_
  refine W_run 9 [] [6] [] (fr' := [(6, aB ((decide (a0 ≤ a1)) && (decide (a1 ≤ a2))))]) (L' := []) (obs := []) (by kernel_rfl) (by kernel_rfl) (by kernel_rfl) allP0 ?_
  refine seqQ_norm ?_
  obtain rfl := Option.some.inj h
  refine W_ret [6] [] (fr' := [(6, aB ((decide (a0 ≤ a1)) && (decide (a1 ≤ a2))))]) (L' := []) (by kernel_rfl) (by kernel_rfl) ?_
  exact retQ_mk (by kernel_rfl) (by kernel_rfl) (by kernel_rfl)

def law_PairOpens_g5 (a0 : Int) (x17 : (Int × Int)) : Option Int :=
bif (decide ((w64 (x17.1 + x17.2)) ≤ (2147483648 : Int))) && (decide ((w64 (Int.tdiv (w64 ((w64 (x17.1 + x17.2)) * (w64 ((w64 (x17.1 + x17.2)) + (1 : Int))))) (2 : Int))) ≤ a0)) then
(some (w64 (x17.1 + x17.2)))
else
(some x17.1)
@[reducible] def law_PairOpens_s6 (a0 : Int) (x17 : (Int × Int)) (v : Int) : Fr × LL := ([(0, aI a0), (6, aI v), (7, aI x17.2)], [])
def law_PairOpens_b7 (a0 : Int) (x17 : (Int × Int)) : Option (Flow (Int × Int) Int) :=
bif decide (x17.2 > (0 : Int)) then
((law_PairOpens_g5 a0 x17).bind fun v28 =>
some (.next (v28, w64 (Int.tdiv x17.2 (2 : Int)))))
else
(some (.done x17.1))
@[reducible] def law_PairOpens_s8 (a0 : Int) (v : (Int × Int)) : Fr × LL := ([(0, aI a0), (6, aI v.1), (7, aI v.2)], [])
@[reducible] def law_PairOpens_s9 (a0 : Int) (v : Int) : Fr × LL := ([(0, aI a0), (6, aI v)], [])
def law_PairOpens_g10 (r1 : (Int × Int × Int)) : Option Bool :=
(ref_Within (0 : Int) r1.1 (1000000 : Int)).bind fun r44 =>
bif !r44 then
(some true)
else
((ref_Within (0 : Int) r1.2.1 (1000000 : Int)).bind fun r47 =>
some (!r47))
@[reducible] def law_PairOpens_s11 (a0 : Int) (r1 : (Int × Int × Int)) (v : Bool) : Fr × LL := ([(0, aI a0), (3, aI r1.1), (4, aI r1.2.1), (80, aB v)], [])
def law_PairOpens (fuel : Nat) (a0 : Int) : Option Bool :=
(pair_Open fuel a0).bind fun r1 =>
bif r1.2.2 != (0 : Int) then
(bif ((r1.1 != (0 : Int)) || (r1.2.1 != (0 : Int))) || (r1.2.2 != (4 : Int)) then
(some false)
else
(bif (decide (a0 < (0 : Int))) || (decide (a0 > (4000000000000 : Int))) then
(some true)
else
((iter (law_PairOpens_b7 a0) fuel ((0 : Int), (1099511627776 : Int))).bind fun v30 =>
some ((decide ((w64 (a0 - (w64 (Int.tdiv (w64 (v30 * (w64 (v30 + (1 : Int))))) (2 : Int))))) > (1000000 : Int))) || (decide ((w64 (v30 - (w64 (a0 - (w64 (Int.tdiv (w64 (v30 * (w64 (v30 + (1 : Int))))) (2 : Int))))))) > (1000000 : Int)))))))
else
((law_PairOpens_g10 r1).bind fun v49 =>
bif v49 then
(some false)
else
(some (a0 == (w64 ((w64 (Int.tdiv (w64 ((w64 (r1.1 + r1.2.1)) * (w64 ((w64 (r1.1 + r1.2.1)) + (1 : Int))))) (2 : Int))) + r1.2.1)))))
theorem law_PairOpens_ok {fuel : Nat} {a0 : Int} {r : Bool} (h : law_PairOpens fuel a0 = some r) : FnC Try.prog 5 [aI a0] [] (aB r) [] := by
  refine fnC_of_W (B := bodyOf Try.f5) (n := 93) Try.func5 (by kernel_rfl) (by kernel_rfl) (by kernel_rfl) (by kernel_rfl) (by kernel_rfl) ?_
  intro K
  refine W_seq (by kernel_rfl) ?_
  refine W_run 1 [] [0] [] (fr' := [(0, aI a0)]) (L' := []) (obs := []) (by kernel_rfl) (by kernel_rfl) (by kernel_rfl) allP0 ?_
  refine seqQ_norm ?_
  refine W_seq (by kernel_rfl) ?_
  refine W_region (by kernel_rfl) ?_
  refine WO_run (j := 1) (k := 1) (orcs := []) (kF := [0, 11]) (kL := []) (fr' := [(0, aI a0), (11, aI a0)]) (L' := []) (obs := []) rfl (by kernel_rfl) allP0 ?_
  obtain ⟨r1, h2, h⟩ := bind_of h
  refine WO_call0 (us := [none]) (d := 12) (p := True) (j := 2) rfl ⟨by kernel_rfl, by kernel_rfl, by kernel_rfl⟩ trivial (pair_Open_ok h2) (by kernel_rfl) ?_
  refine WO_run (j := 9) (k := 7) (orcs := []) (kF := [0, 3, 4, 5]) (kL := []) (fr' := [(0, aI a0), (3, aI r1.1), (4, aI r1.2.1), (5, aI r1.2.2)]) (L' := []) (obs := []) rfl (by kernel_rfl) allP0 ?_
  refine WO_fin [0, 3, 4, 5] [] (fr' := [(0, aI a0), (3, aI r1.1), (4, aI r1.2.1), (5, aI r1.2.2)]) (L' := []) (by kernel_rfl) (by kernel_rfl) ?_
  refine seqQ_norm ?_
  refine W_seq (by kernel_rfl) ?_
  refine W_seq (by kernel_rfl) ?_
  refine W_run 2 [] [0, 3, 4, 5, 17] [] (fr' := [(0, aI a0), (3, aI r1.1), (4, aI r1.2.1), (5, aI r1.2.2), (17, aB (r1.2.2 != (0 : Int)))]) (L' := []) (obs := []) (by kernel_rfl) (by kernel_rfl) (by kernel_rfl) allP0 ?_
  refine seqQ_norm ?_
  refine W_cond (o := .tmp 17) (b := r1.2.2 != (0 : Int)) (by kernel_rfl) (by kernel_rfl) (fun h3 => ?_) (fun h3 => ?_)
  · replace h := ofT h3 h
    refine W_seq (by kernel_rfl) ?_
    refine W_seq (by kernel_rfl) ?_
    refine W_run 10 [] [0, 27] [] (fr' := [(0, aI a0), (27, aB (((r1.1 != (0 : Int)) || (r1.2.1 != (0 : Int))) || (r1.2.2 != (4 : Int))))]) (L' := []) (obs := []) (by kernel_rfl) (by kernel_rfl) (by kernel_rfl) allP0 ?_
    refine seqQ_norm ?_
    refine W_cond (o := .tmp 27) (b := ((r1.1 != (0 : Int)) || (r1.2.1 != (0 : Int))) || (r1.2.2 != (4 : Int))) (by kernel_rfl) (by kernel_rfl) (fun h4 => ?_) (fun h4 => ?_)
    · replace h := ofT h4 h
      refine W_seq (by kernel_rfl) ?_
      refine W_run 1 [] [2] [] (fr' := [(2, aB false)]) (L' := []) (obs := []) (by kernel_rfl) (by kernel_rfl) (by kernel_rfl) allP0 ?_
      refine seqQ_norm ?_
      obtain rfl := Option.some.inj h
      refine W_ret [2] [] (fr' := [(2, aB false)]) (L' := []) (by kernel_rfl) (by kernel_rfl) ?_
      refine seqQ_ret ?_
      refine seqQ_ret ?_
      exact retQ_mk (by kernel_rfl) (by kernel_rfl) (by kernel_rfl)
    · replace h := ofF h4 h
      refine W_skip [0] [] (fr' := [(0, aI a0)]) (L' := []) (by kernel_rfl) (by kernel_rfl) ?_
      refine seqQ_norm ?_
      refine W_seq (by kernel_rfl) ?_
      refine W_seq (by kernel_rfl) ?_
      refine W_run 6 [] [0, 33] [] (fr' := [(0, aI a0), (33, aB ((decide (a0 < (0 : Int))) || (decide (a0 > (4000000000000 : Int)))))]) (L' := []) (obs := []) (by kernel_rfl) (by kernel_rfl) (by kernel_rfl) allP0 ?_
      refine seqQ_norm ?_
      refine W_cond (o := .tmp 33) (b := (decide (a0 < (0 : Int))) || (decide (a0 > (4000000000000 : Int)))) (by kernel_rfl) (by kernel_rfl) (fun h5 => ?_) (fun h5 => ?_)
      · replace h := ofT h5 h
        refine W_seq (by kernel_rfl) ?_
        refine W_run 1 [] [2] [] (fr' := [(2, aB true)]) (L' := []) (obs := []) (by kernel_rfl) (by kernel_rfl) (by kernel_rfl) allP0 ?_
        refine seqQ_norm ?_
        obtain rfl := Option.some.inj h
        refine W_ret [2] [] (fr' := [(2, aB true)]) (L' := []) (by kernel_rfl) (by kernel_rfl) ?_
        refine seqQ_ret ?_
        refine seqQ_ret ?_
        exact retQ_mk (by kernel_rfl) (by kernel_rfl) (by kernel_rfl)
      · replace h := ofF h5 h
        refine W_skip [0] [] (fr' := [(0, aI a0)]) (L' := []) (by kernel_rfl) (by kernel_rfl) ?_
        refine seqQ_norm ?_
        refine W_seq (by kernel_rfl) ?_
        refine W_run 1 [] [0, 6] [] (fr' := [(0, aI a0), (6, aI (0 : Int))]) (L' := []) (obs := []) (by kernel_rfl) (by kernel_rfl) (by kernel_rfl) allP0 ?_
        refine seqQ_norm ?_
        refine W_seq (by kernel_rfl) ?_
        refine W_seq (by kernel_rfl) ?_
        refine W_run 1 [] [0, 6, 7] [] (fr' := [(0, aI a0), (6, aI (0 : Int)), (7, aI (1099511627776 : Int))]) (L' := []) (obs := []) (by kernel_rfl) (by kernel_rfl) (by kernel_rfl) allP0 ?_
        refine seqQ_norm ?_
        refine W_block (id := 0) (by kernel_rfl) ?_
        obtain ⟨v30, h31, h⟩ := bind_of h
        refine W_weaken [0, 6, 7] [] (fr' := ((law_PairOpens_s8 a0) ((0 : Int), (1099511627776 : Int))).1) (L' := ((law_PairOpens_s8 a0) ((0 : Int), (1099511627776 : Int))).2) (by kernel_rfl) ?_
        refine W_cutK (W_loop (S := (law_PairOpens_s8 a0)) (J := (exQ (.exit 0) (law_PairOpens_s9 a0))) (by kernel_rfl) ?_ fuel _ v30 h31) ?_
        · rintro x17 s h
          refine W_seq (by kernel_rfl) ?_
          refine W_seq (by kernel_rfl) ?_
          refine W_run 2 [] [0, 6, 7, 35] [] (fr' := [(0, aI a0), (6, aI x17.1), (7, aI x17.2), (35, aB (decide (x17.2 > (0 : Int))))]) (L' := []) (obs := []) (by kernel_rfl) (by kernel_rfl) (by kernel_rfl) allP0 ?_
          refine seqQ_norm ?_
          refine W_cond (o := .tmp 35) (b := decide (x17.2 > (0 : Int))) (by kernel_rfl) (by kernel_rfl) (fun h24 => ?_) (fun h24 => ?_)
          · replace h := ofT h24 h
            refine W_skip [0, 6, 7] [] (fr' := [(0, aI a0), (6, aI x17.1), (7, aI x17.2)]) (L' := []) (by kernel_rfl) (by kernel_rfl) ?_
            refine seqQ_norm ?_
            refine W_seq (by kernel_rfl) ?_
            obtain ⟨v28, h29, h⟩ := bind_of h
            refine W_cutK (Q' := (exQ .normal (law_PairOpens_s6 a0 x17)) v28) ?_ ?_
            · replace h := h29
              refine W_block (id := 1) (by kernel_rfl) ?_
              refine W_seq (by kernel_rfl) ?_
              refine W_run 17 [] [0, 6, 7, 54] [] (fr' := [(0, aI a0), (6, aI x17.1), (7, aI x17.2), (54, aB ((decide ((w64 (x17.1 + x17.2)) ≤ (2147483648 : Int))) && (decide ((w64 (Int.tdiv (w64 ((w64 (x17.1 + x17.2)) * (w64 ((w64 (x17.1 + x17.2)) + (1 : Int))))) (2 : Int))) ≤ a0))))]) (L' := []) (obs := [((2 : Int) ≠ 0)]) (by kernel_rfl) (by kernel_rfl) (by kernel_rfl) (allP1 (by decide)) ?_
              refine seqQ_norm ?_
              refine W_cond (o := .tmp 54) (b := (decide ((w64 (x17.1 + x17.2)) ≤ (2147483648 : Int))) && (decide ((w64 (Int.tdiv (w64 ((w64 (x17.1 + x17.2)) * (w64 ((w64 (x17.1 + x17.2)) + (1 : Int))))) (2 : Int))) ≤ a0))) (by kernel_rfl) (by kernel_rfl) (fun h27 => ?_) (fun h27 => ?_)
              · replace h := ofT h27 h
                obtain rfl := Option.some.inj h
                refine W_run 4 [] [0, 6, 7] [] (fr' := [(0, aI a0), (6, aI (w64 (x17.1 + x17.2))), (7, aI x17.2)]) (L' := []) (obs := []) (by kernel_rfl) (by kernel_rfl) (by kernel_rfl) allP0 ?_
                refine blockQ_norm ?_
                exact exQ_mk (by kernel_rfl) (by kernel_rfl)
              · replace h := ofF h27 h
                obtain rfl := Option.some.inj h
                refine W_skip [0, 6, 7] [] (fr' := [(0, aI a0), (6, aI x17.1), (7, aI x17.2)]) (L' := []) (by kernel_rfl) (by kernel_rfl) ?_
                refine blockQ_norm ?_
                exact exQ_mk (by kernel_rfl) (by kernel_rfl)
            · intro e fr L hJ
              obtain ⟨rfl, rfl, rfl⟩ := hJ
              refine LT_keep [0, 6, 7] [] (fr' := [(0, aI a0), (6, aI v28), (7, aI x17.2)]) (L' := []) (by kernel_rfl) ?_
              refine seqQ_norm ?_
              obtain rfl := Option.some.inj h
              refine W_run 3 [] [0, 6, 7] [] (fr' := [(0, aI a0), (6, aI v28), (7, aI (w64 (Int.tdiv x17.2 (2 : Int))))]) (L' := []) (obs := [((2 : Int) ≠ 0)]) (by kernel_rfl) (by kernel_rfl) (by kernel_rfl) (allP1 (by decide)) ?_
              exact round_next' (by kernel_rfl) (by kernel_rfl)
          · replace h := ofF h24 h
            obtain rfl := Option.some.inj h
            refine W_exit (id := 0) [0, 6] [] (fr' := [(0, aI a0), (6, aI x17.1)]) (L' := []) (by kernel_rfl) (by kernel_rfl) ?_
            refine seqQ_exit ?_
            refine round_exit ?_
            exact exQ_mk (by kernel_rfl) (by kernel_rfl)
        · intro e fr L hJ
          obtain ⟨rfl, rfl, rfl⟩ := hJ
          refine LT_keep [0, 6] [] (fr' := [(0, aI a0), (6, aI v30)]) (L' := []) (by kernel_rfl) ?_
          refine blockQ_hit ?_
          refine seqQ_norm ?_
          refine W_seq (by kernel_rfl) ?_
          refine W_run 8 [] [6, 8] [] (fr' := [(6, aI v30), (8, aI (w64 (a0 - (w64 (Int.tdiv (w64 (v30 * (w64 (v30 + (1 : Int))))) (2 : Int))))))]) (L' := []) (obs := [((2 : Int) ≠ 0)]) (by kernel_rfl) (by kernel_rfl) (by kernel_rfl) (allP1 (by decide)) ?_
          refine seqQ_norm ?_
          refine W_seq (by kernel_rfl) ?_
          refine W_run 9 [] [2] [] (fr' := [(2, aB ((decide ((w64 (a0 - (w64 (Int.tdiv (w64 (v30 * (w64 (v30 + (1 : Int))))) (2 : Int))))) > (1000000 : Int))) || (decide ((w64 (v30 - (w64 (a0 - (w64 (Int.tdiv (w64 (v30 * (w64 (v30 + (1 : Int))))) (2 : Int))))))) > (1000000 : Int)))))]) (L' := []) (obs := []) (by kernel_rfl) (by kernel_rfl) (by kernel_rfl) allP0 ?_
          refine seqQ_norm ?_
          obtain rfl := Option.some.inj h
          refine W_ret [2] [] (fr' := [(2, aB ((decide ((w64 (a0 - (w64 (Int.tdiv (w64 (v30 * (w64 (v30 + (1 : Int))))) (2 : Int))))) > (1000000 : Int))) || (decide ((w64 (v30 - (w64 (a0 - (w64 (Int.tdiv (w64 (v30 * (w64 (v30 + (1 : Int))))) (2 : Int))))))) > (1000000 : Int)))))]) (L' := []) (by kernel_rfl) (by kernel_rfl) ?_
          refine seqQ_ret ?_
          exact retQ_mk (by kernel_rfl) (by kernel_rfl) (by kernel_rfl)
  · replace h := ofF h3 h
    refine W_skip [0, 3, 4] [] (fr' := [(0, aI a0), (3, aI r1.1), (4, aI r1.2.1)]) (L' := []) (by kernel_rfl) (by kernel_rfl) ?_
    refine seqQ_norm ?_
    refine W_seq (by kernel_rfl) ?_
    refine W_seq (by kernel_rfl) ?_
    obtain ⟨v49, h50, h⟩ := bind_of h
    refine W_cutK (Q' := (exQ .normal (law_PairOpens_s11 a0 r1)) v49) ?_ ?_
    · replace h := h50
      refine W_region (by kernel_rfl) ?_
      refine WO_run (j := 1) (k := 1) (orcs := []) (kF := [0, 3, 4, 73]) (kL := []) (fr' := [(0, aI a0), (3, aI r1.1), (4, aI r1.2.1), (73, aI r1.1)]) (L' := []) (obs := []) rfl (by kernel_rfl) allP0 ?_
      obtain ⟨r44, h45, h⟩ := bind_of h
      refine WO_call0 (us := [none, none, none]) (d := 74) (p := True) (j := 2) rfl ⟨by kernel_rfl, by kernel_rfl, by kernel_rfl⟩ trivial (ref_Within_ok h45) (by kernel_rfl) ?_
      refine WO_run (j := 4) (k := 2) (orcs := []) (kF := [0, 3, 4, 76]) (kL := []) (fr' := [(0, aI a0), (3, aI r1.1), (4, aI r1.2.1), (76, aB (!r44))]) (L' := []) (obs := []) rfl (by kernel_rfl) allP0 ?_
      rcases Bool.eq_false_or_eq_true (!r44) with h46 | h46
      · replace h := ofT h46 h
        refine WO_run (j := 8) (k := 4) (orcs := [(8, .known true), (10, .known true), (12, .known true), (15, .val (.dat .bool true))]) (kF := [0, 3, 4, 80]) (kL := []) (fr' := [(0, aI a0), (3, aI r1.1), (4, aI r1.2.1), (80, aB true)]) (L' := []) (obs := [((!r44) = true), ((!r44) = true), ((!r44) = true), ((!r44) = true)]) rfl (by kernel_rfl) (allP2 h46 (allP2 h46 (allP2 h46 (allP1 h46)))) ?_
        obtain rfl := Option.some.inj h
        refine WO_fin [0, 3, 4, 80] [] (fr' := [(0, aI a0), (3, aI r1.1), (4, aI r1.2.1), (80, aB true)]) (L' := []) (by kernel_rfl) (by kernel_rfl) ?_
        exact exQ_mk (by kernel_rfl) (by kernel_rfl)
      · replace h := ofF h46 h
        refine WO_run (j := 5) (k := 1) (orcs := [(8, .known false)]) (kF := [0, 3, 4, 76, 77]) (kL := []) (fr' := [(0, aI a0), (3, aI r1.1), (4, aI r1.2.1), (76, aB (!r44)), (77, aI r1.2.1)]) (L' := []) (obs := [((!r44) = false)]) rfl (by kernel_rfl) (allP1 h46) ?_
        obtain ⟨r47, h48, h⟩ := bind_of h
        refine WO_call0 (us := [none, none, none]) (d := 78) (p := ((!r44) = false)) (j := 6) rfl ⟨by kernel_rfl, by kernel_rfl, by kernel_rfl⟩ h46 (ref_Within_ok h48) (by kernel_rfl) ?_
        refine WO_run (j := 8) (k := 2) (orcs := [(12, .known false), (15, .val (.dat .bool false))]) (kF := [0, 3, 4, 80]) (kL := []) (fr' := [(0, aI a0), (3, aI r1.1), (4, aI r1.2.1), (80, aB (!r47))]) (L' := []) (obs := [((!r44) = false), ((!r44) = false)]) rfl (by kernel_rfl) (allP2 h46 (allP1 h46)) ?_
        obtain rfl := Option.some.inj h
        refine WO_fin [0, 3, 4, 80] [] (fr' := [(0, aI a0), (3, aI r1.1), (4, aI r1.2.1), (80, aB (!r47))]) (L' := []) (by kernel_rfl) (by kernel_rfl) ?_
        exact exQ_mk (by kernel_rfl) (by kernel_rfl)
    · intro e fr L hJ
      obtain ⟨rfl, rfl, rfl⟩ := hJ
      refine LT_keep [0, 3, 4, 80] [] (fr' := [(0, aI a0), (3, aI r1.1), (4, aI r1.2.1), (80, aB v49)]) (L' := []) (by kernel_rfl) ?_
      refine seqQ_norm ?_
      refine W_cond (o := .tmp 80) (b := v49) (by kernel_rfl) (by kernel_rfl) (fun h51 => ?_) (fun h51 => ?_)
      · replace h := ofT h51 h
        refine W_seq (by kernel_rfl) ?_
        refine W_run 1 [] [2] [] (fr' := [(2, aB false)]) (L' := []) (obs := []) (by kernel_rfl) (by kernel_rfl) (by kernel_rfl) allP0 ?_
        refine seqQ_norm ?_
        obtain rfl := Option.some.inj h
        refine W_ret [2] [] (fr' := [(2, aB false)]) (L' := []) (by kernel_rfl) (by kernel_rfl) ?_
        refine seqQ_ret ?_
        exact retQ_mk (by kernel_rfl) (by kernel_rfl) (by kernel_rfl)
      · replace h := ofF h51 h
        refine W_skip [0, 3, 4] [] (fr' := [(0, aI a0), (3, aI r1.1), (4, aI r1.2.1)]) (L' := []) (by kernel_rfl) (by kernel_rfl) ?_
        refine seqQ_norm ?_
        refine W_seq (by kernel_rfl) ?_
        refine W_run 4 [] [0, 4, 9] [] (fr' := [(0, aI a0), (4, aI r1.2.1), (9, aI (w64 (r1.1 + r1.2.1)))]) (L' := []) (obs := []) (by kernel_rfl) (by kernel_rfl) (by kernel_rfl) allP0 ?_
        refine seqQ_norm ?_
        refine W_seq (by kernel_rfl) ?_
        refine W_run 10 [] [2] [] (fr' := [(2, aB (a0 == (w64 ((w64 (Int.tdiv (w64 ((w64 (r1.1 + r1.2.1)) * (w64 ((w64 (r1.1 + r1.2.1)) + (1 : Int))))) (2 : Int))) + r1.2.1))))]) (L' := []) (obs := [((2 : Int) ≠ 0)]) (by kernel_rfl) (by kernel_rfl) (by kernel_rfl) (allP1 (by decide)) ?_
        refine seqQ_norm ?_
        obtain rfl := Option.some.inj h
        refine W_ret [2] [] (fr' := [(2, aB (a0 == (w64 ((w64 (Int.tdiv (w64 ((w64 (r1.1 + r1.2.1)) * (w64 ((w64 (r1.1 + r1.2.1)) + (1 : Int))))) (2 : Int))) + r1.2.1))))]) (L' := []) (by kernel_rfl) (by kernel_rfl) ?_
        exact retQ_mk (by kernel_rfl) (by kernel_rfl) (by kernel_rfl)
end Go.Proofs.Ytmongadolmofnaa.pairOpens
