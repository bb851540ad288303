/- What the functions that BusyBuilds calls compute, as models, and that they compute it: written by a program of mine. -/
import Derived.Test.YtnblafiefaalgaaProg
import Derived.Test.YtnblafiefaalgaaSl6
set_option linter.all false
set_option maxRecDepth 100000
namespace Go.Proofs.Ytnblafiefaalgaa.busyBuilds
open Go Go.Sl
def busy_power_b1 (a0 : Int) (i5 : Int) (x6 : Int) : Option (Flow Int Int) :=
some (.next (w64 (x6 * (w64 ((4 : Int) * (w64 (a0 + (1 : Int))))))))
@[reducible] def busy_power_s2 (a0 : Int) (v : Int × Int) : Fr × LL := ([(0, aI a0), (3, aI v.2), (5, aI (w64 ((2 : Int) * a0))), (6, aI v.1)], [])
@[reducible] def busy_power_s3 (v : Int) : Fr × LL := ([(3, aI v)], [])
def busy_power (a0 : Int) : Option Int :=
(forI (0 : Int) (w64 ((2 : Int) * a0)) (busy_power_b1 a0) (fun x6 => x6) (1 : Int)).bind fun v10 =>
some v10
theorem busy_power_ok {a0 : Int} {r : Int} (h : busy_power a0 = some r) : FnC Try.prog 53 [aI a0] [] (aI r) [] := by
  refine fnC_of_W (B := bodyOf Try.f53) (n := 15) Try.func53 (by kernel_rfl) (by kernel_rfl) (by kernel_rfl) (by kernel_rfl) (by kernel_rfl) ?_
  intro K
  refine W_seq (by kernel_rfl) ?_
  refine W_run 1 [] [0] [] (fr' := [(0, aI a0)]) (L' := []) (obs := []) (by kernel_rfl) (by kernel_rfl) (by kernel_rfl) allP0 ?_
  refine seqQ_norm ?_
  refine W_seq (by kernel_rfl) ?_
  refine W_run 1 [] [0, 3] [] (fr' := [(0, aI a0), (3, aI (1 : Int))]) (L' := []) (obs := []) (by kernel_rfl) (by kernel_rfl) (by kernel_rfl) allP0 ?_
  refine seqQ_norm ?_
  refine W_seq (by kernel_rfl) ?_
  refine W_seq (by kernel_rfl) ?_
  refine W_run 3 [] [0, 3, 5, 6] [] (fr' := [(0, aI a0), (3, aI (1 : Int)), (5, aI (w64 ((2 : Int) * a0))), (6, aI (0 : Int))]) (L' := []) (obs := []) (by kernel_rfl) (by kernel_rfl) (by kernel_rfl) allP0 ?_
  refine seqQ_norm ?_
  refine W_block (id := 0) (by kernel_rfl) ?_
  obtain ⟨v10, h11, h⟩ := bind_of h
  obtain ⟨h12, h13⟩ := forI_iter h11
  refine W_weaken [0, 3, 5, 6] [] (fr' := ((busy_power_s2 a0) ((0 : Int), (1 : Int))).1) (L' := ((busy_power_s2 a0) ((0 : Int), (1 : Int))).2) (by kernel_rfl) ?_
  refine W_cutK (W_loop (S := (busy_power_s2 a0)) (J := (exQ (.exit 0) busy_power_s3)) (by kernel_rfl) ?_ h12 _ v10 h13) ?_
  · rintro ⟨i5, x6⟩ s h
    refine W_seq (by kernel_rfl) ?_
    refine W_run 1 [] [0, 3, 5, 6, 7] [] (fr' := [(0, aI a0), (3, aI x6), (5, aI (w64 ((2 : Int) * a0))), (6, aI i5), (7, aB (decide (i5 < (w64 ((2 : Int) * a0)))))]) (L' := []) (obs := []) (by kernel_rfl) (by kernel_rfl) (by kernel_rfl) allP0 ?_
    refine seqQ_norm ?_
    refine W_seq (by kernel_rfl) ?_
    refine W_cond (o := .tmp 7) (b := decide (i5 < (w64 ((2 : Int) * a0)))) (by kernel_rfl) (by kernel_rfl) (fun h8 => ?_) (fun h8 => ?_)
    · replace h := stepI_true h8 h
      obtain ⟨_, h, rfl⟩ := h
      refine W_skip [0, 3, 5, 6] [] (fr' := [(0, aI a0), (3, aI x6), (5, aI (w64 ((2 : Int) * a0))), (6, aI i5)]) (L' := []) (by kernel_rfl) (by kernel_rfl) ?_
      refine seqQ_norm ?_
      refine W_seq (by kernel_rfl) ?_
      refine W_block (id := 1) (by kernel_rfl) ?_
      refine W_run 6 [] [0, 3, 5, 6] [] (fr' := [(0, aI a0), (3, aI (w64 (x6 * (w64 ((4 : Int) * (w64 (a0 + (1 : Int)))))))), (5, aI (w64 ((2 : Int) * a0))), (6, aI i5)]) (L' := []) (obs := []) (by kernel_rfl) (by kernel_rfl) (by kernel_rfl) allP0 ?_
      refine blockQ_norm ?_
      refine seqQ_norm ?_
      obtain rfl := Option.some.inj h
      refine W_run 2 [] [0, 3, 5, 6] [] (fr' := [(0, aI a0), (3, aI (w64 (x6 * (w64 ((4 : Int) * (w64 (a0 + (1 : Int)))))))), (5, aI (w64 ((2 : Int) * a0))), (6, aI (w64 (i5 + (1 : Int))))]) (L' := []) (obs := []) (by kernel_rfl) (by kernel_rfl) (by kernel_rfl) allP0 ?_
      exact round_next' (by kernel_rfl) (by kernel_rfl)
    · obtain rfl := stepI_false h8 h
      refine W_exit (id := 0) [3] [] (fr' := [(3, aI x6)]) (L' := []) (by kernel_rfl) (by kernel_rfl) ?_
      refine seqQ_exit ?_
      refine round_exit ?_
      exact exQ_mk (by kernel_rfl) (by kernel_rfl)
  · intro e fr L hJ
    obtain ⟨rfl, rfl, rfl⟩ := hJ
    refine LT_keep [3] [] (fr' := [(3, aI v10)]) (L' := []) (by kernel_rfl) ?_
    refine blockQ_hit ?_
    refine seqQ_norm ?_
    refine W_seq (by kernel_rfl) ?_
    refine W_run 2 [] [2] [] (fr' := [(2, aI v10)]) (L' := []) (obs := []) (by kernel_rfl) (by kernel_rfl) (by kernel_rfl) allP0 ?_
    refine seqQ_norm ?_
    obtain rfl := Option.some.inj h
    refine W_ret [2] [] (fr' := [(2, aI v10)]) (L' := []) (by kernel_rfl) (by kernel_rfl) ?_
    exact retQ_mk (by kernel_rfl) (by kernel_rfl) (by kernel_rfl)

def busy_Build_b1 (i23 : Int) (x24 : (List (List (Int × (Int × Int))))) : Option (Flow (List (List (Int × (Int × Int)))) (List (List (Int × (Int × Int))))) :=
(ck ((List.length x24 : Int) + 1 ≤ 4294967296)).bind fun _ =>
some (.next (List.set ((x24 : (List (List (Int × (Int × Int))))) ++ [([] : List (Int × (Int × Int)))]) (Int.toNat (List.length x24 : Int)) (List.replicate (Int.toNat (2 : Int)) ((0 : Int), (0 : Int), (0 : Int)))))
@[reducible] def busy_Build_s2 (a0 : Int) (a1 : Int) (v : Int × (List (List (Int × (Int × Int))))) : Fr × LL := ([(0, aI a0), (1, aI a1), (4, .one (.ptr 4 0)), (6, .one (.ptr 6 0)), (27, aI a0), (28, aI v.1)], [(4, .cells [.dat tI (0 : Int), .dat tI (0 : Int), .nilS]), (6, .cells [.dat tI a0, .dat tI (2 : Int), .slc 34]), (34, .rows 0 (.slice (.pair tI (.pair tI tI))) v.2 [])])
@[reducible] def busy_Build_s3 (a0 : Int) (a1 : Int) (v : (List (List (Int × (Int × Int))))) : Fr × LL := ([(0, aI a0), (1, aI a1), (4, .one (.ptr 4 0)), (6, .one (.ptr 6 0))], [(4, .cells [.dat tI (0 : Int), .dat tI (0 : Int), .nilS]), (6, .cells [.dat tI a0, .dat tI (2 : Int), .slc 34]), (34, .rows 0 (.slice (.pair tI (.pair tI tI))) v [])])
def busy_Build_b4 (a0 : Int) (x43 : (Int × Int × (List (List (Int × (Int × Int)))))) : Option (Flow (Int × Int × (List (List (Int × (Int × Int))))) (List (List (Int × (Int × Int))))) :=
bif decide (x43.2.1 ≥ (0 : Int)) then
((ck (w64 ((4 : Int) * (w64 (a0 + (1 : Int)))) ≠ 0)).bind fun _ =>
(idx x43.2.2 (w64 (Int.tdiv x43.2.1 (2 : Int)))).bind fun v57 =>
(ck (w64 (a0 + (1 : Int)) ≠ 0)).bind fun _ =>
(idx v57 (Int.tmod x43.2.1 (2 : Int))).bind fun v60 =>
some (.next (w64 (Int.tdiv x43.1 (w64 ((4 : Int) * (w64 (a0 + (1 : Int)))))), w64 (x43.2.1 - (1 : Int)), List.set x43.2.2 (Int.toNat (w64 (Int.tdiv x43.2.1 (2 : Int)))) (List.set v57 (Int.toNat (Int.tmod x43.2.1 (2 : Int))) (w64 (Int.tdiv (w64 (Int.tdiv (Int.tmod x43.1 (w64 ((4 : Int) * (w64 (a0 + (1 : Int)))))) (w64 (a0 + (1 : Int))))) (2 : Int)), w64 ((w64 ((Int.tmod (w64 (Int.tdiv (Int.tmod x43.1 (w64 ((4 : Int) * (w64 (a0 + (1 : Int)))))) (w64 (a0 + (1 : Int))))) (2 : Int)) * (2 : Int))) - (1 : Int)), Int.tmod (Int.tmod x43.1 (w64 ((4 : Int) * (w64 (a0 + (1 : Int)))))) (w64 (a0 + (1 : Int))))))))
else
(some (.done x43.2.2))
@[reducible] def busy_Build_s5 (a0 : Int) (v : (Int × Int × (List (List (Int × (Int × Int)))))) : Fr × LL := ([(0, aI a0), (1, aI v.1), (4, .one (.ptr 4 0)), (6, .one (.ptr 6 0)), (7, aI v.2.1)], [(4, .cells [.dat tI (0 : Int), .dat tI (0 : Int), .nilS]), (6, .cells [.dat tI a0, .dat tI (2 : Int), .slc 34]), (34, .rows 0 (.slice (.pair tI (.pair tI tI))) v.2.2 [])])
@[reducible] def busy_Build_s6 (a0 : Int) (v : (List (List (Int × (Int × Int))))) : Fr × LL := ([(4, .one (.ptr 4 0)), (6, .one (.ptr 6 0))], [(4, .cells [.dat tI (0 : Int), .dat tI (0 : Int), .nilS]), (6, .cells [.dat tI a0, .dat tI (2 : Int), .slc 34]), (34, .rows 0 (.slice (.pair tI (.pair tI tI))) v [])])
@[reducible] def busy_Build_s7 (a0 : Int) (a1 : Int) (v : Bool) : Fr × LL := ([(0, aI a0), (1, aI a1), (4, .one (.ptr 4 0)), (23, aB v)], [(4, .cells [.dat tI (0 : Int), .dat tI (0 : Int), .nilS])])
def busy_Build (fuel : Nat) (a0 : Int) (a1 : Int) : Option ((Int × (Int × (List (List (Int × (Int × Int)))))) × Int) :=
bif (decide (a0 < (1 : Int))) || (decide (a0 > (2 : Int))) then
(some (((0 : Int), (0 : Int), []), (1 : Int)))
else
((bif decide (a1 < (0 : Int)) then
(some true)
else
((busy_power a0).bind fun r9 =>
some (decide (a1 ≥ r9)))).bind fun v11 =>
bif v11 then
(some (((0 : Int), (0 : Int), []), (4 : Int)))
else
((forI (0 : Int) a0 busy_Build_b1 (fun x24 => x24) []).bind fun v29 =>
(iter (busy_Build_b4 a0) fuel (a1, w64 ((w64 ((2 : Int) * a0)) - (1 : Int)), v29)).bind fun v62 =>
some ((a0, (2 : Int), v62), (0 : Int))))
theorem busy_Build_ok {fuel : Nat} {a0 : Int} {a1 : Int} {r : ((Int × (Int × (List (List (Int × (Int × Int)))))) × Int)} (h : busy_Build fuel a0 a1 = some r) : FnC Try.prog 15 [aI a0, aI a1] [] (.tup [.dat (.pair tI (.pair tI (.slice (.slice (.pair tI (.pair tI tI)))))) r.1, .dat tI r.2]) [] := by
  refine fnC_of_W (B := bodyOf Try.f15) (n := 81) Try.func15 (by kernel_rfl) (by kernel_rfl) (by kernel_rfl) (by kernel_rfl) (by kernel_rfl) ?_
  intro K
  refine W_seq (by kernel_rfl) ?_
  refine W_run 2 [] [0, 1, 4] [4] (fr' := [(0, aI a0), (1, aI a1), (4, .one (.ptr 4 0))]) (L' := [(4, .cells [.dat tI (0 : Int), .dat tI (0 : Int), .nilS])]) (obs := []) (by kernel_rfl) (by kernel_rfl) (by kernel_rfl) allP0 ?_
  refine seqQ_norm ?_
  refine W_seq (by kernel_rfl) ?_
  refine W_seq (by kernel_rfl) ?_
  refine W_run 6 [] [0, 1, 4, 14] [4] (fr' := [(0, aI a0), (1, aI a1), (4, .one (.ptr 4 0)), (14, aB ((decide (a0 < (1 : Int))) || (decide (a0 > (2 : Int)))))]) (L' := [(4, .cells [.dat tI (0 : Int), .dat tI (0 : Int), .nilS])]) (obs := []) (by kernel_rfl) (by kernel_rfl) (by kernel_rfl) allP0 ?_
  refine seqQ_norm ?_
  refine W_cond (o := .tmp 14) (b := (decide (a0 < (1 : Int))) || (decide (a0 > (2 : Int)))) (by kernel_rfl) (by kernel_rfl) (fun h1 => ?_) (fun h1 => ?_)
  · replace h := ofT h1 h
    refine W_seq (by kernel_rfl) ?_
    refine W_run 3 [(1, .val .nilP)] [4, 5] [4] (fr' := [(4, .one (.ptr 4 0)), (5, aI (1 : Int))]) (L' := [(4, .cells [.dat tI (0 : Int), .dat tI (0 : Int), .nilS])]) (obs := [True]) (by kernel_rfl) (by kernel_rfl) (by kernel_rfl) (allP1 trivial) ?_
    refine seqQ_norm ?_
    obtain rfl := Option.some.inj h
    refine W_pack 4 (.pair tI (.pair tI (.slice (.slice (.pair tI (.pair tI tI)))))) (by kernel_rfl) ?_
    refine W_ret [4, 5] [4] (fr' := [(4, .one (.ptr 4 0)), (5, aI (1 : Int))]) (L' := [(4, .one (.pair tI (.pair tI (.slice (.slice (.pair tI (.pair tI tI)))))) ((0 : Int), (0 : Int), []))]) (by kernel_rfl) (by kernel_rfl) ?_
    refine seqQ_ret ?_
    exact retQ_mk (by kernel_rfl) (by kernel_rfl) (by kernel_rfl)
  · replace h := ofF h1 h
    refine W_skip [0, 1, 4] [4] (fr' := [(0, aI a0), (1, aI a1), (4, .one (.ptr 4 0))]) (L' := [(4, .cells [.dat tI (0 : Int), .dat tI (0 : Int), .nilS])]) (by kernel_rfl) (by kernel_rfl) ?_
    refine seqQ_norm ?_
    refine W_seq (by kernel_rfl) ?_
    refine W_seq (by kernel_rfl) ?_
    obtain ⟨v11, h12, h⟩ := bind_of h
    refine W_cutK (Q' := (exQ .normal (busy_Build_s7 a0 a1)) v11) ?_ ?_
    · replace h := h12
      refine W_region (by kernel_rfl) ?_
      refine WO_run (j := 3) (k := 3) (orcs := []) (kF := [0, 1, 4, 18]) (kL := [4]) (fr' := [(0, aI a0), (1, aI a1), (4, .one (.ptr 4 0)), (18, aB (decide (a1 < (0 : Int))))]) (L' := [(4, .cells [.dat tI (0 : Int), .dat tI (0 : Int), .nilS])]) (obs := []) rfl (by kernel_rfl) allP0 ?_
      rcases Bool.eq_false_or_eq_true (decide (a1 < (0 : Int))) with h8 | h8
      · replace h := ofT h8 h
        refine WO_run (j := 8) (k := 5) (orcs := [(6, .known true), (8, .known true), (10, .known true), (12, .known true), (15, .val (.dat .bool true))]) (kF := [0, 1, 4, 23]) (kL := [4]) (fr' := [(0, aI a0), (1, aI a1), (4, .one (.ptr 4 0)), (23, aB true)]) (L' := [(4, .cells [.dat tI (0 : Int), .dat tI (0 : Int), .nilS])]) (obs := [((decide (a1 < (0 : Int))) = true), ((decide (a1 < (0 : Int))) = true), ((decide (a1 < (0 : Int))) = true), ((decide (a1 < (0 : Int))) = true), ((decide (a1 < (0 : Int))) = true)]) rfl (by kernel_rfl) (allP2 h8 (allP2 h8 (allP2 h8 (allP2 h8 (allP1 h8))))) ?_
        obtain rfl := Option.some.inj h
        refine WO_fin [0, 1, 4, 23] [4] (fr' := [(0, aI a0), (1, aI a1), (4, .one (.ptr 4 0)), (23, aB true)]) (L' := [(4, .cells [.dat tI (0 : Int), .dat tI (0 : Int), .nilS])]) (by kernel_rfl) (by kernel_rfl) ?_
        exact exQ_mk (by kernel_rfl) (by kernel_rfl)
      · replace h := ofF h8 h
        refine WO_run (j := 5) (k := 2) (orcs := [(6, .known false), (8, .known false)]) (kF := [0, 1, 4, 18, 19, 20]) (kL := [4]) (fr' := [(0, aI a0), (1, aI a1), (4, .one (.ptr 4 0)), (18, aB (decide (a1 < (0 : Int)))), (19, aI a1), (20, aI a0)]) (L' := [(4, .cells [.dat tI (0 : Int), .dat tI (0 : Int), .nilS])]) (obs := [((decide (a1 < (0 : Int))) = false), ((decide (a1 < (0 : Int))) = false)]) rfl (by kernel_rfl) (allP2 h8 (allP1 h8)) ?_
        obtain ⟨r9, h10, h⟩ := bind_of h
        refine WO_call0 (us := [none]) (d := 21) (p := ((decide (a1 < (0 : Int))) = false)) (j := 6) rfl ⟨by kernel_rfl, by kernel_rfl, by kernel_rfl⟩ h8 (busy_power_ok h10) (by kernel_rfl) ?_
        refine WO_run (j := 8) (k := 2) (orcs := [(12, .known false), (15, .val (.dat .bool false))]) (kF := [0, 1, 4, 23]) (kL := [4]) (fr' := [(0, aI a0), (1, aI a1), (4, .one (.ptr 4 0)), (23, aB (decide (a1 ≥ r9)))]) (L' := [(4, .cells [.dat tI (0 : Int), .dat tI (0 : Int), .nilS])]) (obs := [((decide (a1 < (0 : Int))) = false), ((decide (a1 < (0 : Int))) = false)]) rfl (by kernel_rfl) (allP2 h8 (allP1 h8)) ?_
        obtain rfl := Option.some.inj h
        refine WO_fin [0, 1, 4, 23] [4] (fr' := [(0, aI a0), (1, aI a1), (4, .one (.ptr 4 0)), (23, aB (decide (a1 ≥ r9)))]) (L' := [(4, .cells [.dat tI (0 : Int), .dat tI (0 : Int), .nilS])]) (by kernel_rfl) (by kernel_rfl) ?_
        exact exQ_mk (by kernel_rfl) (by kernel_rfl)
    · intro e fr L hJ
      obtain ⟨rfl, rfl, rfl⟩ := hJ
      refine LT_keep [0, 1, 4, 23] [4] (fr' := [(0, aI a0), (1, aI a1), (4, .one (.ptr 4 0)), (23, aB v11)]) (L' := [(4, .cells [.dat tI (0 : Int), .dat tI (0 : Int), .nilS])]) (by kernel_rfl) ?_
      refine seqQ_norm ?_
      refine W_cond (o := .tmp 23) (b := v11) (by kernel_rfl) (by kernel_rfl) (fun h13 => ?_) (fun h13 => ?_)
      · replace h := ofT h13 h
        refine W_seq (by kernel_rfl) ?_
        refine W_run 3 [(1, .val .nilP)] [4, 5] [4] (fr' := [(4, .one (.ptr 4 0)), (5, aI (4 : Int))]) (L' := [(4, .cells [.dat tI (0 : Int), .dat tI (0 : Int), .nilS])]) (obs := [True]) (by kernel_rfl) (by kernel_rfl) (by kernel_rfl) (allP1 trivial) ?_
        refine seqQ_norm ?_
        obtain rfl := Option.some.inj h
        refine W_pack 4 (.pair tI (.pair tI (.slice (.slice (.pair tI (.pair tI tI)))))) (by kernel_rfl) ?_
        refine W_ret [4, 5] [4] (fr' := [(4, .one (.ptr 4 0)), (5, aI (4 : Int))]) (L' := [(4, .one (.pair tI (.pair tI (.slice (.slice (.pair tI (.pair tI tI)))))) ((0 : Int), (0 : Int), []))]) (by kernel_rfl) (by kernel_rfl) ?_
        refine seqQ_ret ?_
        exact retQ_mk (by kernel_rfl) (by kernel_rfl) (by kernel_rfl)
      · replace h := ofF h13 h
        refine W_skip [0, 1, 4] [4] (fr' := [(0, aI a0), (1, aI a1), (4, .one (.ptr 4 0))]) (L' := [(4, .cells [.dat tI (0 : Int), .dat tI (0 : Int), .nilS])]) (by kernel_rfl) (by kernel_rfl) ?_
        refine seqQ_norm ?_
        refine W_seq (by kernel_rfl) ?_
        refine W_run 4 [(3, .val .nilP)] [0, 1, 4, 6] [4, 6] (fr' := [(0, aI a0), (1, aI a1), (4, .one (.ptr 4 0)), (6, .one (.ptr 6 0))]) (L' := [(4, .cells [.dat tI (0 : Int), .dat tI (0 : Int), .nilS]), (6, .cells [.dat tI a0, .dat tI (2 : Int), .nilS])]) (obs := [True]) (by kernel_rfl) (by kernel_rfl) (by kernel_rfl) (allP1 trivial) ?_
        refine seqQ_norm ?_
        refine W_seq (by kernel_rfl) ?_
        refine W_seq (by kernel_rfl) ?_
        refine W_run 2 [] [0, 1, 4, 6, 27, 28] [4, 6] (fr' := [(0, aI a0), (1, aI a1), (4, .one (.ptr 4 0)), (6, .one (.ptr 6 0)), (27, aI a0), (28, aI (0 : Int))]) (L' := [(4, .cells [.dat tI (0 : Int), .dat tI (0 : Int), .nilS]), (6, .cells [.dat tI a0, .dat tI (2 : Int), .nilS])]) (obs := []) (by kernel_rfl) (by kernel_rfl) (by kernel_rfl) allP0 ?_
        refine seqQ_norm ?_
        refine W_block (id := 0) (by kernel_rfl) ?_
        obtain ⟨v29, h30, h⟩ := bind_of h
        obtain ⟨h31, h32⟩ := forI_iter h30
        refine W_cellownR 6 2 34 0 (.slice (.pair tI (.pair tI tI))) (by kernel_rfl) ?_
        refine W_weaken [0, 1, 4, 6, 27, 28] [4, 6, 34] (fr' := ((busy_Build_s2 a0 a1) ((0 : Int), [])).1) (L' := ((busy_Build_s2 a0 a1) ((0 : Int), [])).2) (by kernel_rfl) ?_
        refine W_cutK (W_loop (S := (busy_Build_s2 a0 a1)) (J := (exQ (.exit 0) (busy_Build_s3 a0 a1))) (by kernel_rfl) ?_ h31 _ v29 h32) ?_
        · rintro ⟨i23, x24⟩ s h
          refine W_seq (by kernel_rfl) ?_
          refine W_run 1 [] [0, 1, 4, 6, 27, 28, 29] [4, 6, 34] (fr' := [(0, aI a0), (1, aI a1), (4, .one (.ptr 4 0)), (6, .one (.ptr 6 0)), (27, aI a0), (28, aI i23), (29, aB (decide (i23 < a0)))]) (L' := [(4, .cells [.dat tI (0 : Int), .dat tI (0 : Int), .nilS]), (6, .cells [.dat tI a0, .dat tI (2 : Int), .slc 34]), (34, .rows 0 (.slice (.pair tI (.pair tI tI))) x24 [])]) (obs := []) (by kernel_rfl) (by kernel_rfl) (by kernel_rfl) allP0 ?_
          refine seqQ_norm ?_
          refine W_seq (by kernel_rfl) ?_
          refine W_cond (o := .tmp 29) (b := decide (i23 < a0)) (by kernel_rfl) (by kernel_rfl) (fun h26 => ?_) (fun h26 => ?_)
          · replace h := stepI_true h26 h
            obtain ⟨_, h, rfl⟩ := h
            refine W_skip [0, 1, 4, 6, 27, 28] [4, 6, 34] (fr' := [(0, aI a0), (1, aI a1), (4, .one (.ptr 4 0)), (6, .one (.ptr 6 0)), (27, aI a0), (28, aI i23)]) (L' := [(4, .cells [.dat tI (0 : Int), .dat tI (0 : Int), .nilS]), (6, .cells [.dat tI a0, .dat tI (2 : Int), .slc 34]), (34, .rows 0 (.slice (.pair tI (.pair tI tI))) x24 [])]) (by kernel_rfl) (by kernel_rfl) ?_
            refine seqQ_norm ?_
            refine W_seq (by kernel_rfl) ?_
            refine W_block (id := 1) (by kernel_rfl) ?_
            refine W_drawC5 4 [(2, [32], [(32, .seq (.pair tI (.pair tI tI)) (List.replicate (Int.toNat (2 : Int)) ((0 : Int), (0 : Int), (0 : Int))))]), (3, [33], [(33, .rows 0 (.slice (.pair tI (.pair tI tI))) [([] : List (Int × (Int × Int)))] [((0 : Int), true, .slc 32)])])] [] [(2, .one (.slc 32)), (3, .one (.slc 33))] [] [] [0, 1, 4, 6, 27, 28, 31, 33] [4, 6, 32, 33, 34] (out := [(30, .one (.ptr 6 2)), (31, .one (.slc 34)), (32, .one (.slc 32)), (33, .one (.slc 33))]) (obs := []) (calls := []) (fr' := [(0, aI a0), (1, aI a1), (4, .one (.ptr 4 0)), (6, .one (.ptr 6 0)), (27, aI a0), (28, aI i23), (31, .one (.slc 34)), (33, .one (.slc 33))]) (L' := [(4, .cells [.dat tI (0 : Int), .dat tI (0 : Int), .nilS]), (6, .cells [.dat tI a0, .dat tI (2 : Int), .slc 34]), (32, .seq (.pair tI (.pair tI tI)) (List.replicate (Int.toNat (2 : Int)) ((0 : Int), (0 : Int), (0 : Int)))), (33, .rows 0 (.slice (.pair tI (.pair tI tI))) [([] : List (Int × (Int × Int)))] [((0 : Int), true, .slc 32)]), (34, .rows 0 (.slice (.pair tI (.pair tI tI))) x24 [])]) (by kernel_rfl) (by kernel_rfl) (by kernel_rfl) (by kernel_rfl) (by kernel_rfl) allP0 allD0 (chDo (ty := false) (d := 32) (nm := 32) (ob := .seq (.pair tI (.pair tI tI)) (List.replicate (Int.toNat (2 : Int)) ((0 : Int), (0 : Int), (0 : Int)))) (av := .one (.slc 32)) (p := 0 ≤ (2 : Int) ∧ (2 : Int) = (2 : Int) ∧ SmallLen (2 : Int)) (by kernel_rfl) (by unfold SmallLen; decide) (by kernel_rfl) (chDo (ty := false) (d := 33) (nm := 33) (ob := .rows 0 (.slice (.pair tI (.pair tI tI))) [([] : List (Int × (Int × Int)))] [((0 : Int), true, .slc 32)]) (av := .one (.slc 33)) (p := True) (by kernel_rfl) trivial (by kernel_rfl) chNil)) mkNil (by kernel_rfl) ?_
            obtain ⟨_, h27, h⟩ := bind_of h
            replace h27 := ck_some h27
            refine WO_run (j := 7) (k := 3) (orcs := []) (kF := [0, 1, 4, 6, 27, 28]) (kL := [4, 6, 32, 34]) (fr' := [(0, aI a0), (1, aI a1), (4, .one (.ptr 4 0)), (6, .one (.ptr 6 0)), (27, aI a0), (28, aI i23)]) (L' := [(4, .cells [.dat tI (0 : Int), .dat tI (0 : Int), .nilS]), (6, .cells [.dat tI a0, .dat tI (2 : Int), .slc 34]), (32, .seq (.pair tI (.pair tI tI)) (List.replicate (Int.toNat (2 : Int)) ((0 : Int), (0 : Int), (0 : Int)))), (34, .rows 0 (.slice (.pair tI (.pair tI tI))) ((x24 : (List (List (Int × (Int × Int))))) ++ [([] : List (Int × (Int × Int)))]) [((List.length x24 : Int), true, .slc 32)])]) (obs := [SmallLen (List.length x24 + 1), True]) rfl (by kernel_rfl) (allP2 h27 (allP1 trivial)) ?_
            refine WO_give 34 (List.length x24 : Int) [true] (p := InR (List.length x24 : Int) (List.length ((x24 : (List (List (Int × (Int × Int))))) ++ [([] : List (Int × (Int × Int)))])) ∧ (List.length x24 : Int) = (List.length x24 : Int)) (by kernel_rfl) ⟨(InR.last x24 [([] : List (Int × (Int × Int)))] (Nat.succ_pos _)), rfl⟩ ?_
            refine WO_fin [0, 1, 4, 6, 27, 28] [4, 6, 34] (fr' := [(0, aI a0), (1, aI a1), (4, .one (.ptr 4 0)), (6, .one (.ptr 6 0)), (27, aI a0), (28, aI i23)]) (L' := [(4, .cells [.dat tI (0 : Int), .dat tI (0 : Int), .nilS]), (6, .cells [.dat tI a0, .dat tI (2 : Int), .slc 34]), (34, .rows 0 (.slice (.pair tI (.pair tI tI))) (List.set ((x24 : (List (List (Int × (Int × Int))))) ++ [([] : List (Int × (Int × Int)))]) (Int.toNat (List.length x24 : Int)) (List.replicate (Int.toNat (2 : Int)) ((0 : Int), (0 : Int), (0 : Int)))) [])]) (by kernel_rfl) (by kernel_rfl) ?_
            refine ⟨rfl, ?_⟩
            refine blockQ_norm ?_
            refine seqQ_norm ?_
            obtain rfl := Option.some.inj h
            refine W_run 2 [] [0, 1, 4, 6, 27, 28] [4, 6, 34] (fr' := [(0, aI a0), (1, aI a1), (4, .one (.ptr 4 0)), (6, .one (.ptr 6 0)), (27, aI a0), (28, aI (w64 (i23 + (1 : Int))))]) (L' := [(4, .cells [.dat tI (0 : Int), .dat tI (0 : Int), .nilS]), (6, .cells [.dat tI a0, .dat tI (2 : Int), .slc 34]), (34, .rows 0 (.slice (.pair tI (.pair tI tI))) (List.set ((x24 : (List (List (Int × (Int × Int))))) ++ [([] : List (Int × (Int × Int)))]) (Int.toNat (List.length x24 : Int)) (List.replicate (Int.toNat (2 : Int)) ((0 : Int), (0 : Int), (0 : Int)))) [])]) (obs := []) (by kernel_rfl) (by kernel_rfl) (by kernel_rfl) allP0 ?_
            exact round_next' (by kernel_rfl) (by kernel_rfl)
          · obtain rfl := stepI_false h26 h
            refine W_exit (id := 0) [0, 1, 4, 6] [4, 6, 34] (fr' := [(0, aI a0), (1, aI a1), (4, .one (.ptr 4 0)), (6, .one (.ptr 6 0))]) (L' := [(4, .cells [.dat tI (0 : Int), .dat tI (0 : Int), .nilS]), (6, .cells [.dat tI a0, .dat tI (2 : Int), .slc 34]), (34, .rows 0 (.slice (.pair tI (.pair tI tI))) x24 [])]) (by kernel_rfl) (by kernel_rfl) ?_
            refine seqQ_exit ?_
            refine round_exit ?_
            exact exQ_mk (by kernel_rfl) (by kernel_rfl)
        · intro e fr L hJ
          obtain ⟨rfl, rfl, rfl⟩ := hJ
          refine LT_keep [0, 1, 4, 6] [4, 6, 34] (fr' := [(0, aI a0), (1, aI a1), (4, .one (.ptr 4 0)), (6, .one (.ptr 6 0))]) (L' := [(4, .cells [.dat tI (0 : Int), .dat tI (0 : Int), .nilS]), (6, .cells [.dat tI a0, .dat tI (2 : Int), .slc 34]), (34, .rows 0 (.slice (.pair tI (.pair tI tI))) v29 [])]) (by kernel_rfl) ?_
          refine blockQ_hit ?_
          refine seqQ_norm ?_
          refine W_seq (by kernel_rfl) ?_
          refine W_seq (by kernel_rfl) ?_
          refine W_run 4 [] [0, 1, 4, 6, 7] [4, 6, 34] (fr' := [(0, aI a0), (1, aI a1), (4, .one (.ptr 4 0)), (6, .one (.ptr 6 0)), (7, aI (w64 ((w64 ((2 : Int) * a0)) - (1 : Int))))]) (L' := [(4, .cells [.dat tI (0 : Int), .dat tI (0 : Int), .nilS]), (6, .cells [.dat tI a0, .dat tI (2 : Int), .slc 34]), (34, .rows 0 (.slice (.pair tI (.pair tI tI))) v29 [])]) (obs := []) (by kernel_rfl) (by kernel_rfl) (by kernel_rfl) allP0 ?_
          refine seqQ_norm ?_
          refine W_block (id := 2) (by kernel_rfl) ?_
          obtain ⟨v62, h63, h⟩ := bind_of h
          refine W_weaken [0, 1, 4, 6, 7] [4, 6, 34] (fr' := ((busy_Build_s5 a0) (a1, w64 ((w64 ((2 : Int) * a0)) - (1 : Int)), v29)).1) (L' := ((busy_Build_s5 a0) (a1, w64 ((w64 ((2 : Int) * a0)) - (1 : Int)), v29)).2) (by kernel_rfl) ?_
          refine W_cutK (W_loop (S := (busy_Build_s5 a0)) (J := (exQ (.exit 2) (busy_Build_s6 a0))) (by kernel_rfl) ?_ fuel _ v62 h63) ?_
          · rintro x43 s h
            refine W_seq (by kernel_rfl) ?_
            refine W_seq (by kernel_rfl) ?_
            refine W_run 2 [] [0, 1, 4, 6, 7, 41] [4, 6, 34] (fr' := [(0, aI a0), (1, aI x43.1), (4, .one (.ptr 4 0)), (6, .one (.ptr 6 0)), (7, aI x43.2.1), (41, aB (decide (x43.2.1 ≥ (0 : Int))))]) (L' := [(4, .cells [.dat tI (0 : Int), .dat tI (0 : Int), .nilS]), (6, .cells [.dat tI a0, .dat tI (2 : Int), .slc 34]), (34, .rows 0 (.slice (.pair tI (.pair tI tI))) x43.2.2 [])]) (obs := []) (by kernel_rfl) (by kernel_rfl) (by kernel_rfl) allP0 ?_
            refine seqQ_norm ?_
            refine W_cond (o := .tmp 41) (b := decide (x43.2.1 ≥ (0 : Int))) (by kernel_rfl) (by kernel_rfl) (fun h53 => ?_) (fun h53 => ?_)
            · replace h := ofT h53 h
              refine W_skip [0, 1, 4, 6, 7] [4, 6, 34] (fr' := [(0, aI a0), (1, aI x43.1), (4, .one (.ptr 4 0)), (6, .one (.ptr 6 0)), (7, aI x43.2.1)]) (L' := [(4, .cells [.dat tI (0 : Int), .dat tI (0 : Int), .nilS]), (6, .cells [.dat tI a0, .dat tI (2 : Int), .slc 34]), (34, .rows 0 (.slice (.pair tI (.pair tI tI))) x43.2.2 [])]) (by kernel_rfl) (by kernel_rfl) ?_
              refine seqQ_norm ?_
              refine W_seq (by kernel_rfl) ?_
              refine W_block (id := 3) (by kernel_rfl) ?_
              refine W_seq (by kernel_rfl) ?_
              obtain ⟨_, h54, h⟩ := bind_of h
              replace h54 := ck_some h54
              refine W_run 6 [] [0, 1, 4, 6, 7, 8] [4, 6, 34] (fr' := [(0, aI a0), (1, aI x43.1), (4, .one (.ptr 4 0)), (6, .one (.ptr 6 0)), (7, aI x43.2.1), (8, aI (Int.tmod x43.1 (w64 ((4 : Int) * (w64 (a0 + (1 : Int)))))))]) (L' := [(4, .cells [.dat tI (0 : Int), .dat tI (0 : Int), .nilS]), (6, .cells [.dat tI a0, .dat tI (2 : Int), .slc 34]), (34, .rows 0 (.slice (.pair tI (.pair tI tI))) x43.2.2 [])]) (obs := [(w64 ((4 : Int) * (w64 (a0 + (1 : Int)))) ≠ 0)]) (by kernel_rfl) (by kernel_rfl) (by kernel_rfl) (allP1 h54) ?_
              refine seqQ_norm ?_
              refine W_seq (by kernel_rfl) ?_
              refine W_run 6 [] [0, 1, 4, 6, 7, 8] [4, 6, 34] (fr' := [(0, aI a0), (1, aI (w64 (Int.tdiv x43.1 (w64 ((4 : Int) * (w64 (a0 + (1 : Int)))))))), (4, .one (.ptr 4 0)), (6, .one (.ptr 6 0)), (7, aI x43.2.1), (8, aI (Int.tmod x43.1 (w64 ((4 : Int) * (w64 (a0 + (1 : Int)))))))]) (L' := [(4, .cells [.dat tI (0 : Int), .dat tI (0 : Int), .nilS]), (6, .cells [.dat tI a0, .dat tI (2 : Int), .slc 34]), (34, .rows 0 (.slice (.pair tI (.pair tI tI))) x43.2.2 [])]) (obs := [(w64 ((4 : Int) * (w64 (a0 + (1 : Int)))) ≠ 0)]) (by kernel_rfl) (by kernel_rfl) (by kernel_rfl) (allP1 h54) ?_
              refine seqQ_norm ?_
              obtain ⟨v57, h58, h⟩ := bind_of h
              refine W_take 34 900 (w64 (Int.tdiv x43.2.1 (2 : Int))) (.dat (.slice (.pair tI (.pair tI tI))) v57) (p := Idx x43.2.2 (w64 (Int.tdiv x43.2.1 (2 : Int))) v57 ∧ True) (by kernel_rfl) ⟨Idx.of h58, trivial⟩ ?_
              obtain ⟨_, h59, h⟩ := bind_of h
              replace h59 := ck_some h59
              refine W_drawC5 25 [] [] [] [(11, .val (.slc 900))] [] [0, 1, 4, 6, 7, 59, 61, 78] [4, 6, 34, 900] (out := [(54, .one (.ptr 6 2)), (55, .one (.slc 34)), (56, aI x43.2.1), (57, aI (w64 (Int.tdiv x43.2.1 (2 : Int)))), (58, .one (.eptr 34 1 (w64 (Int.tdiv x43.2.1 (2 : Int))) 0)), (59, .one (.slc 900)), (60, aI x43.2.1), (61, aI (Int.tmod x43.2.1 (2 : Int))), (62, aI (Int.tmod x43.1 (w64 ((4 : Int) * (w64 (a0 + (1 : Int))))))), (63, aI a0), (64, aI (w64 (a0 + (1 : Int)))), (65, aI (w64 (Int.tdiv (Int.tmod x43.1 (w64 ((4 : Int) * (w64 (a0 + (1 : Int)))))) (w64 (a0 + (1 : Int)))))), (66, aI (w64 (Int.tdiv (w64 (Int.tdiv (Int.tmod x43.1 (w64 ((4 : Int) * (w64 (a0 + (1 : Int)))))) (w64 (a0 + (1 : Int))))) (2 : Int)))), (67, aI (Int.tmod x43.1 (w64 ((4 : Int) * (w64 (a0 + (1 : Int))))))), (68, aI a0), (69, aI (w64 (a0 + (1 : Int)))), (70, aI (w64 (Int.tdiv (Int.tmod x43.1 (w64 ((4 : Int) * (w64 (a0 + (1 : Int)))))) (w64 (a0 + (1 : Int)))))), (71, aI (Int.tmod (w64 (Int.tdiv (Int.tmod x43.1 (w64 ((4 : Int) * (w64 (a0 + (1 : Int)))))) (w64 (a0 + (1 : Int))))) (2 : Int))), (72, aI (w64 ((Int.tmod (w64 (Int.tdiv (Int.tmod x43.1 (w64 ((4 : Int) * (w64 (a0 + (1 : Int)))))) (w64 (a0 + (1 : Int))))) (2 : Int)) * (2 : Int)))), (73, aI (w64 ((w64 ((Int.tmod (w64 (Int.tdiv (Int.tmod x43.1 (w64 ((4 : Int) * (w64 (a0 + (1 : Int)))))) (w64 (a0 + (1 : Int))))) (2 : Int)) * (2 : Int))) - (1 : Int)))), (74, aI (Int.tmod x43.1 (w64 ((4 : Int) * (w64 (a0 + (1 : Int))))))), (75, aI a0), (76, aI (w64 (a0 + (1 : Int)))), (77, aI (Int.tmod (Int.tmod x43.1 (w64 ((4 : Int) * (w64 (a0 + (1 : Int)))))) (w64 (a0 + (1 : Int))))), (78, aD (.pair tI (.pair tI tI)) (w64 (Int.tdiv (w64 (Int.tdiv (Int.tmod x43.1 (w64 ((4 : Int) * (w64 (a0 + (1 : Int)))))) (w64 (a0 + (1 : Int))))) (2 : Int)), w64 ((w64 ((Int.tmod (w64 (Int.tdiv (Int.tmod x43.1 (w64 ((4 : Int) * (w64 (a0 + (1 : Int)))))) (w64 (a0 + (1 : Int))))) (2 : Int)) * (2 : Int))) - (1 : Int)), Int.tmod (Int.tmod x43.1 (w64 ((4 : Int) * (w64 (a0 + (1 : Int)))))) (w64 (a0 + (1 : Int)))))]) (obs := [((2 : Int) ≠ 0), InR (w64 (Int.tdiv x43.2.1 (2 : Int))) (List.length x43.2.2), ((w64 (Int.tdiv x43.2.1 (2 : Int))) = (w64 (Int.tdiv x43.2.1 (2 : Int)))) ∧ InR (w64 (Int.tdiv x43.2.1 (2 : Int))) (List.length x43.2.2), ((2 : Int) ≠ 0), (w64 (a0 + (1 : Int)) ≠ 0), ((2 : Int) ≠ 0), (w64 (a0 + (1 : Int)) ≠ 0), ((2 : Int) ≠ 0), (w64 (a0 + (1 : Int)) ≠ 0)]) (calls := []) (fr' := [(0, aI a0), (1, aI (w64 (Int.tdiv x43.1 (w64 ((4 : Int) * (w64 (a0 + (1 : Int)))))))), (4, .one (.ptr 4 0)), (6, .one (.ptr 6 0)), (7, aI x43.2.1), (59, .one (.slc 900)), (61, aI (Int.tmod x43.2.1 (2 : Int))), (78, aD (.pair tI (.pair tI tI)) (w64 (Int.tdiv (w64 (Int.tdiv (Int.tmod x43.1 (w64 ((4 : Int) * (w64 (a0 + (1 : Int)))))) (w64 (a0 + (1 : Int))))) (2 : Int)), w64 ((w64 ((Int.tmod (w64 (Int.tdiv (Int.tmod x43.1 (w64 ((4 : Int) * (w64 (a0 + (1 : Int)))))) (w64 (a0 + (1 : Int))))) (2 : Int)) * (2 : Int))) - (1 : Int)), Int.tmod (Int.tmod x43.1 (w64 ((4 : Int) * (w64 (a0 + (1 : Int)))))) (w64 (a0 + (1 : Int)))))]) (L' := [(4, .cells [.dat tI (0 : Int), .dat tI (0 : Int), .nilS]), (6, .cells [.dat tI a0, .dat tI (2 : Int), .slc 34]), (34, .rows 0 (.slice (.pair tI (.pair tI tI))) x43.2.2 [(w64 (Int.tdiv x43.2.1 (2 : Int)), true, .slc 900)]), (900, .seq (.pair tI (.pair tI tI)) v57)]) (by kernel_rfl) (by kernel_rfl) (by kernel_rfl) (by kernel_rfl) (by kernel_rfl) (allP2 (by decide) (allP2 (InR.of h58) (allP2 ⟨rfl, (InR.of h58)⟩ (allP2 (by decide) (allP2 h59 (allP2 (by decide) (allP2 h59 (allP2 (by decide) (allP1 h59))))))))) allD0 chNil mkNil (by kernel_rfl) ?_
              obtain ⟨v60, h61, h⟩ := bind_of h
              refine WO_run (j := 27) (k := 2) (orcs := []) (kF := [0, 1, 4, 6, 7]) (kL := [4, 6, 34, 900]) (fr' := [(0, aI a0), (1, aI (w64 (Int.tdiv x43.1 (w64 ((4 : Int) * (w64 (a0 + (1 : Int)))))))), (4, .one (.ptr 4 0)), (6, .one (.ptr 6 0)), (7, aI x43.2.1)]) (L' := [(4, .cells [.dat tI (0 : Int), .dat tI (0 : Int), .nilS]), (6, .cells [.dat tI a0, .dat tI (2 : Int), .slc 34]), (34, .rows 0 (.slice (.pair tI (.pair tI tI))) x43.2.2 [(w64 (Int.tdiv x43.2.1 (2 : Int)), true, .slc 900)]), (900, .seq (.pair tI (.pair tI tI)) (List.set v57 (Int.toNat (Int.tmod x43.2.1 (2 : Int))) (w64 (Int.tdiv (w64 (Int.tdiv (Int.tmod x43.1 (w64 ((4 : Int) * (w64 (a0 + (1 : Int)))))) (w64 (a0 + (1 : Int))))) (2 : Int)), w64 ((w64 ((Int.tmod (w64 (Int.tdiv (Int.tmod x43.1 (w64 ((4 : Int) * (w64 (a0 + (1 : Int)))))) (w64 (a0 + (1 : Int))))) (2 : Int)) * (2 : Int))) - (1 : Int)), Int.tmod (Int.tmod x43.1 (w64 ((4 : Int) * (w64 (a0 + (1 : Int)))))) (w64 (a0 + (1 : Int))))))]) (obs := [InR (Int.tmod x43.2.1 (2 : Int)) (List.length v57), InR (Int.tmod x43.2.1 (2 : Int)) (List.length v57)]) rfl (by kernel_rfl) (allP2 (InR.of h61) (allP1 (InR.of h61))) ?_
              refine WO_give 34 (w64 (Int.tdiv x43.2.1 (2 : Int))) [true] (p := InR (w64 (Int.tdiv x43.2.1 (2 : Int))) (List.length x43.2.2) ∧ (w64 (Int.tdiv x43.2.1 (2 : Int))) = (w64 (Int.tdiv x43.2.1 (2 : Int)))) (by kernel_rfl) ⟨(InR.of h58), rfl⟩ ?_
              refine WO_fin [0, 1, 4, 6, 7] [4, 6, 34] (fr' := [(0, aI a0), (1, aI (w64 (Int.tdiv x43.1 (w64 ((4 : Int) * (w64 (a0 + (1 : Int)))))))), (4, .one (.ptr 4 0)), (6, .one (.ptr 6 0)), (7, aI x43.2.1)]) (L' := [(4, .cells [.dat tI (0 : Int), .dat tI (0 : Int), .nilS]), (6, .cells [.dat tI a0, .dat tI (2 : Int), .slc 34]), (34, .rows 0 (.slice (.pair tI (.pair tI tI))) (List.set x43.2.2 (Int.toNat (w64 (Int.tdiv x43.2.1 (2 : Int)))) (List.set v57 (Int.toNat (Int.tmod x43.2.1 (2 : Int))) (w64 (Int.tdiv (w64 (Int.tdiv (Int.tmod x43.1 (w64 ((4 : Int) * (w64 (a0 + (1 : Int)))))) (w64 (a0 + (1 : Int))))) (2 : Int)), w64 ((w64 ((Int.tmod (w64 (Int.tdiv (Int.tmod x43.1 (w64 ((4 : Int) * (w64 (a0 + (1 : Int)))))) (w64 (a0 + (1 : Int))))) (2 : Int)) * (2 : Int))) - (1 : Int)), Int.tmod (Int.tmod x43.1 (w64 ((4 : Int) * (w64 (a0 + (1 : Int)))))) (w64 (a0 + (1 : Int)))))) [])]) (by kernel_rfl) (by kernel_rfl) ?_
              refine ⟨rfl, ?_⟩
              refine blockQ_norm ?_
              refine seqQ_norm ?_
              obtain rfl := Option.some.inj h
              refine W_run 3 [] [0, 1, 4, 6, 7] [4, 6, 34] (fr' := [(0, aI a0), (1, aI (w64 (Int.tdiv x43.1 (w64 ((4 : Int) * (w64 (a0 + (1 : Int)))))))), (4, .one (.ptr 4 0)), (6, .one (.ptr 6 0)), (7, aI (w64 (x43.2.1 - (1 : Int))))]) (L' := [(4, .cells [.dat tI (0 : Int), .dat tI (0 : Int), .nilS]), (6, .cells [.dat tI a0, .dat tI (2 : Int), .slc 34]), (34, .rows 0 (.slice (.pair tI (.pair tI tI))) (List.set x43.2.2 (Int.toNat (w64 (Int.tdiv x43.2.1 (2 : Int)))) (List.set v57 (Int.toNat (Int.tmod x43.2.1 (2 : Int))) (w64 (Int.tdiv (w64 (Int.tdiv (Int.tmod x43.1 (w64 ((4 : Int) * (w64 (a0 + (1 : Int)))))) (w64 (a0 + (1 : Int))))) (2 : Int)), w64 ((w64 ((Int.tmod (w64 (Int.tdiv (Int.tmod x43.1 (w64 ((4 : Int) * (w64 (a0 + (1 : Int)))))) (w64 (a0 + (1 : Int))))) (2 : Int)) * (2 : Int))) - (1 : Int)), Int.tmod (Int.tmod x43.1 (w64 ((4 : Int) * (w64 (a0 + (1 : Int)))))) (w64 (a0 + (1 : Int)))))) [])]) (obs := []) (by kernel_rfl) (by kernel_rfl) (by kernel_rfl) allP0 ?_
              exact round_next' (by kernel_rfl) (by kernel_rfl)
            · replace h := ofF h53 h
              obtain rfl := Option.some.inj h
              refine W_exit (id := 2) [4, 6] [4, 6, 34] (fr' := [(4, .one (.ptr 4 0)), (6, .one (.ptr 6 0))]) (L' := [(4, .cells [.dat tI (0 : Int), .dat tI (0 : Int), .nilS]), (6, .cells [.dat tI a0, .dat tI (2 : Int), .slc 34]), (34, .rows 0 (.slice (.pair tI (.pair tI tI))) x43.2.2 [])]) (by kernel_rfl) (by kernel_rfl) ?_
              refine seqQ_exit ?_
              refine round_exit ?_
              exact exQ_mk (by kernel_rfl) (by kernel_rfl)
          · intro e fr L hJ
            obtain ⟨rfl, rfl, rfl⟩ := hJ
            refine LT_keep [4, 6] [4, 6, 34] (fr' := [(4, .one (.ptr 4 0)), (6, .one (.ptr 6 0))]) (L' := [(4, .cells [.dat tI (0 : Int), .dat tI (0 : Int), .nilS]), (6, .cells [.dat tI a0, .dat tI (2 : Int), .slc 34]), (34, .rows 0 (.slice (.pair tI (.pair tI tI))) v62 [])]) (by kernel_rfl) ?_
            refine blockQ_hit ?_
            refine seqQ_norm ?_
            refine W_seq (by kernel_rfl) ?_
            refine W_run 3 [] [4, 5] [4, 34] (fr' := [(4, .one (.ptr 4 0)), (5, aI (0 : Int))]) (L' := [(4, .cells [.dat tI a0, .dat tI (2 : Int), .slc 34]), (34, .rows 0 (.slice (.pair tI (.pair tI tI))) v62 [])]) (obs := [True]) (by kernel_rfl) (by kernel_rfl) (by kernel_rfl) (allP1 trivial) ?_
            refine seqQ_norm ?_
            obtain rfl := Option.some.inj h
            refine W_frzR 34 (by kernel_rfl) ?_
            refine W_pack 4 (.pair tI (.pair tI (.slice (.slice (.pair tI (.pair tI tI)))))) (by kernel_rfl) ?_
            refine W_ret [4, 5] [4] (fr' := [(4, .one (.ptr 4 0)), (5, aI (0 : Int))]) (L' := [(4, .one (.pair tI (.pair tI (.slice (.slice (.pair tI (.pair tI tI)))))) (a0, (2 : Int), v62))]) (by kernel_rfl) (by kernel_rfl) ?_
            exact retQ_mk (by kernel_rfl) (by kernel_rfl) (by kernel_rfl)

def ref_Within (a0 : Int) (a1 : Int) (a2 : Int) : Option Bool :=
some ((decide (a0 ≤ a1)) && (decide (a1 ≤ a2)))
theorem ref_Within_ok {a0 : Int} {a1 : Int} {a2 : Int} {r : Bool} (h : ref_Within a0 a1 a2 = some r) : FnC Try.prog 16 [aI a0, aI a1, aI a2] [] (aB r) [] := by
  refine fnC_of_W (B := bodyOf Try.f16) (n := 15) Try.func16 (by kernel_rfl) (by kernel_rfl) (by kernel_rfl) (by kernel_rfl) (by kernel_rfl) ?_
  intro K
  refine W_seq (by kernel_rfl) ?_
  refine W_run 1 [] [0, 1, 2] [] (fr' := [(0, aI a0), (1, aI a1), (2, aI a2)]) (L' := []) (obs := []) (by kernel_rfl) (by kernel_rfl) (by kernel_rfl) allP0 ?_
  refine seqQ_norm ?_
  refine W_seq (by kernel_rfl) ?_
  refine W_run 9 [] [6] [] (fr' := [(6, aB ((decide (a0 ≤ a1)) && (decide (a1 ≤ a2))))]) (L' := []) (obs := []) (by kernel_rfl) (by kernel_rfl) (by kernel_rfl) allP0 ?_
  refine seqQ_norm ?_
  obtain rfl := Option.some.inj h
  refine W_ret [6] [] (fr' := [(6, aB ((decide (a0 ≤ a1)) && (decide (a1 ≤ a2))))]) (L' := []) (by kernel_rfl) (by kernel_rfl) ?_
  exact retQ_mk (by kernel_rfl) (by kernel_rfl) (by kernel_rfl)

def ref_Power_b1 (a0 : Int) (i5 : Int) (x6 : Int) : Option (Flow Int Int) :=
some (.next (w64 (x6 * a0)))
@[reducible] def ref_Power_s2 (a0 : Int) (a1 : Int) (v : Int × Int) : Fr × LL := ([(0, aI a0), (1, aI a1), (5, aI v.2), (6, aI v.1)], [])
@[reducible] def ref_Power_s3 (v : Int) : Fr × LL := ([(5, aI v)], [])
def ref_Power (a0 : Int) (a1 : Int) : Option Int :=
(forI (0 : Int) a1 (ref_Power_b1 a0) (fun x6 => x6) (1 : Int)).bind fun v10 =>
some v10
theorem ref_Power_ok {a0 : Int} {a1 : Int} {r : Int} (h : ref_Power a0 a1 = some r) : FnC Try.prog 17 [aI a0, aI a1] [] (aI r) [] := by
  refine fnC_of_W (B := bodyOf Try.f17) (n := 16) Try.func17 (by kernel_rfl) (by kernel_rfl) (by kernel_rfl) (by kernel_rfl) (by kernel_rfl) ?_
  intro K
  refine W_seq (by kernel_rfl) ?_
  refine W_run 1 [] [0, 1] [] (fr' := [(0, aI a0), (1, aI a1)]) (L' := []) (obs := []) (by kernel_rfl) (by kernel_rfl) (by kernel_rfl) allP0 ?_
  refine seqQ_norm ?_
  refine W_seq (by kernel_rfl) ?_
  refine W_run 1 [] [0, 1, 5] [] (fr' := [(0, aI a0), (1, aI a1), (5, aI (1 : Int))]) (L' := []) (obs := []) (by kernel_rfl) (by kernel_rfl) (by kernel_rfl) allP0 ?_
  refine seqQ_norm ?_
  refine W_seq (by kernel_rfl) ?_
  refine W_seq (by kernel_rfl) ?_
  refine W_run 1 [] [0, 1, 5, 6] [] (fr' := [(0, aI a0), (1, aI a1), (5, aI (1 : Int)), (6, aI (0 : Int))]) (L' := []) (obs := []) (by kernel_rfl) (by kernel_rfl) (by kernel_rfl) allP0 ?_
  refine seqQ_norm ?_
  refine W_block (id := 0) (by kernel_rfl) ?_
  obtain ⟨v10, h11, h⟩ := bind_of h
  obtain ⟨h12, h13⟩ := forI_iter h11
  refine W_weaken [0, 1, 5, 6] [] (fr' := ((ref_Power_s2 a0 a1) ((0 : Int), (1 : Int))).1) (L' := ((ref_Power_s2 a0 a1) ((0 : Int), (1 : Int))).2) (by kernel_rfl) ?_
  refine W_cutK (W_loop (S := (ref_Power_s2 a0 a1)) (J := (exQ (.exit 0) ref_Power_s3)) (by kernel_rfl) ?_ h12 _ v10 h13) ?_
  · rintro ⟨i5, x6⟩ s h
    refine W_seq (by kernel_rfl) ?_
    refine W_seq (by kernel_rfl) ?_
    refine W_run 3 [] [0, 1, 5, 6, 9] [] (fr' := [(0, aI a0), (1, aI a1), (5, aI x6), (6, aI i5), (9, aB (decide (i5 < a1)))]) (L' := []) (obs := []) (by kernel_rfl) (by kernel_rfl) (by kernel_rfl) allP0 ?_
    refine seqQ_norm ?_
    refine W_cond (o := .tmp 9) (b := decide (i5 < a1)) (by kernel_rfl) (by kernel_rfl) (fun h8 => ?_) (fun h8 => ?_)
    · replace h := stepI_true h8 h
      obtain ⟨_, h, rfl⟩ := h
      refine W_skip [0, 1, 5, 6] [] (fr' := [(0, aI a0), (1, aI a1), (5, aI x6), (6, aI i5)]) (L' := []) (by kernel_rfl) (by kernel_rfl) ?_
      refine seqQ_norm ?_
      refine W_seq (by kernel_rfl) ?_
      refine W_block (id := 1) (by kernel_rfl) ?_
      refine W_run 4 [] [0, 1, 5, 6] [] (fr' := [(0, aI a0), (1, aI a1), (5, aI (w64 (x6 * a0))), (6, aI i5)]) (L' := []) (obs := []) (by kernel_rfl) (by kernel_rfl) (by kernel_rfl) allP0 ?_
      refine blockQ_norm ?_
      refine seqQ_norm ?_
      obtain rfl := Option.some.inj h
      refine W_run 3 [] [0, 1, 5, 6] [] (fr' := [(0, aI a0), (1, aI a1), (5, aI (w64 (x6 * a0))), (6, aI (w64 (i5 + (1 : Int))))]) (L' := []) (obs := []) (by kernel_rfl) (by kernel_rfl) (by kernel_rfl) allP0 ?_
      exact round_next' (by kernel_rfl) (by kernel_rfl)
    · obtain rfl := stepI_false h8 h
      refine W_exit (id := 0) [5] [] (fr' := [(5, aI x6)]) (L' := []) (by kernel_rfl) (by kernel_rfl) ?_
      refine seqQ_exit ?_
      refine round_exit ?_
      exact exQ_mk (by kernel_rfl) (by kernel_rfl)
  · intro e fr L hJ
    obtain ⟨rfl, rfl, rfl⟩ := hJ
    refine LT_keep [5] [] (fr' := [(5, aI v10)]) (L' := []) (by kernel_rfl) ?_
    refine blockQ_hit ?_
    refine seqQ_norm ?_
    refine W_seq (by kernel_rfl) ?_
    refine W_run 2 [] [4] [] (fr' := [(4, aI v10)]) (L' := []) (obs := []) (by kernel_rfl) (by kernel_rfl) (by kernel_rfl) allP0 ?_
    refine seqQ_norm ?_
    obtain rfl := Option.some.inj h
    refine W_ret [4] [] (fr' := [(4, aI v10)]) (L' := []) (by kernel_rfl) (by kernel_rfl) ?_
    exact retQ_mk (by kernel_rfl) (by kernel_rfl) (by kernel_rfl)

def ref_Inside_b1 (a0 : Int) (i11 : Int) (v14 : Int) (x12 : Unit) : Option (Flow Unit (Esc Bool Unit)) :=
bif (decide (v14 < (0 : Int))) || (decide (v14 ≥ a0)) then
(some (.done (.ret false)))
else
(some (.next ()))
@[reducible] def ref_Inside_s2 (a0 : Int) (a1 : (List Int)) (v : Int × Unit) : Fr × LL := ([(0, aI a0), (7, aD (.slice tI) a1), (8, aI (List.length a1 : Int)), (9, aI v.1)], [])
@[reducible] def ref_Inside_s3 (v : Bool) : Fr × LL := ([(4, aB v)], [])
@[reducible] def ref_Inside_s4 (v : Unit) : Fr × LL := ([], [])
def ref_Inside (a0 : Int) (a1 : (List Int)) : Option Bool :=
(forL (ref_Inside_b1 a0) (fun x12 => (.brk ())) a1 0 ()).bind fun v19 =>
match v19 with
| .ret v24 =>
(some v24)
| .brk v25 =>
(some true)
theorem ref_Inside_ok {a0 : Int} {a1 : (List Int)} {r : Bool} (h : ref_Inside a0 a1 = some r) : FnC Try.prog 51 [aI a0, aD (.slice tI) a1] [] (aB r) [] := by
  refine fnC_of_W (B := bodyOf Try.f51) (n := 21) Try.func51 (by kernel_rfl) (by kernel_rfl) (by kernel_rfl) (by kernel_rfl) (by kernel_rfl) ?_
  intro K
  refine W_seq (by kernel_rfl) ?_
  refine W_run 1 [] [0, 1] [] (fr' := [(0, aI a0), (1, aD (.slice tI) a1)]) (L' := []) (obs := []) (by kernel_rfl) (by kernel_rfl) (by kernel_rfl) allP0 ?_
  refine seqQ_norm ?_
  refine W_seq (by kernel_rfl) ?_
  refine W_seq (by kernel_rfl) ?_
  refine W_run 3 [] [0, 7, 8, 9] [] (fr' := [(0, aI a0), (7, aD (.slice tI) a1), (8, aI (List.length a1 : Int)), (9, aI (0 : Int))]) (L' := []) (obs := []) (by kernel_rfl) (by kernel_rfl) (by kernel_rfl) allP0 ?_
  refine seqQ_norm ?_
  refine W_block (id := 0) (by kernel_rfl) ?_
  obtain ⟨v19, h20, h⟩ := bind_of h
  refine W_len (t := 7) (u := tI) (xs := a1) (by kernel_rfl) (fun h23 => ?_)
  obtain ⟨h21, h22⟩ := forL_iter h23 h20
  refine W_weaken [0, 7, 8, 9] [] (fr' := ((ref_Inside_s2 a0 a1) ((0 : Int), ())).1) (L' := ((ref_Inside_s2 a0 a1) ((0 : Int), ())).2) (by kernel_rfl) ?_
  refine W_cutK (W_loop (S := (ref_Inside_s2 a0 a1)) (J := (escQ (exQ .ret ref_Inside_s3) (exQ (.exit 0) ref_Inside_s4))) (by kernel_rfl) ?_ h21 _ v19 h22) ?_
  · rintro ⟨i11, x12⟩ s h
    refine W_seq (by kernel_rfl) ?_
    refine W_run 1 [] [0, 7, 8, 9, 10] [] (fr' := [(0, aI a0), (7, aD (.slice tI) a1), (8, aI (List.length a1 : Int)), (9, aI i11), (10, aB (decide (i11 < (List.length a1 : Int))))]) (L' := []) (obs := []) (by kernel_rfl) (by kernel_rfl) (by kernel_rfl) allP0 ?_
    refine seqQ_norm ?_
    refine W_seq (by kernel_rfl) ?_
    refine W_cond (o := .tmp 10) (b := decide (i11 < (List.length a1 : Int))) (by kernel_rfl) (by kernel_rfl) (fun h16 => ?_) (fun h16 => ?_)
    · replace h := stepL_true h16 h
      obtain ⟨v14, _, h15, h, rfl⟩ := h
      refine W_skip [0, 7, 8, 9] [] (fr' := [(0, aI a0), (7, aD (.slice tI) a1), (8, aI (List.length a1 : Int)), (9, aI i11)]) (L' := []) (by kernel_rfl) (by kernel_rfl) ?_
      refine seqQ_norm ?_
      refine W_seq (by kernel_rfl) ?_
      refine W_block (id := 1) (by kernel_rfl) ?_
      refine W_seq (by kernel_rfl) ?_
      refine W_run 3 [(1, .val (.dat tI v14))] [0, 6, 7, 8, 9] [] (fr' := [(0, aI a0), (6, aI v14), (7, aD (.slice tI) a1), (8, aI (List.length a1 : Int)), (9, aI i11)]) (L' := []) (obs := [Idx a1 i11 v14]) (by kernel_rfl) (by kernel_rfl) (by kernel_rfl) (allP1 (Idx.of h15)) ?_
      refine seqQ_norm ?_
      refine W_seq (by kernel_rfl) ?_
      refine W_run 7 [] [0, 7, 8, 9, 19] [] (fr' := [(0, aI a0), (7, aD (.slice tI) a1), (8, aI (List.length a1 : Int)), (9, aI i11), (19, aB ((decide (v14 < (0 : Int))) || (decide (v14 ≥ a0))))]) (L' := []) (obs := []) (by kernel_rfl) (by kernel_rfl) (by kernel_rfl) allP0 ?_
      refine seqQ_norm ?_
      refine W_cond (o := .tmp 19) (b := (decide (v14 < (0 : Int))) || (decide (v14 ≥ a0))) (by kernel_rfl) (by kernel_rfl) (fun h17 => ?_) (fun h17 => ?_)
      · replace h := ofT h17 h
        refine W_seq (by kernel_rfl) ?_
        refine W_run 1 [] [4] [] (fr' := [(4, aB false)]) (L' := []) (obs := []) (by kernel_rfl) (by kernel_rfl) (by kernel_rfl) allP0 ?_
        refine seqQ_norm ?_
        obtain rfl := Option.some.inj h
        refine W_ret [4] [] (fr' := [(4, aB false)]) (L' := []) (by kernel_rfl) (by kernel_rfl) ?_
        refine blockQ_ret ?_
        refine seqQ_ret ?_
        refine round_ret ?_
        refine escQ_ret ?_
        exact exQ_mk (by kernel_rfl) (by kernel_rfl)
      · replace h := ofF h17 h
        refine W_skip [0, 7, 8, 9] [] (fr' := [(0, aI a0), (7, aD (.slice tI) a1), (8, aI (List.length a1 : Int)), (9, aI i11)]) (L' := []) (by kernel_rfl) (by kernel_rfl) ?_
        refine blockQ_norm ?_
        refine seqQ_norm ?_
        obtain rfl := Option.some.inj h
        refine W_run 2 [] [0, 7, 8, 9] [] (fr' := [(0, aI a0), (7, aD (.slice tI) a1), (8, aI (List.length a1 : Int)), (9, aI (w64 (i11 + (1 : Int))))]) (L' := []) (obs := []) (by kernel_rfl) (by kernel_rfl) (by kernel_rfl) allP0 ?_
        exact round_next' (by kernel_rfl) (by kernel_rfl)
    · obtain rfl := stepL_false h16 h
      refine W_exit (id := 0) [] [] (fr' := []) (L' := []) (by kernel_rfl) (by kernel_rfl) ?_
      refine seqQ_exit ?_
      refine round_exit ?_
      refine escQ_brk ?_
      exact exQ_mk (by kernel_rfl) (by kernel_rfl)
  · intro e fr L hJ
    rcases v19 with v24 | v25
    · obtain ⟨rfl, rfl, rfl⟩ := hJ
      obtain rfl := Option.some.inj h
      refine LT_keep [4] [] (fr' := [(4, aB v24)]) (L' := []) (by kernel_rfl) ?_
      refine blockQ_ret ?_
      refine seqQ_ret ?_
      exact retQ_mk (by kernel_rfl) (by kernel_rfl) (by kernel_rfl)
    · obtain ⟨rfl, rfl, rfl⟩ := hJ
      refine LT_keep [] [] (fr' := []) (L' := []) (by kernel_rfl) ?_
      refine blockQ_hit ?_
      refine seqQ_norm ?_
      refine W_seq (by kernel_rfl) ?_
      refine W_run 1 [] [4] [] (fr' := [(4, aB true)]) (L' := []) (obs := []) (by kernel_rfl) (by kernel_rfl) (by kernel_rfl) allP0 ?_
      refine seqQ_norm ?_
      obtain rfl := Option.some.inj h
      refine W_ret [4] [] (fr' := [(4, aB true)]) (L' := []) (by kernel_rfl) (by kernel_rfl) ?_
      exact retQ_mk (by kernel_rfl) (by kernel_rfl) (by kernel_rfl)

def ref_MachineCheck_b1 (a0 : (Int × (Int × (List (List (Int × (Int × Int))))))) (i30 : Int) (v33 : (List (Int × (Int × Int)))) (x31 : Unit) : Option (Flow Unit (Esc Int Unit)) :=
bif (List.length v33 : Int) != a0.2.1 then
(some (.done (.ret (3 : Int))))
else
(some (.next ()))
@[reducible] def ref_MachineCheck_s2 (a0 : (Int × (Int × (List (List (Int × (Int × Int))))))) (v : Int × Unit) : Fr × LL := ([(1, .one (.ptr 1 0)), (26, aD (.slice (.slice (.pair tI (.pair tI tI)))) a0.2.2), (27, aI (List.length a0.2.2 : Int)), (28, aI v.1)], [(1, .one (.pair tI (.pair tI (.slice (.slice (.pair tI (.pair tI tI)))))) a0)])
@[reducible] def ref_MachineCheck_s3 (v : Int) : Fr × LL := ([(2, aI v)], [])
@[reducible] def ref_MachineCheck_s4 (a0 : (Int × (Int × (List (List (Int × (Int × Int))))))) (v : Unit) : Fr × LL := ([(1, .one (.ptr 1 0))], [(1, .one (.pair tI (.pair tI (.slice (.slice (.pair tI (.pair tI tI)))))) a0)])
def ref_MachineCheck_b11 (a0 : (Int × (Int × (List (List (Int × (Int × Int))))))) (i183 : Int) (v186 : (Int × (Int × Int))) (x184 : Unit) : Option (Flow Unit (Esc Int Unit)) :=
(ref_Inside a0.2.1 [v186.1]).bind fun r189 =>
bif !r189 then
(some (.done (.ret (2 : Int))))
else
((ref_Within (-1 : Int) v186.2.1 (1 : Int)).bind fun r192 =>
bif !r192 then
(some (.done (.ret (4 : Int))))
else
((ref_Inside (w64 (a0.1 + (1 : Int))) [v186.2.2]).bind fun r195 =>
bif !r195 then
(some (.done (.ret (2 : Int))))
else
(some (.next ()))))
@[reducible] def ref_MachineCheck_s12 (a0 : (Int × (Int × (List (List (Int × (Int × Int))))))) (i151 : Int) (v154 : (List (Int × (Int × Int)))) (v : Int × Unit) : Fr × LL := ([(1, .one (.ptr 1 0)), (39, aD (.slice (.slice (.pair tI (.pair tI tI)))) a0.2.2), (40, aI (List.length a0.2.2 : Int)), (41, aI i151), (45, aD (.slice (.pair tI (.pair tI tI))) v154), (46, aI (List.length v154 : Int)), (47, aI v.1)], [(1, .one (.pair tI (.pair tI (.slice (.slice (.pair tI (.pair tI tI)))))) a0)])
@[reducible] def ref_MachineCheck_s13 (v : Int) : Fr × LL := ([(2, aI v)], [])
@[reducible] def ref_MachineCheck_s14 (a0 : (Int × (Int × (List (List (Int × (Int × Int))))))) (i151 : Int) (v : Unit) : Fr × LL := ([(1, .one (.ptr 1 0)), (39, aD (.slice (.slice (.pair tI (.pair tI tI)))) a0.2.2), (40, aI (List.length a0.2.2 : Int)), (41, aI i151)], [(1, .one (.pair tI (.pair tI (.slice (.slice (.pair tI (.pair tI tI)))))) a0)])
def ref_MachineCheck_b15 (a0 : (Int × (Int × (List (List (Int × (Int × Int))))))) (i151 : Int) (v154 : (List (Int × (Int × Int)))) (x152 : Unit) : Option (Flow Unit (Esc Int Unit)) :=
(forL (ref_MachineCheck_b11 a0) (fun x184 => (.brk ())) v154 0 ()).bind fun v199 =>
match v199 with
| .ret v204 =>
(some (.done (.ret v204)))
| .brk v205 =>
(some (.next ()))
@[reducible] def ref_MachineCheck_s16 (a0 : (Int × (Int × (List (List (Int × (Int × Int))))))) (v : Int × Unit) : Fr × LL := ([(1, .one (.ptr 1 0)), (39, aD (.slice (.slice (.pair tI (.pair tI tI)))) a0.2.2), (40, aI (List.length a0.2.2 : Int)), (41, aI v.1)], [(1, .one (.pair tI (.pair tI (.slice (.slice (.pair tI (.pair tI tI)))))) a0)])
@[reducible] def ref_MachineCheck_s17 (v : Int) : Fr × LL := ([(2, aI v)], [])
@[reducible] def ref_MachineCheck_s18 (v : Unit) : Fr × LL := ([], [])
@[reducible] def ref_MachineCheck_s19 (a0 : (Int × (Int × (List (List (Int × (Int × Int))))))) (v : Bool) : Fr × LL := ([(1, .one (.ptr 1 0)), (18, aB v)], [(1, .one (.pair tI (.pair tI (.slice (.slice (.pair tI (.pair tI tI)))))) a0)])
def ref_MachineCheck (a0 : (Int × (Int × (List (List (Int × (Int × Int))))))) : Option Int :=
((ref_Within (1 : Int) a0.1 (5 : Int)).bind fun r11 =>
bif !r11 then
(some true)
else
((ref_Within (2 : Int) a0.2.1 (4 : Int)).bind fun r14 =>
some (!r14))).bind fun v16 =>
bif v16 then
(some (1 : Int))
else
(bif (List.length a0.2.2 : Int) != a0.1 then
(some (3 : Int))
else
((forL (ref_MachineCheck_b1 a0) (fun x31 => (.brk ())) a0.2.2 0 ()).bind fun v38 =>
match v38 with
| .ret v43 =>
(some v43)
| .brk v44 =>
((forL (ref_MachineCheck_b15 a0) (fun x152 => (.brk ())) a0.2.2 0 ()).bind fun v207 =>
match v207 with
| .ret v212 =>
(some v212)
| .brk v213 =>
(some (0 : Int)))))
theorem ref_MachineCheck_ok {a0 : (Int × (Int × (List (List (Int × (Int × Int))))))} {r : Int} (h : ref_MachineCheck a0 = some r) : FnC Try.prog 18 [aD (.pair tI (.pair tI (.slice (.slice (.pair tI (.pair tI tI)))))) a0] [] (aI r) [] := by
  refine fnC_of_W (B := bodyOf Try.f18) (n := 72) Try.func18 (by kernel_rfl) (by kernel_rfl) (by kernel_rfl) (by kernel_rfl) (by kernel_rfl) ?_
  intro K
  refine W_seq (by kernel_rfl) ?_
  refine W_run 2 [] [1] [1] (fr' := [(1, .one (.ptr 1 0))]) (L' := [(1, .one (.pair tI (.pair tI (.slice (.slice (.pair tI (.pair tI tI)))))) a0)]) (obs := []) (by kernel_rfl) (by kernel_rfl) (by kernel_rfl) allP0 ?_
  refine seqQ_norm ?_
  refine W_seq (by kernel_rfl) ?_
  refine W_seq (by kernel_rfl) ?_
  obtain ⟨v16, h17, h⟩ := bind_of h
  refine W_cutK (Q' := (exQ .normal (ref_MachineCheck_s19 a0)) v16) ?_ ?_
  · replace h := h17
    refine W_region (by kernel_rfl) ?_
    refine WO_run (j := 2) (k := 2) (orcs := []) (kF := [1, 10]) (kL := [1]) (fr' := [(1, .one (.ptr 1 0)), (10, aI a0.1)]) (L' := [(1, .one (.pair tI (.pair tI (.slice (.slice (.pair tI (.pair tI tI)))))) a0)]) (obs := []) rfl (by kernel_rfl) allP0 ?_
    obtain ⟨r11, h12, h⟩ := bind_of h
    refine WO_call0 (us := [none, none, none]) (d := 11) (p := True) (j := 3) rfl ⟨by kernel_rfl, by kernel_rfl, by kernel_rfl⟩ trivial (ref_Within_ok h12) (by kernel_rfl) ?_
    refine WO_run (j := 5) (k := 2) (orcs := []) (kF := [1, 13]) (kL := [1]) (fr' := [(1, .one (.ptr 1 0)), (13, aB (!r11))]) (L' := [(1, .one (.pair tI (.pair tI (.slice (.slice (.pair tI (.pair tI tI)))))) a0)]) (obs := []) rfl (by kernel_rfl) allP0 ?_
    rcases Bool.eq_false_or_eq_true (!r11) with h13 | h13
    · replace h := ofT h13 h
      refine WO_run (j := 10) (k := 5) (orcs := [(10, .known true), (12, .known true), (14, .known true), (16, .known true), (19, .val (.dat .bool true))]) (kF := [1, 18]) (kL := [1]) (fr' := [(1, .one (.ptr 1 0)), (18, aB true)]) (L' := [(1, .one (.pair tI (.pair tI (.slice (.slice (.pair tI (.pair tI tI)))))) a0)]) (obs := [((!r11) = true), ((!r11) = true), ((!r11) = true), ((!r11) = true), ((!r11) = true)]) rfl (by kernel_rfl) (allP2 h13 (allP2 h13 (allP2 h13 (allP2 h13 (allP1 h13))))) ?_
      obtain rfl := Option.some.inj h
      refine WO_fin [1, 18] [1] (fr' := [(1, .one (.ptr 1 0)), (18, aB true)]) (L' := [(1, .one (.pair tI (.pair tI (.slice (.slice (.pair tI (.pair tI tI)))))) a0)]) (by kernel_rfl) (by kernel_rfl) ?_
      exact exQ_mk (by kernel_rfl) (by kernel_rfl)
    · replace h := ofF h13 h
      refine WO_run (j := 7) (k := 2) (orcs := [(10, .known false), (12, .known false)]) (kF := [1, 13, 15]) (kL := [1]) (fr' := [(1, .one (.ptr 1 0)), (13, aB (!r11)), (15, aI a0.2.1)]) (L' := [(1, .one (.pair tI (.pair tI (.slice (.slice (.pair tI (.pair tI tI)))))) a0)]) (obs := [((!r11) = false), ((!r11) = false)]) rfl (by kernel_rfl) (allP2 h13 (allP1 h13)) ?_
      obtain ⟨r14, h15, h⟩ := bind_of h
      refine WO_call0 (us := [none, none, none]) (d := 16) (p := ((!r11) = false)) (j := 8) rfl ⟨by kernel_rfl, by kernel_rfl, by kernel_rfl⟩ h13 (ref_Within_ok h15) (by kernel_rfl) ?_
      refine WO_run (j := 10) (k := 2) (orcs := [(16, .known false), (19, .val (.dat .bool false))]) (kF := [1, 18]) (kL := [1]) (fr' := [(1, .one (.ptr 1 0)), (18, aB (!r14))]) (L' := [(1, .one (.pair tI (.pair tI (.slice (.slice (.pair tI (.pair tI tI)))))) a0)]) (obs := [((!r11) = false), ((!r11) = false)]) rfl (by kernel_rfl) (allP2 h13 (allP1 h13)) ?_
      obtain rfl := Option.some.inj h
      refine WO_fin [1, 18] [1] (fr' := [(1, .one (.ptr 1 0)), (18, aB (!r14))]) (L' := [(1, .one (.pair tI (.pair tI (.slice (.slice (.pair tI (.pair tI tI)))))) a0)]) (by kernel_rfl) (by kernel_rfl) ?_
      exact exQ_mk (by kernel_rfl) (by kernel_rfl)
  · intro e fr L hJ
    obtain ⟨rfl, rfl, rfl⟩ := hJ
    refine LT_keep [1, 18] [1] (fr' := [(1, .one (.ptr 1 0)), (18, aB v16)]) (L' := [(1, .one (.pair tI (.pair tI (.slice (.slice (.pair tI (.pair tI tI)))))) a0)]) (by kernel_rfl) ?_
    refine seqQ_norm ?_
    refine W_cond (o := .tmp 18) (b := v16) (by kernel_rfl) (by kernel_rfl) (fun h18 => ?_) (fun h18 => ?_)
    · replace h := ofT h18 h
      refine W_seq (by kernel_rfl) ?_
      refine W_run 1 [] [2] [] (fr' := [(2, aI (1 : Int))]) (L' := []) (obs := []) (by kernel_rfl) (by kernel_rfl) (by kernel_rfl) allP0 ?_
      refine seqQ_norm ?_
      obtain rfl := Option.some.inj h
      refine W_ret [2] [] (fr' := [(2, aI (1 : Int))]) (L' := []) (by kernel_rfl) (by kernel_rfl) ?_
      refine seqQ_ret ?_
      exact retQ_mk (by kernel_rfl) (by kernel_rfl) (by kernel_rfl)
    · replace h := ofF h18 h
      refine W_skip [1] [1] (fr' := [(1, .one (.ptr 1 0))]) (L' := [(1, .one (.pair tI (.pair tI (.slice (.slice (.pair tI (.pair tI tI)))))) a0)]) (by kernel_rfl) (by kernel_rfl) ?_
      refine seqQ_norm ?_
      refine W_seq (by kernel_rfl) ?_
      refine W_seq (by kernel_rfl) ?_
      refine W_run 6 [] [1, 24] [1] (fr' := [(1, .one (.ptr 1 0)), (24, aB ((List.length a0.2.2 : Int) != a0.1))]) (L' := [(1, .one (.pair tI (.pair tI (.slice (.slice (.pair tI (.pair tI tI)))))) a0)]) (obs := []) (by kernel_rfl) (by kernel_rfl) (by kernel_rfl) allP0 ?_
      refine seqQ_norm ?_
      refine W_cond (o := .tmp 24) (b := (List.length a0.2.2 : Int) != a0.1) (by kernel_rfl) (by kernel_rfl) (fun h19 => ?_) (fun h19 => ?_)
      · replace h := ofT h19 h
        refine W_seq (by kernel_rfl) ?_
        refine W_run 1 [] [2] [] (fr' := [(2, aI (3 : Int))]) (L' := []) (obs := []) (by kernel_rfl) (by kernel_rfl) (by kernel_rfl) allP0 ?_
        refine seqQ_norm ?_
        obtain rfl := Option.some.inj h
        refine W_ret [2] [] (fr' := [(2, aI (3 : Int))]) (L' := []) (by kernel_rfl) (by kernel_rfl) ?_
        refine seqQ_ret ?_
        exact retQ_mk (by kernel_rfl) (by kernel_rfl) (by kernel_rfl)
      · replace h := ofF h19 h
        refine W_skip [1] [1] (fr' := [(1, .one (.ptr 1 0))]) (L' := [(1, .one (.pair tI (.pair tI (.slice (.slice (.pair tI (.pair tI tI)))))) a0)]) (by kernel_rfl) (by kernel_rfl) ?_
        refine seqQ_norm ?_
        refine W_seq (by kernel_rfl) ?_
        refine W_seq (by kernel_rfl) ?_
        refine W_run 4 [] [1, 26, 27, 28] [1] (fr' := [(1, .one (.ptr 1 0)), (26, aD (.slice (.slice (.pair tI (.pair tI tI)))) a0.2.2), (27, aI (List.length a0.2.2 : Int)), (28, aI (0 : Int))]) (L' := [(1, .one (.pair tI (.pair tI (.slice (.slice (.pair tI (.pair tI tI)))))) a0)]) (obs := []) (by kernel_rfl) (by kernel_rfl) (by kernel_rfl) allP0 ?_
        refine seqQ_norm ?_
        refine W_block (id := 0) (by kernel_rfl) ?_
        obtain ⟨v38, h39, h⟩ := bind_of h
        refine W_len (t := 26) (u := (.slice (.pair tI (.pair tI tI)))) (xs := a0.2.2) (by kernel_rfl) (fun h42 => ?_)
        obtain ⟨h40, h41⟩ := forL_iter h42 h39
        refine W_weaken [1, 26, 27, 28] [1] (fr' := ((ref_MachineCheck_s2 a0) ((0 : Int), ())).1) (L' := ((ref_MachineCheck_s2 a0) ((0 : Int), ())).2) (by kernel_rfl) ?_
        refine W_cutK (W_loop (S := (ref_MachineCheck_s2 a0)) (J := (escQ (exQ .ret ref_MachineCheck_s3) (exQ (.exit 0) (ref_MachineCheck_s4 a0)))) (by kernel_rfl) ?_ h40 _ v38 h41) ?_
        · rintro ⟨i30, x31⟩ s h
          refine W_seq (by kernel_rfl) ?_
          refine W_run 1 [] [1, 26, 27, 28, 29] [1] (fr' := [(1, .one (.ptr 1 0)), (26, aD (.slice (.slice (.pair tI (.pair tI tI)))) a0.2.2), (27, aI (List.length a0.2.2 : Int)), (28, aI i30), (29, aB (decide (i30 < (List.length a0.2.2 : Int))))]) (L' := [(1, .one (.pair tI (.pair tI (.slice (.slice (.pair tI (.pair tI tI)))))) a0)]) (obs := []) (by kernel_rfl) (by kernel_rfl) (by kernel_rfl) allP0 ?_
          refine seqQ_norm ?_
          refine W_seq (by kernel_rfl) ?_
          refine W_cond (o := .tmp 29) (b := decide (i30 < (List.length a0.2.2 : Int))) (by kernel_rfl) (by kernel_rfl) (fun h35 => ?_) (fun h35 => ?_)
          · replace h := stepL_true h35 h
            obtain ⟨v33, _, h34, h, rfl⟩ := h
            refine W_skip [1, 26, 27, 28] [1] (fr' := [(1, .one (.ptr 1 0)), (26, aD (.slice (.slice (.pair tI (.pair tI tI)))) a0.2.2), (27, aI (List.length a0.2.2 : Int)), (28, aI i30)]) (L' := [(1, .one (.pair tI (.pair tI (.slice (.slice (.pair tI (.pair tI tI)))))) a0)]) (by kernel_rfl) (by kernel_rfl) ?_
            refine seqQ_norm ?_
            refine W_seq (by kernel_rfl) ?_
            refine W_block (id := 1) (by kernel_rfl) ?_
            refine W_seq (by kernel_rfl) ?_
            refine W_run 3 [(1, .val (.dat (.slice (.pair tI (.pair tI tI))) v33))] [1, 4, 26, 27, 28] [1] (fr' := [(1, .one (.ptr 1 0)), (4, aD (.slice (.pair tI (.pair tI tI))) v33), (26, aD (.slice (.slice (.pair tI (.pair tI tI)))) a0.2.2), (27, aI (List.length a0.2.2 : Int)), (28, aI i30)]) (L' := [(1, .one (.pair tI (.pair tI (.slice (.slice (.pair tI (.pair tI tI)))))) a0)]) (obs := [Idx a0.2.2 i30 v33]) (by kernel_rfl) (by kernel_rfl) (by kernel_rfl) (allP1 (Idx.of h34)) ?_
            refine seqQ_norm ?_
            refine W_seq (by kernel_rfl) ?_
            refine W_run 5 [] [1, 26, 27, 28, 36] [1] (fr' := [(1, .one (.ptr 1 0)), (26, aD (.slice (.slice (.pair tI (.pair tI tI)))) a0.2.2), (27, aI (List.length a0.2.2 : Int)), (28, aI i30), (36, aB ((List.length v33 : Int) != a0.2.1))]) (L' := [(1, .one (.pair tI (.pair tI (.slice (.slice (.pair tI (.pair tI tI)))))) a0)]) (obs := []) (by kernel_rfl) (by kernel_rfl) (by kernel_rfl) allP0 ?_
            refine seqQ_norm ?_
            refine W_cond (o := .tmp 36) (b := (List.length v33 : Int) != a0.2.1) (by kernel_rfl) (by kernel_rfl) (fun h36 => ?_) (fun h36 => ?_)
            · replace h := ofT h36 h
              refine W_seq (by kernel_rfl) ?_
              refine W_run 1 [] [2] [] (fr' := [(2, aI (3 : Int))]) (L' := []) (obs := []) (by kernel_rfl) (by kernel_rfl) (by kernel_rfl) allP0 ?_
              refine seqQ_norm ?_
              obtain rfl := Option.some.inj h
              refine W_ret [2] [] (fr' := [(2, aI (3 : Int))]) (L' := []) (by kernel_rfl) (by kernel_rfl) ?_
              refine blockQ_ret ?_
              refine seqQ_ret ?_
              refine round_ret ?_
              refine escQ_ret ?_
              exact exQ_mk (by kernel_rfl) (by kernel_rfl)
            · replace h := ofF h36 h
              refine W_skip [1, 26, 27, 28] [1] (fr' := [(1, .one (.ptr 1 0)), (26, aD (.slice (.slice (.pair tI (.pair tI tI)))) a0.2.2), (27, aI (List.length a0.2.2 : Int)), (28, aI i30)]) (L' := [(1, .one (.pair tI (.pair tI (.slice (.slice (.pair tI (.pair tI tI)))))) a0)]) (by kernel_rfl) (by kernel_rfl) ?_
              refine blockQ_norm ?_
              refine seqQ_norm ?_
              obtain rfl := Option.some.inj h
              refine W_run 2 [] [1, 26, 27, 28] [1] (fr' := [(1, .one (.ptr 1 0)), (26, aD (.slice (.slice (.pair tI (.pair tI tI)))) a0.2.2), (27, aI (List.length a0.2.2 : Int)), (28, aI (w64 (i30 + (1 : Int))))]) (L' := [(1, .one (.pair tI (.pair tI (.slice (.slice (.pair tI (.pair tI tI)))))) a0)]) (obs := []) (by kernel_rfl) (by kernel_rfl) (by kernel_rfl) allP0 ?_
              exact round_next' (by kernel_rfl) (by kernel_rfl)
          · obtain rfl := stepL_false h35 h
            refine W_exit (id := 0) [1] [1] (fr' := [(1, .one (.ptr 1 0))]) (L' := [(1, .one (.pair tI (.pair tI (.slice (.slice (.pair tI (.pair tI tI)))))) a0)]) (by kernel_rfl) (by kernel_rfl) ?_
            refine seqQ_exit ?_
            refine round_exit ?_
            refine escQ_brk ?_
            exact exQ_mk (by kernel_rfl) (by kernel_rfl)
        · intro e fr L hJ
          rcases v38 with v43 | v44
          · obtain ⟨rfl, rfl, rfl⟩ := hJ
            obtain rfl := Option.some.inj h
            refine LT_keep [2] [] (fr' := [(2, aI v43)]) (L' := []) (by kernel_rfl) ?_
            refine blockQ_ret ?_
            refine seqQ_ret ?_
            exact retQ_mk (by kernel_rfl) (by kernel_rfl) (by kernel_rfl)
          · obtain ⟨rfl, rfl, rfl⟩ := hJ
            refine LT_keep [1] [1] (fr' := [(1, .one (.ptr 1 0))]) (L' := [(1, .one (.pair tI (.pair tI (.slice (.slice (.pair tI (.pair tI tI)))))) a0)]) (by kernel_rfl) ?_
            refine blockQ_hit ?_
            refine seqQ_norm ?_
            refine W_seq (by kernel_rfl) ?_
            refine W_seq (by kernel_rfl) ?_
            refine W_run 4 [] [1, 39, 40, 41] [1] (fr' := [(1, .one (.ptr 1 0)), (39, aD (.slice (.slice (.pair tI (.pair tI tI)))) a0.2.2), (40, aI (List.length a0.2.2 : Int)), (41, aI (0 : Int))]) (L' := [(1, .one (.pair tI (.pair tI (.slice (.slice (.pair tI (.pair tI tI)))))) a0)]) (obs := []) (by kernel_rfl) (by kernel_rfl) (by kernel_rfl) allP0 ?_
            refine seqQ_norm ?_
            refine W_block (id := 2) (by kernel_rfl) ?_
            obtain ⟨v207, h208, h⟩ := bind_of h
            refine W_len (t := 39) (u := (.slice (.pair tI (.pair tI tI)))) (xs := a0.2.2) (by kernel_rfl) (fun h211 => ?_)
            obtain ⟨h209, h210⟩ := forL_iter h211 h208
            refine W_weaken [1, 39, 40, 41] [1] (fr' := ((ref_MachineCheck_s16 a0) ((0 : Int), ())).1) (L' := ((ref_MachineCheck_s16 a0) ((0 : Int), ())).2) (by kernel_rfl) ?_
            refine W_cutK (W_loop (S := (ref_MachineCheck_s16 a0)) (J := (escQ (exQ .ret ref_MachineCheck_s17) (exQ (.exit 2) ref_MachineCheck_s18))) (by kernel_rfl) ?_ h209 _ v207 h210) ?_
            · rintro ⟨i151, x152⟩ s h
              refine W_seq (by kernel_rfl) ?_
              refine W_run 1 [] [1, 39, 40, 41, 42] [1] (fr' := [(1, .one (.ptr 1 0)), (39, aD (.slice (.slice (.pair tI (.pair tI tI)))) a0.2.2), (40, aI (List.length a0.2.2 : Int)), (41, aI i151), (42, aB (decide (i151 < (List.length a0.2.2 : Int))))]) (L' := [(1, .one (.pair tI (.pair tI (.slice (.slice (.pair tI (.pair tI tI)))))) a0)]) (obs := []) (by kernel_rfl) (by kernel_rfl) (by kernel_rfl) allP0 ?_
              refine seqQ_norm ?_
              refine W_seq (by kernel_rfl) ?_
              refine W_cond (o := .tmp 42) (b := decide (i151 < (List.length a0.2.2 : Int))) (by kernel_rfl) (by kernel_rfl) (fun h156 => ?_) (fun h156 => ?_)
              · replace h := stepL_true h156 h
                obtain ⟨v154, _, h155, h, rfl⟩ := h
                refine W_skip [1, 39, 40, 41] [1] (fr' := [(1, .one (.ptr 1 0)), (39, aD (.slice (.slice (.pair tI (.pair tI tI)))) a0.2.2), (40, aI (List.length a0.2.2 : Int)), (41, aI i151)]) (L' := [(1, .one (.pair tI (.pair tI (.slice (.slice (.pair tI (.pair tI tI)))))) a0)]) (by kernel_rfl) (by kernel_rfl) ?_
                refine seqQ_norm ?_
                refine W_seq (by kernel_rfl) ?_
                refine W_block (id := 3) (by kernel_rfl) ?_
                refine W_seq (by kernel_rfl) ?_
                refine W_run 3 [(1, .val (.dat (.slice (.pair tI (.pair tI tI))) v154))] [1, 6, 39, 40, 41] [1] (fr' := [(1, .one (.ptr 1 0)), (6, aD (.slice (.pair tI (.pair tI tI))) v154), (39, aD (.slice (.slice (.pair tI (.pair tI tI)))) a0.2.2), (40, aI (List.length a0.2.2 : Int)), (41, aI i151)]) (L' := [(1, .one (.pair tI (.pair tI (.slice (.slice (.pair tI (.pair tI tI)))))) a0)]) (obs := [Idx a0.2.2 i151 v154]) (by kernel_rfl) (by kernel_rfl) (by kernel_rfl) (allP1 (Idx.of h155)) ?_
                refine seqQ_norm ?_
                refine W_seq (by kernel_rfl) ?_
                refine W_run 3 [] [1, 39, 40, 41, 45, 46, 47] [1] (fr' := [(1, .one (.ptr 1 0)), (39, aD (.slice (.slice (.pair tI (.pair tI tI)))) a0.2.2), (40, aI (List.length a0.2.2 : Int)), (41, aI i151), (45, aD (.slice (.pair tI (.pair tI tI))) v154), (46, aI (List.length v154 : Int)), (47, aI (0 : Int))]) (L' := [(1, .one (.pair tI (.pair tI (.slice (.slice (.pair tI (.pair tI tI)))))) a0)]) (obs := []) (by kernel_rfl) (by kernel_rfl) (by kernel_rfl) allP0 ?_
                refine seqQ_norm ?_
                refine W_block (id := 4) (by kernel_rfl) ?_
                obtain ⟨v199, h200, h⟩ := bind_of h
                refine W_len (t := 45) (u := (.pair tI (.pair tI tI))) (xs := v154) (by kernel_rfl) (fun h203 => ?_)
                obtain ⟨h201, h202⟩ := forL_iter h203 h200
                refine W_weaken [1, 39, 40, 41, 45, 46, 47] [1] (fr' := ((ref_MachineCheck_s12 a0 i151 v154) ((0 : Int), ())).1) (L' := ((ref_MachineCheck_s12 a0 i151 v154) ((0 : Int), ())).2) (by kernel_rfl) ?_
                refine W_cutK (W_loop (S := (ref_MachineCheck_s12 a0 i151 v154)) (J := (escQ (exQ .ret ref_MachineCheck_s13) (exQ (.exit 4) (ref_MachineCheck_s14 a0 i151)))) (by kernel_rfl) ?_ h201 _ v199 h202) ?_
                · rintro ⟨i183, x184⟩ s h
                  refine W_seq (by kernel_rfl) ?_
                  refine W_run 1 [] [1, 39, 40, 41, 45, 46, 47, 48] [1] (fr' := [(1, .one (.ptr 1 0)), (39, aD (.slice (.slice (.pair tI (.pair tI tI)))) a0.2.2), (40, aI (List.length a0.2.2 : Int)), (41, aI i151), (45, aD (.slice (.pair tI (.pair tI tI))) v154), (46, aI (List.length v154 : Int)), (47, aI i183), (48, aB (decide (i183 < (List.length v154 : Int))))]) (L' := [(1, .one (.pair tI (.pair tI (.slice (.slice (.pair tI (.pair tI tI)))))) a0)]) (obs := []) (by kernel_rfl) (by kernel_rfl) (by kernel_rfl) allP0 ?_
                  refine seqQ_norm ?_
                  refine W_seq (by kernel_rfl) ?_
                  refine W_cond (o := .tmp 48) (b := decide (i183 < (List.length v154 : Int))) (by kernel_rfl) (by kernel_rfl) (fun h188 => ?_) (fun h188 => ?_)
                  · replace h := stepL_true h188 h
                    obtain ⟨v186, _, h187, h, rfl⟩ := h
                    refine W_skip [1, 39, 40, 41, 45, 46, 47] [1] (fr' := [(1, .one (.ptr 1 0)), (39, aD (.slice (.slice (.pair tI (.pair tI tI)))) a0.2.2), (40, aI (List.length a0.2.2 : Int)), (41, aI i151), (45, aD (.slice (.pair tI (.pair tI tI))) v154), (46, aI (List.length v154 : Int)), (47, aI i183)]) (L' := [(1, .one (.pair tI (.pair tI (.slice (.slice (.pair tI (.pair tI tI)))))) a0)]) (by kernel_rfl) (by kernel_rfl) ?_
                    refine seqQ_norm ?_
                    refine W_seq (by kernel_rfl) ?_
                    refine W_block (id := 5) (by kernel_rfl) ?_
                    refine W_seq (by kernel_rfl) ?_
                    refine W_run 4 [(1, .val (.dat (.pair tI (.pair tI tI)) v186)), (5, .typed)] [1, 8, 39, 40, 41, 45, 46, 47] [1, 8] (fr' := [(1, .one (.ptr 1 0)), (8, .one (.ptr 8 0)), (39, aD (.slice (.slice (.pair tI (.pair tI tI)))) a0.2.2), (40, aI (List.length a0.2.2 : Int)), (41, aI i151), (45, aD (.slice (.pair tI (.pair tI tI))) v154), (46, aI (List.length v154 : Int)), (47, aI i183)]) (L' := [(1, .one (.pair tI (.pair tI (.slice (.slice (.pair tI (.pair tI tI)))))) a0), (8, .one (.pair tI (.pair tI tI)) v186)]) (obs := [Idx v154 i183 v186, True]) (by kernel_rfl) (by kernel_rfl) (by kernel_rfl) (allP2 (Idx.of h187) (allP1 trivial)) ?_
                    refine seqQ_norm ?_
                    refine W_seq (by kernel_rfl) ?_
                    refine W_seq (by kernel_rfl) ?_
                    refine W_region (by kernel_rfl) ?_
                    refine WO_run (j := 5) (k := 5) (orcs := []) (kF := [1, 8, 39, 40, 41, 45, 46, 47, 52, 55]) (kL := [1, 8, 55]) (fr' := [(1, .one (.ptr 1 0)), (8, .one (.ptr 8 0)), (39, aD (.slice (.slice (.pair tI (.pair tI tI)))) a0.2.2), (40, aI (List.length a0.2.2 : Int)), (41, aI i151), (45, aD (.slice (.pair tI (.pair tI tI))) v154), (46, aI (List.length v154 : Int)), (47, aI i183), (52, aI a0.2.1), (55, .one (.slc 55))]) (L' := [(1, .one (.pair tI (.pair tI (.slice (.slice (.pair tI (.pair tI tI)))))) a0), (8, .one (.pair tI (.pair tI tI)) v186), (55, .seq tI [v186.1])]) (obs := []) rfl (by kernel_rfl) allP0 ?_
                    obtain ⟨r189, h190, h⟩ := bind_of h
                    refine WO_frz 55 (by kernel_rfl) ?_
                    refine WO_call0 (us := [none, none]) (d := 56) (p := True) (j := 6) rfl ⟨by kernel_rfl, by kernel_rfl, by kernel_rfl⟩ trivial (ref_Inside_ok h190) (by kernel_rfl) ?_
                    refine WO_run (j := 7) (k := 1) (orcs := []) (kF := [1, 8, 39, 40, 41, 45, 46, 47, 57]) (kL := [1, 8]) (fr' := [(1, .one (.ptr 1 0)), (8, .one (.ptr 8 0)), (39, aD (.slice (.slice (.pair tI (.pair tI tI)))) a0.2.2), (40, aI (List.length a0.2.2 : Int)), (41, aI i151), (45, aD (.slice (.pair tI (.pair tI tI))) v154), (46, aI (List.length v154 : Int)), (47, aI i183), (57, aB (!r189))]) (L' := [(1, .one (.pair tI (.pair tI (.slice (.slice (.pair tI (.pair tI tI)))))) a0), (8, .one (.pair tI (.pair tI tI)) v186)]) (obs := []) rfl (by kernel_rfl) allP0 ?_
                    refine WO_fin [1, 8, 39, 40, 41, 45, 46, 47, 57] [1, 8] (fr' := [(1, .one (.ptr 1 0)), (8, .one (.ptr 8 0)), (39, aD (.slice (.slice (.pair tI (.pair tI tI)))) a0.2.2), (40, aI (List.length a0.2.2 : Int)), (41, aI i151), (45, aD (.slice (.pair tI (.pair tI tI))) v154), (46, aI (List.length v154 : Int)), (47, aI i183), (57, aB (!r189))]) (L' := [(1, .one (.pair tI (.pair tI (.slice (.slice (.pair tI (.pair tI tI)))))) a0), (8, .one (.pair tI (.pair tI tI)) v186)]) (by kernel_rfl) (by kernel_rfl) ?_
                    refine seqQ_norm ?_
                    refine W_cond (o := .tmp 57) (b := !r189) (by kernel_rfl) (by kernel_rfl) (fun h191 => ?_) (fun h191 => ?_)
                    · replace h := ofT h191 h
                      refine W_seq (by kernel_rfl) ?_
                      refine W_run 1 [] [2] [] (fr' := [(2, aI (2 : Int))]) (L' := []) (obs := []) (by kernel_rfl) (by kernel_rfl) (by kernel_rfl) allP0 ?_
                      refine seqQ_norm ?_
                      obtain rfl := Option.some.inj h
                      refine W_ret [2] [] (fr' := [(2, aI (2 : Int))]) (L' := []) (by kernel_rfl) (by kernel_rfl) ?_
                      refine seqQ_ret ?_
                      refine blockQ_ret ?_
                      refine seqQ_ret ?_
                      refine round_ret ?_
                      refine escQ_ret ?_
                      exact exQ_mk (by kernel_rfl) (by kernel_rfl)
                    · replace h := ofF h191 h
                      refine W_skip [1, 8, 39, 40, 41, 45, 46, 47] [1, 8] (fr' := [(1, .one (.ptr 1 0)), (8, .one (.ptr 8 0)), (39, aD (.slice (.slice (.pair tI (.pair tI tI)))) a0.2.2), (40, aI (List.length a0.2.2 : Int)), (41, aI i151), (45, aD (.slice (.pair tI (.pair tI tI))) v154), (46, aI (List.length v154 : Int)), (47, aI i183)]) (L' := [(1, .one (.pair tI (.pair tI (.slice (.slice (.pair tI (.pair tI tI)))))) a0), (8, .one (.pair tI (.pair tI tI)) v186)]) (by kernel_rfl) (by kernel_rfl) ?_
                      refine seqQ_norm ?_
                      refine W_seq (by kernel_rfl) ?_
                      refine W_seq (by kernel_rfl) ?_
                      refine W_region (by kernel_rfl) ?_
                      refine WO_run (j := 2) (k := 2) (orcs := []) (kF := [1, 8, 39, 40, 41, 45, 46, 47, 59]) (kL := [1, 8]) (fr' := [(1, .one (.ptr 1 0)), (8, .one (.ptr 8 0)), (39, aD (.slice (.slice (.pair tI (.pair tI tI)))) a0.2.2), (40, aI (List.length a0.2.2 : Int)), (41, aI i151), (45, aD (.slice (.pair tI (.pair tI tI))) v154), (46, aI (List.length v154 : Int)), (47, aI i183), (59, aI v186.2.1)]) (L' := [(1, .one (.pair tI (.pair tI (.slice (.slice (.pair tI (.pair tI tI)))))) a0), (8, .one (.pair tI (.pair tI tI)) v186)]) (obs := []) rfl (by kernel_rfl) allP0 ?_
                      obtain ⟨r192, h193, h⟩ := bind_of h
                      refine WO_call0 (us := [none, none, none]) (d := 60) (p := True) (j := 3) rfl ⟨by kernel_rfl, by kernel_rfl, by kernel_rfl⟩ trivial (ref_Within_ok h193) (by kernel_rfl) ?_
                      refine WO_run (j := 4) (k := 1) (orcs := []) (kF := [1, 8, 39, 40, 41, 45, 46, 47, 61]) (kL := [1, 8]) (fr' := [(1, .one (.ptr 1 0)), (8, .one (.ptr 8 0)), (39, aD (.slice (.slice (.pair tI (.pair tI tI)))) a0.2.2), (40, aI (List.length a0.2.2 : Int)), (41, aI i151), (45, aD (.slice (.pair tI (.pair tI tI))) v154), (46, aI (List.length v154 : Int)), (47, aI i183), (61, aB (!r192))]) (L' := [(1, .one (.pair tI (.pair tI (.slice (.slice (.pair tI (.pair tI tI)))))) a0), (8, .one (.pair tI (.pair tI tI)) v186)]) (obs := []) rfl (by kernel_rfl) allP0 ?_
                      refine WO_fin [1, 8, 39, 40, 41, 45, 46, 47, 61] [1, 8] (fr' := [(1, .one (.ptr 1 0)), (8, .one (.ptr 8 0)), (39, aD (.slice (.slice (.pair tI (.pair tI tI)))) a0.2.2), (40, aI (List.length a0.2.2 : Int)), (41, aI i151), (45, aD (.slice (.pair tI (.pair tI tI))) v154), (46, aI (List.length v154 : Int)), (47, aI i183), (61, aB (!r192))]) (L' := [(1, .one (.pair tI (.pair tI (.slice (.slice (.pair tI (.pair tI tI)))))) a0), (8, .one (.pair tI (.pair tI tI)) v186)]) (by kernel_rfl) (by kernel_rfl) ?_
                      refine seqQ_norm ?_
                      refine W_cond (o := .tmp 61) (b := !r192) (by kernel_rfl) (by kernel_rfl) (fun h194 => ?_) (fun h194 => ?_)
                      · replace h := ofT h194 h
                        refine W_seq (by kernel_rfl) ?_
                        refine W_run 1 [] [2] [] (fr' := [(2, aI (4 : Int))]) (L' := []) (obs := []) (by kernel_rfl) (by kernel_rfl) (by kernel_rfl) allP0 ?_
                        refine seqQ_norm ?_
                        obtain rfl := Option.some.inj h
                        refine W_ret [2] [] (fr' := [(2, aI (4 : Int))]) (L' := []) (by kernel_rfl) (by kernel_rfl) ?_
                        refine seqQ_ret ?_
                        refine blockQ_ret ?_
                        refine seqQ_ret ?_
                        refine round_ret ?_
                        refine escQ_ret ?_
                        exact exQ_mk (by kernel_rfl) (by kernel_rfl)
                      · replace h := ofF h194 h
                        refine W_skip [1, 8, 39, 40, 41, 45, 46, 47] [1, 8] (fr' := [(1, .one (.ptr 1 0)), (8, .one (.ptr 8 0)), (39, aD (.slice (.slice (.pair tI (.pair tI tI)))) a0.2.2), (40, aI (List.length a0.2.2 : Int)), (41, aI i151), (45, aD (.slice (.pair tI (.pair tI tI))) v154), (46, aI (List.length v154 : Int)), (47, aI i183)]) (L' := [(1, .one (.pair tI (.pair tI (.slice (.slice (.pair tI (.pair tI tI)))))) a0), (8, .one (.pair tI (.pair tI tI)) v186)]) (by kernel_rfl) (by kernel_rfl) ?_
                        refine seqQ_norm ?_
                        refine W_seq (by kernel_rfl) ?_
                        refine W_region (by kernel_rfl) ?_
                        refine WO_run (j := 6) (k := 6) (orcs := []) (kF := [1, 39, 40, 41, 45, 46, 47, 64, 67]) (kL := [1, 8, 67]) (fr' := [(1, .one (.ptr 1 0)), (39, aD (.slice (.slice (.pair tI (.pair tI tI)))) a0.2.2), (40, aI (List.length a0.2.2 : Int)), (41, aI i151), (45, aD (.slice (.pair tI (.pair tI tI))) v154), (46, aI (List.length v154 : Int)), (47, aI i183), (64, aI (w64 (a0.1 + (1 : Int)))), (67, .one (.slc 67))]) (L' := [(1, .one (.pair tI (.pair tI (.slice (.slice (.pair tI (.pair tI tI)))))) a0), (8, .one (.pair tI (.pair tI tI)) v186), (67, .seq tI [v186.2.2])]) (obs := []) rfl (by kernel_rfl) allP0 ?_
                        obtain ⟨r195, h196, h⟩ := bind_of h
                        refine WO_frz 67 (by kernel_rfl) ?_
                        refine WO_call0 (us := [none, none]) (d := 68) (p := True) (j := 7) rfl ⟨by kernel_rfl, by kernel_rfl, by kernel_rfl⟩ trivial (ref_Inside_ok h196) (by kernel_rfl) ?_
                        refine WO_run (j := 8) (k := 1) (orcs := []) (kF := [1, 39, 40, 41, 45, 46, 47, 69]) (kL := [1, 8]) (fr' := [(1, .one (.ptr 1 0)), (39, aD (.slice (.slice (.pair tI (.pair tI tI)))) a0.2.2), (40, aI (List.length a0.2.2 : Int)), (41, aI i151), (45, aD (.slice (.pair tI (.pair tI tI))) v154), (46, aI (List.length v154 : Int)), (47, aI i183), (69, aB (!r195))]) (L' := [(1, .one (.pair tI (.pair tI (.slice (.slice (.pair tI (.pair tI tI)))))) a0), (8, .one (.pair tI (.pair tI tI)) v186)]) (obs := []) rfl (by kernel_rfl) allP0 ?_
                        refine WO_fin [1, 39, 40, 41, 45, 46, 47, 69] [1] (fr' := [(1, .one (.ptr 1 0)), (39, aD (.slice (.slice (.pair tI (.pair tI tI)))) a0.2.2), (40, aI (List.length a0.2.2 : Int)), (41, aI i151), (45, aD (.slice (.pair tI (.pair tI tI))) v154), (46, aI (List.length v154 : Int)), (47, aI i183), (69, aB (!r195))]) (L' := [(1, .one (.pair tI (.pair tI (.slice (.slice (.pair tI (.pair tI tI)))))) a0)]) (by kernel_rfl) (by kernel_rfl) ?_
                        refine seqQ_norm ?_
                        refine W_cond (o := .tmp 69) (b := !r195) (by kernel_rfl) (by kernel_rfl) (fun h197 => ?_) (fun h197 => ?_)
                        · replace h := ofT h197 h
                          refine W_seq (by kernel_rfl) ?_
                          refine W_run 1 [] [2] [] (fr' := [(2, aI (2 : Int))]) (L' := []) (obs := []) (by kernel_rfl) (by kernel_rfl) (by kernel_rfl) allP0 ?_
                          refine seqQ_norm ?_
                          obtain rfl := Option.some.inj h
                          refine W_ret [2] [] (fr' := [(2, aI (2 : Int))]) (L' := []) (by kernel_rfl) (by kernel_rfl) ?_
                          refine blockQ_ret ?_
                          refine seqQ_ret ?_
                          refine round_ret ?_
                          refine escQ_ret ?_
                          exact exQ_mk (by kernel_rfl) (by kernel_rfl)
                        · replace h := ofF h197 h
                          refine W_skip [1, 39, 40, 41, 45, 46, 47] [1] (fr' := [(1, .one (.ptr 1 0)), (39, aD (.slice (.slice (.pair tI (.pair tI tI)))) a0.2.2), (40, aI (List.length a0.2.2 : Int)), (41, aI i151), (45, aD (.slice (.pair tI (.pair tI tI))) v154), (46, aI (List.length v154 : Int)), (47, aI i183)]) (L' := [(1, .one (.pair tI (.pair tI (.slice (.slice (.pair tI (.pair tI tI)))))) a0)]) (by kernel_rfl) (by kernel_rfl) ?_
                          refine blockQ_norm ?_
                          refine seqQ_norm ?_
                          obtain rfl := Option.some.inj h
                          refine W_run 2 [] [1, 39, 40, 41, 45, 46, 47] [1] (fr' := [(1, .one (.ptr 1 0)), (39, aD (.slice (.slice (.pair tI (.pair tI tI)))) a0.2.2), (40, aI (List.length a0.2.2 : Int)), (41, aI i151), (45, aD (.slice (.pair tI (.pair tI tI))) v154), (46, aI (List.length v154 : Int)), (47, aI (w64 (i183 + (1 : Int))))]) (L' := [(1, .one (.pair tI (.pair tI (.slice (.slice (.pair tI (.pair tI tI)))))) a0)]) (obs := []) (by kernel_rfl) (by kernel_rfl) (by kernel_rfl) allP0 ?_
                          exact round_next' (by kernel_rfl) (by kernel_rfl)
                  · obtain rfl := stepL_false h188 h
                    refine W_exit (id := 4) [1, 39, 40, 41] [1] (fr' := [(1, .one (.ptr 1 0)), (39, aD (.slice (.slice (.pair tI (.pair tI tI)))) a0.2.2), (40, aI (List.length a0.2.2 : Int)), (41, aI i151)]) (L' := [(1, .one (.pair tI (.pair tI (.slice (.slice (.pair tI (.pair tI tI)))))) a0)]) (by kernel_rfl) (by kernel_rfl) ?_
                    refine seqQ_exit ?_
                    refine round_exit ?_
                    refine escQ_brk ?_
                    exact exQ_mk (by kernel_rfl) (by kernel_rfl)
                · intro e fr L hJ
                  rcases v199 with v204 | v205
                  · obtain ⟨rfl, rfl, rfl⟩ := hJ
                    obtain rfl := Option.some.inj h
                    refine LT_keep [2] [] (fr' := [(2, aI v204)]) (L' := []) (by kernel_rfl) ?_
                    refine blockQ_ret ?_
                    refine blockQ_ret ?_
                    refine seqQ_ret ?_
                    refine round_ret ?_
                    refine escQ_ret ?_
                    exact exQ_mk (by kernel_rfl) (by kernel_rfl)
                  · obtain ⟨rfl, rfl, rfl⟩ := hJ
                    refine LT_keep [1, 39, 40, 41] [1] (fr' := [(1, .one (.ptr 1 0)), (39, aD (.slice (.slice (.pair tI (.pair tI tI)))) a0.2.2), (40, aI (List.length a0.2.2 : Int)), (41, aI i151)]) (L' := [(1, .one (.pair tI (.pair tI (.slice (.slice (.pair tI (.pair tI tI)))))) a0)]) (by kernel_rfl) ?_
                    refine blockQ_hit ?_
                    refine blockQ_norm ?_
                    refine seqQ_norm ?_
                    obtain rfl := Option.some.inj h
                    refine W_run 2 [] [1, 39, 40, 41] [1] (fr' := [(1, .one (.ptr 1 0)), (39, aD (.slice (.slice (.pair tI (.pair tI tI)))) a0.2.2), (40, aI (List.length a0.2.2 : Int)), (41, aI (w64 (i151 + (1 : Int))))]) (L' := [(1, .one (.pair tI (.pair tI (.slice (.slice (.pair tI (.pair tI tI)))))) a0)]) (obs := []) (by kernel_rfl) (by kernel_rfl) (by kernel_rfl) allP0 ?_
                    exact round_next' (by kernel_rfl) (by kernel_rfl)
              · obtain rfl := stepL_false h156 h
                refine W_exit (id := 2) [] [] (fr' := []) (L' := []) (by kernel_rfl) (by kernel_rfl) ?_
                refine seqQ_exit ?_
                refine round_exit ?_
                refine escQ_brk ?_
                exact exQ_mk (by kernel_rfl) (by kernel_rfl)
            · intro e fr L hJ
              rcases v207 with v212 | v213
              · obtain ⟨rfl, rfl, rfl⟩ := hJ
                obtain rfl := Option.some.inj h
                refine LT_keep [2] [] (fr' := [(2, aI v212)]) (L' := []) (by kernel_rfl) ?_
                refine blockQ_ret ?_
                refine seqQ_ret ?_
                exact retQ_mk (by kernel_rfl) (by kernel_rfl) (by kernel_rfl)
              · obtain ⟨rfl, rfl, rfl⟩ := hJ
                refine LT_keep [] [] (fr' := []) (L' := []) (by kernel_rfl) ?_
                refine blockQ_hit ?_
                refine seqQ_norm ?_
                refine W_seq (by kernel_rfl) ?_
                refine W_run 1 [] [2] [] (fr' := [(2, aI (0 : Int))]) (L' := []) (obs := []) (by kernel_rfl) (by kernel_rfl) (by kernel_rfl) allP0 ?_
                refine seqQ_norm ?_
                obtain rfl := Option.some.inj h
                refine W_ret [2] [] (fr' := [(2, aI (0 : Int))]) (L' := []) (by kernel_rfl) (by kernel_rfl) ?_
                exact retQ_mk (by kernel_rfl) (by kernel_rfl) (by kernel_rfl)

@[reducible] def law_digits_s25 (a0 : (Int × (Int × (List (List (Int × (Int × Int))))))) (i133 : Int) (v136 : (List (Int × (Int × Int)))) (i175 : Int) (x176 : Int) (v178 : (Int × (Int × Int))) (v : Int) : Fr × LL := ([(1, .one (.ptr 1 0)), (3, aI x176), (7, .one (.ptr 7 0)), (8, aI v), (10, aD (.slice (.slice (.pair tI (.pair tI tI)))) a0.2.2), (11, aI (List.length a0.2.2 : Int)), (12, aI i133), (16, aD (.slice (.pair tI (.pair tI tI))) v136), (17, aI (List.length v136 : Int)), (18, aI i175)], [(1, .one (.pair tI (.pair tI (.slice (.slice (.pair tI (.pair tI tI)))))) a0), (7, .one (.pair tI (.pair tI tI)) v178)])
def law_digits_b26 (a0 : (Int × (Int × (List (List (Int × (Int × Int))))))) (i175 : Int) (v178 : (Int × (Int × Int))) (x176 : Int) : Option (Flow Int (Esc Int Int)) :=
bif v178.2.1 == (0 : Int) then
(some (.done (.ret (-1 : Int))))
else
((bif decide (v178.2.1 > (0 : Int)) then
(some (w64 ((w64 ((2 : Int) * v178.1)) + (1 : Int))))
else
(some (w64 ((2 : Int) * v178.1)))).bind fun v191 =>
some (.next (w64 ((w64 ((w64 ((w64 (x176 * (4 : Int))) * (w64 (a0.1 + (1 : Int))))) + (w64 (v191 * (w64 (a0.1 + (1 : Int))))))) + v178.2.2))))
@[reducible] def law_digits_s27 (a0 : (Int × (Int × (List (List (Int × (Int × Int))))))) (i133 : Int) (v136 : (List (Int × (Int × Int)))) (v : Int × Int) : Fr × LL := ([(1, .one (.ptr 1 0)), (3, aI v.2), (10, aD (.slice (.slice (.pair tI (.pair tI tI)))) a0.2.2), (11, aI (List.length a0.2.2 : Int)), (12, aI i133), (16, aD (.slice (.pair tI (.pair tI tI))) v136), (17, aI (List.length v136 : Int)), (18, aI v.1)], [(1, .one (.pair tI (.pair tI (.slice (.slice (.pair tI (.pair tI tI)))))) a0)])
@[reducible] def law_digits_s28 (v : Int) : Fr × LL := ([(2, aI v)], [])
@[reducible] def law_digits_s29 (a0 : (Int × (Int × (List (List (Int × (Int × Int))))))) (i133 : Int) (v : Int) : Fr × LL := ([(1, .one (.ptr 1 0)), (3, aI v), (10, aD (.slice (.slice (.pair tI (.pair tI tI)))) a0.2.2), (11, aI (List.length a0.2.2 : Int)), (12, aI i133)], [(1, .one (.pair tI (.pair tI (.slice (.slice (.pair tI (.pair tI tI)))))) a0)])
def law_digits_b30 (a0 : (Int × (Int × (List (List (Int × (Int × Int))))))) (i133 : Int) (v136 : (List (Int × (Int × Int)))) (x134 : Int) : Option (Flow Int (Esc Int Int)) :=
(forL (law_digits_b26 a0) (fun x176 => (.brk x176)) v136 0 x134).bind fun v194 =>
match v194 with
| .ret v199 =>
(some (.done (.ret v199)))
| .brk v200 =>
(some (.next v200))
@[reducible] def law_digits_s31 (a0 : (Int × (Int × (List (List (Int × (Int × Int))))))) (v : Int × Int) : Fr × LL := ([(1, .one (.ptr 1 0)), (3, aI v.2), (10, aD (.slice (.slice (.pair tI (.pair tI tI)))) a0.2.2), (11, aI (List.length a0.2.2 : Int)), (12, aI v.1)], [(1, .one (.pair tI (.pair tI (.slice (.slice (.pair tI (.pair tI tI)))))) a0)])
@[reducible] def law_digits_s32 (v : Int) : Fr × LL := ([(2, aI v)], [])
@[reducible] def law_digits_s33 (v : Int) : Fr × LL := ([(3, aI v)], [])
def law_digits (a0 : (Int × (Int × (List (List (Int × (Int × Int))))))) : Option Int :=
(forL (law_digits_b30 a0) (fun x134 => (.brk x134)) a0.2.2 0 (0 : Int)).bind fun v202 =>
match v202 with
| .ret v207 =>
(some v207)
| .brk v208 =>
(some v208)
theorem law_digits_ok {a0 : (Int × (Int × (List (List (Int × (Int × Int))))))} {r : Int} (h : law_digits a0 = some r) : FnC Try.prog 19 [aD (.pair tI (.pair tI (.slice (.slice (.pair tI (.pair tI tI)))))) a0] [] (aI r) [] := by
  refine fnC_of_W (B := bodyOf Try.f19) (n := 51) Try.func19 (by kernel_rfl) (by kernel_rfl) (by kernel_rfl) (by kernel_rfl) (by kernel_rfl) ?_
  intro K
  refine W_seq (by kernel_rfl) ?_
  refine W_run 2 [] [1] [1] (fr' := [(1, .one (.ptr 1 0))]) (L' := [(1, .one (.pair tI (.pair tI (.slice (.slice (.pair tI (.pair tI tI)))))) a0)]) (obs := []) (by kernel_rfl) (by kernel_rfl) (by kernel_rfl) allP0 ?_
  refine seqQ_norm ?_
  refine W_seq (by kernel_rfl) ?_
  refine W_run 1 [] [1, 3] [1] (fr' := [(1, .one (.ptr 1 0)), (3, aI (0 : Int))]) (L' := [(1, .one (.pair tI (.pair tI (.slice (.slice (.pair tI (.pair tI tI)))))) a0)]) (obs := []) (by kernel_rfl) (by kernel_rfl) (by kernel_rfl) allP0 ?_
  refine seqQ_norm ?_
  refine W_seq (by kernel_rfl) ?_
  refine W_seq (by kernel_rfl) ?_
  refine W_run 4 [] [1, 3, 10, 11, 12] [1] (fr' := [(1, .one (.ptr 1 0)), (3, aI (0 : Int)), (10, aD (.slice (.slice (.pair tI (.pair tI tI)))) a0.2.2), (11, aI (List.length a0.2.2 : Int)), (12, aI (0 : Int))]) (L' := [(1, .one (.pair tI (.pair tI (.slice (.slice (.pair tI (.pair tI tI)))))) a0)]) (obs := []) (by kernel_rfl) (by kernel_rfl) (by kernel_rfl) allP0 ?_
  refine seqQ_norm ?_
  refine W_block (id := 0) (by kernel_rfl) ?_
  obtain ⟨v202, h203, h⟩ := bind_of h
  refine W_len (t := 10) (u := (.slice (.pair tI (.pair tI tI)))) (xs := a0.2.2) (by kernel_rfl) (fun h206 => ?_)
  obtain ⟨h204, h205⟩ := forL_iter h206 h203
  refine W_weaken [1, 3, 10, 11, 12] [1] (fr' := ((law_digits_s31 a0) ((0 : Int), (0 : Int))).1) (L' := ((law_digits_s31 a0) ((0 : Int), (0 : Int))).2) (by kernel_rfl) ?_
  refine W_cutK (W_loop (S := (law_digits_s31 a0)) (J := (escQ (exQ .ret law_digits_s32) (exQ (.exit 0) law_digits_s33))) (by kernel_rfl) ?_ h204 _ v202 h205) ?_
  · rintro ⟨i133, x134⟩ s h
    refine W_seq (by kernel_rfl) ?_
    refine W_run 1 [] [1, 3, 10, 11, 12, 13] [1] (fr' := [(1, .one (.ptr 1 0)), (3, aI x134), (10, aD (.slice (.slice (.pair tI (.pair tI tI)))) a0.2.2), (11, aI (List.length a0.2.2 : Int)), (12, aI i133), (13, aB (decide (i133 < (List.length a0.2.2 : Int))))]) (L' := [(1, .one (.pair tI (.pair tI (.slice (.slice (.pair tI (.pair tI tI)))))) a0)]) (obs := []) (by kernel_rfl) (by kernel_rfl) (by kernel_rfl) allP0 ?_
    refine seqQ_norm ?_
    refine W_seq (by kernel_rfl) ?_
    refine W_cond (o := .tmp 13) (b := decide (i133 < (List.length a0.2.2 : Int))) (by kernel_rfl) (by kernel_rfl) (fun h138 => ?_) (fun h138 => ?_)
    · replace h := stepL_true h138 h
      obtain ⟨v136, _, h137, h, rfl⟩ := h
      refine W_skip [1, 3, 10, 11, 12] [1] (fr' := [(1, .one (.ptr 1 0)), (3, aI x134), (10, aD (.slice (.slice (.pair tI (.pair tI tI)))) a0.2.2), (11, aI (List.length a0.2.2 : Int)), (12, aI i133)]) (L' := [(1, .one (.pair tI (.pair tI (.slice (.slice (.pair tI (.pair tI tI)))))) a0)]) (by kernel_rfl) (by kernel_rfl) ?_
      refine seqQ_norm ?_
      refine W_seq (by kernel_rfl) ?_
      refine W_block (id := 1) (by kernel_rfl) ?_
      refine W_seq (by kernel_rfl) ?_
      refine W_run 3 [(1, .val (.dat (.slice (.pair tI (.pair tI tI))) v136))] [1, 3, 5, 10, 11, 12] [1] (fr' := [(1, .one (.ptr 1 0)), (3, aI x134), (5, aD (.slice (.pair tI (.pair tI tI))) v136), (10, aD (.slice (.slice (.pair tI (.pair tI tI)))) a0.2.2), (11, aI (List.length a0.2.2 : Int)), (12, aI i133)]) (L' := [(1, .one (.pair tI (.pair tI (.slice (.slice (.pair tI (.pair tI tI)))))) a0)]) (obs := [Idx a0.2.2 i133 v136]) (by kernel_rfl) (by kernel_rfl) (by kernel_rfl) (allP1 (Idx.of h137)) ?_
      refine seqQ_norm ?_
      refine W_seq (by kernel_rfl) ?_
      refine W_run 3 [] [1, 3, 10, 11, 12, 16, 17, 18] [1] (fr' := [(1, .one (.ptr 1 0)), (3, aI x134), (10, aD (.slice (.slice (.pair tI (.pair tI tI)))) a0.2.2), (11, aI (List.length a0.2.2 : Int)), (12, aI i133), (16, aD (.slice (.pair tI (.pair tI tI))) v136), (17, aI (List.length v136 : Int)), (18, aI (0 : Int))]) (L' := [(1, .one (.pair tI (.pair tI (.slice (.slice (.pair tI (.pair tI tI)))))) a0)]) (obs := []) (by kernel_rfl) (by kernel_rfl) (by kernel_rfl) allP0 ?_
      refine seqQ_norm ?_
      refine W_block (id := 2) (by kernel_rfl) ?_
      obtain ⟨v194, h195, h⟩ := bind_of h
      refine W_len (t := 16) (u := (.pair tI (.pair tI tI))) (xs := v136) (by kernel_rfl) (fun h198 => ?_)
      obtain ⟨h196, h197⟩ := forL_iter h198 h195
      refine W_weaken [1, 3, 10, 11, 12, 16, 17, 18] [1] (fr' := ((law_digits_s27 a0 i133 v136) ((0 : Int), x134)).1) (L' := ((law_digits_s27 a0 i133 v136) ((0 : Int), x134)).2) (by kernel_rfl) ?_
      refine W_cutK (W_loop (S := (law_digits_s27 a0 i133 v136)) (J := (escQ (exQ .ret law_digits_s28) (exQ (.exit 2) (law_digits_s29 a0 i133)))) (by kernel_rfl) ?_ h196 _ v194 h197) ?_
      · rintro ⟨i175, x176⟩ s h
        refine W_seq (by kernel_rfl) ?_
        refine W_run 1 [] [1, 3, 10, 11, 12, 16, 17, 18, 19] [1] (fr' := [(1, .one (.ptr 1 0)), (3, aI x176), (10, aD (.slice (.slice (.pair tI (.pair tI tI)))) a0.2.2), (11, aI (List.length a0.2.2 : Int)), (12, aI i133), (16, aD (.slice (.pair tI (.pair tI tI))) v136), (17, aI (List.length v136 : Int)), (18, aI i175), (19, aB (decide (i175 < (List.length v136 : Int))))]) (L' := [(1, .one (.pair tI (.pair tI (.slice (.slice (.pair tI (.pair tI tI)))))) a0)]) (obs := []) (by kernel_rfl) (by kernel_rfl) (by kernel_rfl) allP0 ?_
        refine seqQ_norm ?_
        refine W_seq (by kernel_rfl) ?_
        refine W_cond (o := .tmp 19) (b := decide (i175 < (List.length v136 : Int))) (by kernel_rfl) (by kernel_rfl) (fun h180 => ?_) (fun h180 => ?_)
        · replace h := stepL_true h180 h
          obtain ⟨v178, _, h179, h, rfl⟩ := h
          refine W_skip [1, 3, 10, 11, 12, 16, 17, 18] [1] (fr' := [(1, .one (.ptr 1 0)), (3, aI x176), (10, aD (.slice (.slice (.pair tI (.pair tI tI)))) a0.2.2), (11, aI (List.length a0.2.2 : Int)), (12, aI i133), (16, aD (.slice (.pair tI (.pair tI tI))) v136), (17, aI (List.length v136 : Int)), (18, aI i175)]) (L' := [(1, .one (.pair tI (.pair tI (.slice (.slice (.pair tI (.pair tI tI)))))) a0)]) (by kernel_rfl) (by kernel_rfl) ?_
          refine seqQ_norm ?_
          refine W_seq (by kernel_rfl) ?_
          refine W_block (id := 3) (by kernel_rfl) ?_
          refine W_seq (by kernel_rfl) ?_
          refine W_run 4 [(1, .val (.dat (.pair tI (.pair tI tI)) v178)), (5, .typed)] [1, 3, 7, 10, 11, 12, 16, 17, 18] [1, 7] (fr' := [(1, .one (.ptr 1 0)), (3, aI x176), (7, .one (.ptr 7 0)), (10, aD (.slice (.slice (.pair tI (.pair tI tI)))) a0.2.2), (11, aI (List.length a0.2.2 : Int)), (12, aI i133), (16, aD (.slice (.pair tI (.pair tI tI))) v136), (17, aI (List.length v136 : Int)), (18, aI i175)]) (L' := [(1, .one (.pair tI (.pair tI (.slice (.slice (.pair tI (.pair tI tI)))))) a0), (7, .one (.pair tI (.pair tI tI)) v178)]) (obs := [Idx v136 i175 v178, True]) (by kernel_rfl) (by kernel_rfl) (by kernel_rfl) (allP2 (Idx.of h179) (allP1 trivial)) ?_
          refine seqQ_norm ?_
          refine W_seq (by kernel_rfl) ?_
          refine W_seq (by kernel_rfl) ?_
          refine W_run 3 [] [1, 3, 7, 10, 11, 12, 16, 17, 18, 24] [1, 7] (fr' := [(1, .one (.ptr 1 0)), (3, aI x176), (7, .one (.ptr 7 0)), (10, aD (.slice (.slice (.pair tI (.pair tI tI)))) a0.2.2), (11, aI (List.length a0.2.2 : Int)), (12, aI i133), (16, aD (.slice (.pair tI (.pair tI tI))) v136), (17, aI (List.length v136 : Int)), (18, aI i175), (24, aB (v178.2.1 == (0 : Int)))]) (L' := [(1, .one (.pair tI (.pair tI (.slice (.slice (.pair tI (.pair tI tI)))))) a0), (7, .one (.pair tI (.pair tI tI)) v178)]) (obs := []) (by kernel_rfl) (by kernel_rfl) (by kernel_rfl) allP0 ?_
          refine seqQ_norm ?_
          refine W_cond (o := .tmp 24) (b := v178.2.1 == (0 : Int)) (by kernel_rfl) (by kernel_rfl) (fun h187 => ?_) (fun h187 => ?_)
          · replace h := ofT h187 h
            refine W_seq (by kernel_rfl) ?_
            refine W_run 1 [] [2] [] (fr' := [(2, aI (-1 : Int))]) (L' := []) (obs := []) (by kernel_rfl) (by kernel_rfl) (by kernel_rfl) allP0 ?_
            refine seqQ_norm ?_
            obtain rfl := Option.some.inj h
            refine W_ret [2] [] (fr' := [(2, aI (-1 : Int))]) (L' := []) (by kernel_rfl) (by kernel_rfl) ?_
            refine seqQ_ret ?_
            refine blockQ_ret ?_
            refine seqQ_ret ?_
            refine round_ret ?_
            refine escQ_ret ?_
            exact exQ_mk (by kernel_rfl) (by kernel_rfl)
          · replace h := ofF h187 h
            refine W_skip [1, 3, 7, 10, 11, 12, 16, 17, 18] [1, 7] (fr' := [(1, .one (.ptr 1 0)), (3, aI x176), (7, .one (.ptr 7 0)), (10, aD (.slice (.slice (.pair tI (.pair tI tI)))) a0.2.2), (11, aI (List.length a0.2.2 : Int)), (12, aI i133), (16, aD (.slice (.pair tI (.pair tI tI))) v136), (17, aI (List.length v136 : Int)), (18, aI i175)]) (L' := [(1, .one (.pair tI (.pair tI (.slice (.slice (.pair tI (.pair tI tI)))))) a0), (7, .one (.pair tI (.pair tI tI)) v178)]) (by kernel_rfl) (by kernel_rfl) ?_
            refine seqQ_norm ?_
            refine W_seq (by kernel_rfl) ?_
            refine W_run 4 [] [1, 3, 7, 8, 10, 11, 12, 16, 17, 18] [1, 7] (fr' := [(1, .one (.ptr 1 0)), (3, aI x176), (7, .one (.ptr 7 0)), (8, aI (w64 ((2 : Int) * v178.1))), (10, aD (.slice (.slice (.pair tI (.pair tI tI)))) a0.2.2), (11, aI (List.length a0.2.2 : Int)), (12, aI i133), (16, aD (.slice (.pair tI (.pair tI tI))) v136), (17, aI (List.length v136 : Int)), (18, aI i175)]) (L' := [(1, .one (.pair tI (.pair tI (.slice (.slice (.pair tI (.pair tI tI)))))) a0), (7, .one (.pair tI (.pair tI tI)) v178)]) (obs := []) (by kernel_rfl) (by kernel_rfl) (by kernel_rfl) allP0 ?_
            refine seqQ_norm ?_
            refine W_seq (by kernel_rfl) ?_
            obtain ⟨v191, h192, h⟩ := bind_of h
            refine W_cutK (Q' := (exQ .normal (law_digits_s25 a0 i133 v136 i175 x176 v178)) v191) ?_ ?_
            · replace h := h192
              refine W_seq (by kernel_rfl) ?_
              refine W_run 3 [] [1, 3, 7, 8, 10, 11, 12, 16, 17, 18, 30] [1, 7] (fr' := [(1, .one (.ptr 1 0)), (3, aI x176), (7, .one (.ptr 7 0)), (8, aI (w64 ((2 : Int) * v178.1))), (10, aD (.slice (.slice (.pair tI (.pair tI tI)))) a0.2.2), (11, aI (List.length a0.2.2 : Int)), (12, aI i133), (16, aD (.slice (.pair tI (.pair tI tI))) v136), (17, aI (List.length v136 : Int)), (18, aI i175), (30, aB (decide (v178.2.1 > (0 : Int))))]) (L' := [(1, .one (.pair tI (.pair tI (.slice (.slice (.pair tI (.pair tI tI)))))) a0), (7, .one (.pair tI (.pair tI tI)) v178)]) (obs := []) (by kernel_rfl) (by kernel_rfl) (by kernel_rfl) allP0 ?_
              refine seqQ_norm ?_
              refine W_cond (o := .tmp 30) (b := decide (v178.2.1 > (0 : Int))) (by kernel_rfl) (by kernel_rfl) (fun h190 => ?_) (fun h190 => ?_)
              · replace h := ofT h190 h
                obtain rfl := Option.some.inj h
                refine W_run 3 [] [1, 3, 7, 8, 10, 11, 12, 16, 17, 18] [1, 7] (fr' := [(1, .one (.ptr 1 0)), (3, aI x176), (7, .one (.ptr 7 0)), (8, aI (w64 ((w64 ((2 : Int) * v178.1)) + (1 : Int)))), (10, aD (.slice (.slice (.pair tI (.pair tI tI)))) a0.2.2), (11, aI (List.length a0.2.2 : Int)), (12, aI i133), (16, aD (.slice (.pair tI (.pair tI tI))) v136), (17, aI (List.length v136 : Int)), (18, aI i175)]) (L' := [(1, .one (.pair tI (.pair tI (.slice (.slice (.pair tI (.pair tI tI)))))) a0), (7, .one (.pair tI (.pair tI tI)) v178)]) (obs := []) (by kernel_rfl) (by kernel_rfl) (by kernel_rfl) allP0 ?_
                exact exQ_mk (by kernel_rfl) (by kernel_rfl)
              · replace h := ofF h190 h
                obtain rfl := Option.some.inj h
                refine W_skip [1, 3, 7, 8, 10, 11, 12, 16, 17, 18] [1, 7] (fr' := [(1, .one (.ptr 1 0)), (3, aI x176), (7, .one (.ptr 7 0)), (8, aI (w64 ((2 : Int) * v178.1))), (10, aD (.slice (.slice (.pair tI (.pair tI tI)))) a0.2.2), (11, aI (List.length a0.2.2 : Int)), (12, aI i133), (16, aD (.slice (.pair tI (.pair tI tI))) v136), (17, aI (List.length v136 : Int)), (18, aI i175)]) (L' := [(1, .one (.pair tI (.pair tI (.slice (.slice (.pair tI (.pair tI tI)))))) a0), (7, .one (.pair tI (.pair tI tI)) v178)]) (by kernel_rfl) (by kernel_rfl) ?_
                exact exQ_mk (by kernel_rfl) (by kernel_rfl)
            · intro e fr L hJ
              obtain ⟨rfl, rfl, rfl⟩ := hJ
              refine LT_keep [1, 3, 7, 8, 10, 11, 12, 16, 17, 18] [1, 7] (fr' := [(1, .one (.ptr 1 0)), (3, aI x176), (7, .one (.ptr 7 0)), (8, aI v191), (10, aD (.slice (.slice (.pair tI (.pair tI tI)))) a0.2.2), (11, aI (List.length a0.2.2 : Int)), (12, aI i133), (16, aD (.slice (.pair tI (.pair tI tI))) v136), (17, aI (List.length v136 : Int)), (18, aI i175)]) (L' := [(1, .one (.pair tI (.pair tI (.slice (.slice (.pair tI (.pair tI tI)))))) a0), (7, .one (.pair tI (.pair tI tI)) v178)]) (by kernel_rfl) ?_
              refine seqQ_norm ?_
              refine W_run 16 [] [1, 3, 10, 11, 12, 16, 17, 18] [1] (fr' := [(1, .one (.ptr 1 0)), (3, aI (w64 ((w64 ((w64 ((w64 (x176 * (4 : Int))) * (w64 (a0.1 + (1 : Int))))) + (w64 (v191 * (w64 (a0.1 + (1 : Int))))))) + v178.2.2))), (10, aD (.slice (.slice (.pair tI (.pair tI tI)))) a0.2.2), (11, aI (List.length a0.2.2 : Int)), (12, aI i133), (16, aD (.slice (.pair tI (.pair tI tI))) v136), (17, aI (List.length v136 : Int)), (18, aI i175)]) (L' := [(1, .one (.pair tI (.pair tI (.slice (.slice (.pair tI (.pair tI tI)))))) a0)]) (obs := []) (by kernel_rfl) (by kernel_rfl) (by kernel_rfl) allP0 ?_
              refine blockQ_norm ?_
              refine seqQ_norm ?_
              obtain rfl := Option.some.inj h
              refine W_run 2 [] [1, 3, 10, 11, 12, 16, 17, 18] [1] (fr' := [(1, .one (.ptr 1 0)), (3, aI (w64 ((w64 ((w64 ((w64 (x176 * (4 : Int))) * (w64 (a0.1 + (1 : Int))))) + (w64 (v191 * (w64 (a0.1 + (1 : Int))))))) + v178.2.2))), (10, aD (.slice (.slice (.pair tI (.pair tI tI)))) a0.2.2), (11, aI (List.length a0.2.2 : Int)), (12, aI i133), (16, aD (.slice (.pair tI (.pair tI tI))) v136), (17, aI (List.length v136 : Int)), (18, aI (w64 (i175 + (1 : Int))))]) (L' := [(1, .one (.pair tI (.pair tI (.slice (.slice (.pair tI (.pair tI tI)))))) a0)]) (obs := []) (by kernel_rfl) (by kernel_rfl) (by kernel_rfl) allP0 ?_
              exact round_next' (by kernel_rfl) (by kernel_rfl)
        · obtain rfl := stepL_false h180 h
          refine W_exit (id := 2) [1, 3, 10, 11, 12] [1] (fr' := [(1, .one (.ptr 1 0)), (3, aI x176), (10, aD (.slice (.slice (.pair tI (.pair tI tI)))) a0.2.2), (11, aI (List.length a0.2.2 : Int)), (12, aI i133)]) (L' := [(1, .one (.pair tI (.pair tI (.slice (.slice (.pair tI (.pair tI tI)))))) a0)]) (by kernel_rfl) (by kernel_rfl) ?_
          refine seqQ_exit ?_
          refine round_exit ?_
          refine escQ_brk ?_
          exact exQ_mk (by kernel_rfl) (by kernel_rfl)
      · intro e fr L hJ
        rcases v194 with v199 | v200
        · obtain ⟨rfl, rfl, rfl⟩ := hJ
          obtain rfl := Option.some.inj h
          refine LT_keep [2] [] (fr' := [(2, aI v199)]) (L' := []) (by kernel_rfl) ?_
          refine blockQ_ret ?_
          refine blockQ_ret ?_
          refine seqQ_ret ?_
          refine round_ret ?_
          refine escQ_ret ?_
          exact exQ_mk (by kernel_rfl) (by kernel_rfl)
        · obtain ⟨rfl, rfl, rfl⟩ := hJ
          refine LT_keep [1, 3, 10, 11, 12] [1] (fr' := [(1, .one (.ptr 1 0)), (3, aI v200), (10, aD (.slice (.slice (.pair tI (.pair tI tI)))) a0.2.2), (11, aI (List.length a0.2.2 : Int)), (12, aI i133)]) (L' := [(1, .one (.pair tI (.pair tI (.slice (.slice (.pair tI (.pair tI tI)))))) a0)]) (by kernel_rfl) ?_
          refine blockQ_hit ?_
          refine blockQ_norm ?_
          refine seqQ_norm ?_
          obtain rfl := Option.some.inj h
          refine W_run 2 [] [1, 3, 10, 11, 12] [1] (fr' := [(1, .one (.ptr 1 0)), (3, aI v200), (10, aD (.slice (.slice (.pair tI (.pair tI tI)))) a0.2.2), (11, aI (List.length a0.2.2 : Int)), (12, aI (w64 (i133 + (1 : Int))))]) (L' := [(1, .one (.pair tI (.pair tI (.slice (.slice (.pair tI (.pair tI tI)))))) a0)]) (obs := []) (by kernel_rfl) (by kernel_rfl) (by kernel_rfl) allP0 ?_
          exact round_next' (by kernel_rfl) (by kernel_rfl)
    · obtain rfl := stepL_false h138 h
      refine W_exit (id := 0) [3] [] (fr' := [(3, aI x134)]) (L' := []) (by kernel_rfl) (by kernel_rfl) ?_
      refine seqQ_exit ?_
      refine round_exit ?_
      refine escQ_brk ?_
      exact exQ_mk (by kernel_rfl) (by kernel_rfl)
  · intro e fr L hJ
    rcases v202 with v207 | v208
    · obtain ⟨rfl, rfl, rfl⟩ := hJ
      obtain rfl := Option.some.inj h
      refine LT_keep [2] [] (fr' := [(2, aI v207)]) (L' := []) (by kernel_rfl) ?_
      refine blockQ_ret ?_
      refine seqQ_ret ?_
      exact retQ_mk (by kernel_rfl) (by kernel_rfl) (by kernel_rfl)
    · obtain ⟨rfl, rfl, rfl⟩ := hJ
      refine LT_keep [3] [] (fr' := [(3, aI v208)]) (L' := []) (by kernel_rfl) ?_
      refine blockQ_hit ?_
      refine seqQ_norm ?_
      refine W_seq (by kernel_rfl) ?_
      refine W_run 2 [] [2] [] (fr' := [(2, aI v208)]) (L' := []) (obs := []) (by kernel_rfl) (by kernel_rfl) (by kernel_rfl) allP0 ?_
      refine seqQ_norm ?_
      obtain rfl := Option.some.inj h
      refine W_ret [2] [] (fr' := [(2, aI v208)]) (L' := []) (by kernel_rfl) (by kernel_rfl) ?_
      exact retQ_mk (by kernel_rfl) (by kernel_rfl) (by kernel_rfl)

def law_BusyBuilds_g5 (a0 : Int) (a1 : Int) : Option Bool :=
bif decide (a1 < (0 : Int)) then
(some true)
else
((ref_Power (w64 ((4 : Int) * (w64 (a0 + (1 : Int))))) (w64 ((2 : Int) * a0))).bind fun r43 =>
some (decide (a1 ≥ r43)))
@[reducible] def law_BusyBuilds_s6 (a0 : Int) (a1 : Int) (r1 : ((Int × (Int × (List (List (Int × (Int × Int)))))) × Int)) (v : Bool) : Fr × LL := ([(0, aI a0), (1, aI a1), (5, .one (.ptr 5 0)), (6, aI r1.2), (7, aI (0 : Int)), (28, aB v)], [(5, .one (.pair tI (.pair tI (.slice (.slice (.pair tI (.pair tI tI)))))) r1.1)])
def law_BusyBuilds_g7 (a0 : Int) (a1 : Int) : Option Int :=
(ref_Within (1 : Int) a0 (2 : Int)).bind fun r33 =>
bif !r33 then
(some (1 : Int))
else
((law_BusyBuilds_g5 a0 a1).bind fun v45 =>
bif v45 then
(some (4 : Int))
else
(some (0 : Int)))
def law_BusyBuilds_g8 (r1 : ((Int × (Int × (List (List (Int × (Int × Int)))))) × Int)) (v48 : Int) : Option Bool :=
bif r1.2 == v48 then
(bif r1.1.1 == (0 : Int) then
(bif r1.1.2.1 == (0 : Int) then
(some ((List.length r1.1.2.2 : Int) == (0 : Int)))
else
(some false))
else
(some false))
else
(some false)
@[reducible] def law_BusyBuilds_s9 (v : Bool) : Fr × LL := ([(4, aB v)], [])
def law_BusyBuilds_g10 (a0 : Int) (a1 : Int) (r1 : ((Int × (Int × (List (List (Int × (Int × Int)))))) × Int)) : Option Bool :=
bif r1.2 == (0 : Int) then
((ref_MachineCheck r1.1).bind fun r79 =>
bif r79 == (0 : Int) then
(bif r1.1.1 == a0 then
(bif r1.1.2.1 == (2 : Int) then
((law_digits r1.1).bind fun r84 =>
some (r84 == a1))
else
(some false))
else
(some false))
else
(some false))
else
(some false)
@[reducible] def law_BusyBuilds_s11 (v : Bool) : Fr × LL := ([(4, aB v)], [])
@[reducible] def law_BusyBuilds_s12 (a0 : Int) (a1 : Int) (r1 : ((Int × (Int × (List (List (Int × (Int × Int)))))) × Int)) (v : Int) : Fr × LL := ([(0, aI a0), (1, aI a1), (5, .one (.ptr 5 0)), (6, aI r1.2), (7, aI v)], [(5, .one (.pair tI (.pair tI (.slice (.slice (.pair tI (.pair tI tI)))))) r1.1)])
def law_BusyBuilds (fuel : Nat) (a0 : Int) (a1 : Int) : Option Bool :=
(busy_Build fuel a0 a1).bind fun r1 =>
(law_BusyBuilds_g7 a0 a1).bind fun v48 =>
bif v48 != (0 : Int) then
((law_BusyBuilds_g8 r1 v48).bind fun v60 =>
some v60)
else
((law_BusyBuilds_g10 a0 a1 r1).bind fun v86 =>
some v86)
theorem law_BusyBuilds_ok {fuel : Nat} {a0 : Int} {a1 : Int} {r : Bool} (h : law_BusyBuilds fuel a0 a1 = some r) : FnC Try.prog 3 [aI a0, aI a1] [] (aB r) [] := by
  refine fnC_of_W (B := bodyOf Try.f3) (n := 74) Try.func3 (by kernel_rfl) (by kernel_rfl) (by kernel_rfl) (by kernel_rfl) (by kernel_rfl) ?_
  intro K
  refine W_seq (by kernel_rfl) ?_
  refine W_run 1 [] [0, 1] [] (fr' := [(0, aI a0), (1, aI a1)]) (L' := []) (obs := []) (by kernel_rfl) (by kernel_rfl) (by kernel_rfl) allP0 ?_
  refine seqQ_norm ?_
  refine W_seq (by kernel_rfl) ?_
  refine W_region (by kernel_rfl) ?_
  refine WO_run (j := 2) (k := 2) (orcs := []) (kF := [0, 1, 9, 10]) (kL := []) (fr' := [(0, aI a0), (1, aI a1), (9, aI a0), (10, aI a1)]) (L' := []) (obs := []) rfl (by kernel_rfl) allP0 ?_
  obtain ⟨r1, h2, h⟩ := bind_of h
  refine WO_call0 (us := [none, none]) (d := 11) (p := True) (j := 3) rfl ⟨by kernel_rfl, by kernel_rfl, by kernel_rfl⟩ trivial (busy_Build_ok h2) (by kernel_rfl) ?_
  refine WO_run (j := 9) (k := 6) (orcs := [(13, .typed)]) (kF := [0, 1, 5, 6]) (kL := [5]) (fr' := [(0, aI a0), (1, aI a1), (5, .one (.ptr 5 0)), (6, aI r1.2)]) (L' := [(5, .one (.pair tI (.pair tI (.slice (.slice (.pair tI (.pair tI tI)))))) r1.1)]) (obs := [True]) rfl (by kernel_rfl) (allP1 trivial) ?_
  refine WO_fin [0, 1, 5, 6] [5] (fr' := [(0, aI a0), (1, aI a1), (5, .one (.ptr 5 0)), (6, aI r1.2)]) (L' := [(5, .one (.pair tI (.pair tI (.slice (.slice (.pair tI (.pair tI tI)))))) r1.1)]) (by kernel_rfl) (by kernel_rfl) ?_
  refine seqQ_norm ?_
  refine W_seq (by kernel_rfl) ?_
  refine W_run 1 [] [0, 1, 5, 6, 7] [5] (fr' := [(0, aI a0), (1, aI a1), (5, .one (.ptr 5 0)), (6, aI r1.2), (7, aI (0 : Int))]) (L' := [(5, .one (.pair tI (.pair tI (.slice (.slice (.pair tI (.pair tI tI)))))) r1.1)]) (obs := []) (by kernel_rfl) (by kernel_rfl) (by kernel_rfl) allP0 ?_
  refine seqQ_norm ?_
  refine W_seq (by kernel_rfl) ?_
  obtain ⟨v48, h49, h⟩ := bind_of h
  refine W_cutK (Q' := (exQ .normal (law_BusyBuilds_s12 a0 a1 r1)) v48) ?_ ?_
  · replace h := h49
    refine W_seq (by kernel_rfl) ?_
    refine W_region (by kernel_rfl) ?_
    refine WO_run (j := 1) (k := 1) (orcs := []) (kF := [0, 1, 5, 6, 7, 14]) (kL := [5]) (fr' := [(0, aI a0), (1, aI a1), (5, .one (.ptr 5 0)), (6, aI r1.2), (7, aI (0 : Int)), (14, aI a0)]) (L' := [(5, .one (.pair tI (.pair tI (.slice (.slice (.pair tI (.pair tI tI)))))) r1.1)]) (obs := []) rfl (by kernel_rfl) allP0 ?_
    obtain ⟨r33, h34, h⟩ := bind_of h
    refine WO_call0 (us := [none, none, none]) (d := 15) (p := True) (j := 2) rfl ⟨by kernel_rfl, by kernel_rfl, by kernel_rfl⟩ trivial (ref_Within_ok h34) (by kernel_rfl) ?_
    refine WO_run (j := 3) (k := 1) (orcs := []) (kF := [0, 1, 5, 6, 7, 16]) (kL := [5]) (fr' := [(0, aI a0), (1, aI a1), (5, .one (.ptr 5 0)), (6, aI r1.2), (7, aI (0 : Int)), (16, aB (!r33))]) (L' := [(5, .one (.pair tI (.pair tI (.slice (.slice (.pair tI (.pair tI tI)))))) r1.1)]) (obs := []) rfl (by kernel_rfl) allP0 ?_
    refine WO_fin [0, 1, 5, 6, 7, 16] [5] (fr' := [(0, aI a0), (1, aI a1), (5, .one (.ptr 5 0)), (6, aI r1.2), (7, aI (0 : Int)), (16, aB (!r33))]) (L' := [(5, .one (.pair tI (.pair tI (.slice (.slice (.pair tI (.pair tI tI)))))) r1.1)]) (by kernel_rfl) (by kernel_rfl) ?_
    refine seqQ_norm ?_
    refine W_cond (o := .tmp 16) (b := !r33) (by kernel_rfl) (by kernel_rfl) (fun h35 => ?_) (fun h35 => ?_)
    · replace h := ofT h35 h
      obtain rfl := Option.some.inj h
      refine W_run 1 [] [0, 1, 5, 6, 7] [5] (fr' := [(0, aI a0), (1, aI a1), (5, .one (.ptr 5 0)), (6, aI r1.2), (7, aI (1 : Int))]) (L' := [(5, .one (.pair tI (.pair tI (.slice (.slice (.pair tI (.pair tI tI)))))) r1.1)]) (obs := []) (by kernel_rfl) (by kernel_rfl) (by kernel_rfl) allP0 ?_
      exact exQ_mk (by kernel_rfl) (by kernel_rfl)
    · replace h := ofF h35 h
      refine W_seq (by kernel_rfl) ?_
      obtain ⟨v45, h46, h⟩ := bind_of h
      refine W_cutK (Q' := (exQ .normal (law_BusyBuilds_s6 a0 a1 r1)) v45) ?_ ?_
      · replace h := h46
        refine W_region (by kernel_rfl) ?_
        refine WO_run (j := 3) (k := 3) (orcs := []) (kF := [0, 1, 5, 6, 7, 19]) (kL := [5]) (fr' := [(0, aI a0), (1, aI a1), (5, .one (.ptr 5 0)), (6, aI r1.2), (7, aI (0 : Int)), (19, aB (decide (a1 < (0 : Int))))]) (L' := [(5, .one (.pair tI (.pair tI (.slice (.slice (.pair tI (.pair tI tI)))))) r1.1)]) (obs := []) rfl (by kernel_rfl) allP0 ?_
        rcases Bool.eq_false_or_eq_true (decide (a1 < (0 : Int))) with h42 | h42
        · replace h := ofT h42 h
          refine WO_run (j := 12) (k := 9) (orcs := [(6, .known true), (8, .known true), (10, .known true), (12, .known true), (14, .known true), (16, .known true), (18, .known true), (20, .known true), (23, .val (.dat .bool true))]) (kF := [0, 1, 5, 6, 7, 28]) (kL := [5]) (fr' := [(0, aI a0), (1, aI a1), (5, .one (.ptr 5 0)), (6, aI r1.2), (7, aI (0 : Int)), (28, aB true)]) (L' := [(5, .one (.pair tI (.pair tI (.slice (.slice (.pair tI (.pair tI tI)))))) r1.1)]) (obs := [((decide (a1 < (0 : Int))) = true), ((decide (a1 < (0 : Int))) = true), ((decide (a1 < (0 : Int))) = true), ((decide (a1 < (0 : Int))) = true), ((decide (a1 < (0 : Int))) = true), ((decide (a1 < (0 : Int))) = true), ((decide (a1 < (0 : Int))) = true), ((decide (a1 < (0 : Int))) = true), ((decide (a1 < (0 : Int))) = true)]) rfl (by kernel_rfl) (allP2 h42 (allP2 h42 (allP2 h42 (allP2 h42 (allP2 h42 (allP2 h42 (allP2 h42 (allP2 h42 (allP1 h42))))))))) ?_
          obtain rfl := Option.some.inj h
          refine WO_fin [0, 1, 5, 6, 7, 28] [5] (fr' := [(0, aI a0), (1, aI a1), (5, .one (.ptr 5 0)), (6, aI r1.2), (7, aI (0 : Int)), (28, aB true)]) (L' := [(5, .one (.pair tI (.pair tI (.slice (.slice (.pair tI (.pair tI tI)))))) r1.1)]) (by kernel_rfl) (by kernel_rfl) ?_
          exact exQ_mk (by kernel_rfl) (by kernel_rfl)
        · replace h := ofF h42 h
          refine WO_run (j := 9) (k := 6) (orcs := [(6, .known false), (8, .known false), (10, .known false), (12, .known false), (14, .known false), (16, .known false)]) (kF := [0, 1, 5, 6, 7, 19, 20, 23, 25]) (kL := [5]) (fr' := [(0, aI a0), (1, aI a1), (5, .one (.ptr 5 0)), (6, aI r1.2), (7, aI (0 : Int)), (19, aB (decide (a1 < (0 : Int)))), (20, aI a1), (23, aI (w64 ((4 : Int) * (w64 (a0 + (1 : Int)))))), (25, aI (w64 ((2 : Int) * a0)))]) (L' := [(5, .one (.pair tI (.pair tI (.slice (.slice (.pair tI (.pair tI tI)))))) r1.1)]) (obs := [((decide (a1 < (0 : Int))) = false), ((decide (a1 < (0 : Int))) = false), ((decide (a1 < (0 : Int))) = false), ((decide (a1 < (0 : Int))) = false), ((decide (a1 < (0 : Int))) = false), ((decide (a1 < (0 : Int))) = false)]) rfl (by kernel_rfl) (allP2 h42 (allP2 h42 (allP2 h42 (allP2 h42 (allP2 h42 (allP1 h42)))))) ?_
          obtain ⟨r43, h44, h⟩ := bind_of h
          refine WO_call0 (us := [none, none]) (d := 26) (p := ((decide (a1 < (0 : Int))) = false)) (j := 10) rfl ⟨by kernel_rfl, by kernel_rfl, by kernel_rfl⟩ h42 (ref_Power_ok h44) (by kernel_rfl) ?_
          refine WO_run (j := 12) (k := 2) (orcs := [(20, .known false), (23, .val (.dat .bool false))]) (kF := [0, 1, 5, 6, 7, 28]) (kL := [5]) (fr' := [(0, aI a0), (1, aI a1), (5, .one (.ptr 5 0)), (6, aI r1.2), (7, aI (0 : Int)), (28, aB (decide (a1 ≥ r43)))]) (L' := [(5, .one (.pair tI (.pair tI (.slice (.slice (.pair tI (.pair tI tI)))))) r1.1)]) (obs := [((decide (a1 < (0 : Int))) = false), ((decide (a1 < (0 : Int))) = false)]) rfl (by kernel_rfl) (allP2 h42 (allP1 h42)) ?_
          obtain rfl := Option.some.inj h
          refine WO_fin [0, 1, 5, 6, 7, 28] [5] (fr' := [(0, aI a0), (1, aI a1), (5, .one (.ptr 5 0)), (6, aI r1.2), (7, aI (0 : Int)), (28, aB (decide (a1 ≥ r43)))]) (L' := [(5, .one (.pair tI (.pair tI (.slice (.slice (.pair tI (.pair tI tI)))))) r1.1)]) (by kernel_rfl) (by kernel_rfl) ?_
          exact exQ_mk (by kernel_rfl) (by kernel_rfl)
      · intro e fr L hJ
        obtain ⟨rfl, rfl, rfl⟩ := hJ
        refine LT_keep [0, 1, 5, 6, 7, 28] [5] (fr' := [(0, aI a0), (1, aI a1), (5, .one (.ptr 5 0)), (6, aI r1.2), (7, aI (0 : Int)), (28, aB v45)]) (L' := [(5, .one (.pair tI (.pair tI (.slice (.slice (.pair tI (.pair tI tI)))))) r1.1)]) (by kernel_rfl) ?_
        refine seqQ_norm ?_
        refine W_cond (o := .tmp 28) (b := v45) (by kernel_rfl) (by kernel_rfl) (fun h47 => ?_) (fun h47 => ?_)
        · replace h := ofT h47 h
          obtain rfl := Option.some.inj h
          refine W_run 1 [] [0, 1, 5, 6, 7] [5] (fr' := [(0, aI a0), (1, aI a1), (5, .one (.ptr 5 0)), (6, aI r1.2), (7, aI (4 : Int))]) (L' := [(5, .one (.pair tI (.pair tI (.slice (.slice (.pair tI (.pair tI tI)))))) r1.1)]) (obs := []) (by kernel_rfl) (by kernel_rfl) (by kernel_rfl) allP0 ?_
          exact exQ_mk (by kernel_rfl) (by kernel_rfl)
        · replace h := ofF h47 h
          obtain rfl := Option.some.inj h
          refine W_skip [0, 1, 5, 6, 7] [5] (fr' := [(0, aI a0), (1, aI a1), (5, .one (.ptr 5 0)), (6, aI r1.2), (7, aI (0 : Int))]) (L' := [(5, .one (.pair tI (.pair tI (.slice (.slice (.pair tI (.pair tI tI)))))) r1.1)]) (by kernel_rfl) (by kernel_rfl) ?_
          exact exQ_mk (by kernel_rfl) (by kernel_rfl)
  · intro e fr L hJ
    obtain ⟨rfl, rfl, rfl⟩ := hJ
    refine LT_keep [0, 1, 5, 6, 7] [5] (fr' := [(0, aI a0), (1, aI a1), (5, .one (.ptr 5 0)), (6, aI r1.2), (7, aI v48)]) (L' := [(5, .one (.pair tI (.pair tI (.slice (.slice (.pair tI (.pair tI tI)))))) r1.1)]) (by kernel_rfl) ?_
    refine seqQ_norm ?_
    refine W_seq (by kernel_rfl) ?_
    refine W_seq (by kernel_rfl) ?_
    refine W_run 2 [] [0, 1, 5, 6, 7, 30] [5] (fr' := [(0, aI a0), (1, aI a1), (5, .one (.ptr 5 0)), (6, aI r1.2), (7, aI v48), (30, aB (v48 != (0 : Int)))]) (L' := [(5, .one (.pair tI (.pair tI (.slice (.slice (.pair tI (.pair tI tI)))))) r1.1)]) (obs := []) (by kernel_rfl) (by kernel_rfl) (by kernel_rfl) allP0 ?_
    refine seqQ_norm ?_
    refine W_cond (o := .tmp 30) (b := v48 != (0 : Int)) (by kernel_rfl) (by kernel_rfl) (fun h50 => ?_) (fun h50 => ?_)
    · replace h := ofT h50 h
      refine W_seq (by kernel_rfl) ?_
      obtain ⟨v60, h61, h⟩ := bind_of h
      refine W_cutK (Q' := (exQ .normal law_BusyBuilds_s9) v60) ?_ ?_
      · replace h := h61
        refine W_region (by kernel_rfl) ?_
        refine WO_run (j := 4) (k := 4) (orcs := []) (kF := [5, 34]) (kL := [5]) (fr' := [(5, .one (.ptr 5 0)), (34, aB (r1.2 == v48))]) (L' := [(5, .one (.pair tI (.pair tI (.slice (.slice (.pair tI (.pair tI tI)))))) r1.1)]) (obs := []) rfl (by kernel_rfl) allP0 ?_
        rcases Bool.eq_false_or_eq_true (r1.2 == v48) with h57 | h57
        · replace h := ofT h57 h
          refine WO_run (j := 9) (k := 5) (orcs := [(8, .known true), (10, .known true), (12, .known true), (15, .val (.dat .bool true))]) (kF := [5, 39]) (kL := [5]) (fr' := [(5, .one (.ptr 5 0)), (39, aB (r1.1.1 == (0 : Int)))]) (L' := [(5, .one (.pair tI (.pair tI (.slice (.slice (.pair tI (.pair tI tI)))))) r1.1)]) (obs := [((r1.2 == v48) = true), ((r1.2 == v48) = true), ((r1.2 == v48) = true), ((r1.2 == v48) = true)]) rfl (by kernel_rfl) (allP2 h57 (allP2 h57 (allP2 h57 (allP1 h57)))) ?_
          rcases Bool.eq_false_or_eq_true (r1.1.1 == (0 : Int)) with h58 | h58
          · replace h := ofT h58 h
            refine WO_run (j := 14) (k := 5) (orcs := [(18, .known true), (20, .known true), (22, .known true), (25, .val (.dat .bool true))]) (kF := [5, 44]) (kL := [5]) (fr' := [(5, .one (.ptr 5 0)), (44, aB (r1.1.2.1 == (0 : Int)))]) (L' := [(5, .one (.pair tI (.pair tI (.slice (.slice (.pair tI (.pair tI tI)))))) r1.1)]) (obs := [((r1.1.1 == (0 : Int)) = true), ((r1.1.1 == (0 : Int)) = true), ((r1.1.1 == (0 : Int)) = true), ((r1.1.1 == (0 : Int)) = true)]) rfl (by kernel_rfl) (allP2 h58 (allP2 h58 (allP2 h58 (allP1 h58)))) ?_
            rcases Bool.eq_false_or_eq_true (r1.1.2.1 == (0 : Int)) with h59 | h59
            · replace h := ofT h59 h
              refine WO_run (j := 20) (k := 6) (orcs := [(28, .known true), (30, .known true), (32, .known true), (34, .known true), (37, .val (.dat .bool true))]) (kF := [4]) (kL := [5]) (fr' := [(4, aB ((List.length r1.1.2.2 : Int) == (0 : Int)))]) (L' := [(5, .one (.pair tI (.pair tI (.slice (.slice (.pair tI (.pair tI tI)))))) r1.1)]) (obs := [((r1.1.2.1 == (0 : Int)) = true), ((r1.1.2.1 == (0 : Int)) = true), ((r1.1.2.1 == (0 : Int)) = true), ((r1.1.2.1 == (0 : Int)) = true), ((r1.1.2.1 == (0 : Int)) = true)]) rfl (by kernel_rfl) (allP2 h59 (allP2 h59 (allP2 h59 (allP2 h59 (allP1 h59))))) ?_
              obtain rfl := Option.some.inj h
              refine WO_fin [4] [] (fr' := [(4, aB ((List.length r1.1.2.2 : Int) == (0 : Int)))]) (L' := []) (by kernel_rfl) (by kernel_rfl) ?_
              exact exQ_mk (by kernel_rfl) (by kernel_rfl)
            · replace h := ofF h59 h
              refine WO_run (j := 20) (k := 6) (orcs := [(28, .known false), (30, .known false), (32, .known false), (34, .known false), (37, .val (.dat .bool false))]) (kF := [4]) (kL := [5]) (fr' := [(4, aB false)]) (L' := [(5, .one (.pair tI (.pair tI (.slice (.slice (.pair tI (.pair tI tI)))))) r1.1)]) (obs := [((r1.1.2.1 == (0 : Int)) = false), ((r1.1.2.1 == (0 : Int)) = false), ((r1.1.2.1 == (0 : Int)) = false), ((r1.1.2.1 == (0 : Int)) = false), ((r1.1.2.1 == (0 : Int)) = false)]) rfl (by kernel_rfl) (allP2 h59 (allP2 h59 (allP2 h59 (allP2 h59 (allP1 h59))))) ?_
              obtain rfl := Option.some.inj h
              refine WO_fin [4] [] (fr' := [(4, aB false)]) (L' := []) (by kernel_rfl) (by kernel_rfl) ?_
              exact exQ_mk (by kernel_rfl) (by kernel_rfl)
          · replace h := ofF h58 h
            refine WO_run (j := 20) (k := 11) (orcs := [(18, .known false), (20, .known false), (22, .known false), (25, .val (.dat .bool false)), (28, .known false), (30, .known false), (32, .known false), (34, .known false), (37, .val (.dat .bool false))]) (kF := [4]) (kL := [5]) (fr' := [(4, aB false)]) (L' := [(5, .one (.pair tI (.pair tI (.slice (.slice (.pair tI (.pair tI tI)))))) r1.1)]) (obs := [((r1.1.1 == (0 : Int)) = false), ((r1.1.1 == (0 : Int)) = false), ((r1.1.1 == (0 : Int)) = false), ((r1.1.1 == (0 : Int)) = false), (false = false), (false = false), (false = false), (false = false), (false = false)]) rfl (by kernel_rfl) (allP2 h58 (allP2 h58 (allP2 h58 (allP2 h58 (allP2 rfl (allP2 rfl (allP2 rfl (allP2 rfl (allP1 rfl))))))))) ?_
            obtain rfl := Option.some.inj h
            refine WO_fin [4] [] (fr' := [(4, aB false)]) (L' := []) (by kernel_rfl) (by kernel_rfl) ?_
            exact exQ_mk (by kernel_rfl) (by kernel_rfl)
        · replace h := ofF h57 h
          refine WO_run (j := 20) (k := 16) (orcs := [(8, .known false), (10, .known false), (12, .known false), (15, .val (.dat .bool false)), (18, .known false), (20, .known false), (22, .known false), (25, .val (.dat .bool false)), (28, .known false), (30, .known false), (32, .known false), (34, .known false), (37, .val (.dat .bool false))]) (kF := [4]) (kL := [5]) (fr' := [(4, aB false)]) (L' := [(5, .one (.pair tI (.pair tI (.slice (.slice (.pair tI (.pair tI tI)))))) r1.1)]) (obs := [((r1.2 == v48) = false), ((r1.2 == v48) = false), ((r1.2 == v48) = false), ((r1.2 == v48) = false), (false = false), (false = false), (false = false), (false = false), (false = false), (false = false), (false = false), (false = false), (false = false)]) rfl (by kernel_rfl) (allP2 h57 (allP2 h57 (allP2 h57 (allP2 h57 (allP2 rfl (allP2 rfl (allP2 rfl (allP2 rfl (allP2 rfl (allP2 rfl (allP2 rfl (allP2 rfl (allP1 rfl))))))))))))) ?_
          obtain rfl := Option.some.inj h
          refine WO_fin [4] [] (fr' := [(4, aB false)]) (L' := []) (by kernel_rfl) (by kernel_rfl) ?_
          exact exQ_mk (by kernel_rfl) (by kernel_rfl)
      · intro e fr L hJ
        obtain ⟨rfl, rfl, rfl⟩ := hJ
        refine LT_keep [4] [] (fr' := [(4, aB v60)]) (L' := []) (by kernel_rfl) ?_
        refine seqQ_norm ?_
        obtain rfl := Option.some.inj h
        refine W_ret [4] [] (fr' := [(4, aB v60)]) (L' := []) (by kernel_rfl) (by kernel_rfl) ?_
        refine seqQ_ret ?_
        exact retQ_mk (by kernel_rfl) (by kernel_rfl) (by kernel_rfl)
    · replace h := ofF h50 h
      refine W_skip [0, 1, 5, 6] [5] (fr' := [(0, aI a0), (1, aI a1), (5, .one (.ptr 5 0)), (6, aI r1.2)]) (L' := [(5, .one (.pair tI (.pair tI (.slice (.slice (.pair tI (.pair tI tI)))))) r1.1)]) (by kernel_rfl) (by kernel_rfl) ?_
      refine seqQ_norm ?_
      refine W_seq (by kernel_rfl) ?_
      obtain ⟨v86, h87, h⟩ := bind_of h
      refine W_cutK (Q' := (exQ .normal law_BusyBuilds_s11) v86) ?_ ?_
      · replace h := h87
        refine W_region (by kernel_rfl) ?_
        refine WO_run (j := 3) (k := 3) (orcs := []) (kF := [0, 1, 5, 52]) (kL := [5]) (fr' := [(0, aI a0), (1, aI a1), (5, .one (.ptr 5 0)), (52, aB (r1.2 == (0 : Int)))]) (L' := [(5, .one (.pair tI (.pair tI (.slice (.slice (.pair tI (.pair tI tI)))))) r1.1)]) (obs := []) rfl (by kernel_rfl) allP0 ?_
        rcases Bool.eq_false_or_eq_true (r1.2 == (0 : Int)) with h78 | h78
        · replace h := ofT h78 h
          refine WO_run (j := 4) (k := 1) (orcs := [(6, .known true)]) (kF := [0, 1, 5, 52, 53]) (kL := [5]) (fr' := [(0, aI a0), (1, aI a1), (5, .one (.ptr 5 0)), (52, aB (r1.2 == (0 : Int))), (53, aD (.pair tI (.pair tI (.slice (.slice (.pair tI (.pair tI tI)))))) r1.1)]) (L' := [(5, .one (.pair tI (.pair tI (.slice (.slice (.pair tI (.pair tI tI)))))) r1.1)]) (obs := [((r1.2 == (0 : Int)) = true)]) rfl (by kernel_rfl) (allP1 h78) ?_
          obtain ⟨r79, h80, h⟩ := bind_of h
          refine WO_call0 (us := [none]) (d := 54) (p := ((r1.2 == (0 : Int)) = true)) (j := 5) rfl ⟨by kernel_rfl, by kernel_rfl, by kernel_rfl⟩ h78 (ref_MachineCheck_ok h80) (by kernel_rfl) ?_
          refine WO_run (j := 8) (k := 3) (orcs := [(10, .known true), (13, .val (.dat .bool true))]) (kF := [0, 1, 5, 57]) (kL := [5]) (fr' := [(0, aI a0), (1, aI a1), (5, .one (.ptr 5 0)), (57, aB (r79 == (0 : Int)))]) (L' := [(5, .one (.pair tI (.pair tI (.slice (.slice (.pair tI (.pair tI tI)))))) r1.1)]) (obs := [((r1.2 == (0 : Int)) = true), ((r1.2 == (0 : Int)) = true)]) rfl (by kernel_rfl) (allP2 h78 (allP1 h78)) ?_
          rcases Bool.eq_false_or_eq_true (r79 == (0 : Int)) with h81 | h81
          · replace h := ofT h81 h
            refine WO_run (j := 14) (k := 6) (orcs := [(16, .known true), (18, .known true), (20, .known true), (22, .known true), (25, .val (.dat .bool true))]) (kF := [1, 5, 63]) (kL := [5]) (fr' := [(1, aI a1), (5, .one (.ptr 5 0)), (63, aB (r1.1.1 == a0))]) (L' := [(5, .one (.pair tI (.pair tI (.slice (.slice (.pair tI (.pair tI tI)))))) r1.1)]) (obs := [((r79 == (0 : Int)) = true), ((r79 == (0 : Int)) = true), ((r79 == (0 : Int)) = true), ((r79 == (0 : Int)) = true), ((r79 == (0 : Int)) = true)]) rfl (by kernel_rfl) (allP2 h81 (allP2 h81 (allP2 h81 (allP2 h81 (allP1 h81))))) ?_
            rcases Bool.eq_false_or_eq_true (r1.1.1 == a0) with h82 | h82
            · replace h := ofT h82 h
              refine WO_run (j := 19) (k := 5) (orcs := [(28, .known true), (30, .known true), (32, .known true), (35, .val (.dat .bool true))]) (kF := [1, 5, 68]) (kL := [5]) (fr' := [(1, aI a1), (5, .one (.ptr 5 0)), (68, aB (r1.1.2.1 == (2 : Int)))]) (L' := [(5, .one (.pair tI (.pair tI (.slice (.slice (.pair tI (.pair tI tI)))))) r1.1)]) (obs := [((r1.1.1 == a0) = true), ((r1.1.1 == a0) = true), ((r1.1.1 == a0) = true), ((r1.1.1 == a0) = true)]) rfl (by kernel_rfl) (allP2 h82 (allP2 h82 (allP2 h82 (allP1 h82)))) ?_
              rcases Bool.eq_false_or_eq_true (r1.1.2.1 == (2 : Int)) with h83 | h83
              · replace h := ofT h83 h
                refine WO_run (j := 20) (k := 1) (orcs := [(38, .known true)]) (kF := [1, 68, 69]) (kL := [5]) (fr' := [(1, aI a1), (68, aB (r1.1.2.1 == (2 : Int))), (69, aD (.pair tI (.pair tI (.slice (.slice (.pair tI (.pair tI tI)))))) r1.1)]) (L' := [(5, .one (.pair tI (.pair tI (.slice (.slice (.pair tI (.pair tI tI)))))) r1.1)]) (obs := [((r1.1.2.1 == (2 : Int)) = true)]) rfl (by kernel_rfl) (allP1 h83) ?_
                obtain ⟨r84, h85, h⟩ := bind_of h
                refine WO_call0 (us := [none]) (d := 70) (p := ((r1.1.2.1 == (2 : Int)) = true)) (j := 21) rfl ⟨by kernel_rfl, by kernel_rfl, by kernel_rfl⟩ h83 (law_digits_ok h85) (by kernel_rfl) ?_
                refine WO_run (j := 25) (k := 4) (orcs := [(42, .known true), (44, .known true), (47, .val (.dat .bool true))]) (kF := [4]) (kL := [5]) (fr' := [(4, aB (r84 == a1))]) (L' := [(5, .one (.pair tI (.pair tI (.slice (.slice (.pair tI (.pair tI tI)))))) r1.1)]) (obs := [((r1.1.2.1 == (2 : Int)) = true), ((r1.1.2.1 == (2 : Int)) = true), ((r1.1.2.1 == (2 : Int)) = true)]) rfl (by kernel_rfl) (allP2 h83 (allP2 h83 (allP1 h83))) ?_
                obtain rfl := Option.some.inj h
                refine WO_fin [4] [] (fr' := [(4, aB (r84 == a1))]) (L' := []) (by kernel_rfl) (by kernel_rfl) ?_
                exact exQ_mk (by kernel_rfl) (by kernel_rfl)
              · replace h := ofF h83 h
                refine WO_run (j := 25) (k := 6) (orcs := [(38, .known false), (40, .known false), (42, .known false), (44, .known false), (47, .val (.dat .bool false))]) (kF := [4]) (kL := [5]) (fr' := [(4, aB false)]) (L' := [(5, .one (.pair tI (.pair tI (.slice (.slice (.pair tI (.pair tI tI)))))) r1.1)]) (obs := [((r1.1.2.1 == (2 : Int)) = false), ((r1.1.2.1 == (2 : Int)) = false), ((r1.1.2.1 == (2 : Int)) = false), ((r1.1.2.1 == (2 : Int)) = false), ((r1.1.2.1 == (2 : Int)) = false)]) rfl (by kernel_rfl) (allP2 h83 (allP2 h83 (allP2 h83 (allP2 h83 (allP1 h83))))) ?_
                obtain rfl := Option.some.inj h
                refine WO_fin [4] [] (fr' := [(4, aB false)]) (L' := []) (by kernel_rfl) (by kernel_rfl) ?_
                exact exQ_mk (by kernel_rfl) (by kernel_rfl)
            · replace h := ofF h82 h
              refine WO_run (j := 25) (k := 11) (orcs := [(28, .known false), (30, .known false), (32, .known false), (35, .val (.dat .bool false)), (38, .known false), (40, .known false), (42, .known false), (44, .known false), (47, .val (.dat .bool false))]) (kF := [4]) (kL := [5]) (fr' := [(4, aB false)]) (L' := [(5, .one (.pair tI (.pair tI (.slice (.slice (.pair tI (.pair tI tI)))))) r1.1)]) (obs := [((r1.1.1 == a0) = false), ((r1.1.1 == a0) = false), ((r1.1.1 == a0) = false), ((r1.1.1 == a0) = false), (false = false), (false = false), (false = false), (false = false), (false = false)]) rfl (by kernel_rfl) (allP2 h82 (allP2 h82 (allP2 h82 (allP2 h82 (allP2 rfl (allP2 rfl (allP2 rfl (allP2 rfl (allP1 rfl))))))))) ?_
              obtain rfl := Option.some.inj h
              refine WO_fin [4] [] (fr' := [(4, aB false)]) (L' := []) (by kernel_rfl) (by kernel_rfl) ?_
              exact exQ_mk (by kernel_rfl) (by kernel_rfl)
          · replace h := ofF h81 h
            refine WO_run (j := 25) (k := 17) (orcs := [(16, .known false), (18, .known false), (20, .known false), (22, .known false), (25, .val (.dat .bool false)), (28, .known false), (30, .known false), (32, .known false), (35, .val (.dat .bool false)), (38, .known false), (40, .known false), (42, .known false), (44, .known false), (47, .val (.dat .bool false))]) (kF := [4]) (kL := [5]) (fr' := [(4, aB false)]) (L' := [(5, .one (.pair tI (.pair tI (.slice (.slice (.pair tI (.pair tI tI)))))) r1.1)]) (obs := [((r79 == (0 : Int)) = false), ((r79 == (0 : Int)) = false), ((r79 == (0 : Int)) = false), ((r79 == (0 : Int)) = false), ((r79 == (0 : Int)) = false), (false = false), (false = false), (false = false), (false = false), (false = false), (false = false), (false = false), (false = false), (false = false)]) rfl (by kernel_rfl) (allP2 h81 (allP2 h81 (allP2 h81 (allP2 h81 (allP2 h81 (allP2 rfl (allP2 rfl (allP2 rfl (allP2 rfl (allP2 rfl (allP2 rfl (allP2 rfl (allP2 rfl (allP1 rfl)))))))))))))) ?_
            obtain rfl := Option.some.inj h
            refine WO_fin [4] [] (fr' := [(4, aB false)]) (L' := []) (by kernel_rfl) (by kernel_rfl) ?_
            exact exQ_mk (by kernel_rfl) (by kernel_rfl)
        · replace h := ofF h78 h
          refine WO_run (j := 25) (k := 22) (orcs := [(6, .known false), (8, .known false), (10, .known false), (13, .val (.dat .bool false)), (16, .known false), (18, .known false), (20, .known false), (22, .known false), (25, .val (.dat .bool false)), (28, .known false), (30, .known false), (32, .known false), (35, .val (.dat .bool false)), (38, .known false), (40, .known false), (42, .known false), (44, .known false), (47, .val (.dat .bool false))]) (kF := [4]) (kL := [5]) (fr' := [(4, aB false)]) (L' := [(5, .one (.pair tI (.pair tI (.slice (.slice (.pair tI (.pair tI tI)))))) r1.1)]) (obs := [((r1.2 == (0 : Int)) = false), ((r1.2 == (0 : Int)) = false), ((r1.2 == (0 : Int)) = false), ((r1.2 == (0 : Int)) = false), (false = false), (false = false), (false = false), (false = false), (false = false), (false = false), (false = false), (false = false), (false = false), (false = false), (false = false), (false = false), (false = false), (false = false)]) rfl (by kernel_rfl) (allP2 h78 (allP2 h78 (allP2 h78 (allP2 h78 (allP2 rfl (allP2 rfl (allP2 rfl (allP2 rfl (allP2 rfl (allP2 rfl (allP2 rfl (allP2 rfl (allP2 rfl (allP2 rfl (allP2 rfl (allP2 rfl (allP2 rfl (allP1 rfl)))))))))))))))))) ?_
          obtain rfl := Option.some.inj h
          refine WO_fin [4] [] (fr' := [(4, aB false)]) (L' := []) (by kernel_rfl) (by kernel_rfl) ?_
          exact exQ_mk (by kernel_rfl) (by kernel_rfl)
      · intro e fr L hJ
        obtain ⟨rfl, rfl, rfl⟩ := hJ
        refine LT_keep [4] [] (fr' := [(4, aB v86)]) (L' := []) (by kernel_rfl) ?_
        refine seqQ_norm ?_
        obtain rfl := Option.some.inj h
        refine W_ret [4] [] (fr' := [(4, aB v86)]) (L' := []) (by kernel_rfl) (by kernel_rfl) ?_
        exact retQ_mk (by kernel_rfl) (by kernel_rfl) (by kernel_rfl)
end Go.Proofs.Ytnblafiefaalgaa.busyBuilds
