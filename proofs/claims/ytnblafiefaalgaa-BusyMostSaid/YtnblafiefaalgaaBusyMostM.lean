/- What the functions that BusyMost calls compute, as models, and that they compute it: written by a program of mine. -/
import Derived.Test.YtnblafiefaalgaaProg
import Derived.Test.YtnblafiefaalgaaSl6
set_option linter.all false
set_option maxRecDepth 100000
namespace Go.Proofs.Ytnblafiefaalgaa.busyMost
open Go Go.Sl
noncomputable def busy_power_b1 (a0 : Int) (i5 : Int) (x6 : Int) : Option (Flow Int Int) :=
some (.next (w64 (x6 * (w64 ((4 : Int) * (w64 (a0 + (1 : Int))))))))
@[reducible] noncomputable def busy_power_s2 (a0 : Int) (v : Int × Int) : Fr × LL := ([(0, aI a0), (3, aI v.2), (5, aI (w64 ((2 : Int) * a0))), (6, aI v.1)], [])
@[reducible] noncomputable def busy_power_s3 (v : Int) : Fr × LL := ([(3, aI v)], [])
noncomputable def busy_power (a0 : Int) : Option Int :=
(forI (0 : Int) (w64 ((2 : Int) * a0)) (busy_power_b1 a0) (fun x6 => x6) (1 : Int)).bind fun v10 =>
some v10
theorem busy_power_ok {a0 : Int} {r : Int} (h : busy_power a0 = some r) : FnC Try.prog 53 [aI a0] [] (aI r) [] := by
  refine fnC_of_W (B := bodyOf Try.f53) (n := 15) Try.func53 (by kernel_rfl) (by kernel_rfl) (by kernel_rfl) (by kernel_rfl) (by kernel_rfl) ?_
  intro K
  refine W_seq (by kernel_rfl) ?_
  refine W_run 1 [] [0] [] (fr' := [(0, aI a0)]) (L' := []) (obs := []) (by kernel_rfl) (by kernel_rfl) (by kernel_rfl) allP0 ?_
  refine seqQ_norm ?_
  refine W_seq (by kernel_rfl) ?_
  refine W_run 1 [] [0, 3] [] (fr' := [(0, aI a0), (3, aI (1 : Int))]) (L' := []) (obs := []) (by kernel_rfl) (by kernel_rfl) (by kernel_rfl) allP0 ?_
  refine seqQ_norm ?_
  refine W_seq (by kernel_rfl) ?_
  refine W_seq (by kernel_rfl) ?_
  refine W_run 3 [] [0, 3, 5, 6] [] (fr' := [(0, aI a0), (3, aI (1 : Int)), (5, aI (w64 ((2 : Int) * a0))), (6, aI (0 : Int))]) (L' := []) (obs := []) (by kernel_rfl) (by kernel_rfl) (by kernel_rfl) allP0 ?_
  refine seqQ_norm ?_
  refine W_block (id := 0) (by kernel_rfl) ?_
  obtain ⟨v10, h11, h⟩ := bind_of h
  obtain ⟨h12, h13⟩ := forI_iter h11
  refine W_weaken [0, 3, 5, 6] [] (fr' := ((busy_power_s2 a0) ((0 : Int), (1 : Int))).1) (L' := ((busy_power_s2 a0) ((0 : Int), (1 : Int))).2) (by kernel_rfl) ?_
  refine W_cutK (W_loop (S := (busy_power_s2 a0)) (J := (exQ (.exit 0) busy_power_s3)) (by kernel_rfl) ?_ h12 _ v10 h13) ?_
  · rintro ⟨i5, x6⟩ s h
    refine W_seq (by kernel_rfl) ?_
    refine W_run 1 [] [0, 3, 5, 6, 7] [] (fr' := [(0, aI a0), (3, aI x6), (5, aI (w64 ((2 : Int) * a0))), (6, aI i5), (7, aB (decide (i5 < (w64 ((2 : Int) * a0)))))]) (L' := []) (obs := []) (by kernel_rfl) (by kernel_rfl) (by kernel_rfl) allP0 ?_
    refine seqQ_norm ?_
    refine W_seq (by kernel_rfl) ?_
    refine W_cond (o := .tmp 7) (b := decide (i5 < (w64 ((2 : Int) * a0)))) (by kernel_rfl) (by kernel_rfl) (fun h8 => ?_) (fun h8 => ?_)
    · replace h := stepI_true h8 h
      obtain ⟨_, h, rfl⟩ := h
      refine W_skip [0, 3, 5, 6] [] (fr' := [(0, aI a0), (3, aI x6), (5, aI (w64 ((2 : Int) * a0))), (6, aI i5)]) (L' := []) (by kernel_rfl) (by kernel_rfl) ?_
      refine seqQ_norm ?_
      refine W_seq (by kernel_rfl) ?_
      refine W_block (id := 1) (by kernel_rfl) ?_
      refine W_run 6 [] [0, 3, 5, 6] [] (fr' := [(0, aI a0), (3, aI (w64 (x6 * (w64 ((4 : Int) * (w64 (a0 + (1 : Int)))))))), (5, aI (w64 ((2 : Int) * a0))), (6, aI i5)]) (L' := []) (obs := []) (by kernel_rfl) (by kernel_rfl) (by kernel_rfl) allP0 ?_
      refine blockQ_norm ?_
      refine seqQ_norm ?_
      obtain rfl := Option.some.inj h
      refine W_run 2 [] [0, 3, 5, 6] [] (fr' := [(0, aI a0), (3, aI (w64 (x6 * (w64 ((4 : Int) * (w64 (a0 + (1 : Int)))))))), (5, aI (w64 ((2 : Int) * a0))), (6, aI (w64 (i5 + (1 : Int))))]) (L' := []) (obs := []) (by kernel_rfl) (by kernel_rfl) (by kernel_rfl) allP0 ?_
      exact round_next' (by kernel_rfl) (by kernel_rfl)
    · obtain rfl := stepI_false h8 h
      refine W_exit (id := 0) [3] [] (fr' := [(3, aI x6)]) (L' := []) (by kernel_rfl) (by kernel_rfl) ?_
      refine seqQ_exit ?_
      refine round_exit ?_
      exact exQ_mk (by kernel_rfl) (by kernel_rfl)
  · intro e fr L hJ
    obtain ⟨rfl, rfl, rfl⟩ := hJ
    refine LT_keep [3] [] (fr' := [(3, aI v10)]) (L' := []) (by kernel_rfl) ?_
    refine blockQ_hit ?_
    refine seqQ_norm ?_
    refine W_seq (by kernel_rfl) ?_
    refine W_run 2 [] [2] [] (fr' := [(2, aI v10)]) (L' := []) (obs := []) (by kernel_rfl) (by kernel_rfl) (by kernel_rfl) allP0 ?_
    refine seqQ_norm ?_
    obtain rfl := Option.some.inj h
    refine W_ret [2] [] (fr' := [(2, aI v10)]) (L' := []) (by kernel_rfl) (by kernel_rfl) ?_
    exact retQ_mk (by kernel_rfl) (by kernel_rfl) (by kernel_rfl)

noncomputable def busy_Build_b1 (i23 : Int) (x24 : (List (List (Int × (Int × Int))))) : Option (Flow (List (List (Int × (Int × Int)))) (List (List (Int × (Int × Int))))) :=
(ck ((List.length x24 : Int) + 1 ≤ 4294967296)).bind fun _ =>
some (.next (List.set ((x24 : (List (List (Int × (Int × Int))))) ++ [([] : List (Int × (Int × Int)))]) (Int.toNat (List.length x24 : Int)) (List.replicate (Int.toNat (2 : Int)) ((0 : Int), (0 : Int), (0 : Int)))))
@[reducible] noncomputable def busy_Build_s2 (a0 : Int) (a1 : Int) (v : Int × (List (List (Int × (Int × Int))))) : Fr × LL := ([(0, aI a0), (1, aI a1), (4, .one (.ptr 4 0)), (6, .one (.ptr 6 0)), (27, aI a0), (28, aI v.1)], [(4, .cells [.dat tI (0 : Int), .dat tI (0 : Int), .nilS]), (6, .cells [.dat tI a0, .dat tI (2 : Int), .slc 34]), (34, .rows 0 (.slice (.pair tI (.pair tI tI))) v.2 [])])
@[reducible] noncomputable def busy_Build_s3 (a0 : Int) (a1 : Int) (v : (List (List (Int × (Int × Int))))) : Fr × LL := ([(0, aI a0), (1, aI a1), (4, .one (.ptr 4 0)), (6, .one (.ptr 6 0))], [(4, .cells [.dat tI (0 : Int), .dat tI (0 : Int), .nilS]), (6, .cells [.dat tI a0, .dat tI (2 : Int), .slc 34]), (34, .rows 0 (.slice (.pair tI (.pair tI tI))) v [])])
noncomputable def busy_Build_b4 (a0 : Int) (x43 : (Int × Int × (List (List (Int × (Int × Int)))))) : Option (Flow (Int × Int × (List (List (Int × (Int × Int))))) (List (List (Int × (Int × Int))))) :=
bif decide (x43.2.1 ≥ (0 : Int)) then
((ck (w64 ((4 : Int) * (w64 (a0 + (1 : Int)))) ≠ 0)).bind fun _ =>
(idx x43.2.2 (w64 (Int.tdiv x43.2.1 (2 : Int)))).bind fun v57 =>
(ck (w64 (a0 + (1 : Int)) ≠ 0)).bind fun _ =>
(idx v57 (Int.tmod x43.2.1 (2 : Int))).bind fun v60 =>
some (.next (w64 (Int.tdiv x43.1 (w64 ((4 : Int) * (w64 (a0 + (1 : Int)))))), w64 (x43.2.1 - (1 : Int)), List.set x43.2.2 (Int.toNat (w64 (Int.tdiv x43.2.1 (2 : Int)))) (List.set v57 (Int.toNat (Int.tmod x43.2.1 (2 : Int))) (w64 (Int.tdiv (w64 (Int.tdiv (Int.tmod x43.1 (w64 ((4 : Int) * (w64 (a0 + (1 : Int)))))) (w64 (a0 + (1 : Int))))) (2 : Int)), w64 ((w64 ((Int.tmod (w64 (Int.tdiv (Int.tmod x43.1 (w64 ((4 : Int) * (w64 (a0 + (1 : Int)))))) (w64 (a0 + (1 : Int))))) (2 : Int)) * (2 : Int))) - (1 : Int)), Int.tmod (Int.tmod x43.1 (w64 ((4 : Int) * (w64 (a0 + (1 : Int)))))) (w64 (a0 + (1 : Int))))))))
else
(some (.done x43.2.2))
@[reducible] noncomputable def busy_Build_s5 (a0 : Int) (v : (Int × Int × (List (List (Int × (Int × Int)))))) : Fr × LL := ([(0, aI a0), (1, aI v.1), (4, .one (.ptr 4 0)), (6, .one (.ptr 6 0)), (7, aI v.2.1)], [(4, .cells [.dat tI (0 : Int), .dat tI (0 : Int), .nilS]), (6, .cells [.dat tI a0, .dat tI (2 : Int), .slc 34]), (34, .rows 0 (.slice (.pair tI (.pair tI tI))) v.2.2 [])])
@[reducible] noncomputable def busy_Build_s6 (a0 : Int) (v : (List (List (Int × (Int × Int))))) : Fr × LL := ([(4, .one (.ptr 4 0)), (6, .one (.ptr 6 0))], [(4, .cells [.dat tI (0 : Int), .dat tI (0 : Int), .nilS]), (6, .cells [.dat tI a0, .dat tI (2 : Int), .slc 34]), (34, .rows 0 (.slice (.pair tI (.pair tI tI))) v [])])
@[reducible] noncomputable def busy_Build_s7 (a0 : Int) (a1 : Int) (v : Bool) : Fr × LL := ([(0, aI a0), (1, aI a1), (4, .one (.ptr 4 0)), (23, aB v)], [(4, .cells [.dat tI (0 : Int), .dat tI (0 : Int), .nilS])])
noncomputable def busy_Build (fuel : Nat) (a0 : Int) (a1 : Int) : Option ((Int × (Int × (List (List (Int × (Int × Int)))))) × Int) :=
bif (decide (a0 < (1 : Int))) || (decide (a0 > (2 : Int))) then
(some (((0 : Int), (0 : Int), []), (1 : Int)))
else
((bif decide (a1 < (0 : Int)) then
(some true)
else
((busy_power a0).bind fun r9 =>
some (decide (a1 ≥ r9)))).bind fun v11 =>
bif v11 then
(some (((0 : Int), (0 : Int), []), (4 : Int)))
else
((forI (0 : Int) a0 busy_Build_b1 (fun x24 => x24) []).bind fun v29 =>
(iter (busy_Build_b4 a0) fuel (a1, w64 ((w64 ((2 : Int) * a0)) - (1 : Int)), v29)).bind fun v62 =>
some ((a0, (2 : Int), v62), (0 : Int))))
theorem busy_Build_ok {fuel : Nat} {a0 : Int} {a1 : Int} {r : ((Int × (Int × (List (List (Int × (Int × Int)))))) × Int)} (h : busy_Build fuel a0 a1 = some r) : FnC Try.prog 15 [aI a0, aI a1] [] (.tup [.dat (.pair tI (.pair tI (.slice (.slice (.pair tI (.pair tI tI)))))) r.1, .dat tI r.2]) [] := by
  refine fnC_of_W (B := bodyOf Try.f15) (n := 81) Try.func15 (by kernel_rfl) (by kernel_rfl) (by kernel_rfl) (by kernel_rfl) (by kernel_rfl) ?_
  intro K
  refine W_seq (by kernel_rfl) ?_
  refine W_run 2 [] [0, 1, 4] [4] (fr' := [(0, aI a0), (1, aI a1), (4, .one (.ptr 4 0))]) (L' := [(4, .cells [.dat tI (0 : Int), .dat tI (0 : Int), .nilS])]) (obs := []) (by kernel_rfl) (by kernel_rfl) (by kernel_rfl) allP0 ?_
  refine seqQ_norm ?_
  refine W_seq (by kernel_rfl) ?_
  refine W_seq (by kernel_rfl) ?_
  refine W_run 6 [] [0, 1, 4, 14] [4] (fr' := [(0, aI a0), (1, aI a1), (4, .one (.ptr 4 0)), (14, aB ((decide (a0 < (1 : Int))) || (decide (a0 > (2 : Int)))))]) (L' := [(4, .cells [.dat tI (0 : Int), .dat tI (0 : Int), .nilS])]) (obs := []) (by kernel_rfl) (by kernel_rfl) (by kernel_rfl) allP0 ?_
  refine seqQ_norm ?_
  refine W_cond (o := .tmp 14) (b := (decide (a0 < (1 : Int))) || (decide (a0 > (2 : Int)))) (by kernel_rfl) (by kernel_rfl) (fun h1 => ?_) (fun h1 => ?_)
  · replace h := ofT h1 h
    refine W_seq (by kernel_rfl) ?_
    refine W_run 3 [(1, .val .nilP)] [4, 5] [4] (fr' := [(4, .one (.ptr 4 0)), (5, aI (1 : Int))]) (L' := [(4, .cells [.dat tI (0 : Int), .dat tI (0 : Int), .nilS])]) (obs := [True]) (by kernel_rfl) (by kernel_rfl) (by kernel_rfl) (allP1 trivial) ?_
    refine seqQ_norm ?_
    obtain rfl := Option.some.inj h
    refine W_pack 4 (.pair tI (.pair tI (.slice (.slice (.pair tI (.pair tI tI)))))) (by kernel_rfl) ?_
    refine W_ret [4, 5] [4] (fr' := [(4, .one (.ptr 4 0)), (5, aI (1 : Int))]) (L' := [(4, .one (.pair tI (.pair tI (.slice (.slice (.pair tI (.pair tI tI)))))) ((0 : Int), (0 : Int), []))]) (by kernel_rfl) (by kernel_rfl) ?_
    refine seqQ_ret ?_
    exact retQ_mk (by kernel_rfl) (by kernel_rfl) (by kernel_rfl)
  · replace h := ofF h1 h
    refine W_skip [0, 1, 4] [4] (fr' := [(0, aI a0), (1, aI a1), (4, .one (.ptr 4 0))]) (L' := [(4, .cells [.dat tI (0 : Int), .dat tI (0 : Int), .nilS])]) (by kernel_rfl) (by kernel_rfl) ?_
    refine seqQ_norm ?_
    refine W_seq (by kernel_rfl) ?_
    refine W_seq (by kernel_rfl) ?_
    obtain ⟨v11, h12, h⟩ := bind_of h
    refine W_cutK (Q' := (exQ .normal (busy_Build_s7 a0 a1)) v11) ?_ ?_
    · replace h := h12
      refine W_region (by kernel_rfl) ?_
      refine WO_run (j := 3) (k := 3) (orcs := []) (kF := [0, 1, 4, 18]) (kL := [4]) (fr' := [(0, aI a0), (1, aI a1), (4, .one (.ptr 4 0)), (18, aB (decide (a1 < (0 : Int))))]) (L' := [(4, .cells [.dat tI (0 : Int), .dat tI (0 : Int), .nilS])]) (obs := []) rfl (by kernel_rfl) allP0 ?_
      rcases Bool.eq_false_or_eq_true (decide (a1 < (0 : Int))) with h8 | h8
      · replace h := ofT h8 h
        refine WO_run (j := 8) (k := 5) (orcs := [(6, .known true), (8, .known true), (10, .known true), (12, .known true), (15, .val (.dat .bool true))]) (kF := [0, 1, 4, 23]) (kL := [4]) (fr' := [(0, aI a0), (1, aI a1), (4, .one (.ptr 4 0)), (23, aB true)]) (L' := [(4, .cells [.dat tI (0 : Int), .dat tI (0 : Int), .nilS])]) (obs := [((decide (a1 < (0 : Int))) = true), ((decide (a1 < (0 : Int))) = true), ((decide (a1 < (0 : Int))) = true), ((decide (a1 < (0 : Int))) = true), ((decide (a1 < (0 : Int))) = true)]) rfl (by kernel_rfl) (allP2 h8 (allP2 h8 (allP2 h8 (allP2 h8 (allP1 h8))))) ?_
        obtain rfl := Option.some.inj h
        refine WO_fin [0, 1, 4, 23] [4] (fr' := [(0, aI a0), (1, aI a1), (4, .one (.ptr 4 0)), (23, aB true)]) (L' := [(4, .cells [.dat tI (0 : Int), .dat tI (0 : Int), .nilS])]) (by kernel_rfl) (by kernel_rfl) ?_
        exact exQ_mk (by kernel_rfl) (by kernel_rfl)
      · replace h := ofF h8 h
        refine WO_run (j := 5) (k := 2) (orcs := [(6, .known false), (8, .known false)]) (kF := [0, 1, 4, 18, 19, 20]) (kL := [4]) (fr' := [(0, aI a0), (1, aI a1), (4, .one (.ptr 4 0)), (18, aB (decide (a1 < (0 : Int)))), (19, aI a1), (20, aI a0)]) (L' := [(4, .cells [.dat tI (0 : Int), .dat tI (0 : Int), .nilS])]) (obs := [((decide (a1 < (0 : Int))) = false), ((decide (a1 < (0 : Int))) = false)]) rfl (by kernel_rfl) (allP2 h8 (allP1 h8)) ?_
        obtain ⟨r9, h10, h⟩ := bind_of h
        refine WO_call0 (us := [none]) (d := 21) (p := ((decide (a1 < (0 : Int))) = false)) (j := 6) rfl ⟨by kernel_rfl, by kernel_rfl, by kernel_rfl⟩ h8 (busy_power_ok h10) (by kernel_rfl) ?_
        refine WO_run (j := 8) (k := 2) (orcs := [(12, .known false), (15, .val (.dat .bool false))]) (kF := [0, 1, 4, 23]) (kL := [4]) (fr' := [(0, aI a0), (1, aI a1), (4, .one (.ptr 4 0)), (23, aB (decide (a1 ≥ r9)))]) (L' := [(4, .cells [.dat tI (0 : Int), .dat tI (0 : Int), .nilS])]) (obs := [((decide (a1 < (0 : Int))) = false), ((decide (a1 < (0 : Int))) = false)]) rfl (by kernel_rfl) (allP2 h8 (allP1 h8)) ?_
        obtain rfl := Option.some.inj h
        refine WO_fin [0, 1, 4, 23] [4] (fr' := [(0, aI a0), (1, aI a1), (4, .one (.ptr 4 0)), (23, aB (decide (a1 ≥ r9)))]) (L' := [(4, .cells [.dat tI (0 : Int), .dat tI (0 : Int), .nilS])]) (by kernel_rfl) (by kernel_rfl) ?_
        exact exQ_mk (by kernel_rfl) (by kernel_rfl)
    · intro e fr L hJ
      obtain ⟨rfl, rfl, rfl⟩ := hJ
      refine LT_keep [0, 1, 4, 23] [4] (fr' := [(0, aI a0), (1, aI a1), (4, .one (.ptr 4 0)), (23, aB v11)]) (L' := [(4, .cells [.dat tI (0 : Int), .dat tI (0 : Int), .nilS])]) (by kernel_rfl) ?_
      refine seqQ_norm ?_
      refine W_cond (o := .tmp 23) (b := v11) (by kernel_rfl) (by kernel_rfl) (fun h13 => ?_) (fun h13 => ?_)
      · replace h := ofT h13 h
        refine W_seq (by kernel_rfl) ?_
        refine W_run 3 [(1, .val .nilP)] [4, 5] [4] (fr' := [(4, .one (.ptr 4 0)), (5, aI (4 : Int))]) (L' := [(4, .cells [.dat tI (0 : Int), .dat tI (0 : Int), .nilS])]) (obs := [True]) (by kernel_rfl) (by kernel_rfl) (by kernel_rfl) (allP1 trivial) ?_
        refine seqQ_norm ?_
        obtain rfl := Option.some.inj h
        refine W_pack 4 (.pair tI (.pair tI (.slice (.slice (.pair tI (.pair tI tI)))))) (by kernel_rfl) ?_
        refine W_ret [4, 5] [4] (fr' := [(4, .one (.ptr 4 0)), (5, aI (4 : Int))]) (L' := [(4, .one (.pair tI (.pair tI (.slice (.slice (.pair tI (.pair tI tI)))))) ((0 : Int), (0 : Int), []))]) (by kernel_rfl) (by kernel_rfl) ?_
        refine seqQ_ret ?_
        exact retQ_mk (by kernel_rfl) (by kernel_rfl) (by kernel_rfl)
      · replace h := ofF h13 h
        refine W_skip [0, 1, 4] [4] (fr' := [(0, aI a0), (1, aI a1), (4, .one (.ptr 4 0))]) (L' := [(4, .cells [.dat tI (0 : Int), .dat tI (0 : Int), .nilS])]) (by kernel_rfl) (by kernel_rfl) ?_
        refine seqQ_norm ?_
        refine W_seq (by kernel_rfl) ?_
        refine W_run 4 [(3, .val .nilP)] [0, 1, 4, 6] [4, 6] (fr' := [(0, aI a0), (1, aI a1), (4, .one (.ptr 4 0)), (6, .one (.ptr 6 0))]) (L' := [(4, .cells [.dat tI (0 : Int), .dat tI (0 : Int), .nilS]), (6, .cells [.dat tI a0, .dat tI (2 : Int), .nilS])]) (obs := [True]) (by kernel_rfl) (by kernel_rfl) (by kernel_rfl) (allP1 trivial) ?_
        refine seqQ_norm ?_
        refine W_seq (by kernel_rfl) ?_
        refine W_seq (by kernel_rfl) ?_
        refine W_run 2 [] [0, 1, 4, 6, 27, 28] [4, 6] (fr' := [(0, aI a0), (1, aI a1), (4, .one (.ptr 4 0)), (6, .one (.ptr 6 0)), (27, aI a0), (28, aI (0 : Int))]) (L' := [(4, .cells [.dat tI (0 : Int), .dat tI (0 : Int), .nilS]), (6, .cells [.dat tI a0, .dat tI (2 : Int), .nilS])]) (obs := []) (by kernel_rfl) (by kernel_rfl) (by kernel_rfl) allP0 ?_
        refine seqQ_norm ?_
        refine W_block (id := 0) (by kernel_rfl) ?_
        obtain ⟨v29, h30, h⟩ := bind_of h
        obtain ⟨h31, h32⟩ := forI_iter h30
        refine W_cellownR 6 2 34 0 (.slice (.pair tI (.pair tI tI))) (by kernel_rfl) ?_
        refine W_weaken [0, 1, 4, 6, 27, 28] [4, 6, 34] (fr' := ((busy_Build_s2 a0 a1) ((0 : Int), [])).1) (L' := ((busy_Build_s2 a0 a1) ((0 : Int), [])).2) (by kernel_rfl) ?_
        refine W_cutK (W_loop (S := (busy_Build_s2 a0 a1)) (J := (exQ (.exit 0) (busy_Build_s3 a0 a1))) (by kernel_rfl) ?_ h31 _ v29 h32) ?_
        · rintro ⟨i23, x24⟩ s h
          refine W_seq (by kernel_rfl) ?_
          refine W_run 1 [] [0, 1, 4, 6, 27, 28, 29] [4, 6, 34] (fr' := [(0, aI a0), (1, aI a1), (4, .one (.ptr 4 0)), (6, .one (.ptr 6 0)), (27, aI a0), (28, aI i23), (29, aB (decide (i23 < a0)))]) (L' := [(4, .cells [.dat tI (0 : Int), .dat tI (0 : Int), .nilS]), (6, .cells [.dat tI a0, .dat tI (2 : Int), .slc 34]), (34, .rows 0 (.slice (.pair tI (.pair tI tI))) x24 [])]) (obs := []) (by kernel_rfl) (by kernel_rfl) (by kernel_rfl) allP0 ?_
          refine seqQ_norm ?_
          refine W_seq (by kernel_rfl) ?_
          refine W_cond (o := .tmp 29) (b := decide (i23 < a0)) (by kernel_rfl) (by kernel_rfl) (fun h26 => ?_) (fun h26 => ?_)
          · replace h := stepI_true h26 h
            obtain ⟨_, h, rfl⟩ := h
            refine W_skip [0, 1, 4, 6, 27, 28] [4, 6, 34] (fr' := [(0, aI a0), (1, aI a1), (4, .one (.ptr 4 0)), (6, .one (.ptr 6 0)), (27, aI a0), (28, aI i23)]) (L' := [(4, .cells [.dat tI (0 : Int), .dat tI (0 : Int), .nilS]), (6, .cells [.dat tI a0, .dat tI (2 : Int), .slc 34]), (34, .rows 0 (.slice (.pair tI (.pair tI tI))) x24 [])]) (by kernel_rfl) (by kernel_rfl) ?_
            refine seqQ_norm ?_
            refine W_seq (by kernel_rfl) ?_
            refine W_block (id := 1) (by kernel_rfl) ?_
            refine W_drawC5 4 [(2, [32], [(32, .seq (.pair tI (.pair tI tI)) (List.replicate (Int.toNat (2 : Int)) ((0 : Int), (0 : Int), (0 : Int))))]), (3, [33], [(33, .rows 0 (.slice (.pair tI (.pair tI tI))) [([] : List (Int × (Int × Int)))] [((0 : Int), true, .slc 32)])])] [] [(2, .one (.slc 32)), (3, .one (.slc 33))] [] [] [0, 1, 4, 6, 27, 28, 31, 33] [4, 6, 32, 33, 34] (out := [(30, .one (.ptr 6 2)), (31, .one (.slc 34)), (32, .one (.slc 32)), (33, .one (.slc 33))]) (obs := []) (calls := []) (fr' := [(0, aI a0), (1, aI a1), (4, .one (.ptr 4 0)), (6, .one (.ptr 6 0)), (27, aI a0), (28, aI i23), (31, .one (.slc 34)), (33, .one (.slc 33))]) (L' := [(4, .cells [.dat tI (0 : Int), .dat tI (0 : Int), .nilS]), (6, .cells [.dat tI a0, .dat tI (2 : Int), .slc 34]), (32, .seq (.pair tI (.pair tI tI)) (List.replicate (Int.toNat (2 : Int)) ((0 : Int), (0 : Int), (0 : Int)))), (33, .rows 0 (.slice (.pair tI (.pair tI tI))) [([] : List (Int × (Int × Int)))] [((0 : Int), true, .slc 32)]), (34, .rows 0 (.slice (.pair tI (.pair tI tI))) x24 [])]) (by kernel_rfl) (by kernel_rfl) (by kernel_rfl) (by kernel_rfl) (by kernel_rfl) allP0 allD0 (chDo (ty := false) (d := 32) (nm := 32) (ob := .seq (.pair tI (.pair tI tI)) (List.replicate (Int.toNat (2 : Int)) ((0 : Int), (0 : Int), (0 : Int)))) (av := .one (.slc 32)) (p := 0 ≤ (2 : Int) ∧ (2 : Int) = (2 : Int) ∧ SmallLen (2 : Int)) (by kernel_rfl) (by unfold SmallLen; decide) (by kernel_rfl) (chDo (ty := false) (d := 33) (nm := 33) (ob := .rows 0 (.slice (.pair tI (.pair tI tI))) [([] : List (Int × (Int × Int)))] [((0 : Int), true, .slc 32)]) (av := .one (.slc 33)) (p := True) (by kernel_rfl) trivial (by kernel_rfl) chNil)) mkNil (by kernel_rfl) ?_
            obtain ⟨_, h27, h⟩ := bind_of h
            replace h27 := ck_some h27
            refine WO_run (j := 7) (k := 3) (orcs := []) (kF := [0, 1, 4, 6, 27, 28]) (kL := [4, 6, 32, 34]) (fr' := [(0, aI a0), (1, aI a1), (4, .one (.ptr 4 0)), (6, .one (.ptr 6 0)), (27, aI a0), (28, aI i23)]) (L' := [(4, .cells [.dat tI (0 : Int), .dat tI (0 : Int), .nilS]), (6, .cells [.dat tI a0, .dat tI (2 : Int), .slc 34]), (32, .seq (.pair tI (.pair tI tI)) (List.replicate (Int.toNat (2 : Int)) ((0 : Int), (0 : Int), (0 : Int)))), (34, .rows 0 (.slice (.pair tI (.pair tI tI))) ((x24 : (List (List (Int × (Int × Int))))) ++ [([] : List (Int × (Int × Int)))]) [((List.length x24 : Int), true, .slc 32)])]) (obs := [SmallLen (List.length x24 + 1), True]) rfl (by kernel_rfl) (allP2 h27 (allP1 trivial)) ?_
            refine WO_give 34 (List.length x24 : Int) [true] (p := InR (List.length x24 : Int) (List.length ((x24 : (List (List (Int × (Int × Int))))) ++ [([] : List (Int × (Int × Int)))])) ∧ (List.length x24 : Int) = (List.length x24 : Int)) (by kernel_rfl) ⟨(InR.last x24 [([] : List (Int × (Int × Int)))] (Nat.succ_pos _)), rfl⟩ ?_
            refine WO_fin [0, 1, 4, 6, 27, 28] [4, 6, 34] (fr' := [(0, aI a0), (1, aI a1), (4, .one (.ptr 4 0)), (6, .one (.ptr 6 0)), (27, aI a0), (28, aI i23)]) (L' := [(4, .cells [.dat tI (0 : Int), .dat tI (0 : Int), .nilS]), (6, .cells [.dat tI a0, .dat tI (2 : Int), .slc 34]), (34, .rows 0 (.slice (.pair tI (.pair tI tI))) (List.set ((x24 : (List (List (Int × (Int × Int))))) ++ [([] : List (Int × (Int × Int)))]) (Int.toNat (List.length x24 : Int)) (List.replicate (Int.toNat (2 : Int)) ((0 : Int), (0 : Int), (0 : Int)))) [])]) (by kernel_rfl) (by kernel_rfl) ?_
            refine ⟨rfl, ?_⟩
            refine blockQ_norm ?_
            refine seqQ_norm ?_
            obtain rfl := Option.some.inj h
            refine W_run 2 [] [0, 1, 4, 6, 27, 28] [4, 6, 34] (fr' := [(0, aI a0), (1, aI a1), (4, .one (.ptr 4 0)), (6, .one (.ptr 6 0)), (27, aI a0), (28, aI (w64 (i23 + (1 : Int))))]) (L' := [(4, .cells [.dat tI (0 : Int), .dat tI (0 : Int), .nilS]), (6, .cells [.dat tI a0, .dat tI (2 : Int), .slc 34]), (34, .rows 0 (.slice (.pair tI (.pair tI tI))) (List.set ((x24 : (List (List (Int × (Int × Int))))) ++ [([] : List (Int × (Int × Int)))]) (Int.toNat (List.length x24 : Int)) (List.replicate (Int.toNat (2 : Int)) ((0 : Int), (0 : Int), (0 : Int)))) [])]) (obs := []) (by kernel_rfl) (by kernel_rfl) (by kernel_rfl) allP0 ?_
            exact round_next' (by kernel_rfl) (by kernel_rfl)
          · obtain rfl := stepI_false h26 h
            refine W_exit (id := 0) [0, 1, 4, 6] [4, 6, 34] (fr' := [(0, aI a0), (1, aI a1), (4, .one (.ptr 4 0)), (6, .one (.ptr 6 0))]) (L' := [(4, .cells [.dat tI (0 : Int), .dat tI (0 : Int), .nilS]), (6, .cells [.dat tI a0, .dat tI (2 : Int), .slc 34]), (34, .rows 0 (.slice (.pair tI (.pair tI tI))) x24 [])]) (by kernel_rfl) (by kernel_rfl) ?_
            refine seqQ_exit ?_
            refine round_exit ?_
            exact exQ_mk (by kernel_rfl) (by kernel_rfl)
        · intro e fr L hJ
          obtain ⟨rfl, rfl, rfl⟩ := hJ
          refine LT_keep [0, 1, 4, 6] [4, 6, 34] (fr' := [(0, aI a0), (1, aI a1), (4, .one (.ptr 4 0)), (6, .one (.ptr 6 0))]) (L' := [(4, .cells [.dat tI (0 : Int), .dat tI (0 : Int), .nilS]), (6, .cells [.dat tI a0, .dat tI (2 : Int), .slc 34]), (34, .rows 0 (.slice (.pair tI (.pair tI tI))) v29 [])]) (by kernel_rfl) ?_
          refine blockQ_hit ?_
          refine seqQ_norm ?_
          refine W_seq (by kernel_rfl) ?_
          refine W_seq (by kernel_rfl) ?_
          refine W_run 4 [] [0, 1, 4, 6, 7] [4, 6, 34] (fr' := [(0, aI a0), (1, aI a1), (4, .one (.ptr 4 0)), (6, .one (.ptr 6 0)), (7, aI (w64 ((w64 ((2 : Int) * a0)) - (1 : Int))))]) (L' := [(4, .cells [.dat tI (0 : Int), .dat tI (0 : Int), .nilS]), (6, .cells [.dat tI a0, .dat tI (2 : Int), .slc 34]), (34, .rows 0 (.slice (.pair tI (.pair tI tI))) v29 [])]) (obs := []) (by kernel_rfl) (by kernel_rfl) (by kernel_rfl) allP0 ?_
          refine seqQ_norm ?_
          refine W_block (id := 2) (by kernel_rfl) ?_
          obtain ⟨v62, h63, h⟩ := bind_of h
          refine W_weaken [0, 1, 4, 6, 7] [4, 6, 34] (fr' := ((busy_Build_s5 a0) (a1, w64 ((w64 ((2 : Int) * a0)) - (1 : Int)), v29)).1) (L' := ((busy_Build_s5 a0) (a1, w64 ((w64 ((2 : Int) * a0)) - (1 : Int)), v29)).2) (by kernel_rfl) ?_
          refine W_cutK (W_loop (S := (busy_Build_s5 a0)) (J := (exQ (.exit 2) (busy_Build_s6 a0))) (by kernel_rfl) ?_ fuel _ v62 h63) ?_
          · rintro x43 s h
            refine W_seq (by kernel_rfl) ?_
            refine W_seq (by kernel_rfl) ?_
            refine W_run 2 [] [0, 1, 4, 6, 7, 41] [4, 6, 34] (fr' := [(0, aI a0), (1, aI x43.1), (4, .one (.ptr 4 0)), (6, .one (.ptr 6 0)), (7, aI x43.2.1), (41, aB (decide (x43.2.1 ≥ (0 : Int))))]) (L' := [(4, .cells [.dat tI (0 : Int), .dat tI (0 : Int), .nilS]), (6, .cells [.dat tI a0, .dat tI (2 : Int), .slc 34]), (34, .rows 0 (.slice (.pair tI (.pair tI tI))) x43.2.2 [])]) (obs := []) (by kernel_rfl) (by kernel_rfl) (by kernel_rfl) allP0 ?_
            refine seqQ_norm ?_
            refine W_cond (o := .tmp 41) (b := decide (x43.2.1 ≥ (0 : Int))) (by kernel_rfl) (by kernel_rfl) (fun h53 => ?_) (fun h53 => ?_)
            · replace h := ofT h53 h
              refine W_skip [0, 1, 4, 6, 7] [4, 6, 34] (fr' := [(0, aI a0), (1, aI x43.1), (4, .one (.ptr 4 0)), (6, .one (.ptr 6 0)), (7, aI x43.2.1)]) (L' := [(4, .cells [.dat tI (0 : Int), .dat tI (0 : Int), .nilS]), (6, .cells [.dat tI a0, .dat tI (2 : Int), .slc 34]), (34, .rows 0 (.slice (.pair tI (.pair tI tI))) x43.2.2 [])]) (by kernel_rfl) (by kernel_rfl) ?_
              refine seqQ_norm ?_
              refine W_seq (by kernel_rfl) ?_
              refine W_block (id := 3) (by kernel_rfl) ?_
              refine W_seq (by kernel_rfl) ?_
              obtain ⟨_, h54, h⟩ := bind_of h
              replace h54 := ck_some h54
              refine W_run 6 [] [0, 1, 4, 6, 7, 8] [4, 6, 34] (fr' := [(0, aI a0), (1, aI x43.1), (4, .one (.ptr 4 0)), (6, .one (.ptr 6 0)), (7, aI x43.2.1), (8, aI (Int.tmod x43.1 (w64 ((4 : Int) * (w64 (a0 + (1 : Int)))))))]) (L' := [(4, .cells [.dat tI (0 : Int), .dat tI (0 : Int), .nilS]), (6, .cells [.dat tI a0, .dat tI (2 : Int), .slc 34]), (34, .rows 0 (.slice (.pair tI (.pair tI tI))) x43.2.2 [])]) (obs := [(w64 ((4 : Int) * (w64 (a0 + (1 : Int)))) ≠ 0)]) (by kernel_rfl) (by kernel_rfl) (by kernel_rfl) (allP1 h54) ?_
              refine seqQ_norm ?_
              refine W_seq (by kernel_rfl) ?_
              refine W_run 6 [] [0, 1, 4, 6, 7, 8] [4, 6, 34] (fr' := [(0, aI a0), (1, aI (w64 (Int.tdiv x43.1 (w64 ((4 : Int) * (w64 (a0 + (1 : Int)))))))), (4, .one (.ptr 4 0)), (6, .one (.ptr 6 0)), (7, aI x43.2.1), (8, aI (Int.tmod x43.1 (w64 ((4 : Int) * (w64 (a0 + (1 : Int)))))))]) (L' := [(4, .cells [.dat tI (0 : Int), .dat tI (0 : Int), .nilS]), (6, .cells [.dat tI a0, .dat tI (2 : Int), .slc 34]), (34, .rows 0 (.slice (.pair tI (.pair tI tI))) x43.2.2 [])]) (obs := [(w64 ((4 : Int) * (w64 (a0 + (1 : Int)))) ≠ 0)]) (by kernel_rfl) (by kernel_rfl) (by kernel_rfl) (allP1 h54) ?_
              refine seqQ_norm ?_
              obtain ⟨v57, h58, h⟩ := bind_of h
              refine W_take 34 900 (w64 (Int.tdiv x43.2.1 (2 : Int))) (.dat (.slice (.pair tI (.pair tI tI))) v57) (p := Idx x43.2.2 (w64 (Int.tdiv x43.2.1 (2 : Int))) v57 ∧ True) (by kernel_rfl) ⟨Idx.of h58, trivial⟩ ?_
              obtain ⟨_, h59, h⟩ := bind_of h
              replace h59 := ck_some h59
              refine W_drawC5 25 [] [] [] [(11, .val (.slc 900))] [] [0, 1, 4, 6, 7, 59, 61, 78] [4, 6, 34, 900] (out := [(54, .one (.ptr 6 2)), (55, .one (.slc 34)), (56, aI x43.2.1), (57, aI (w64 (Int.tdiv x43.2.1 (2 : Int)))), (58, .one (.eptr 34 1 (w64 (Int.tdiv x43.2.1 (2 : Int))) 0)), (59, .one (.slc 900)), (60, aI x43.2.1), (61, aI (Int.tmod x43.2.1 (2 : Int))), (62, aI (Int.tmod x43.1 (w64 ((4 : Int) * (w64 (a0 + (1 : Int))))))), (63, aI a0), (64, aI (w64 (a0 + (1 : Int)))), (65, aI (w64 (Int.tdiv (Int.tmod x43.1 (w64 ((4 : Int) * (w64 (a0 + (1 : Int)))))) (w64 (a0 + (1 : Int)))))), (66, aI (w64 (Int.tdiv (w64 (Int.tdiv (Int.tmod x43.1 (w64 ((4 : Int) * (w64 (a0 + (1 : Int)))))) (w64 (a0 + (1 : Int))))) (2 : Int)))), (67, aI (Int.tmod x43.1 (w64 ((4 : Int) * (w64 (a0 + (1 : Int))))))), (68, aI a0), (69, aI (w64 (a0 + (1 : Int)))), (70, aI (w64 (Int.tdiv (Int.tmod x43.1 (w64 ((4 : Int) * (w64 (a0 + (1 : Int)))))) (w64 (a0 + (1 : Int)))))), (71, aI (Int.tmod (w64 (Int.tdiv (Int.tmod x43.1 (w64 ((4 : Int) * (w64 (a0 + (1 : Int)))))) (w64 (a0 + (1 : Int))))) (2 : Int))), (72, aI (w64 ((Int.tmod (w64 (Int.tdiv (Int.tmod x43.1 (w64 ((4 : Int) * (w64 (a0 + (1 : Int)))))) (w64 (a0 + (1 : Int))))) (2 : Int)) * (2 : Int)))), (73, aI (w64 ((w64 ((Int.tmod (w64 (Int.tdiv (Int.tmod x43.1 (w64 ((4 : Int) * (w64 (a0 + (1 : Int)))))) (w64 (a0 + (1 : Int))))) (2 : Int)) * (2 : Int))) - (1 : Int)))), (74, aI (Int.tmod x43.1 (w64 ((4 : Int) * (w64 (a0 + (1 : Int))))))), (75, aI a0), (76, aI (w64 (a0 + (1 : Int)))), (77, aI (Int.tmod (Int.tmod x43.1 (w64 ((4 : Int) * (w64 (a0 + (1 : Int)))))) (w64 (a0 + (1 : Int))))), (78, aD (.pair tI (.pair tI tI)) (w64 (Int.tdiv (w64 (Int.tdiv (Int.tmod x43.1 (w64 ((4 : Int) * (w64 (a0 + (1 : Int)))))) (w64 (a0 + (1 : Int))))) (2 : Int)), w64 ((w64 ((Int.tmod (w64 (Int.tdiv (Int.tmod x43.1 (w64 ((4 : Int) * (w64 (a0 + (1 : Int)))))) (w64 (a0 + (1 : Int))))) (2 : Int)) * (2 : Int))) - (1 : Int)), Int.tmod (Int.tmod x43.1 (w64 ((4 : Int) * (w64 (a0 + (1 : Int)))))) (w64 (a0 + (1 : Int)))))]) (obs := [((2 : Int) ≠ 0), InR (w64 (Int.tdiv x43.2.1 (2 : Int))) (List.length x43.2.2), ((w64 (Int.tdiv x43.2.1 (2 : Int))) = (w64 (Int.tdiv x43.2.1 (2 : Int)))) ∧ InR (w64 (Int.tdiv x43.2.1 (2 : Int))) (List.length x43.2.2), ((2 : Int) ≠ 0), (w64 (a0 + (1 : Int)) ≠ 0), ((2 : Int) ≠ 0), (w64 (a0 + (1 : Int)) ≠ 0), ((2 : Int) ≠ 0), (w64 (a0 + (1 : Int)) ≠ 0)]) (calls := []) (fr' := [(0, aI a0), (1, aI (w64 (Int.tdiv x43.1 (w64 ((4 : Int) * (w64 (a0 + (1 : Int)))))))), (4, .one (.ptr 4 0)), (6, .one (.ptr 6 0)), (7, aI x43.2.1), (59, .one (.slc 900)), (61, aI (Int.tmod x43.2.1 (2 : Int))), (78, aD (.pair tI (.pair tI tI)) (w64 (Int.tdiv (w64 (Int.tdiv (Int.tmod x43.1 (w64 ((4 : Int) * (w64 (a0 + (1 : Int)))))) (w64 (a0 + (1 : Int))))) (2 : Int)), w64 ((w64 ((Int.tmod (w64 (Int.tdiv (Int.tmod x43.1 (w64 ((4 : Int) * (w64 (a0 + (1 : Int)))))) (w64 (a0 + (1 : Int))))) (2 : Int)) * (2 : Int))) - (1 : Int)), Int.tmod (Int.tmod x43.1 (w64 ((4 : Int) * (w64 (a0 + (1 : Int)))))) (w64 (a0 + (1 : Int)))))]) (L' := [(4, .cells [.dat tI (0 : Int), .dat tI (0 : Int), .nilS]), (6, .cells [.dat tI a0, .dat tI (2 : Int), .slc 34]), (34, .rows 0 (.slice (.pair tI (.pair tI tI))) x43.2.2 [(w64 (Int.tdiv x43.2.1 (2 : Int)), true, .slc 900)]), (900, .seq (.pair tI (.pair tI tI)) v57)]) (by kernel_rfl) (by kernel_rfl) (by kernel_rfl) (by kernel_rfl) (by kernel_rfl) (allP2 (by decide) (allP2 (InR.of h58) (allP2 ⟨rfl, (InR.of h58)⟩ (allP2 (by decide) (allP2 h59 (allP2 (by decide) (allP2 h59 (allP2 (by decide) (allP1 h59))))))))) allD0 chNil mkNil (by kernel_rfl) ?_
              obtain ⟨v60, h61, h⟩ := bind_of h
              refine WO_run (j := 27) (k := 2) (orcs := []) (kF := [0, 1, 4, 6, 7]) (kL := [4, 6, 34, 900]) (fr' := [(0, aI a0), (1, aI (w64 (Int.tdiv x43.1 (w64 ((4 : Int) * (w64 (a0 + (1 : Int)))))))), (4, .one (.ptr 4 0)), (6, .one (.ptr 6 0)), (7, aI x43.2.1)]) (L' := [(4, .cells [.dat tI (0 : Int), .dat tI (0 : Int), .nilS]), (6, .cells [.dat tI a0, .dat tI (2 : Int), .slc 34]), (34, .rows 0 (.slice (.pair tI (.pair tI tI))) x43.2.2 [(w64 (Int.tdiv x43.2.1 (2 : Int)), true, .slc 900)]), (900, .seq (.pair tI (.pair tI tI)) (List.set v57 (Int.toNat (Int.tmod x43.2.1 (2 : Int))) (w64 (Int.tdiv (w64 (Int.tdiv (Int.tmod x43.1 (w64 ((4 : Int) * (w64 (a0 + (1 : Int)))))) (w64 (a0 + (1 : Int))))) (2 : Int)), w64 ((w64 ((Int.tmod (w64 (Int.tdiv (Int.tmod x43.1 (w64 ((4 : Int) * (w64 (a0 + (1 : Int)))))) (w64 (a0 + (1 : Int))))) (2 : Int)) * (2 : Int))) - (1 : Int)), Int.tmod (Int.tmod x43.1 (w64 ((4 : Int) * (w64 (a0 + (1 : Int)))))) (w64 (a0 + (1 : Int))))))]) (obs := [InR (Int.tmod x43.2.1 (2 : Int)) (List.length v57), InR (Int.tmod x43.2.1 (2 : Int)) (List.length v57)]) rfl (by kernel_rfl) (allP2 (InR.of h61) (allP1 (InR.of h61))) ?_
              refine WO_give 34 (w64 (Int.tdiv x43.2.1 (2 : Int))) [true] (p := InR (w64 (Int.tdiv x43.2.1 (2 : Int))) (List.length x43.2.2) ∧ (w64 (Int.tdiv x43.2.1 (2 : Int))) = (w64 (Int.tdiv x43.2.1 (2 : Int)))) (by kernel_rfl) ⟨(InR.of h58), rfl⟩ ?_
              refine WO_fin [0, 1, 4, 6, 7] [4, 6, 34] (fr' := [(0, aI a0), (1, aI (w64 (Int.tdiv x43.1 (w64 ((4 : Int) * (w64 (a0 + (1 : Int)))))))), (4, .one (.ptr 4 0)), (6, .one (.ptr 6 0)), (7, aI x43.2.1)]) (L' := [(4, .cells [.dat tI (0 : Int), .dat tI (0 : Int), .nilS]), (6, .cells [.dat tI a0, .dat tI (2 : Int), .slc 34]), (34, .rows 0 (.slice (.pair tI (.pair tI tI))) (List.set x43.2.2 (Int.toNat (w64 (Int.tdiv x43.2.1 (2 : Int)))) (List.set v57 (Int.toNat (Int.tmod x43.2.1 (2 : Int))) (w64 (Int.tdiv (w64 (Int.tdiv (Int.tmod x43.1 (w64 ((4 : Int) * (w64 (a0 + (1 : Int)))))) (w64 (a0 + (1 : Int))))) (2 : Int)), w64 ((w64 ((Int.tmod (w64 (Int.tdiv (Int.tmod x43.1 (w64 ((4 : Int) * (w64 (a0 + (1 : Int)))))) (w64 (a0 + (1 : Int))))) (2 : Int)) * (2 : Int))) - (1 : Int)), Int.tmod (Int.tmod x43.1 (w64 ((4 : Int) * (w64 (a0 + (1 : Int)))))) (w64 (a0 + (1 : Int)))))) [])]) (by kernel_rfl) (by kernel_rfl) ?_
              refine ⟨rfl, ?_⟩
              refine blockQ_norm ?_
              refine seqQ_norm ?_
              obtain rfl := Option.some.inj h
              refine W_run 3 [] [0, 1, 4, 6, 7] [4, 6, 34] (fr' := [(0, aI a0), (1, aI (w64 (Int.tdiv x43.1 (w64 ((4 : Int) * (w64 (a0 + (1 : Int)))))))), (4, .one (.ptr 4 0)), (6, .one (.ptr 6 0)), (7, aI (w64 (x43.2.1 - (1 : Int))))]) (L' := [(4, .cells [.dat tI (0 : Int), .dat tI (0 : Int), .nilS]), (6, .cells [.dat tI a0, .dat tI (2 : Int), .slc 34]), (34, .rows 0 (.slice (.pair tI (.pair tI tI))) (List.set x43.2.2 (Int.toNat (w64 (Int.tdiv x43.2.1 (2 : Int)))) (List.set v57 (Int.toNat (Int.tmod x43.2.1 (2 : Int))) (w64 (Int.tdiv (w64 (Int.tdiv (Int.tmod x43.1 (w64 ((4 : Int) * (w64 (a0 + (1 : Int)))))) (w64 (a0 + (1 : Int))))) (2 : Int)), w64 ((w64 ((Int.tmod (w64 (Int.tdiv (Int.tmod x43.1 (w64 ((4 : Int) * (w64 (a0 + (1 : Int)))))) (w64 (a0 + (1 : Int))))) (2 : Int)) * (2 : Int))) - (1 : Int)), Int.tmod (Int.tmod x43.1 (w64 ((4 : Int) * (w64 (a0 + (1 : Int)))))) (w64 (a0 + (1 : Int)))))) [])]) (obs := []) (by kernel_rfl) (by kernel_rfl) (by kernel_rfl) allP0 ?_
              exact round_next' (by kernel_rfl) (by kernel_rfl)
            · replace h := ofF h53 h
              obtain rfl := Option.some.inj h
              refine W_exit (id := 2) [4, 6] [4, 6, 34] (fr' := [(4, .one (.ptr 4 0)), (6, .one (.ptr 6 0))]) (L' := [(4, .cells [.dat tI (0 : Int), .dat tI (0 : Int), .nilS]), (6, .cells [.dat tI a0, .dat tI (2 : Int), .slc 34]), (34, .rows 0 (.slice (.pair tI (.pair tI tI))) x43.2.2 [])]) (by kernel_rfl) (by kernel_rfl) ?_
              refine seqQ_exit ?_
              refine round_exit ?_
              exact exQ_mk (by kernel_rfl) (by kernel_rfl)
          · intro e fr L hJ
            obtain ⟨rfl, rfl, rfl⟩ := hJ
            refine LT_keep [4, 6] [4, 6, 34] (fr' := [(4, .one (.ptr 4 0)), (6, .one (.ptr 6 0))]) (L' := [(4, .cells [.dat tI (0 : Int), .dat tI (0 : Int), .nilS]), (6, .cells [.dat tI a0, .dat tI (2 : Int), .slc 34]), (34, .rows 0 (.slice (.pair tI (.pair tI tI))) v62 [])]) (by kernel_rfl) ?_
            refine blockQ_hit ?_
            refine seqQ_norm ?_
            refine W_seq (by kernel_rfl) ?_
            refine W_run 3 [] [4, 5] [4, 34] (fr' := [(4, .one (.ptr 4 0)), (5, aI (0 : Int))]) (L' := [(4, .cells [.dat tI a0, .dat tI (2 : Int), .slc 34]), (34, .rows 0 (.slice (.pair tI (.pair tI tI))) v62 [])]) (obs := [True]) (by kernel_rfl) (by kernel_rfl) (by kernel_rfl) (allP1 trivial) ?_
            refine seqQ_norm ?_
            obtain rfl := Option.some.inj h
            refine W_frzR 34 (by kernel_rfl) ?_
            refine W_pack 4 (.pair tI (.pair tI (.slice (.slice (.pair tI (.pair tI tI)))))) (by kernel_rfl) ?_
            refine W_ret [4, 5] [4] (fr' := [(4, .one (.ptr 4 0)), (5, aI (0 : Int))]) (L' := [(4, .one (.pair tI (.pair tI (.slice (.slice (.pair tI (.pair tI tI)))))) (a0, (2 : Int), v62))]) (by kernel_rfl) (by kernel_rfl) ?_
            exact retQ_mk (by kernel_rfl) (by kernel_rfl) (by kernel_rfl)

noncomputable def tape_Check_1 (a0 : (List (Int × (Int × Int)))) (c0 : (Int × (Int × (List (List (Int × (Int × Int))))))) : Option Bool :=
some ((List.length a0 : Int) != c0.2.1)
theorem tape_Check_1_ok {a0 : (List (Int × (Int × Int)))} {c0 : (Int × (Int × (List (List (Int × (Int × Int))))))} {r : Bool} (h : tape_Check_1 a0 c0 = some r) : FnC Try.prog 101 [aD (.slice (.pair tI (.pair tI tI))) a0, .one (.ptr 1000 0)] [(1000, .one (.pair tI (.pair tI (.slice (.slice (.pair tI (.pair tI tI)))))) c0)] (aB r) [(1000, .one (.pair tI (.pair tI (.slice (.slice (.pair tI (.pair tI tI)))))) c0)] := by
  refine fnC_of_W (B := bodyOf Try.f101) (n := 9) Try.func101 (by kernel_rfl) (by kernel_rfl) (by kernel_rfl) (by kernel_rfl) (by kernel_rfl) ?_
  intro K
  refine W_seq (by kernel_rfl) ?_
  refine W_run 1 [] [0, 1] [1000] (fr' := [(0, aD (.slice (.pair tI (.pair tI tI))) a0), (1, .one (.ptr 1000 0))]) (L' := [(1000, .one (.pair tI (.pair tI (.slice (.slice (.pair tI (.pair tI tI)))))) c0)]) (obs := []) (by kernel_rfl) (by kernel_rfl) (by kernel_rfl) allP0 ?_
  refine seqQ_norm ?_
  refine W_seq (by kernel_rfl) ?_
  refine W_run 6 [] [3] [1000] (fr' := [(3, aB ((List.length a0 : Int) != c0.2.1))]) (L' := [(1000, .one (.pair tI (.pair tI (.slice (.slice (.pair tI (.pair tI tI)))))) c0)]) (obs := []) (by kernel_rfl) (by kernel_rfl) (by kernel_rfl) allP0 ?_
  refine seqQ_norm ?_
  obtain rfl := Option.some.inj h
  refine W_ret [3] [1000] (fr' := [(3, aB ((List.length a0 : Int) != c0.2.1))]) (L' := [(1000, .one (.pair tI (.pair tI (.slice (.slice (.pair tI (.pair tI tI)))))) c0)]) (by kernel_rfl) (by kernel_rfl) ?_
  exact retQ_mk (by kernel_rfl) (by kernel_rfl) (by kernel_rfl)

noncomputable def slices_IndexFunc_LLapiRuleLapiRule_with_tape_Check_1_b1 (c0 : (Int × (Int × (List (List (Int × (Int × Int))))))) (i15 : Int) (v18 : (List (Int × (Int × Int)))) (x16 : Unit) : Option (Flow Unit (Esc Int Unit)) :=
(tape_Check_1 v18 c0).bind fun r21 =>
bif r21 then
(some (.done (.ret i15)))
else
(some (.next ()))
@[reducible] noncomputable def slices_IndexFunc_LLapiRuleLapiRule_with_tape_Check_1_s2 (a0 : (List (List (Int × (Int × Int))))) (c0 : (Int × (Int × (List (List (Int × (Int × Int))))))) (v : Int × Unit) : Fr × LL := ([(0, aD (.slice (.slice (.pair tI (.pair tI tI)))) a0), (1, .one (.fn 101 [(1000, 0)])), (7, aI (List.length a0 : Int)), (8, aI v.1)], [(1000, .one (.pair tI (.pair tI (.slice (.slice (.pair tI (.pair tI tI)))))) c0)])
@[reducible] noncomputable def slices_IndexFunc_LLapiRuleLapiRule_with_tape_Check_1_s3 (c0 : (Int × (Int × (List (List (Int × (Int × Int))))))) (v : Int) : Fr × LL := ([(4, aI v)], [(1000, .one (.pair tI (.pair tI (.slice (.slice (.pair tI (.pair tI tI)))))) c0)])
@[reducible] noncomputable def slices_IndexFunc_LLapiRuleLapiRule_with_tape_Check_1_s4 (c0 : (Int × (Int × (List (List (Int × (Int × Int))))))) (v : Unit) : Fr × LL := ([], [(1000, .one (.pair tI (.pair tI (.slice (.slice (.pair tI (.pair tI tI)))))) c0)])
noncomputable def slices_IndexFunc_LLapiRuleLapiRule_with_tape_Check_1 (a0 : (List (List (Int × (Int × Int))))) (c0 : (Int × (Int × (List (List (Int × (Int × Int))))))) : Option Int :=
(forL (slices_IndexFunc_LLapiRuleLapiRule_with_tape_Check_1_b1 c0) (fun x16 => (.brk ())) a0 0 ()).bind fun v25 =>
match v25 with
| .ret v30 =>
(some v30)
| .brk v31 =>
(some (-1 : Int))
theorem slices_IndexFunc_LLapiRuleLapiRule_with_tape_Check_1_ok {a0 : (List (List (Int × (Int × Int))))} {c0 : (Int × (Int × (List (List (Int × (Int × Int))))))} {r : Int} (h : slices_IndexFunc_LLapiRuleLapiRule_with_tape_Check_1 a0 c0 = some r) : FnC Try.prog 107 [aD (.slice (.slice (.pair tI (.pair tI tI)))) a0, .one (.fn 101 [(1000, 0)])] [(1000, .one (.pair tI (.pair tI (.slice (.slice (.pair tI (.pair tI tI)))))) c0)] (aI r) [(1000, .one (.pair tI (.pair tI (.slice (.slice (.pair tI (.pair tI tI)))))) c0)] := by
  refine fnC_of_W (B := bodyOf Try.f107) (n := 19) Try.func107 (by kernel_rfl) (by kernel_rfl) (by kernel_rfl) (by kernel_rfl) (by kernel_rfl) ?_
  intro K
  refine W_seq (by kernel_rfl) ?_
  refine W_run 1 [] [0, 1] [1000] (fr' := [(0, aD (.slice (.slice (.pair tI (.pair tI tI)))) a0), (1, .one (.fn 101 [(1000, 0)]))]) (L' := [(1000, .one (.pair tI (.pair tI (.slice (.slice (.pair tI (.pair tI tI)))))) c0)]) (obs := []) (by kernel_rfl) (by kernel_rfl) (by kernel_rfl) allP0 ?_
  refine seqQ_norm ?_
  refine W_seq (by kernel_rfl) ?_
  refine W_seq (by kernel_rfl) ?_
  refine W_run 3 [] [0, 1, 7, 8] [1000] (fr' := [(0, aD (.slice (.slice (.pair tI (.pair tI tI)))) a0), (1, .one (.fn 101 [(1000, 0)])), (7, aI (List.length a0 : Int)), (8, aI (0 : Int))]) (L' := [(1000, .one (.pair tI (.pair tI (.slice (.slice (.pair tI (.pair tI tI)))))) c0)]) (obs := []) (by kernel_rfl) (by kernel_rfl) (by kernel_rfl) allP0 ?_
  refine seqQ_norm ?_
  refine W_block (id := 0) (by kernel_rfl) ?_
  obtain ⟨v25, h26, h⟩ := bind_of h
  refine W_len (t := 0) (u := (.slice (.pair tI (.pair tI tI)))) (xs := a0) (by kernel_rfl) (fun h29 => ?_)
  obtain ⟨h27, h28⟩ := forL_iter h29 h26
  refine W_weaken [0, 1, 7, 8] [1000] (fr' := ((slices_IndexFunc_LLapiRuleLapiRule_with_tape_Check_1_s2 a0 c0) ((0 : Int), ())).1) (L' := ((slices_IndexFunc_LLapiRuleLapiRule_with_tape_Check_1_s2 a0 c0) ((0 : Int), ())).2) (by kernel_rfl) ?_
  refine W_cutK (W_loop (S := (slices_IndexFunc_LLapiRuleLapiRule_with_tape_Check_1_s2 a0 c0)) (J := (escQ (exQ .ret (slices_IndexFunc_LLapiRuleLapiRule_with_tape_Check_1_s3 c0)) (exQ (.exit 0) (slices_IndexFunc_LLapiRuleLapiRule_with_tape_Check_1_s4 c0)))) (by kernel_rfl) ?_ h27 _ v25 h28) ?_
  · rintro ⟨i15, x16⟩ s h
    refine W_seq (by kernel_rfl) ?_
    refine W_run 1 [] [0, 1, 7, 8, 9] [1000] (fr' := [(0, aD (.slice (.slice (.pair tI (.pair tI tI)))) a0), (1, .one (.fn 101 [(1000, 0)])), (7, aI (List.length a0 : Int)), (8, aI i15), (9, aB (decide (i15 < (List.length a0 : Int))))]) (L' := [(1000, .one (.pair tI (.pair tI (.slice (.slice (.pair tI (.pair tI tI)))))) c0)]) (obs := []) (by kernel_rfl) (by kernel_rfl) (by kernel_rfl) allP0 ?_
    refine seqQ_norm ?_
    refine W_seq (by kernel_rfl) ?_
    refine W_cond (o := .tmp 9) (b := decide (i15 < (List.length a0 : Int))) (by kernel_rfl) (by kernel_rfl) (fun h20 => ?_) (fun h20 => ?_)
    · replace h := stepL_true h20 h
      obtain ⟨v18, _, h19, h, rfl⟩ := h
      refine W_skip [0, 1, 7, 8] [1000] (fr' := [(0, aD (.slice (.slice (.pair tI (.pair tI tI)))) a0), (1, .one (.fn 101 [(1000, 0)])), (7, aI (List.length a0 : Int)), (8, aI i15)]) (L' := [(1000, .one (.pair tI (.pair tI (.slice (.slice (.pair tI (.pair tI tI)))))) c0)]) (by kernel_rfl) (by kernel_rfl) ?_
      refine seqQ_norm ?_
      refine W_seq (by kernel_rfl) ?_
      refine W_block (id := 1) (by kernel_rfl) ?_
      refine W_seq (by kernel_rfl) ?_
      refine W_run 2 [] [0, 1, 5, 7, 8] [1000] (fr' := [(0, aD (.slice (.slice (.pair tI (.pair tI tI)))) a0), (1, .one (.fn 101 [(1000, 0)])), (5, aI i15), (7, aI (List.length a0 : Int)), (8, aI i15)]) (L' := [(1000, .one (.pair tI (.pair tI (.slice (.slice (.pair tI (.pair tI tI)))))) c0)]) (obs := []) (by kernel_rfl) (by kernel_rfl) (by kernel_rfl) allP0 ?_
      refine seqQ_norm ?_
      refine W_seq (by kernel_rfl) ?_
      refine W_region (by kernel_rfl) ?_
      refine WO_run (j := 5) (k := 5) (orcs := [(7, .val (.dat (.slice (.pair tI (.pair tI tI))) v18))]) (kF := [0, 1, 5, 7, 8, 11, 15]) (kL := [1000]) (fr' := [(0, aD (.slice (.slice (.pair tI (.pair tI tI)))) a0), (1, .one (.fn 101 [(1000, 0)])), (5, aI i15), (7, aI (List.length a0 : Int)), (8, aI i15), (11, .one (.fn 101 [(1000, 0)])), (15, aD (.slice (.pair tI (.pair tI tI))) v18)]) (L' := [(1000, .one (.pair tI (.pair tI (.slice (.slice (.pair tI (.pair tI tI)))))) c0)]) (obs := [Idx a0 i15 v18]) rfl (by kernel_rfl) (allP1 (Idx.of h19)) ?_
      obtain ⟨r21, h22, h⟩ := bind_of h
      refine WO_lend [(1000, 1000)] (us := [none, none]) (d := 16) (p := True) (j := 6) rfl ⟨by kernel_rfl, by kernel_rfl, by kernel_rfl⟩ trivial (tape_Check_1_ok h22) (by kernel_rfl) (by kernel_rfl) ?_
      refine WO_fin [0, 1, 5, 7, 8, 16] [1000] (fr' := [(0, aD (.slice (.slice (.pair tI (.pair tI tI)))) a0), (1, .one (.fn 101 [(1000, 0)])), (5, aI i15), (7, aI (List.length a0 : Int)), (8, aI i15), (16, aB r21)]) (L' := [(1000, .one (.pair tI (.pair tI (.slice (.slice (.pair tI (.pair tI tI)))))) c0)]) (by kernel_rfl) (by kernel_rfl) ?_
      refine seqQ_norm ?_
      refine W_cond (o := .tmp 16) (b := r21) (by kernel_rfl) (by kernel_rfl) (fun h23 => ?_) (fun h23 => ?_)
      · replace h := ofT h23 h
        refine W_seq (by kernel_rfl) ?_
        refine W_run 2 [] [4] [1000] (fr' := [(4, aI i15)]) (L' := [(1000, .one (.pair tI (.pair tI (.slice (.slice (.pair tI (.pair tI tI)))))) c0)]) (obs := []) (by kernel_rfl) (by kernel_rfl) (by kernel_rfl) allP0 ?_
        refine seqQ_norm ?_
        obtain rfl := Option.some.inj h
        refine W_ret [4] [1000] (fr' := [(4, aI i15)]) (L' := [(1000, .one (.pair tI (.pair tI (.slice (.slice (.pair tI (.pair tI tI)))))) c0)]) (by kernel_rfl) (by kernel_rfl) ?_
        refine blockQ_ret ?_
        refine seqQ_ret ?_
        refine round_ret ?_
        refine escQ_ret ?_
        exact exQ_mk (by kernel_rfl) (by kernel_rfl)
      · replace h := ofF h23 h
        refine W_skip [0, 1, 7, 8] [1000] (fr' := [(0, aD (.slice (.slice (.pair tI (.pair tI tI)))) a0), (1, .one (.fn 101 [(1000, 0)])), (7, aI (List.length a0 : Int)), (8, aI i15)]) (L' := [(1000, .one (.pair tI (.pair tI (.slice (.slice (.pair tI (.pair tI tI)))))) c0)]) (by kernel_rfl) (by kernel_rfl) ?_
        refine blockQ_norm ?_
        refine seqQ_norm ?_
        obtain rfl := Option.some.inj h
        refine W_run 2 [] [0, 1, 7, 8] [1000] (fr' := [(0, aD (.slice (.slice (.pair tI (.pair tI tI)))) a0), (1, .one (.fn 101 [(1000, 0)])), (7, aI (List.length a0 : Int)), (8, aI (w64 (i15 + (1 : Int))))]) (L' := [(1000, .one (.pair tI (.pair tI (.slice (.slice (.pair tI (.pair tI tI)))))) c0)]) (obs := []) (by kernel_rfl) (by kernel_rfl) (by kernel_rfl) allP0 ?_
        exact round_next' (by kernel_rfl) (by kernel_rfl)
    · obtain rfl := stepL_false h20 h
      refine W_exit (id := 0) [] [1000] (fr' := []) (L' := [(1000, .one (.pair tI (.pair tI (.slice (.slice (.pair tI (.pair tI tI)))))) c0)]) (by kernel_rfl) (by kernel_rfl) ?_
      refine seqQ_exit ?_
      refine round_exit ?_
      refine escQ_brk ?_
      exact exQ_mk (by kernel_rfl) (by kernel_rfl)
  · intro e fr L hJ
    rcases v25 with v30 | v31
    · obtain ⟨rfl, rfl, rfl⟩ := hJ
      obtain rfl := Option.some.inj h
      refine LT_keep [4] [1000] (fr' := [(4, aI v30)]) (L' := [(1000, .one (.pair tI (.pair tI (.slice (.slice (.pair tI (.pair tI tI)))))) c0)]) (by kernel_rfl) ?_
      refine blockQ_ret ?_
      refine seqQ_ret ?_
      exact retQ_mk (by kernel_rfl) (by kernel_rfl) (by kernel_rfl)
    · obtain ⟨rfl, rfl, rfl⟩ := hJ
      refine LT_keep [] [1000] (fr' := []) (L' := [(1000, .one (.pair tI (.pair tI (.slice (.slice (.pair tI (.pair tI tI)))))) c0)]) (by kernel_rfl) ?_
      refine blockQ_hit ?_
      refine seqQ_norm ?_
      refine W_seq (by kernel_rfl) ?_
      refine W_run 1 [] [4] [1000] (fr' := [(4, aI (-1 : Int))]) (L' := [(1000, .one (.pair tI (.pair tI (.slice (.slice (.pair tI (.pair tI tI)))))) c0)]) (obs := []) (by kernel_rfl) (by kernel_rfl) (by kernel_rfl) allP0 ?_
      refine seqQ_norm ?_
      obtain rfl := Option.some.inj h
      refine W_ret [4] [1000] (fr' := [(4, aI (-1 : Int))]) (L' := [(1000, .one (.pair tI (.pair tI (.slice (.slice (.pair tI (.pair tI tI)))))) c0)]) (by kernel_rfl) (by kernel_rfl) ?_
      exact retQ_mk (by kernel_rfl) (by kernel_rfl) (by kernel_rfl)

noncomputable def slices_ContainsFunc_LLapiRuleLapiRule_with_tape_Check_1 (a0 : (List (List (Int × (Int × Int))))) (c0 : (Int × (Int × (List (List (Int × (Int × Int))))))) : Option Bool :=
(slices_IndexFunc_LLapiRuleLapiRule_with_tape_Check_1 a0 c0).bind fun r1 =>
some (decide (r1 ≥ (0 : Int)))
theorem slices_ContainsFunc_LLapiRuleLapiRule_with_tape_Check_1_ok {a0 : (List (List (Int × (Int × Int))))} {c0 : (Int × (Int × (List (List (Int × (Int × Int))))))} {r : Bool} (h : slices_ContainsFunc_LLapiRuleLapiRule_with_tape_Check_1 a0 c0 = some r) : FnC Try.prog 100 [aD (.slice (.slice (.pair tI (.pair tI tI)))) a0, .one (.fn 101 [(1000, 0)])] [(1000, .one (.pair tI (.pair tI (.slice (.slice (.pair tI (.pair tI tI)))))) c0)] (aB r) [(1000, .one (.pair tI (.pair tI (.slice (.slice (.pair tI (.pair tI tI)))))) c0)] := by
  refine fnC_of_W (B := bodyOf Try.f100) (n := 9) Try.func100 (by kernel_rfl) (by kernel_rfl) (by kernel_rfl) (by kernel_rfl) (by kernel_rfl) ?_
  intro K
  refine W_seq (by kernel_rfl) ?_
  refine W_run 1 [] [0, 1] [1000] (fr' := [(0, aD (.slice (.slice (.pair tI (.pair tI tI)))) a0), (1, .one (.fn 101 [(1000, 0)]))]) (L' := [(1000, .one (.pair tI (.pair tI (.slice (.slice (.pair tI (.pair tI tI)))))) c0)]) (obs := []) (by kernel_rfl) (by kernel_rfl) (by kernel_rfl) allP0 ?_
  refine seqQ_norm ?_
  refine W_seq (by kernel_rfl) ?_
  refine W_region (by kernel_rfl) ?_
  refine WO_run (j := 2) (k := 2) (orcs := []) (kF := [5, 6]) (kL := [1000]) (fr' := [(5, aD (.slice (.slice (.pair tI (.pair tI tI)))) a0), (6, .one (.fn 101 [(1000, 0)]))]) (L' := [(1000, .one (.pair tI (.pair tI (.slice (.slice (.pair tI (.pair tI tI)))))) c0)]) (obs := []) rfl (by kernel_rfl) allP0 ?_
  obtain ⟨r1, h2, h⟩ := bind_of h
  refine WO_lend [(1000, 1000)] (us := [none, none]) (d := 7) (p := True) (j := 3) rfl ⟨by kernel_rfl, by kernel_rfl, by kernel_rfl⟩ trivial (slices_IndexFunc_LLapiRuleLapiRule_with_tape_Check_1_ok h2) (by kernel_rfl) (by kernel_rfl) ?_
  refine WO_run (j := 5) (k := 2) (orcs := []) (kF := [4]) (kL := [1000]) (fr' := [(4, aB (decide (r1 ≥ (0 : Int))))]) (L' := [(1000, .one (.pair tI (.pair tI (.slice (.slice (.pair tI (.pair tI tI)))))) c0)]) (obs := []) rfl (by kernel_rfl) allP0 ?_
  refine WO_fin [4] [1000] (fr' := [(4, aB (decide (r1 ≥ (0 : Int))))]) (L' := [(1000, .one (.pair tI (.pair tI (.slice (.slice (.pair tI (.pair tI tI)))))) c0)]) (by kernel_rfl) (by kernel_rfl) ?_
  refine seqQ_norm ?_
  obtain rfl := Option.some.inj h
  refine W_ret [4] [1000] (fr' := [(4, aB (decide (r1 ≥ (0 : Int))))]) (L' := [(1000, .one (.pair tI (.pair tI (.slice (.slice (.pair tI (.pair tI tI)))))) c0)]) (by kernel_rfl) (by kernel_rfl) ?_
  exact retQ_mk (by kernel_rfl) (by kernel_rfl) (by kernel_rfl)

noncomputable def tape_Check_g1 (a0 : (Int × (Int × (List (List (Int × (Int × Int))))))) : Option Bool :=
bif decide (a0.1 < (1 : Int)) then
(some true)
else
(bif decide (a0.1 > (5 : Int)) then
(some true)
else
(bif decide (a0.2.1 < (2 : Int)) then
(some true)
else
(some (decide (a0.2.1 > (4 : Int))))))
@[reducible] noncomputable def tape_Check_s33 (a0 : (Int × (Int × (List (List (Int × (Int × Int))))))) (i185 : Int) (v188 : (List (Int × (Int × Int)))) (i235 : Int) (v : Bool) : Fr × LL := ([(1, .one (.ptr 1 0)), (38, aD (.slice (.slice (.pair tI (.pair tI tI)))) a0.2.2), (39, aI (List.length a0.2.2 : Int)), (40, aI i185), (44, aD (.slice (.pair tI (.pair tI tI))) v188), (45, aI (List.length v188 : Int)), (46, aI i235), (70, aB v)], [(1, .one (.pair tI (.pair tI (.slice (.slice (.pair tI (.pair tI tI)))))) a0)])
@[reducible] noncomputable def tape_Check_s34 (a0 : (Int × (Int × (List (List (Int × (Int × Int))))))) (i185 : Int) (v188 : (List (Int × (Int × Int)))) (i235 : Int) (v238 : (Int × (Int × Int))) (v : Bool) : Fr × LL := ([(1, .one (.ptr 1 0)), (6, .one (.ptr 6 0)), (38, aD (.slice (.slice (.pair tI (.pair tI tI)))) a0.2.2), (39, aI (List.length a0.2.2 : Int)), (40, aI i185), (44, aD (.slice (.pair tI (.pair tI tI))) v188), (45, aI (List.length v188 : Int)), (46, aI i235), (61, aB v)], [(1, .one (.pair tI (.pair tI (.slice (.slice (.pair tI (.pair tI tI)))))) a0), (6, .one (.pair tI (.pair tI tI)) v238)])
@[reducible] noncomputable def tape_Check_s35 (a0 : (Int × (Int × (List (List (Int × (Int × Int))))))) (i185 : Int) (v188 : (List (Int × (Int × Int)))) (i235 : Int) (v238 : (Int × (Int × Int))) (v : Bool) : Fr × LL := ([(1, .one (.ptr 1 0)), (6, .one (.ptr 6 0)), (38, aD (.slice (.slice (.pair tI (.pair tI tI)))) a0.2.2), (39, aI (List.length a0.2.2 : Int)), (40, aI i185), (44, aD (.slice (.pair tI (.pair tI tI))) v188), (45, aI (List.length v188 : Int)), (46, aI i235), (50, aB v)], [(1, .one (.pair tI (.pair tI (.slice (.slice (.pair tI (.pair tI tI)))))) a0), (6, .one (.pair tI (.pair tI tI)) v238)])
noncomputable def tape_Check_b36 (a0 : (Int × (Int × (List (List (Int × (Int × Int))))))) (i235 : Int) (v238 : (Int × (Int × Int))) (x236 : Unit) : Option (Flow Unit (Esc Int Unit)) :=
(bif decide (v238.1 < (0 : Int)) then
(some true)
else
(some (decide (v238.1 ≥ a0.2.1)))).bind fun v244 =>
bif v244 then
(some (.done (.ret (2 : Int))))
else
((bif decide (v238.2.1 < (-1 : Int)) then
(some true)
else
(some (decide (v238.2.1 > (1 : Int))))).bind fun v250 =>
bif v250 then
(some (.done (.ret (4 : Int))))
else
((bif decide (v238.2.2 < (0 : Int)) then
(some true)
else
(some (decide (v238.2.2 > a0.1)))).bind fun v256 =>
bif v256 then
(some (.done (.ret (2 : Int))))
else
(some (.next ()))))
@[reducible] noncomputable def tape_Check_s37 (a0 : (Int × (Int × (List (List (Int × (Int × Int))))))) (i185 : Int) (v188 : (List (Int × (Int × Int)))) (v : Int × Unit) : Fr × LL := ([(1, .one (.ptr 1 0)), (38, aD (.slice (.slice (.pair tI (.pair tI tI)))) a0.2.2), (39, aI (List.length a0.2.2 : Int)), (40, aI i185), (44, aD (.slice (.pair tI (.pair tI tI))) v188), (45, aI (List.length v188 : Int)), (46, aI v.1)], [(1, .one (.pair tI (.pair tI (.slice (.slice (.pair tI (.pair tI tI)))))) a0)])
@[reducible] noncomputable def tape_Check_s38 (v : Int) : Fr × LL := ([(2, aI v)], [])
@[reducible] noncomputable def tape_Check_s39 (a0 : (Int × (Int × (List (List (Int × (Int × Int))))))) (i185 : Int) (v : Unit) : Fr × LL := ([(1, .one (.ptr 1 0)), (38, aD (.slice (.slice (.pair tI (.pair tI tI)))) a0.2.2), (39, aI (List.length a0.2.2 : Int)), (40, aI i185)], [(1, .one (.pair tI (.pair tI (.slice (.slice (.pair tI (.pair tI tI)))))) a0)])
noncomputable def tape_Check_b40 (a0 : (Int × (Int × (List (List (Int × (Int × Int))))))) (i185 : Int) (v188 : (List (Int × (Int × Int)))) (x186 : Unit) : Option (Flow Unit (Esc Int Unit)) :=
(forL (tape_Check_b36 a0) (fun x236 => (.brk ())) v188 0 ()).bind fun v260 =>
match v260 with
| .ret v265 =>
(some (.done (.ret v265)))
| .brk v266 =>
(some (.next ()))
@[reducible] noncomputable def tape_Check_s41 (a0 : (Int × (Int × (List (List (Int × (Int × Int))))))) (v : Int × Unit) : Fr × LL := ([(1, .one (.ptr 1 0)), (38, aD (.slice (.slice (.pair tI (.pair tI tI)))) a0.2.2), (39, aI (List.length a0.2.2 : Int)), (40, aI v.1)], [(1, .one (.pair tI (.pair tI (.slice (.slice (.pair tI (.pair tI tI)))))) a0)])
@[reducible] noncomputable def tape_Check_s42 (v : Int) : Fr × LL := ([(2, aI v)], [])
@[reducible] noncomputable def tape_Check_s43 (v : Unit) : Fr × LL := ([], [])
@[reducible] noncomputable def tape_Check_s44 (a0 : (Int × (Int × (List (List (Int × (Int × Int))))))) (v : Bool) : Fr × LL := ([(1, .one (.ptr 1 0)), (36, aB v)], [(1, .one (.pair tI (.pair tI (.slice (.slice (.pair tI (.pair tI tI)))))) a0)])
@[reducible] noncomputable def tape_Check_s45 (a0 : (Int × (Int × (List (List (Int × (Int × Int))))))) (v : Bool) : Fr × LL := ([(1, .one (.ptr 1 0)), (24, aB v)], [(1, .one (.pair tI (.pair tI (.slice (.slice (.pair tI (.pair tI tI)))))) a0)])
noncomputable def tape_Check (a0 : (Int × (Int × (List (List (Int × (Int × Int))))))) : Option Int :=
(tape_Check_g1 a0).bind fun v10 =>
bif v10 then
(some (1 : Int))
else
((bif (List.length a0.2.2 : Int) != a0.1 then
(some true)
else
((slices_ContainsFunc_LLapiRuleLapiRule_with_tape_Check_1 a0.2.2 a0).bind fun r20 =>
some r20)).bind fun v22 =>
bif v22 then
(some (3 : Int))
else
((forL (tape_Check_b40 a0) (fun x186 => (.brk ())) a0.2.2 0 ()).bind fun v268 =>
match v268 with
| .ret v273 =>
(some v273)
| .brk v274 =>
(some (0 : Int))))
theorem tape_Check_ok {a0 : (Int × (Int × (List (List (Int × (Int × Int))))))} {r : Int} (h : tape_Check a0 = some r) : FnC Try.prog 89 [aD (.pair tI (.pair tI (.slice (.slice (.pair tI (.pair tI tI)))))) a0] [] (aI r) [] := by
  refine fnC_of_W (B := bodyOf Try.f89) (n := 83) Try.func89 (by kernel_rfl) (by kernel_rfl) (by kernel_rfl) (by kernel_rfl) (by kernel_rfl) ?_
  intro K
  refine W_seq (by kernel_rfl) ?_
  refine W_run 2 [] [1] [1] (fr' := [(1, .one (.ptr 1 0))]) (L' := [(1, .one (.pair tI (.pair tI (.slice (.slice (.pair tI (.pair tI tI)))))) a0)]) (obs := []) (by kernel_rfl) (by kernel_rfl) (by kernel_rfl) allP0 ?_
  refine seqQ_norm ?_
  refine W_seq (by kernel_rfl) ?_
  refine W_seq (by kernel_rfl) ?_
  obtain ⟨v10, h11, h⟩ := bind_of h
  refine W_cutK (Q' := (exQ .normal (tape_Check_s45 a0)) v10) ?_ ?_
  · replace h := h11
    refine W_region (by kernel_rfl) ?_
    refine WO_run (j := 4) (k := 4) (orcs := []) (kF := [1, 10]) (kL := [1]) (fr' := [(1, .one (.ptr 1 0)), (10, aB (decide (a0.1 < (1 : Int))))]) (L' := [(1, .one (.pair tI (.pair tI (.slice (.slice (.pair tI (.pair tI tI)))))) a0)]) (obs := []) rfl (by kernel_rfl) allP0 ?_
    rcases Bool.eq_false_or_eq_true (decide (a0.1 < (1 : Int))) with h7 | h7
    · replace h := ofT h7 h
      refine WO_run (j := 18) (k := 14) (orcs := [(8, .known true), (10, .known true), (12, .known true), (15, .val (.dat .bool true)), (18, .known true), (20, .known true), (22, .known true), (25, .val (.dat .bool true)), (28, .known true), (30, .known true), (32, .known true), (35, .val (.dat .bool true))]) (kF := [1, 24]) (kL := [1]) (fr' := [(1, .one (.ptr 1 0)), (24, aB true)]) (L' := [(1, .one (.pair tI (.pair tI (.slice (.slice (.pair tI (.pair tI tI)))))) a0)]) (obs := [((decide (a0.1 < (1 : Int))) = true), ((decide (a0.1 < (1 : Int))) = true), ((decide (a0.1 < (1 : Int))) = true), ((decide (a0.1 < (1 : Int))) = true), (true = true), (true = true), (true = true), (true = true), (true = true), (true = true), (true = true), (true = true)]) rfl (by kernel_rfl) (allP2 h7 (allP2 h7 (allP2 h7 (allP2 h7 (allP2 rfl (allP2 rfl (allP2 rfl (allP2 rfl (allP2 rfl (allP2 rfl (allP2 rfl (allP1 rfl)))))))))))) ?_
      obtain rfl := Option.some.inj h
      refine WO_fin [1, 24] [1] (fr' := [(1, .one (.ptr 1 0)), (24, aB true)]) (L' := [(1, .one (.pair tI (.pair tI (.slice (.slice (.pair tI (.pair tI tI)))))) a0)]) (by kernel_rfl) (by kernel_rfl) ?_
      exact exQ_mk (by kernel_rfl) (by kernel_rfl)
    · replace h := ofF h7 h
      refine WO_run (j := 9) (k := 5) (orcs := [(8, .known false), (10, .known false), (12, .known false), (15, .val (.dat .bool false))]) (kF := [1, 15]) (kL := [1]) (fr' := [(1, .one (.ptr 1 0)), (15, aB (decide (a0.1 > (5 : Int))))]) (L' := [(1, .one (.pair tI (.pair tI (.slice (.slice (.pair tI (.pair tI tI)))))) a0)]) (obs := [((decide (a0.1 < (1 : Int))) = false), ((decide (a0.1 < (1 : Int))) = false), ((decide (a0.1 < (1 : Int))) = false), ((decide (a0.1 < (1 : Int))) = false)]) rfl (by kernel_rfl) (allP2 h7 (allP2 h7 (allP2 h7 (allP1 h7)))) ?_
      rcases Bool.eq_false_or_eq_true (decide (a0.1 > (5 : Int))) with h8 | h8
      · replace h := ofT h8 h
        refine WO_run (j := 18) (k := 9) (orcs := [(18, .known true), (20, .known true), (22, .known true), (25, .val (.dat .bool true)), (28, .known true), (30, .known true), (32, .known true), (35, .val (.dat .bool true))]) (kF := [1, 24]) (kL := [1]) (fr' := [(1, .one (.ptr 1 0)), (24, aB true)]) (L' := [(1, .one (.pair tI (.pair tI (.slice (.slice (.pair tI (.pair tI tI)))))) a0)]) (obs := [((decide (a0.1 > (5 : Int))) = true), ((decide (a0.1 > (5 : Int))) = true), ((decide (a0.1 > (5 : Int))) = true), ((decide (a0.1 > (5 : Int))) = true), (true = true), (true = true), (true = true), (true = true)]) rfl (by kernel_rfl) (allP2 h8 (allP2 h8 (allP2 h8 (allP2 h8 (allP2 rfl (allP2 rfl (allP2 rfl (allP1 rfl)))))))) ?_
        obtain rfl := Option.some.inj h
        refine WO_fin [1, 24] [1] (fr' := [(1, .one (.ptr 1 0)), (24, aB true)]) (L' := [(1, .one (.pair tI (.pair tI (.slice (.slice (.pair tI (.pair tI tI)))))) a0)]) (by kernel_rfl) (by kernel_rfl) ?_
        exact exQ_mk (by kernel_rfl) (by kernel_rfl)
      · replace h := ofF h8 h
        refine WO_run (j := 14) (k := 5) (orcs := [(18, .known false), (20, .known false), (22, .known false), (25, .val (.dat .bool false))]) (kF := [1, 20]) (kL := [1]) (fr' := [(1, .one (.ptr 1 0)), (20, aB (decide (a0.2.1 < (2 : Int))))]) (L' := [(1, .one (.pair tI (.pair tI (.slice (.slice (.pair tI (.pair tI tI)))))) a0)]) (obs := [((decide (a0.1 > (5 : Int))) = false), ((decide (a0.1 > (5 : Int))) = false), ((decide (a0.1 > (5 : Int))) = false), ((decide (a0.1 > (5 : Int))) = false)]) rfl (by kernel_rfl) (allP2 h8 (allP2 h8 (allP2 h8 (allP1 h8)))) ?_
        rcases Bool.eq_false_or_eq_true (decide (a0.2.1 < (2 : Int))) with h9 | h9
        · replace h := ofT h9 h
          refine WO_run (j := 18) (k := 4) (orcs := [(28, .known true), (30, .known true), (32, .known true), (35, .val (.dat .bool true))]) (kF := [1, 24]) (kL := [1]) (fr' := [(1, .one (.ptr 1 0)), (24, aB true)]) (L' := [(1, .one (.pair tI (.pair tI (.slice (.slice (.pair tI (.pair tI tI)))))) a0)]) (obs := [((decide (a0.2.1 < (2 : Int))) = true), ((decide (a0.2.1 < (2 : Int))) = true), ((decide (a0.2.1 < (2 : Int))) = true), ((decide (a0.2.1 < (2 : Int))) = true)]) rfl (by kernel_rfl) (allP2 h9 (allP2 h9 (allP2 h9 (allP1 h9)))) ?_
          obtain rfl := Option.some.inj h
          refine WO_fin [1, 24] [1] (fr' := [(1, .one (.ptr 1 0)), (24, aB true)]) (L' := [(1, .one (.pair tI (.pair tI (.slice (.slice (.pair tI (.pair tI tI)))))) a0)]) (by kernel_rfl) (by kernel_rfl) ?_
          exact exQ_mk (by kernel_rfl) (by kernel_rfl)
        · replace h := ofF h9 h
          refine WO_run (j := 18) (k := 4) (orcs := [(28, .known false), (30, .known false), (32, .known false), (35, .val (.dat .bool false))]) (kF := [1, 24]) (kL := [1]) (fr' := [(1, .one (.ptr 1 0)), (24, aB (decide (a0.2.1 > (4 : Int))))]) (L' := [(1, .one (.pair tI (.pair tI (.slice (.slice (.pair tI (.pair tI tI)))))) a0)]) (obs := [((decide (a0.2.1 < (2 : Int))) = false), ((decide (a0.2.1 < (2 : Int))) = false), ((decide (a0.2.1 < (2 : Int))) = false), ((decide (a0.2.1 < (2 : Int))) = false)]) rfl (by kernel_rfl) (allP2 h9 (allP2 h9 (allP2 h9 (allP1 h9)))) ?_
          obtain rfl := Option.some.inj h
          refine WO_fin [1, 24] [1] (fr' := [(1, .one (.ptr 1 0)), (24, aB (decide (a0.2.1 > (4 : Int))))]) (L' := [(1, .one (.pair tI (.pair tI (.slice (.slice (.pair tI (.pair tI tI)))))) a0)]) (by kernel_rfl) (by kernel_rfl) ?_
          exact exQ_mk (by kernel_rfl) (by kernel_rfl)
  · intro e fr L hJ
    obtain ⟨rfl, rfl, rfl⟩ := hJ
    refine LT_keep [1, 24] [1] (fr' := [(1, .one (.ptr 1 0)), (24, aB v10)]) (L' := [(1, .one (.pair tI (.pair tI (.slice (.slice (.pair tI (.pair tI tI)))))) a0)]) (by kernel_rfl) ?_
    refine seqQ_norm ?_
    refine W_cond (o := .tmp 24) (b := v10) (by kernel_rfl) (by kernel_rfl) (fun h12 => ?_) (fun h12 => ?_)
    · replace h := ofT h12 h
      refine W_seq (by kernel_rfl) ?_
      refine W_run 1 [] [2] [] (fr' := [(2, aI (1 : Int))]) (L' := []) (obs := []) (by kernel_rfl) (by kernel_rfl) (by kernel_rfl) allP0 ?_
      refine seqQ_norm ?_
      obtain rfl := Option.some.inj h
      refine W_ret [2] [] (fr' := [(2, aI (1 : Int))]) (L' := []) (by kernel_rfl) (by kernel_rfl) ?_
      refine seqQ_ret ?_
      exact retQ_mk (by kernel_rfl) (by kernel_rfl) (by kernel_rfl)
    · replace h := ofF h12 h
      refine W_skip [1] [1] (fr' := [(1, .one (.ptr 1 0))]) (L' := [(1, .one (.pair tI (.pair tI (.slice (.slice (.pair tI (.pair tI tI)))))) a0)]) (by kernel_rfl) (by kernel_rfl) ?_
      refine seqQ_norm ?_
      refine W_seq (by kernel_rfl) ?_
      refine W_seq (by kernel_rfl) ?_
      obtain ⟨v22, h23, h⟩ := bind_of h
      refine W_cutK (Q' := (exQ .normal (tape_Check_s44 a0)) v22) ?_ ?_
      · replace h := h23
        refine W_region (by kernel_rfl) ?_
        refine WO_run (j := 7) (k := 7) (orcs := []) (kF := [1, 31]) (kL := [1]) (fr' := [(1, .one (.ptr 1 0)), (31, aB ((List.length a0.2.2 : Int) != a0.1))]) (L' := [(1, .one (.pair tI (.pair tI (.slice (.slice (.pair tI (.pair tI tI)))))) a0)]) (obs := []) rfl (by kernel_rfl) allP0 ?_
        rcases Bool.eq_false_or_eq_true ((List.length a0.2.2 : Int) != a0.1) with h19 | h19
        · replace h := ofT h19 h
          refine WO_run (j := 12) (k := 5) (orcs := [(14, .known true), (16, .known true), (18, .known true), (20, .known true), (23, .val (.dat .bool true))]) (kF := [1, 36]) (kL := [1]) (fr' := [(1, .one (.ptr 1 0)), (36, aB true)]) (L' := [(1, .one (.pair tI (.pair tI (.slice (.slice (.pair tI (.pair tI tI)))))) a0)]) (obs := [(((List.length a0.2.2 : Int) != a0.1) = true), (((List.length a0.2.2 : Int) != a0.1) = true), (((List.length a0.2.2 : Int) != a0.1) = true), (((List.length a0.2.2 : Int) != a0.1) = true), (((List.length a0.2.2 : Int) != a0.1) = true)]) rfl (by kernel_rfl) (allP2 h19 (allP2 h19 (allP2 h19 (allP2 h19 (allP1 h19))))) ?_
          obtain rfl := Option.some.inj h
          refine WO_fin [1, 36] [1] (fr' := [(1, .one (.ptr 1 0)), (36, aB true)]) (L' := [(1, .one (.pair tI (.pair tI (.slice (.slice (.pair tI (.pair tI tI)))))) a0)]) (by kernel_rfl) (by kernel_rfl) ?_
          exact exQ_mk (by kernel_rfl) (by kernel_rfl)
        · replace h := ofF h19 h
          refine WO_run (j := 10) (k := 3) (orcs := [(14, .known false), (16, .known false), (18, .known false)]) (kF := [1, 31, 33, 34]) (kL := [1]) (fr' := [(1, .one (.ptr 1 0)), (31, aB ((List.length a0.2.2 : Int) != a0.1)), (33, aD (.slice (.slice (.pair tI (.pair tI tI)))) a0.2.2), (34, .one (.fn 101 [(1, 0)]))]) (L' := [(1, .one (.pair tI (.pair tI (.slice (.slice (.pair tI (.pair tI tI)))))) a0)]) (obs := [(((List.length a0.2.2 : Int) != a0.1) = false), (((List.length a0.2.2 : Int) != a0.1) = false), (((List.length a0.2.2 : Int) != a0.1) = false)]) rfl (by kernel_rfl) (allP2 h19 (allP2 h19 (allP1 h19))) ?_
          obtain ⟨r20, h21, h⟩ := bind_of h
          refine WO_lend [(1000, 1)] (us := [none, none]) (d := 35) (p := (((List.length a0.2.2 : Int) != a0.1) = false)) (j := 11) rfl ⟨by kernel_rfl, by kernel_rfl, by kernel_rfl⟩ h19 (slices_ContainsFunc_LLapiRuleLapiRule_with_tape_Check_1_ok h21) (by kernel_rfl) (by kernel_rfl) ?_
          refine WO_run (j := 12) (k := 1) (orcs := [(23, .val (.dat .bool false))]) (kF := [1, 36]) (kL := [1]) (fr' := [(1, .one (.ptr 1 0)), (36, aB r20)]) (L' := [(1, .one (.pair tI (.pair tI (.slice (.slice (.pair tI (.pair tI tI)))))) a0)]) (obs := [(((List.length a0.2.2 : Int) != a0.1) = false)]) rfl (by kernel_rfl) (allP1 h19) ?_
          obtain rfl := Option.some.inj h
          refine WO_fin [1, 36] [1] (fr' := [(1, .one (.ptr 1 0)), (36, aB r20)]) (L' := [(1, .one (.pair tI (.pair tI (.slice (.slice (.pair tI (.pair tI tI)))))) a0)]) (by kernel_rfl) (by kernel_rfl) ?_
          exact exQ_mk (by kernel_rfl) (by kernel_rfl)
      · intro e fr L hJ
        obtain ⟨rfl, rfl, rfl⟩ := hJ
        refine LT_keep [1, 36] [1] (fr' := [(1, .one (.ptr 1 0)), (36, aB v22)]) (L' := [(1, .one (.pair tI (.pair tI (.slice (.slice (.pair tI (.pair tI tI)))))) a0)]) (by kernel_rfl) ?_
        refine seqQ_norm ?_
        refine W_cond (o := .tmp 36) (b := v22) (by kernel_rfl) (by kernel_rfl) (fun h24 => ?_) (fun h24 => ?_)
        · replace h := ofT h24 h
          refine W_seq (by kernel_rfl) ?_
          refine W_run 1 [] [2] [] (fr' := [(2, aI (3 : Int))]) (L' := []) (obs := []) (by kernel_rfl) (by kernel_rfl) (by kernel_rfl) allP0 ?_
          refine seqQ_norm ?_
          obtain rfl := Option.some.inj h
          refine W_ret [2] [] (fr' := [(2, aI (3 : Int))]) (L' := []) (by kernel_rfl) (by kernel_rfl) ?_
          refine seqQ_ret ?_
          exact retQ_mk (by kernel_rfl) (by kernel_rfl) (by kernel_rfl)
        · replace h := ofF h24 h
          refine W_skip [1] [1] (fr' := [(1, .one (.ptr 1 0))]) (L' := [(1, .one (.pair tI (.pair tI (.slice (.slice (.pair tI (.pair tI tI)))))) a0)]) (by kernel_rfl) (by kernel_rfl) ?_
          refine seqQ_norm ?_
          refine W_seq (by kernel_rfl) ?_
          refine W_seq (by kernel_rfl) ?_
          refine W_run 4 [] [1, 38, 39, 40] [1] (fr' := [(1, .one (.ptr 1 0)), (38, aD (.slice (.slice (.pair tI (.pair tI tI)))) a0.2.2), (39, aI (List.length a0.2.2 : Int)), (40, aI (0 : Int))]) (L' := [(1, .one (.pair tI (.pair tI (.slice (.slice (.pair tI (.pair tI tI)))))) a0)]) (obs := []) (by kernel_rfl) (by kernel_rfl) (by kernel_rfl) allP0 ?_
          refine seqQ_norm ?_
          refine W_block (id := 0) (by kernel_rfl) ?_
          obtain ⟨v268, h269, h⟩ := bind_of h
          refine W_len (t := 38) (u := (.slice (.pair tI (.pair tI tI)))) (xs := a0.2.2) (by kernel_rfl) (fun h272 => ?_)
          obtain ⟨h270, h271⟩ := forL_iter h272 h269
          refine W_weaken [1, 38, 39, 40] [1] (fr' := ((tape_Check_s41 a0) ((0 : Int), ())).1) (L' := ((tape_Check_s41 a0) ((0 : Int), ())).2) (by kernel_rfl) ?_
          refine W_cutK (W_loop (S := (tape_Check_s41 a0)) (J := (escQ (exQ .ret tape_Check_s42) (exQ (.exit 0) tape_Check_s43))) (by kernel_rfl) ?_ h270 _ v268 h271) ?_
          · rintro ⟨i185, x186⟩ s h
            refine W_seq (by kernel_rfl) ?_
            refine W_run 1 [] [1, 38, 39, 40, 41] [1] (fr' := [(1, .one (.ptr 1 0)), (38, aD (.slice (.slice (.pair tI (.pair tI tI)))) a0.2.2), (39, aI (List.length a0.2.2 : Int)), (40, aI i185), (41, aB (decide (i185 < (List.length a0.2.2 : Int))))]) (L' := [(1, .one (.pair tI (.pair tI (.slice (.slice (.pair tI (.pair tI tI)))))) a0)]) (obs := []) (by kernel_rfl) (by kernel_rfl) (by kernel_rfl) allP0 ?_
            refine seqQ_norm ?_
            refine W_seq (by kernel_rfl) ?_
            refine W_cond (o := .tmp 41) (b := decide (i185 < (List.length a0.2.2 : Int))) (by kernel_rfl) (by kernel_rfl) (fun h190 => ?_) (fun h190 => ?_)
            · replace h := stepL_true h190 h
              obtain ⟨v188, _, h189, h, rfl⟩ := h
              refine W_skip [1, 38, 39, 40] [1] (fr' := [(1, .one (.ptr 1 0)), (38, aD (.slice (.slice (.pair tI (.pair tI tI)))) a0.2.2), (39, aI (List.length a0.2.2 : Int)), (40, aI i185)]) (L' := [(1, .one (.pair tI (.pair tI (.slice (.slice (.pair tI (.pair tI tI)))))) a0)]) (by kernel_rfl) (by kernel_rfl) ?_
              refine seqQ_norm ?_
              refine W_seq (by kernel_rfl) ?_
              refine W_block (id := 1) (by kernel_rfl) ?_
              refine W_seq (by kernel_rfl) ?_
              refine W_run 3 [(1, .val (.dat (.slice (.pair tI (.pair tI tI))) v188))] [1, 4, 38, 39, 40] [1] (fr' := [(1, .one (.ptr 1 0)), (4, aD (.slice (.pair tI (.pair tI tI))) v188), (38, aD (.slice (.slice (.pair tI (.pair tI tI)))) a0.2.2), (39, aI (List.length a0.2.2 : Int)), (40, aI i185)]) (L' := [(1, .one (.pair tI (.pair tI (.slice (.slice (.pair tI (.pair tI tI)))))) a0)]) (obs := [Idx a0.2.2 i185 v188]) (by kernel_rfl) (by kernel_rfl) (by kernel_rfl) (allP1 (Idx.of h189)) ?_
              refine seqQ_norm ?_
              refine W_seq (by kernel_rfl) ?_
              refine W_run 3 [] [1, 38, 39, 40, 44, 45, 46] [1] (fr' := [(1, .one (.ptr 1 0)), (38, aD (.slice (.slice (.pair tI (.pair tI tI)))) a0.2.2), (39, aI (List.length a0.2.2 : Int)), (40, aI i185), (44, aD (.slice (.pair tI (.pair tI tI))) v188), (45, aI (List.length v188 : Int)), (46, aI (0 : Int))]) (L' := [(1, .one (.pair tI (.pair tI (.slice (.slice (.pair tI (.pair tI tI)))))) a0)]) (obs := []) (by kernel_rfl) (by kernel_rfl) (by kernel_rfl) allP0 ?_
              refine seqQ_norm ?_
              refine W_block (id := 2) (by kernel_rfl) ?_
              obtain ⟨v260, h261, h⟩ := bind_of h
              refine W_len (t := 44) (u := (.pair tI (.pair tI tI))) (xs := v188) (by kernel_rfl) (fun h264 => ?_)
              obtain ⟨h262, h263⟩ := forL_iter h264 h261
              refine W_weaken [1, 38, 39, 40, 44, 45, 46] [1] (fr' := ((tape_Check_s37 a0 i185 v188) ((0 : Int), ())).1) (L' := ((tape_Check_s37 a0 i185 v188) ((0 : Int), ())).2) (by kernel_rfl) ?_
              refine W_cutK (W_loop (S := (tape_Check_s37 a0 i185 v188)) (J := (escQ (exQ .ret tape_Check_s38) (exQ (.exit 2) (tape_Check_s39 a0 i185)))) (by kernel_rfl) ?_ h262 _ v260 h263) ?_
              · rintro ⟨i235, x236⟩ s h
                refine W_seq (by kernel_rfl) ?_
                refine W_run 1 [] [1, 38, 39, 40, 44, 45, 46, 47] [1] (fr' := [(1, .one (.ptr 1 0)), (38, aD (.slice (.slice (.pair tI (.pair tI tI)))) a0.2.2), (39, aI (List.length a0.2.2 : Int)), (40, aI i185), (44, aD (.slice (.pair tI (.pair tI tI))) v188), (45, aI (List.length v188 : Int)), (46, aI i235), (47, aB (decide (i235 < (List.length v188 : Int))))]) (L' := [(1, .one (.pair tI (.pair tI (.slice (.slice (.pair tI (.pair tI tI)))))) a0)]) (obs := []) (by kernel_rfl) (by kernel_rfl) (by kernel_rfl) allP0 ?_
                refine seqQ_norm ?_
                refine W_seq (by kernel_rfl) ?_
                refine W_cond (o := .tmp 47) (b := decide (i235 < (List.length v188 : Int))) (by kernel_rfl) (by kernel_rfl) (fun h240 => ?_) (fun h240 => ?_)
                · replace h := stepL_true h240 h
                  obtain ⟨v238, _, h239, h, rfl⟩ := h
                  refine W_skip [1, 38, 39, 40, 44, 45, 46] [1] (fr' := [(1, .one (.ptr 1 0)), (38, aD (.slice (.slice (.pair tI (.pair tI tI)))) a0.2.2), (39, aI (List.length a0.2.2 : Int)), (40, aI i185), (44, aD (.slice (.pair tI (.pair tI tI))) v188), (45, aI (List.length v188 : Int)), (46, aI i235)]) (L' := [(1, .one (.pair tI (.pair tI (.slice (.slice (.pair tI (.pair tI tI)))))) a0)]) (by kernel_rfl) (by kernel_rfl) ?_
                  refine seqQ_norm ?_
                  refine W_seq (by kernel_rfl) ?_
                  refine W_block (id := 3) (by kernel_rfl) ?_
                  refine W_seq (by kernel_rfl) ?_
                  refine W_run 4 [(1, .val (.dat (.pair tI (.pair tI tI)) v238)), (5, .typed)] [1, 6, 38, 39, 40, 44, 45, 46] [1, 6] (fr' := [(1, .one (.ptr 1 0)), (6, .one (.ptr 6 0)), (38, aD (.slice (.slice (.pair tI (.pair tI tI)))) a0.2.2), (39, aI (List.length a0.2.2 : Int)), (40, aI i185), (44, aD (.slice (.pair tI (.pair tI tI))) v188), (45, aI (List.length v188 : Int)), (46, aI i235)]) (L' := [(1, .one (.pair tI (.pair tI (.slice (.slice (.pair tI (.pair tI tI)))))) a0), (6, .one (.pair tI (.pair tI tI)) v238)]) (obs := [Idx v188 i235 v238, True]) (by kernel_rfl) (by kernel_rfl) (by kernel_rfl) (allP2 (Idx.of h239) (allP1 trivial)) ?_
                  refine seqQ_norm ?_
                  refine W_block (id := 4) (by kernel_rfl) ?_
                  refine W_seq (by kernel_rfl) ?_
                  obtain ⟨v244, h245, h⟩ := bind_of h
                  refine W_cutK (Q' := (exQ .normal (tape_Check_s35 a0 i185 v188 i235 v238)) v244) ?_ ?_
                  · replace h := h245
                    refine W_region (by kernel_rfl) ?_
                    refine WO_run (j := 4) (k := 4) (orcs := []) (kF := [1, 6, 38, 39, 40, 44, 45, 46, 54]) (kL := [1, 6]) (fr' := [(1, .one (.ptr 1 0)), (6, .one (.ptr 6 0)), (38, aD (.slice (.slice (.pair tI (.pair tI tI)))) a0.2.2), (39, aI (List.length a0.2.2 : Int)), (40, aI i185), (44, aD (.slice (.pair tI (.pair tI tI))) v188), (45, aI (List.length v188 : Int)), (46, aI i235), (54, aB (decide (v238.1 < (0 : Int))))]) (L' := [(1, .one (.pair tI (.pair tI (.slice (.slice (.pair tI (.pair tI tI)))))) a0), (6, .one (.pair tI (.pair tI tI)) v238)]) (obs := []) rfl (by kernel_rfl) allP0 ?_
                    rcases Bool.eq_false_or_eq_true (decide (v238.1 < (0 : Int))) with h243 | h243
                    · replace h := ofT h243 h
                      refine WO_run (j := 11) (k := 7) (orcs := [(8, .known true), (10, .known true), (12, .known true), (14, .known true), (16, .known true), (19, .val (.dat .bool true))]) (kF := [1, 6, 38, 39, 40, 44, 45, 46, 50]) (kL := [1, 6]) (fr' := [(1, .one (.ptr 1 0)), (6, .one (.ptr 6 0)), (38, aD (.slice (.slice (.pair tI (.pair tI tI)))) a0.2.2), (39, aI (List.length a0.2.2 : Int)), (40, aI i185), (44, aD (.slice (.pair tI (.pair tI tI))) v188), (45, aI (List.length v188 : Int)), (46, aI i235), (50, aB true)]) (L' := [(1, .one (.pair tI (.pair tI (.slice (.slice (.pair tI (.pair tI tI)))))) a0), (6, .one (.pair tI (.pair tI tI)) v238)]) (obs := [((decide (v238.1 < (0 : Int))) = true), ((decide (v238.1 < (0 : Int))) = true), ((decide (v238.1 < (0 : Int))) = true), ((decide (v238.1 < (0 : Int))) = true), ((decide (v238.1 < (0 : Int))) = true), ((decide (v238.1 < (0 : Int))) = true)]) rfl (by kernel_rfl) (allP2 h243 (allP2 h243 (allP2 h243 (allP2 h243 (allP2 h243 (allP1 h243)))))) ?_
                      obtain rfl := Option.some.inj h
                      refine WO_fin [1, 6, 38, 39, 40, 44, 45, 46, 50] [1, 6] (fr' := [(1, .one (.ptr 1 0)), (6, .one (.ptr 6 0)), (38, aD (.slice (.slice (.pair tI (.pair tI tI)))) a0.2.2), (39, aI (List.length a0.2.2 : Int)), (40, aI i185), (44, aD (.slice (.pair tI (.pair tI tI))) v188), (45, aI (List.length v188 : Int)), (46, aI i235), (50, aB true)]) (L' := [(1, .one (.pair tI (.pair tI (.slice (.slice (.pair tI (.pair tI tI)))))) a0), (6, .one (.pair tI (.pair tI tI)) v238)]) (by kernel_rfl) (by kernel_rfl) ?_
                      exact exQ_mk (by kernel_rfl) (by kernel_rfl)
                    · replace h := ofF h243 h
                      refine WO_run (j := 11) (k := 7) (orcs := [(8, .known false), (10, .known false), (12, .known false), (14, .known false), (16, .known false), (19, .val (.dat .bool false))]) (kF := [1, 6, 38, 39, 40, 44, 45, 46, 50]) (kL := [1, 6]) (fr' := [(1, .one (.ptr 1 0)), (6, .one (.ptr 6 0)), (38, aD (.slice (.slice (.pair tI (.pair tI tI)))) a0.2.2), (39, aI (List.length a0.2.2 : Int)), (40, aI i185), (44, aD (.slice (.pair tI (.pair tI tI))) v188), (45, aI (List.length v188 : Int)), (46, aI i235), (50, aB (decide (v238.1 ≥ a0.2.1)))]) (L' := [(1, .one (.pair tI (.pair tI (.slice (.slice (.pair tI (.pair tI tI)))))) a0), (6, .one (.pair tI (.pair tI tI)) v238)]) (obs := [((decide (v238.1 < (0 : Int))) = false), ((decide (v238.1 < (0 : Int))) = false), ((decide (v238.1 < (0 : Int))) = false), ((decide (v238.1 < (0 : Int))) = false), ((decide (v238.1 < (0 : Int))) = false), ((decide (v238.1 < (0 : Int))) = false)]) rfl (by kernel_rfl) (allP2 h243 (allP2 h243 (allP2 h243 (allP2 h243 (allP2 h243 (allP1 h243)))))) ?_
                      obtain rfl := Option.some.inj h
                      refine WO_fin [1, 6, 38, 39, 40, 44, 45, 46, 50] [1, 6] (fr' := [(1, .one (.ptr 1 0)), (6, .one (.ptr 6 0)), (38, aD (.slice (.slice (.pair tI (.pair tI tI)))) a0.2.2), (39, aI (List.length a0.2.2 : Int)), (40, aI i185), (44, aD (.slice (.pair tI (.pair tI tI))) v188), (45, aI (List.length v188 : Int)), (46, aI i235), (50, aB (decide (v238.1 ≥ a0.2.1)))]) (L' := [(1, .one (.pair tI (.pair tI (.slice (.slice (.pair tI (.pair tI tI)))))) a0), (6, .one (.pair tI (.pair tI tI)) v238)]) (by kernel_rfl) (by kernel_rfl) ?_
                      exact exQ_mk (by kernel_rfl) (by kernel_rfl)
                  · intro e fr L hJ
                    obtain ⟨rfl, rfl, rfl⟩ := hJ
                    refine LT_keep [1, 6, 38, 39, 40, 44, 45, 46, 50] [1, 6] (fr' := [(1, .one (.ptr 1 0)), (6, .one (.ptr 6 0)), (38, aD (.slice (.slice (.pair tI (.pair tI tI)))) a0.2.2), (39, aI (List.length a0.2.2 : Int)), (40, aI i185), (44, aD (.slice (.pair tI (.pair tI tI))) v188), (45, aI (List.length v188 : Int)), (46, aI i235), (50, aB v244)]) (L' := [(1, .one (.pair tI (.pair tI (.slice (.slice (.pair tI (.pair tI tI)))))) a0), (6, .one (.pair tI (.pair tI tI)) v238)]) (by kernel_rfl) ?_
                    refine seqQ_norm ?_
                    refine W_cond (o := .tmp 50) (b := v244) (by kernel_rfl) (by kernel_rfl) (fun h246 => ?_) (fun h246 => ?_)
                    · replace h := ofT h246 h
                      refine W_seq (by kernel_rfl) ?_
                      refine W_run 1 [] [2] [] (fr' := [(2, aI (2 : Int))]) (L' := []) (obs := []) (by kernel_rfl) (by kernel_rfl) (by kernel_rfl) allP0 ?_
                      refine seqQ_norm ?_
                      obtain rfl := Option.some.inj h
                      refine W_ret [2] [] (fr' := [(2, aI (2 : Int))]) (L' := []) (by kernel_rfl) (by kernel_rfl) ?_
                      refine blockQ_ret ?_
                      refine blockQ_ret ?_
                      refine seqQ_ret ?_
                      refine round_ret ?_
                      refine escQ_ret ?_
                      exact exQ_mk (by kernel_rfl) (by kernel_rfl)
                    · replace h := ofF h246 h
                      refine W_seq (by kernel_rfl) ?_
                      obtain ⟨v250, h251, h⟩ := bind_of h
                      refine W_cutK (Q' := (exQ .normal (tape_Check_s34 a0 i185 v188 i235 v238)) v250) ?_ ?_
                      · replace h := h251
                        refine W_region (by kernel_rfl) ?_
                        refine WO_run (j := 4) (k := 4) (orcs := []) (kF := [1, 6, 38, 39, 40, 44, 45, 46, 65]) (kL := [1, 6]) (fr' := [(1, .one (.ptr 1 0)), (6, .one (.ptr 6 0)), (38, aD (.slice (.slice (.pair tI (.pair tI tI)))) a0.2.2), (39, aI (List.length a0.2.2 : Int)), (40, aI i185), (44, aD (.slice (.pair tI (.pair tI tI))) v188), (45, aI (List.length v188 : Int)), (46, aI i235), (65, aB (decide (v238.2.1 < (-1 : Int))))]) (L' := [(1, .one (.pair tI (.pair tI (.slice (.slice (.pair tI (.pair tI tI)))))) a0), (6, .one (.pair tI (.pair tI tI)) v238)]) (obs := []) rfl (by kernel_rfl) allP0 ?_
                        rcases Bool.eq_false_or_eq_true (decide (v238.2.1 < (-1 : Int))) with h249 | h249
                        · replace h := ofT h249 h
                          refine WO_run (j := 9) (k := 5) (orcs := [(8, .known true), (10, .known true), (12, .known true), (15, .val (.dat .bool true))]) (kF := [1, 6, 38, 39, 40, 44, 45, 46, 61]) (kL := [1, 6]) (fr' := [(1, .one (.ptr 1 0)), (6, .one (.ptr 6 0)), (38, aD (.slice (.slice (.pair tI (.pair tI tI)))) a0.2.2), (39, aI (List.length a0.2.2 : Int)), (40, aI i185), (44, aD (.slice (.pair tI (.pair tI tI))) v188), (45, aI (List.length v188 : Int)), (46, aI i235), (61, aB true)]) (L' := [(1, .one (.pair tI (.pair tI (.slice (.slice (.pair tI (.pair tI tI)))))) a0), (6, .one (.pair tI (.pair tI tI)) v238)]) (obs := [((decide (v238.2.1 < (-1 : Int))) = true), ((decide (v238.2.1 < (-1 : Int))) = true), ((decide (v238.2.1 < (-1 : Int))) = true), ((decide (v238.2.1 < (-1 : Int))) = true)]) rfl (by kernel_rfl) (allP2 h249 (allP2 h249 (allP2 h249 (allP1 h249)))) ?_
                          obtain rfl := Option.some.inj h
                          refine WO_fin [1, 6, 38, 39, 40, 44, 45, 46, 61] [1, 6] (fr' := [(1, .one (.ptr 1 0)), (6, .one (.ptr 6 0)), (38, aD (.slice (.slice (.pair tI (.pair tI tI)))) a0.2.2), (39, aI (List.length a0.2.2 : Int)), (40, aI i185), (44, aD (.slice (.pair tI (.pair tI tI))) v188), (45, aI (List.length v188 : Int)), (46, aI i235), (61, aB true)]) (L' := [(1, .one (.pair tI (.pair tI (.slice (.slice (.pair tI (.pair tI tI)))))) a0), (6, .one (.pair tI (.pair tI tI)) v238)]) (by kernel_rfl) (by kernel_rfl) ?_
                          exact exQ_mk (by kernel_rfl) (by kernel_rfl)
                        · replace h := ofF h249 h
                          refine WO_run (j := 9) (k := 5) (orcs := [(8, .known false), (10, .known false), (12, .known false), (15, .val (.dat .bool false))]) (kF := [1, 6, 38, 39, 40, 44, 45, 46, 61]) (kL := [1, 6]) (fr' := [(1, .one (.ptr 1 0)), (6, .one (.ptr 6 0)), (38, aD (.slice (.slice (.pair tI (.pair tI tI)))) a0.2.2), (39, aI (List.length a0.2.2 : Int)), (40, aI i185), (44, aD (.slice (.pair tI (.pair tI tI))) v188), (45, aI (List.length v188 : Int)), (46, aI i235), (61, aB (decide (v238.2.1 > (1 : Int))))]) (L' := [(1, .one (.pair tI (.pair tI (.slice (.slice (.pair tI (.pair tI tI)))))) a0), (6, .one (.pair tI (.pair tI tI)) v238)]) (obs := [((decide (v238.2.1 < (-1 : Int))) = false), ((decide (v238.2.1 < (-1 : Int))) = false), ((decide (v238.2.1 < (-1 : Int))) = false), ((decide (v238.2.1 < (-1 : Int))) = false)]) rfl (by kernel_rfl) (allP2 h249 (allP2 h249 (allP2 h249 (allP1 h249)))) ?_
                          obtain rfl := Option.some.inj h
                          refine WO_fin [1, 6, 38, 39, 40, 44, 45, 46, 61] [1, 6] (fr' := [(1, .one (.ptr 1 0)), (6, .one (.ptr 6 0)), (38, aD (.slice (.slice (.pair tI (.pair tI tI)))) a0.2.2), (39, aI (List.length a0.2.2 : Int)), (40, aI i185), (44, aD (.slice (.pair tI (.pair tI tI))) v188), (45, aI (List.length v188 : Int)), (46, aI i235), (61, aB (decide (v238.2.1 > (1 : Int))))]) (L' := [(1, .one (.pair tI (.pair tI (.slice (.slice (.pair tI (.pair tI tI)))))) a0), (6, .one (.pair tI (.pair tI tI)) v238)]) (by kernel_rfl) (by kernel_rfl) ?_
                          exact exQ_mk (by kernel_rfl) (by kernel_rfl)
                      · intro e fr L hJ
                        obtain ⟨rfl, rfl, rfl⟩ := hJ
                        refine LT_keep [1, 6, 38, 39, 40, 44, 45, 46, 61] [1, 6] (fr' := [(1, .one (.ptr 1 0)), (6, .one (.ptr 6 0)), (38, aD (.slice (.slice (.pair tI (.pair tI tI)))) a0.2.2), (39, aI (List.length a0.2.2 : Int)), (40, aI i185), (44, aD (.slice (.pair tI (.pair tI tI))) v188), (45, aI (List.length v188 : Int)), (46, aI i235), (61, aB v250)]) (L' := [(1, .one (.pair tI (.pair tI (.slice (.slice (.pair tI (.pair tI tI)))))) a0), (6, .one (.pair tI (.pair tI tI)) v238)]) (by kernel_rfl) ?_
                        refine seqQ_norm ?_
                        refine W_cond (o := .tmp 61) (b := v250) (by kernel_rfl) (by kernel_rfl) (fun h252 => ?_) (fun h252 => ?_)
                        · replace h := ofT h252 h
                          refine W_seq (by kernel_rfl) ?_
                          refine W_run 1 [] [2] [] (fr' := [(2, aI (4 : Int))]) (L' := []) (obs := []) (by kernel_rfl) (by kernel_rfl) (by kernel_rfl) allP0 ?_
                          refine seqQ_norm ?_
                          obtain rfl := Option.some.inj h
                          refine W_ret [2] [] (fr' := [(2, aI (4 : Int))]) (L' := []) (by kernel_rfl) (by kernel_rfl) ?_
                          refine blockQ_ret ?_
                          refine blockQ_ret ?_
                          refine seqQ_ret ?_
                          refine round_ret ?_
                          refine escQ_ret ?_
                          exact exQ_mk (by kernel_rfl) (by kernel_rfl)
                        · replace h := ofF h252 h
                          refine W_seq (by kernel_rfl) ?_
                          obtain ⟨v256, h257, h⟩ := bind_of h
                          refine W_cutK (Q' := (exQ .normal (tape_Check_s33 a0 i185 v188 i235)) v256) ?_ ?_
                          · replace h := h257
                            refine W_region (by kernel_rfl) ?_
                            refine WO_run (j := 4) (k := 4) (orcs := []) (kF := [1, 6, 38, 39, 40, 44, 45, 46, 74]) (kL := [1, 6]) (fr' := [(1, .one (.ptr 1 0)), (6, .one (.ptr 6 0)), (38, aD (.slice (.slice (.pair tI (.pair tI tI)))) a0.2.2), (39, aI (List.length a0.2.2 : Int)), (40, aI i185), (44, aD (.slice (.pair tI (.pair tI tI))) v188), (45, aI (List.length v188 : Int)), (46, aI i235), (74, aB (decide (v238.2.2 < (0 : Int))))]) (L' := [(1, .one (.pair tI (.pair tI (.slice (.slice (.pair tI (.pair tI tI)))))) a0), (6, .one (.pair tI (.pair tI tI)) v238)]) (obs := []) rfl (by kernel_rfl) allP0 ?_
                            rcases Bool.eq_false_or_eq_true (decide (v238.2.2 < (0 : Int))) with h255 | h255
                            · replace h := ofT h255 h
                              refine WO_run (j := 11) (k := 7) (orcs := [(8, .known true), (10, .known true), (12, .known true), (14, .known true), (16, .known true), (19, .val (.dat .bool true))]) (kF := [1, 38, 39, 40, 44, 45, 46, 70]) (kL := [1, 6]) (fr' := [(1, .one (.ptr 1 0)), (38, aD (.slice (.slice (.pair tI (.pair tI tI)))) a0.2.2), (39, aI (List.length a0.2.2 : Int)), (40, aI i185), (44, aD (.slice (.pair tI (.pair tI tI))) v188), (45, aI (List.length v188 : Int)), (46, aI i235), (70, aB true)]) (L' := [(1, .one (.pair tI (.pair tI (.slice (.slice (.pair tI (.pair tI tI)))))) a0), (6, .one (.pair tI (.pair tI tI)) v238)]) (obs := [((decide (v238.2.2 < (0 : Int))) = true), ((decide (v238.2.2 < (0 : Int))) = true), ((decide (v238.2.2 < (0 : Int))) = true), ((decide (v238.2.2 < (0 : Int))) = true), ((decide (v238.2.2 < (0 : Int))) = true), ((decide (v238.2.2 < (0 : Int))) = true)]) rfl (by kernel_rfl) (allP2 h255 (allP2 h255 (allP2 h255 (allP2 h255 (allP2 h255 (allP1 h255)))))) ?_
                              obtain rfl := Option.some.inj h
                              refine WO_fin [1, 38, 39, 40, 44, 45, 46, 70] [1] (fr' := [(1, .one (.ptr 1 0)), (38, aD (.slice (.slice (.pair tI (.pair tI tI)))) a0.2.2), (39, aI (List.length a0.2.2 : Int)), (40, aI i185), (44, aD (.slice (.pair tI (.pair tI tI))) v188), (45, aI (List.length v188 : Int)), (46, aI i235), (70, aB true)]) (L' := [(1, .one (.pair tI (.pair tI (.slice (.slice (.pair tI (.pair tI tI)))))) a0)]) (by kernel_rfl) (by kernel_rfl) ?_
                              exact exQ_mk (by kernel_rfl) (by kernel_rfl)
                            · replace h := ofF h255 h
                              refine WO_run (j := 11) (k := 7) (orcs := [(8, .known false), (10, .known false), (12, .known false), (14, .known false), (16, .known false), (19, .val (.dat .bool false))]) (kF := [1, 38, 39, 40, 44, 45, 46, 70]) (kL := [1, 6]) (fr' := [(1, .one (.ptr 1 0)), (38, aD (.slice (.slice (.pair tI (.pair tI tI)))) a0.2.2), (39, aI (List.length a0.2.2 : Int)), (40, aI i185), (44, aD (.slice (.pair tI (.pair tI tI))) v188), (45, aI (List.length v188 : Int)), (46, aI i235), (70, aB (decide (v238.2.2 > a0.1)))]) (L' := [(1, .one (.pair tI (.pair tI (.slice (.slice (.pair tI (.pair tI tI)))))) a0), (6, .one (.pair tI (.pair tI tI)) v238)]) (obs := [((decide (v238.2.2 < (0 : Int))) = false), ((decide (v238.2.2 < (0 : Int))) = false), ((decide (v238.2.2 < (0 : Int))) = false), ((decide (v238.2.2 < (0 : Int))) = false), ((decide (v238.2.2 < (0 : Int))) = false), ((decide (v238.2.2 < (0 : Int))) = false)]) rfl (by kernel_rfl) (allP2 h255 (allP2 h255 (allP2 h255 (allP2 h255 (allP2 h255 (allP1 h255)))))) ?_
                              obtain rfl := Option.some.inj h
                              refine WO_fin [1, 38, 39, 40, 44, 45, 46, 70] [1] (fr' := [(1, .one (.ptr 1 0)), (38, aD (.slice (.slice (.pair tI (.pair tI tI)))) a0.2.2), (39, aI (List.length a0.2.2 : Int)), (40, aI i185), (44, aD (.slice (.pair tI (.pair tI tI))) v188), (45, aI (List.length v188 : Int)), (46, aI i235), (70, aB (decide (v238.2.2 > a0.1)))]) (L' := [(1, .one (.pair tI (.pair tI (.slice (.slice (.pair tI (.pair tI tI)))))) a0)]) (by kernel_rfl) (by kernel_rfl) ?_
                              exact exQ_mk (by kernel_rfl) (by kernel_rfl)
                          · intro e fr L hJ
                            obtain ⟨rfl, rfl, rfl⟩ := hJ
                            refine LT_keep [1, 38, 39, 40, 44, 45, 46, 70] [1] (fr' := [(1, .one (.ptr 1 0)), (38, aD (.slice (.slice (.pair tI (.pair tI tI)))) a0.2.2), (39, aI (List.length a0.2.2 : Int)), (40, aI i185), (44, aD (.slice (.pair tI (.pair tI tI))) v188), (45, aI (List.length v188 : Int)), (46, aI i235), (70, aB v256)]) (L' := [(1, .one (.pair tI (.pair tI (.slice (.slice (.pair tI (.pair tI tI)))))) a0)]) (by kernel_rfl) ?_
                            refine seqQ_norm ?_
                            refine W_cond (o := .tmp 70) (b := v256) (by kernel_rfl) (by kernel_rfl) (fun h258 => ?_) (fun h258 => ?_)
                            · replace h := ofT h258 h
                              refine W_seq (by kernel_rfl) ?_
                              refine W_run 1 [] [2] [] (fr' := [(2, aI (2 : Int))]) (L' := []) (obs := []) (by kernel_rfl) (by kernel_rfl) (by kernel_rfl) allP0 ?_
                              refine seqQ_norm ?_
                              obtain rfl := Option.some.inj h
                              refine W_ret [2] [] (fr' := [(2, aI (2 : Int))]) (L' := []) (by kernel_rfl) (by kernel_rfl) ?_
                              refine blockQ_ret ?_
                              refine blockQ_ret ?_
                              refine seqQ_ret ?_
                              refine round_ret ?_
                              refine escQ_ret ?_
                              exact exQ_mk (by kernel_rfl) (by kernel_rfl)
                            · replace h := ofF h258 h
                              refine W_skip [1, 38, 39, 40, 44, 45, 46] [1] (fr' := [(1, .one (.ptr 1 0)), (38, aD (.slice (.slice (.pair tI (.pair tI tI)))) a0.2.2), (39, aI (List.length a0.2.2 : Int)), (40, aI i185), (44, aD (.slice (.pair tI (.pair tI tI))) v188), (45, aI (List.length v188 : Int)), (46, aI i235)]) (L' := [(1, .one (.pair tI (.pair tI (.slice (.slice (.pair tI (.pair tI tI)))))) a0)]) (by kernel_rfl) (by kernel_rfl) ?_
                              refine blockQ_norm ?_
                              refine blockQ_norm ?_
                              refine seqQ_norm ?_
                              obtain rfl := Option.some.inj h
                              refine W_run 2 [] [1, 38, 39, 40, 44, 45, 46] [1] (fr' := [(1, .one (.ptr 1 0)), (38, aD (.slice (.slice (.pair tI (.pair tI tI)))) a0.2.2), (39, aI (List.length a0.2.2 : Int)), (40, aI i185), (44, aD (.slice (.pair tI (.pair tI tI))) v188), (45, aI (List.length v188 : Int)), (46, aI (w64 (i235 + (1 : Int))))]) (L' := [(1, .one (.pair tI (.pair tI (.slice (.slice (.pair tI (.pair tI tI)))))) a0)]) (obs := []) (by kernel_rfl) (by kernel_rfl) (by kernel_rfl) allP0 ?_
                              exact round_next' (by kernel_rfl) (by kernel_rfl)
                · obtain rfl := stepL_false h240 h
                  refine W_exit (id := 2) [1, 38, 39, 40] [1] (fr' := [(1, .one (.ptr 1 0)), (38, aD (.slice (.slice (.pair tI (.pair tI tI)))) a0.2.2), (39, aI (List.length a0.2.2 : Int)), (40, aI i185)]) (L' := [(1, .one (.pair tI (.pair tI (.slice (.slice (.pair tI (.pair tI tI)))))) a0)]) (by kernel_rfl) (by kernel_rfl) ?_
                  refine seqQ_exit ?_
                  refine round_exit ?_
                  refine escQ_brk ?_
                  exact exQ_mk (by kernel_rfl) (by kernel_rfl)
              · intro e fr L hJ
                rcases v260 with v265 | v266
                · obtain ⟨rfl, rfl, rfl⟩ := hJ
                  obtain rfl := Option.some.inj h
                  refine LT_keep [2] [] (fr' := [(2, aI v265)]) (L' := []) (by kernel_rfl) ?_
                  refine blockQ_ret ?_
                  refine blockQ_ret ?_
                  refine seqQ_ret ?_
                  refine round_ret ?_
                  refine escQ_ret ?_
                  exact exQ_mk (by kernel_rfl) (by kernel_rfl)
                · obtain ⟨rfl, rfl, rfl⟩ := hJ
                  refine LT_keep [1, 38, 39, 40] [1] (fr' := [(1, .one (.ptr 1 0)), (38, aD (.slice (.slice (.pair tI (.pair tI tI)))) a0.2.2), (39, aI (List.length a0.2.2 : Int)), (40, aI i185)]) (L' := [(1, .one (.pair tI (.pair tI (.slice (.slice (.pair tI (.pair tI tI)))))) a0)]) (by kernel_rfl) ?_
                  refine blockQ_hit ?_
                  refine blockQ_norm ?_
                  refine seqQ_norm ?_
                  obtain rfl := Option.some.inj h
                  refine W_run 2 [] [1, 38, 39, 40] [1] (fr' := [(1, .one (.ptr 1 0)), (38, aD (.slice (.slice (.pair tI (.pair tI tI)))) a0.2.2), (39, aI (List.length a0.2.2 : Int)), (40, aI (w64 (i185 + (1 : Int))))]) (L' := [(1, .one (.pair tI (.pair tI (.slice (.slice (.pair tI (.pair tI tI)))))) a0)]) (obs := []) (by kernel_rfl) (by kernel_rfl) (by kernel_rfl) allP0 ?_
                  exact round_next' (by kernel_rfl) (by kernel_rfl)
            · obtain rfl := stepL_false h190 h
              refine W_exit (id := 0) [] [] (fr' := []) (L' := []) (by kernel_rfl) (by kernel_rfl) ?_
              refine seqQ_exit ?_
              refine round_exit ?_
              refine escQ_brk ?_
              exact exQ_mk (by kernel_rfl) (by kernel_rfl)
          · intro e fr L hJ
            rcases v268 with v273 | v274
            · obtain ⟨rfl, rfl, rfl⟩ := hJ
              obtain rfl := Option.some.inj h
              refine LT_keep [2] [] (fr' := [(2, aI v273)]) (L' := []) (by kernel_rfl) ?_
              refine blockQ_ret ?_
              refine seqQ_ret ?_
              exact retQ_mk (by kernel_rfl) (by kernel_rfl) (by kernel_rfl)
            · obtain ⟨rfl, rfl, rfl⟩ := hJ
              refine LT_keep [] [] (fr' := []) (L' := []) (by kernel_rfl) ?_
              refine blockQ_hit ?_
              refine seqQ_norm ?_
              refine W_seq (by kernel_rfl) ?_
              refine W_run 1 [] [2] [] (fr' := [(2, aI (0 : Int))]) (L' := []) (obs := []) (by kernel_rfl) (by kernel_rfl) (by kernel_rfl) allP0 ?_
              refine seqQ_norm ?_
              obtain rfl := Option.some.inj h
              refine W_ret [2] [] (fr' := [(2, aI (0 : Int))]) (L' := []) (by kernel_rfl) (by kernel_rfl) ?_
              exact retQ_mk (by kernel_rfl) (by kernel_rfl) (by kernel_rfl)

noncomputable def tape_Tape_Put (a1 : Int) (a2 : Int) (c0 : (Option (List (Int × Int)))) : Option (Option (List (Int × Int))) :=
bif a2 == (0 : Int) then
(some (Option.map (fun l => mDel (deqT tI) l a1) c0))
else
((ck (Option.isSome c0 = true)).bind fun _ =>
some (Option.map (fun l => mPut (deqT tI) l a1 a2) c0))
theorem tape_Tape_Put_ok {a1 : Int} {a2 : Int} {c0 : (Option (List (Int × Int)))} {r : (Option (List (Int × Int)))} (h : tape_Tape_Put a1 a2 c0 = some r) : FnC Try.prog 66 [.one (.slc 1000), aI a1, aI a2] [(1000, .map tI tI c0)] (.tup []) [(1000, .map tI tI r)] := by
  refine fnC_of_W (B := bodyOf Try.f66) (n := 13) Try.func66 (by kernel_rfl) (by kernel_rfl) (by kernel_rfl) (by kernel_rfl) (by kernel_rfl) ?_
  intro K
  refine W_seq (by kernel_rfl) ?_
  refine W_seq (by kernel_rfl) ?_
  refine W_run 2 [] [0, 1, 2, 7] [1000] (fr' := [(0, .one (.slc 1000)), (1, aI a1), (2, aI a2), (7, aB (a2 == (0 : Int)))]) (L' := [(1000, .map tI tI c0)]) (obs := []) (by kernel_rfl) (by kernel_rfl) (by kernel_rfl) allP0 ?_
  refine seqQ_norm ?_
  refine W_cond (o := .tmp 7) (b := a2 == (0 : Int)) (by kernel_rfl) (by kernel_rfl) (fun h1 => ?_) (fun h1 => ?_)
  · replace h := ofT h1 h
    refine W_seq (by kernel_rfl) ?_
    refine W_run 3 [] [] [1000] (fr' := []) (L' := [(1000, .map tI tI (Option.map (fun l => mDel (deqT tI) l a1) c0))]) (obs := []) (by kernel_rfl) (by kernel_rfl) (by kernel_rfl) allP0 ?_
    refine seqQ_norm ?_
    obtain rfl := Option.some.inj h
    refine W_ret [] [1000] (fr' := []) (L' := [(1000, .map tI tI (Option.map (fun l => mDel (deqT tI) l a1) c0))]) (by kernel_rfl) (by kernel_rfl) ?_
    refine seqQ_ret ?_
    exact retQ_mk (by kernel_rfl) (by kernel_rfl) (by kernel_rfl)
  · replace h := ofF h1 h
    refine W_skip [0, 1, 2] [1000] (fr' := [(0, .one (.slc 1000)), (1, aI a1), (2, aI a2)]) (L' := [(1000, .map tI tI c0)]) (by kernel_rfl) (by kernel_rfl) ?_
    refine seqQ_norm ?_
    obtain ⟨_, h2, h⟩ := bind_of h
    replace h2 := ck_some h2
    obtain rfl := Option.some.inj h
    refine W_run 4 [] [] [1000] (fr' := []) (L' := [(1000, .map tI tI (Option.map (fun l => mPut (deqT tI) l a1 a2) c0))]) (obs := [Option.isSome c0 = true]) (by kernel_rfl) (by kernel_rfl) (by kernel_rfl) (allP1 h2) ?_
    exact ⟨.inr rfl, by kernel_rfl, by kernel_rfl, by kernel_rfl⟩

@[reducible] noncomputable def tape_lay_s10 (a0 : (Int × (Int × (List (List (Int × (Int × Int))))))) (a1 : (List Int)) (a2 : Int) (i71 : Int) (x72 : (Option (List (Int × Int)))) (v74 : Int) (v : Bool) : Fr × LL := ([(2, aI a2), (3, .one (.ptr 3 0)), (8, .one (.slc 11)), (9, aI i71), (10, aI v74), (12, aD (.slice tI) a1), (13, aI (List.length a1 : Int)), (14, aI i71), (26, aB v)], [(3, .one (.pair tI (.pair tI (.slice (.slice (.pair tI (.pair tI tI)))))) a0), (11, .map tI tI x72)])
noncomputable def tape_lay_b11 (a0 : (Int × (Int × (List (List (Int × (Int × Int))))))) (a2 : Int) (i71 : Int) (v74 : Int) (x72 : (Option (List (Int × Int)))) : Option (Flow (Option (List (Int × Int))) (Esc ((Option (List (Int × Int))) × Bool) (Option (List (Int × Int))))) :=
(bif decide (v74 < (0 : Int)) then
(some true)
else
(some (decide (v74 ≥ a0.2.1)))).bind fun v80 =>
bif v80 then
(some (.done (.ret ((none : Option (List (Int × Int))), false))))
else
((tape_Tape_Put (w64 (a2 + i71)) v74 x72).bind fun r83 =>
some (.next r83))
@[reducible] noncomputable def tape_lay_s12 (a0 : (Int × (Int × (List (List (Int × (Int × Int))))))) (a1 : (List Int)) (a2 : Int) (v : Int × (Option (List (Int × Int)))) : Fr × LL := ([(2, aI a2), (3, .one (.ptr 3 0)), (8, .one (.slc 11)), (12, aD (.slice tI) a1), (13, aI (List.length a1 : Int)), (14, aI v.1)], [(3, .one (.pair tI (.pair tI (.slice (.slice (.pair tI (.pair tI tI)))))) a0), (11, .map tI tI v.2)])
@[reducible] noncomputable def tape_lay_s13 (v : ((Option (List (Int × Int))) × Bool)) : Fr × LL := ([(6, .one (.slc 11)), (7, aB v.2)], [(11, .map tI tI v.1)])
@[reducible] noncomputable def tape_lay_s14 (v : (Option (List (Int × Int)))) : Fr × LL := ([(8, .one (.slc 11))], [(11, .map tI tI v)])
noncomputable def tape_lay (a0 : (Int × (Int × (List (List (Int × (Int × Int))))))) (a1 : (List Int)) (a2 : Int) : Option ((Option (List (Int × Int))) × Bool) :=
(forL (tape_lay_b11 a0 a2) (fun x72 => (.brk x72)) a1 0 (some [] : Option (List (Int × Int)))).bind fun v86 =>
match v86 with
| .ret v91 =>
(some (v91.1, v91.2))
| .brk v92 =>
(some (v92, true))
theorem tape_lay_ok {a0 : (Int × (Int × (List (List (Int × (Int × Int))))))} {a1 : (List Int)} {a2 : Int} {r : ((Option (List (Int × Int))) × Bool)} (h : tape_lay a0 a1 a2 = some r) : FnC Try.prog 95 [aD (.pair tI (.pair tI (.slice (.slice (.pair tI (.pair tI tI)))))) a0, aD (.slice tI) a1, aI a2] [] (.tup [.slc 11, .dat .bool r.2]) [(11, .map tI tI r.1)] := by
  refine fnC_of_W (B := bodyOf Try.f95) (n := 35) Try.func95 (by kernel_rfl) (by kernel_rfl) (by kernel_rfl) (by kernel_rfl) (by kernel_rfl) ?_
  intro K
  refine W_seq (by kernel_rfl) ?_
  refine W_run 3 [] [1, 2, 3] [3] (fr' := [(1, aD (.slice tI) a1), (2, aI a2), (3, .one (.ptr 3 0))]) (L' := [(3, .one (.pair tI (.pair tI (.slice (.slice (.pair tI (.pair tI tI)))))) a0)]) (obs := []) (by kernel_rfl) (by kernel_rfl) (by kernel_rfl) allP0 ?_
  refine seqQ_norm ?_
  refine W_seq (by kernel_rfl) ?_
  refine W_run 2 [] [1, 2, 3, 8] [3, 11] (fr' := [(1, aD (.slice tI) a1), (2, aI a2), (3, .one (.ptr 3 0)), (8, .one (.slc 11))]) (L' := [(3, .one (.pair tI (.pair tI (.slice (.slice (.pair tI (.pair tI tI)))))) a0), (11, .map tI tI (some [] : Option (List (Int × Int))))]) (obs := []) (by kernel_rfl) (by kernel_rfl) (by kernel_rfl) allP0 ?_
  refine seqQ_norm ?_
  refine W_seq (by kernel_rfl) ?_
  refine W_seq (by kernel_rfl) ?_
  refine W_run 3 [] [2, 3, 8, 12, 13, 14] [3, 11] (fr' := [(2, aI a2), (3, .one (.ptr 3 0)), (8, .one (.slc 11)), (12, aD (.slice tI) a1), (13, aI (List.length a1 : Int)), (14, aI (0 : Int))]) (L' := [(3, .one (.pair tI (.pair tI (.slice (.slice (.pair tI (.pair tI tI)))))) a0), (11, .map tI tI (some [] : Option (List (Int × Int))))]) (obs := []) (by kernel_rfl) (by kernel_rfl) (by kernel_rfl) allP0 ?_
  refine seqQ_norm ?_
  refine W_block (id := 0) (by kernel_rfl) ?_
  obtain ⟨v86, h87, h⟩ := bind_of h
  refine W_len (t := 12) (u := tI) (xs := a1) (by kernel_rfl) (fun h90 => ?_)
  obtain ⟨h88, h89⟩ := forL_iter h90 h87
  refine W_weaken [2, 3, 8, 12, 13, 14] [3, 11] (fr' := ((tape_lay_s12 a0 a1 a2) ((0 : Int), (some [] : Option (List (Int × Int))))).1) (L' := ((tape_lay_s12 a0 a1 a2) ((0 : Int), (some [] : Option (List (Int × Int))))).2) (by kernel_rfl) ?_
  refine W_cutK (W_loop (S := (tape_lay_s12 a0 a1 a2)) (J := (escQ (exQ .ret tape_lay_s13) (exQ (.exit 0) tape_lay_s14))) (by kernel_rfl) ?_ h88 _ v86 h89) ?_
  · rintro ⟨i71, x72⟩ s h
    refine W_seq (by kernel_rfl) ?_
    refine W_run 1 [] [2, 3, 8, 12, 13, 14, 15] [3, 11] (fr' := [(2, aI a2), (3, .one (.ptr 3 0)), (8, .one (.slc 11)), (12, aD (.slice tI) a1), (13, aI (List.length a1 : Int)), (14, aI i71), (15, aB (decide (i71 < (List.length a1 : Int))))]) (L' := [(3, .one (.pair tI (.pair tI (.slice (.slice (.pair tI (.pair tI tI)))))) a0), (11, .map tI tI x72)]) (obs := []) (by kernel_rfl) (by kernel_rfl) (by kernel_rfl) allP0 ?_
    refine seqQ_norm ?_
    refine W_seq (by kernel_rfl) ?_
    refine W_cond (o := .tmp 15) (b := decide (i71 < (List.length a1 : Int))) (by kernel_rfl) (by kernel_rfl) (fun h76 => ?_) (fun h76 => ?_)
    · replace h := stepL_true h76 h
      obtain ⟨v74, _, h75, h, rfl⟩ := h
      refine W_skip [2, 3, 8, 12, 13, 14] [3, 11] (fr' := [(2, aI a2), (3, .one (.ptr 3 0)), (8, .one (.slc 11)), (12, aD (.slice tI) a1), (13, aI (List.length a1 : Int)), (14, aI i71)]) (L' := [(3, .one (.pair tI (.pair tI (.slice (.slice (.pair tI (.pair tI tI)))))) a0), (11, .map tI tI x72)]) (by kernel_rfl) (by kernel_rfl) ?_
      refine seqQ_norm ?_
      refine W_seq (by kernel_rfl) ?_
      refine W_block (id := 1) (by kernel_rfl) ?_
      refine W_seq (by kernel_rfl) ?_
      refine W_run 5 [(3, .val (.dat tI v74))] [2, 3, 8, 9, 10, 12, 13, 14] [3, 11] (fr' := [(2, aI a2), (3, .one (.ptr 3 0)), (8, .one (.slc 11)), (9, aI i71), (10, aI v74), (12, aD (.slice tI) a1), (13, aI (List.length a1 : Int)), (14, aI i71)]) (L' := [(3, .one (.pair tI (.pair tI (.slice (.slice (.pair tI (.pair tI tI)))))) a0), (11, .map tI tI x72)]) (obs := [Idx a1 i71 v74]) (by kernel_rfl) (by kernel_rfl) (by kernel_rfl) (allP1 (Idx.of h75)) ?_
      refine seqQ_norm ?_
      refine W_seq (by kernel_rfl) ?_
      refine W_seq (by kernel_rfl) ?_
      obtain ⟨v80, h81, h⟩ := bind_of h
      refine W_cutK (Q' := (exQ .normal (tape_lay_s10 a0 a1 a2 i71 x72 v74)) v80) ?_ ?_
      · replace h := h81
        refine W_region (by kernel_rfl) ?_
        refine WO_run (j := 3) (k := 3) (orcs := []) (kF := [2, 3, 8, 9, 10, 12, 13, 14, 21]) (kL := [3, 11]) (fr' := [(2, aI a2), (3, .one (.ptr 3 0)), (8, .one (.slc 11)), (9, aI i71), (10, aI v74), (12, aD (.slice tI) a1), (13, aI (List.length a1 : Int)), (14, aI i71), (21, aB (decide (v74 < (0 : Int))))]) (L' := [(3, .one (.pair tI (.pair tI (.slice (.slice (.pair tI (.pair tI tI)))))) a0), (11, .map tI tI x72)]) (obs := []) rfl (by kernel_rfl) allP0 ?_
        rcases Bool.eq_false_or_eq_true (decide (v74 < (0 : Int))) with h79 | h79
        · replace h := ofT h79 h
          refine WO_run (j := 8) (k := 5) (orcs := [(6, .known true), (8, .known true), (10, .known true), (12, .known true), (15, .val (.dat .bool true))]) (kF := [2, 3, 8, 9, 10, 12, 13, 14, 26]) (kL := [3, 11]) (fr' := [(2, aI a2), (3, .one (.ptr 3 0)), (8, .one (.slc 11)), (9, aI i71), (10, aI v74), (12, aD (.slice tI) a1), (13, aI (List.length a1 : Int)), (14, aI i71), (26, aB true)]) (L' := [(3, .one (.pair tI (.pair tI (.slice (.slice (.pair tI (.pair tI tI)))))) a0), (11, .map tI tI x72)]) (obs := [((decide (v74 < (0 : Int))) = true), ((decide (v74 < (0 : Int))) = true), ((decide (v74 < (0 : Int))) = true), ((decide (v74 < (0 : Int))) = true), ((decide (v74 < (0 : Int))) = true)]) rfl (by kernel_rfl) (allP2 h79 (allP2 h79 (allP2 h79 (allP2 h79 (allP1 h79))))) ?_
          obtain rfl := Option.some.inj h
          refine WO_fin [2, 3, 8, 9, 10, 12, 13, 14, 26] [3, 11] (fr' := [(2, aI a2), (3, .one (.ptr 3 0)), (8, .one (.slc 11)), (9, aI i71), (10, aI v74), (12, aD (.slice tI) a1), (13, aI (List.length a1 : Int)), (14, aI i71), (26, aB true)]) (L' := [(3, .one (.pair tI (.pair tI (.slice (.slice (.pair tI (.pair tI tI)))))) a0), (11, .map tI tI x72)]) (by kernel_rfl) (by kernel_rfl) ?_
          exact exQ_mk (by kernel_rfl) (by kernel_rfl)
        · replace h := ofF h79 h
          refine WO_run (j := 8) (k := 5) (orcs := [(6, .known false), (8, .known false), (10, .known false), (12, .known false), (15, .val (.dat .bool false))]) (kF := [2, 3, 8, 9, 10, 12, 13, 14, 26]) (kL := [3, 11]) (fr' := [(2, aI a2), (3, .one (.ptr 3 0)), (8, .one (.slc 11)), (9, aI i71), (10, aI v74), (12, aD (.slice tI) a1), (13, aI (List.length a1 : Int)), (14, aI i71), (26, aB (decide (v74 ≥ a0.2.1)))]) (L' := [(3, .one (.pair tI (.pair tI (.slice (.slice (.pair tI (.pair tI tI)))))) a0), (11, .map tI tI x72)]) (obs := [((decide (v74 < (0 : Int))) = false), ((decide (v74 < (0 : Int))) = false), ((decide (v74 < (0 : Int))) = false), ((decide (v74 < (0 : Int))) = false), ((decide (v74 < (0 : Int))) = false)]) rfl (by kernel_rfl) (allP2 h79 (allP2 h79 (allP2 h79 (allP2 h79 (allP1 h79))))) ?_
          obtain rfl := Option.some.inj h
          refine WO_fin [2, 3, 8, 9, 10, 12, 13, 14, 26] [3, 11] (fr' := [(2, aI a2), (3, .one (.ptr 3 0)), (8, .one (.slc 11)), (9, aI i71), (10, aI v74), (12, aD (.slice tI) a1), (13, aI (List.length a1 : Int)), (14, aI i71), (26, aB (decide (v74 ≥ a0.2.1)))]) (L' := [(3, .one (.pair tI (.pair tI (.slice (.slice (.pair tI (.pair tI tI)))))) a0), (11, .map tI tI x72)]) (by kernel_rfl) (by kernel_rfl) ?_
          exact exQ_mk (by kernel_rfl) (by kernel_rfl)
      · intro e fr L hJ
        obtain ⟨rfl, rfl, rfl⟩ := hJ
        refine LT_keep [2, 3, 8, 9, 10, 12, 13, 14, 26] [3, 11] (fr' := [(2, aI a2), (3, .one (.ptr 3 0)), (8, .one (.slc 11)), (9, aI i71), (10, aI v74), (12, aD (.slice tI) a1), (13, aI (List.length a1 : Int)), (14, aI i71), (26, aB v80)]) (L' := [(3, .one (.pair tI (.pair tI (.slice (.slice (.pair tI (.pair tI tI)))))) a0), (11, .map tI tI x72)]) (by kernel_rfl) ?_
        refine seqQ_norm ?_
        refine W_cond (o := .tmp 26) (b := v80) (by kernel_rfl) (by kernel_rfl) (fun h82 => ?_) (fun h82 => ?_)
        · replace h := ofT h82 h
          refine W_seq (by kernel_rfl) ?_
          refine W_run 2 [] [6, 7] [] (fr' := [(6, .one (.nilM)), (7, aB false)]) (L' := []) (obs := []) (by kernel_rfl) (by kernel_rfl) (by kernel_rfl) allP0 ?_
          refine seqQ_norm ?_
          obtain rfl := Option.some.inj h
          refine W_mineM 6 11 tI tI (by kernel_rfl) ?_
          refine W_ret [6, 7] [11] (fr' := [(6, .one (.slc 11)), (7, aB false)]) (L' := [(11, .map tI tI (none : Option (List (Int × Int))))]) (by kernel_rfl) (by kernel_rfl) ?_
          refine seqQ_ret ?_
          refine blockQ_ret ?_
          refine seqQ_ret ?_
          refine round_ret ?_
          refine escQ_ret ?_
          exact exQ_mk (by kernel_rfl) (by kernel_rfl)
        · replace h := ofF h82 h
          refine W_skip [2, 3, 8, 9, 10, 12, 13, 14] [3, 11] (fr' := [(2, aI a2), (3, .one (.ptr 3 0)), (8, .one (.slc 11)), (9, aI i71), (10, aI v74), (12, aD (.slice tI) a1), (13, aI (List.length a1 : Int)), (14, aI i71)]) (L' := [(3, .one (.pair tI (.pair tI (.slice (.slice (.pair tI (.pair tI tI)))))) a0), (11, .map tI tI x72)]) (by kernel_rfl) (by kernel_rfl) ?_
          refine seqQ_norm ?_
          refine W_region (by kernel_rfl) ?_
          refine WO_run (j := 5) (k := 5) (orcs := []) (kF := [2, 3, 8, 12, 13, 14, 27, 30, 31]) (kL := [3, 11]) (fr' := [(2, aI a2), (3, .one (.ptr 3 0)), (8, .one (.slc 11)), (12, aD (.slice tI) a1), (13, aI (List.length a1 : Int)), (14, aI i71), (27, .one (.slc 11)), (30, aI (w64 (a2 + i71))), (31, aI v74)]) (L' := [(3, .one (.pair tI (.pair tI (.slice (.slice (.pair tI (.pair tI tI)))))) a0), (11, .map tI tI x72)]) (obs := []) rfl (by kernel_rfl) allP0 ?_
          obtain ⟨r83, h84, h⟩ := bind_of h
          refine WO_lend [(1000, 11)] (us := [none, none, none]) (d := 32) (p := True) (j := 6) rfl ⟨by kernel_rfl, by kernel_rfl, by kernel_rfl⟩ trivial (tape_Tape_Put_ok h84) (by kernel_rfl) (by kernel_rfl) ?_
          refine WO_fin [2, 3, 8, 12, 13, 14] [3, 11] (fr' := [(2, aI a2), (3, .one (.ptr 3 0)), (8, .one (.slc 11)), (12, aD (.slice tI) a1), (13, aI (List.length a1 : Int)), (14, aI i71)]) (L' := [(3, .one (.pair tI (.pair tI (.slice (.slice (.pair tI (.pair tI tI)))))) a0), (11, .map tI tI r83)]) (by kernel_rfl) (by kernel_rfl) ?_
          refine blockQ_norm ?_
          refine seqQ_norm ?_
          obtain rfl := Option.some.inj h
          refine W_run 2 [] [2, 3, 8, 12, 13, 14] [3, 11] (fr' := [(2, aI a2), (3, .one (.ptr 3 0)), (8, .one (.slc 11)), (12, aD (.slice tI) a1), (13, aI (List.length a1 : Int)), (14, aI (w64 (i71 + (1 : Int))))]) (L' := [(3, .one (.pair tI (.pair tI (.slice (.slice (.pair tI (.pair tI tI)))))) a0), (11, .map tI tI r83)]) (obs := []) (by kernel_rfl) (by kernel_rfl) (by kernel_rfl) allP0 ?_
          exact round_next' (by kernel_rfl) (by kernel_rfl)
    · obtain rfl := stepL_false h76 h
      refine W_exit (id := 0) [8] [11] (fr' := [(8, .one (.slc 11))]) (L' := [(11, .map tI tI x72)]) (by kernel_rfl) (by kernel_rfl) ?_
      refine seqQ_exit ?_
      refine round_exit ?_
      refine escQ_brk ?_
      exact exQ_mk (by kernel_rfl) (by kernel_rfl)
  · intro e fr L hJ
    rcases v86 with v91 | v92
    · obtain ⟨rfl, rfl, rfl⟩ := hJ
      obtain rfl := Option.some.inj h
      refine LT_keep [6, 7] [11] (fr' := [(6, .one (.slc 11)), (7, aB v91.2)]) (L' := [(11, .map tI tI v91.1)]) (by kernel_rfl) ?_
      refine blockQ_ret ?_
      refine seqQ_ret ?_
      exact retQ_mk (by kernel_rfl) (by kernel_rfl) (by kernel_rfl)
    · obtain ⟨rfl, rfl, rfl⟩ := hJ
      refine LT_keep [8] [11] (fr' := [(8, .one (.slc 11))]) (L' := [(11, .map tI tI v92)]) (by kernel_rfl) ?_
      refine blockQ_hit ?_
      refine seqQ_norm ?_
      refine W_seq (by kernel_rfl) ?_
      refine W_run 3 [] [6, 7] [11] (fr' := [(6, .one (.slc 11)), (7, aB true)]) (L' := [(11, .map tI tI v92)]) (obs := []) (by kernel_rfl) (by kernel_rfl) (by kernel_rfl) allP0 ?_
      refine seqQ_norm ?_
      obtain rfl := Option.some.inj h
      refine W_ret [6, 7] [11] (fr' := [(6, .one (.slc 11)), (7, aB true)]) (L' := [(11, .map tI tI v92)]) (by kernel_rfl) (by kernel_rfl) ?_
      exact retQ_mk (by kernel_rfl) (by kernel_rfl) (by kernel_rfl)

noncomputable def tape_Step (a0 : (Int × (Int × (List (List (Int × (Int × Int))))))) (a2 : Int) (a3 : Int) (c0 : (Option (List (Int × Int)))) : Option (Int × Int × (Option (List (Int × Int)))) :=
(idx a0.2.2 a2).bind fun v1 =>
(idx v1 (Option.getD (mGet (deqT tI) (Option.getD c0 []) a3) (0 : Int))).bind fun v3 =>
(tape_Tape_Put a3 v3.1 c0).bind fun r5 =>
some (v3.2.2, w64 (a3 + v3.2.1), r5)
theorem tape_Step_ok {a0 : (Int × (Int × (List (List (Int × (Int × Int))))))} {a2 : Int} {a3 : Int} {c0 : (Option (List (Int × Int)))} {r : (Int × Int × (Option (List (Int × Int))))} (h : tape_Step a0 a2 a3 c0 = some r) : FnC Try.prog 67 [aD (.pair tI (.pair tI (.slice (.slice (.pair tI (.pair tI tI)))))) a0, .one (.slc 1000), aI a2, aI a3] [(1000, .map tI tI c0)] (.tup [.dat tI r.1, .dat tI r.2.1]) [(1000, .map tI tI r.2.2)] := by
  refine fnC_of_W (B := bodyOf Try.f67) (n := 32) Try.func67 (by kernel_rfl) (by kernel_rfl) (by kernel_rfl) (by kernel_rfl) (by kernel_rfl) ?_
  intro K
  refine W_seq (by kernel_rfl) ?_
  refine W_run 3 [] [1, 2, 3, 4] [1000, 4] (fr' := [(1, .one (.slc 1000)), (2, aI a2), (3, aI a3), (4, .one (.ptr 4 0))]) (L' := [(1000, .map tI tI c0), (4, .one (.pair tI (.pair tI (.slice (.slice (.pair tI (.pair tI tI)))))) a0)]) (obs := []) (by kernel_rfl) (by kernel_rfl) (by kernel_rfl) allP0 ?_
  refine seqQ_norm ?_
  refine W_seq (by kernel_rfl) ?_
  obtain ⟨v1, h2, h⟩ := bind_of h
  obtain ⟨v3, h4, h⟩ := bind_of h
  refine W_drawC5 11 [] [(10, 10, .one (.pair tI (.pair tI tI)) ((0 : Int), (0 : Int), (0 : Int)))] [(10, .one (.ptr 10 0))] [(7, .val (.dat (.slice (.pair tI (.pair tI tI))) v1)), (17, .val (.dat (.pair tI (.pair tI tI)) v3))] [] [1, 3, 10, 20] [4, 10, 1000] (out := [(11, .one (.ptr 4 2)), (12, aD (.slice (.slice (.pair tI (.pair tI tI)))) a0.2.2), (13, aI a2), (14, .one (.dptr (.slice (.pair tI (.pair tI tI))) v1)), (15, aD (.slice (.pair tI (.pair tI tI))) v1), (16, .one (.slc 1000)), (17, aI a3), (18, aI (Option.getD (mGet (deqT tI) (Option.getD c0 []) a3) (0 : Int))), (19, .one (.dptr (.pair tI (.pair tI tI)) v3)), (20, aD (.pair tI (.pair tI tI)) v3), (10, .one (.ptr 10 0))]) (obs := [Idx a0.2.2 a2 v1, Idx v1 (Option.getD (mGet (deqT tI) (Option.getD c0 []) a3) (0 : Int)) v3]) (calls := []) (fr' := [(1, .one (.slc 1000)), (3, aI a3), (10, .one (.ptr 10 0)), (20, aD (.pair tI (.pair tI tI)) v3)]) (L' := [(4, .one (.pair tI (.pair tI (.slice (.slice (.pair tI (.pair tI tI)))))) a0), (10, .one (.pair tI (.pair tI tI)) ((0 : Int), (0 : Int), (0 : Int))), (1000, .map tI tI c0)]) (by kernel_rfl) (by kernel_rfl) (by kernel_rfl) (by kernel_rfl) (by kernel_rfl) (allP2 (Idx.of h2) (allP1 (Idx.of h4))) allD0 chNil (mkDo (ty := true) (av := .one (.ptr 10 0)) (p := True) (by kernel_rfl) trivial (by kernel_rfl) mkNil) (by kernel_rfl) ?_
  refine WO_run (j := 12) (k := 1) (orcs := []) (kF := [1, 3, 10]) (kL := [4, 10, 1000]) (fr' := [(1, .one (.slc 1000)), (3, aI a3), (10, .one (.ptr 10 0))]) (L' := [(4, .one (.pair tI (.pair tI (.slice (.slice (.pair tI (.pair tI tI)))))) a0), (10, .one (.pair tI (.pair tI tI)) v3), (1000, .map tI tI c0)]) (obs := [True]) rfl (by kernel_rfl) (allP1 trivial) ?_
  refine WO_fin [1, 3, 10] [1000, 10] (fr' := [(1, .one (.slc 1000)), (3, aI a3), (10, .one (.ptr 10 0))]) (L' := [(1000, .map tI tI c0), (10, .one (.pair tI (.pair tI tI)) v3)]) (by kernel_rfl) (by kernel_rfl) ?_
  refine ⟨rfl, ?_⟩
  refine seqQ_norm ?_
  refine W_seq (by kernel_rfl) ?_
  refine W_region (by kernel_rfl) ?_
  refine WO_run (j := 4) (k := 4) (orcs := []) (kF := [3, 10, 21, 22, 24]) (kL := [10, 1000]) (fr' := [(3, aI a3), (10, .one (.ptr 10 0)), (21, .one (.slc 1000)), (22, aI a3), (24, aI v3.1)]) (L' := [(10, .one (.pair tI (.pair tI tI)) v3), (1000, .map tI tI c0)]) (obs := []) rfl (by kernel_rfl) allP0 ?_
  obtain ⟨r5, h6, h⟩ := bind_of h
  refine WO_lend [(1000, 1000)] (us := [none, none, none]) (d := 25) (p := True) (j := 5) rfl ⟨by kernel_rfl, by kernel_rfl, by kernel_rfl⟩ trivial (tape_Tape_Put_ok h6) (by kernel_rfl) (by kernel_rfl) ?_
  refine WO_fin [3, 10] [10, 1000] (fr' := [(3, aI a3), (10, .one (.ptr 10 0))]) (L' := [(10, .one (.pair tI (.pair tI tI)) v3), (1000, .map tI tI r5)]) (by kernel_rfl) (by kernel_rfl) ?_
  refine seqQ_norm ?_
  refine W_seq (by kernel_rfl) ?_
  refine W_draw2 7 [] [] [8, 9] [1000] (fr' := [(8, aI v3.2.2), (9, aI (w64 (a3 + v3.2.1)))]) (L' := [(1000, .map tI tI r5)]) (out := [(26, .one (.ptr 10 2)), (27, aI v3.2.2), (28, aI a3), (29, .one (.ptr 10 1)), (30, aI v3.2.1), (31, aI (w64 (a3 + v3.2.1))), (8, aI v3.2.2)]) (obs := []) (obs2 := []) (calls := []) (by kernel_rfl) (by kernel_rfl) (by kernel_rfl) (by kernel_rfl) allP0 allC0 (by kernel_rfl) allP0 ?_
  refine seqQ_norm ?_
  obtain rfl := Option.some.inj h
  refine W_ret [8, 9] [1000] (fr' := [(8, aI v3.2.2), (9, aI (w64 (a3 + v3.2.1)))]) (L' := [(1000, .map tI tI r5)]) (by kernel_rfl) (by kernel_rfl) ?_
  exact retQ_mk (by kernel_rfl) (by kernel_rfl) (by kernel_rfl)

noncomputable def tape_now_b1 (p12 : Int × Int) (x14 : (Int × Int)) : Option (Int × Int) :=
some (imin x14.1 p12.1, imax x14.2 p12.1)
@[reducible] noncomputable def tape_now_s2 (a1 : Int) (a2 : Int) (bm3 : Nat) (bi4 : Nat) (ck5 : Nat) (es6 : Array MapEntry) (sn8 : Array Nat) (v : (Int × Int)) : Fr × LL := ([(0, .one (.slc 1000)), (1, aI a1), (2, aI a2), (6, .one (.ptr 6 0)), (7, aI v.1), (8, aI v.2), (15, .one (.ptr 15 0))], [(6, .cells [.dat tI (0 : Int), .dat tI (0 : Int), .dat tI (0 : Int), .nilS]), (1000, .raw bm3 (.map es6 ck5)), (15, .raw bi4 (.mapIter (some bm3) ck5 sn8 ck5))])
@[reducible] noncomputable def tape_now_s3 (a1 : Int) (a2 : Int) (l1 : List (Int × Int)) (v : (Int × Int)) : Fr × LL := ([(0, .one (.slc 1000)), (1, aI a1), (2, aI a2), (6, .one (.ptr 6 0)), (7, aI v.1), (8, aI v.2)], [(6, .cells [.dat tI (0 : Int), .dat tI (0 : Int), .dat tI (0 : Int), .nilS]), (1000, .map tI tI (some l1 : Option (List (Int × Int))))])
noncomputable def tape_now_b4 (l1 : List (Int × Int)) (v15 : (Int × Int)) (x20 : (Int × (List Int))) : Option (Flow (Int × (List Int)) (List Int)) :=
bif decide (x20.1 ≤ v15.2) then
((ck ((List.length x20.2 : Int) + 1 ≤ 4294967296)).bind fun _ =>
some (.next (w64 (x20.1 + (1 : Int)), x20.2 ++ [Option.getD (mGet (deqT tI) (Option.getD (some l1 : Option (List (Int × Int))) []) x20.1) (0 : Int)])))
else
(some (.done x20.2))
@[reducible] noncomputable def tape_now_s5 (a1 : Int) (a2 : Int) (l1 : List (Int × Int)) (v15 : (Int × Int)) (v : (Int × (List Int))) : Fr × LL := ([(0, .one (.slc 1000)), (6, .one (.ptr 6 0)), (8, aI v15.2), (10, .one (.ptr 10 0)), (11, aI v.1)], [(6, .cells [.dat tI (0 : Int), .dat tI (0 : Int), .dat tI (0 : Int), .nilS]), (10, .cells [.dat tI a1, .dat tI a2, .dat tI v15.1, .slc 42]), (1000, .map tI tI (some l1 : Option (List (Int × Int)))), (42, .seq tI v.2)])
@[reducible] noncomputable def tape_now_s6 (a1 : Int) (a2 : Int) (l1 : List (Int × Int)) (v15 : (Int × Int)) (v : (List Int)) : Fr × LL := ([(6, .one (.ptr 6 0)), (10, .one (.ptr 10 0))], [(6, .cells [.dat tI (0 : Int), .dat tI (0 : Int), .dat tI (0 : Int), .nilS]), (10, .cells [.dat tI a1, .dat tI a2, .dat tI v15.1, .slc 42]), (1000, .map tI tI (some l1 : Option (List (Int × Int)))), (42, .seq tI v)])
noncomputable def tape_now (fuel : Nat) (a1 : Int) (a2 : Int) (c0 : (Option (List (Int × Int)))) : Option ((Int × (Int × (Int × (List Int)))) × (Option (List (Int × Int)))) :=
(c0).bind fun l1 =>
(rangeM tape_now_b1 l1 (a2, a2)).bind fun v15 =>
(iter (tape_now_b4 l1 v15) fuel (v15.1, [])).bind fun v25 =>
some ((a1, a2, v15.1, v25), (some l1 : Option (List (Int × Int))))
theorem tape_now_ok {fuel : Nat} {a1 : Int} {a2 : Int} {c0 : (Option (List (Int × Int)))} {r : ((Int × (Int × (Int × (List Int)))) × (Option (List (Int × Int))))} (h : tape_now fuel a1 a2 c0 = some r) : FnC Try.prog 104 [.one (.slc 1000), aI a1, aI a2] [(1000, .map tI tI c0)] (aD (.pair tI (.pair tI (.pair tI (.slice tI)))) r.1) [(1000, .map tI tI r.2)] := by
  refine fnC_of_W (B := bodyOf Try.f104) (n := 45) Try.func104 (by kernel_rfl) (by kernel_rfl) (by kernel_rfl) (by kernel_rfl) (by kernel_rfl) ?_
  intro K
  refine W_seq (by kernel_rfl) ?_
  refine W_run 1 [] [0, 1, 2, 6] [1000, 6] (fr' := [(0, .one (.slc 1000)), (1, aI a1), (2, aI a2), (6, .one (.ptr 6 0))]) (L' := [(1000, .map tI tI c0), (6, .cells [.dat tI (0 : Int), .dat tI (0 : Int), .dat tI (0 : Int), .nilS])]) (obs := []) (by kernel_rfl) (by kernel_rfl) (by kernel_rfl) allP0 ?_
  refine seqQ_norm ?_
  refine W_seq (by kernel_rfl) ?_
  refine W_run 4 [] [0, 1, 2, 6, 7, 8] [1000, 6] (fr' := [(0, .one (.slc 1000)), (1, aI a1), (2, aI a2), (6, .one (.ptr 6 0)), (7, aI a2), (8, aI a2)]) (L' := [(1000, .map tI tI c0), (6, .cells [.dat tI (0 : Int), .dat tI (0 : Int), .dat tI (0 : Int), .nilS])]) (obs := []) (by kernel_rfl) (by kernel_rfl) (by kernel_rfl) allP0 ?_
  refine seqQ_norm ?_
  refine W_seq (by kernel_rfl) ?_
  refine W_seq (by kernel_rfl) ?_
  obtain ⟨l1, h2, h⟩ := bind_of h
  refine W_region (by kernel_rfl) ?_
  refine WO_run (j := 1) (k := 1) (orcs := []) (kF := [0, 1, 2, 6, 7, 8, 14]) (kL := [6, 1000]) (fr' := [(0, .one (.slc 1000)), (1, aI a1), (2, aI a2), (6, .one (.ptr 6 0)), (7, aI a2), (8, aI a2), (14, .one (.slc 1000))]) (L' := [(6, .cells [.dat tI (0 : Int), .dat tI (0 : Int), .dat tI (0 : Int), .nilS]), (1000, .map tI tI c0)]) (obs := []) rfl (by kernel_rfl) allP0 ?_
  refine WO_range (d := 15) (s := 1000) (k := tI) (v := tI) (m := c0) (l := l1) (j := 2) rfl (by kernel_rfl) h2 (fun bm3 bi4 es6 ck5 h7 => ?_)
  refine WO_fin [0, 1, 2, 6, 7, 8, 15] [1000, 6, 15] (fr' := [(0, .one (.slc 1000)), (1, aI a1), (2, aI a2), (6, .one (.ptr 6 0)), (7, aI a2), (8, aI a2), (15, .one (.ptr 15 0))]) (L' := [(1000, .raw bm3 (.map es6 ck5)), (6, .cells [.dat tI (0 : Int), .dat tI (0 : Int), .dat tI (0 : Int), .nilS]), (15, .raw bi4 (.mapIter (some bm3) ck5 #[] ck5))]) (by kernel_rfl) (by kernel_rfl) ?_
  refine seqQ_norm ?_
  refine W_block (id := 0) (by kernel_rfl) ?_
  obtain ⟨v15, h16, h⟩ := bind_of h
  refine W_weaken [0, 1, 2, 6, 7, 8, 15] [6, 1000, 15] (fr' := ((fun v sn8 => (tape_now_s2 a1 a2 bm3 bi4 ck5 es6 sn8) v) (a2, a2) #[]).1) (L' := ((fun v sn8 => (tape_now_s2 a1 a2 bm3 bi4 ck5 es6 sn8) v) (a2, a2) #[]).2) (by kernel_rfl) ?_
  refine W_cutK (W_rloop (k := tI) (v := tI) (bm := bm3) (b := tape_now_b1) (x0 := (a2, a2)) (S := (fun v sn8 => (tape_now_s2 a1 a2 bm3 bi4 ck5 es6 sn8) v)) (J := (exQ (.exit 0) (tape_now_s3 a1 a2 l1)) v15) (t := 15) (it := 15) (s := 1000) (dn := 16) (dx := 17) (id := 0) (bi := bi4) (by kernel_rfl) (by kernel_rfl) (fun _ _ => by kernel_rfl) (fun _ _ => by kernel_rfl) (fun _ _ => by kernel_rfl) h7 h16 ?_ ?_) ?_
  · intro p12 x14 h17 sn8 e9 h10 h11 h
    refine W_block (id := 1) (by kernel_rfl) ?_
    refine W_seq (by kernel_rfl) ?_
    refine W_region (by kernel_rfl) ?_
    refine WO_entry (d := 18) (it := 15) (s := 1000) (bi := bi4) (bm := bm3) (ck := ck5) (es := es6) (sn := sn8) (e := e9) (k := tI) (v := tI) (l := l1) (p := p12) (j := 1) rfl (by kernel_rfl) (by kernel_rfl) (by kernel_rfl) h7 h10 h11 ?_
    refine WO_run (j := 3) (k := 2) (orcs := []) (kF := [0, 1, 2, 6, 7, 8, 9, 15]) (kL := [6, 15, 1000]) (fr' := [(0, .one (.slc 1000)), (1, aI a1), (2, aI a2), (6, .one (.ptr 6 0)), (7, aI x14.1), (8, aI x14.2), (9, aI p12.1), (15, .one (.ptr 15 0))]) (L' := [(6, .cells [.dat tI (0 : Int), .dat tI (0 : Int), .dat tI (0 : Int), .nilS]), (15, .raw bi4 (.mapIter (some bm3) ck5 (Array.push sn8 (MapEntry.born e9)) ck5)), (1000, .raw bm3 (.map es6 ck5))]) (obs := []) rfl (by kernel_rfl) allP0 ?_
    refine WO_fin [0, 1, 2, 6, 7, 8, 9, 15] [1000, 6, 15] (fr' := [(0, .one (.slc 1000)), (1, aI a1), (2, aI a2), (6, .one (.ptr 6 0)), (7, aI x14.1), (8, aI x14.2), (9, aI p12.1), (15, .one (.ptr 15 0))]) (L' := [(1000, .raw bm3 (.map es6 ck5)), (6, .cells [.dat tI (0 : Int), .dat tI (0 : Int), .dat tI (0 : Int), .nilS]), (15, .raw bi4 (.mapIter (some bm3) ck5 (Array.push sn8 (MapEntry.born e9)) ck5))]) (by kernel_rfl) (by kernel_rfl) ?_
    refine seqQ_norm ?_
    obtain rfl := Option.some.inj h
    refine W_run 8 [] [0, 1, 2, 6, 7, 8, 15] [6, 1000, 15] (fr' := [(0, .one (.slc 1000)), (1, aI a1), (2, aI a2), (6, .one (.ptr 6 0)), (7, aI (imin x14.1 p12.1)), (8, aI (imax x14.2 p12.1)), (15, .one (.ptr 15 0))]) (L' := [(6, .cells [.dat tI (0 : Int), .dat tI (0 : Int), .dat tI (0 : Int), .nilS]), (1000, .raw bm3 (.map es6 ck5)), (15, .raw bi4 (.mapIter (some bm3) ck5 (Array.push sn8 (MapEntry.born e9)) ck5))]) (obs := []) (by kernel_rfl) (by kernel_rfl) (by kernel_rfl) allP0 ?_
    refine blockQ_norm ?_
    exact rangeQ_mk (by kernel_rfl) (by kernel_rfl)
  · intro sn8
    refine LT_keep [0, 1, 2, 6, 7, 8] [6, 1000] (fr' := [(0, .one (.slc 1000)), (1, aI a1), (2, aI a2), (6, .one (.ptr 6 0)), (7, aI v15.1), (8, aI v15.2)]) (L' := [(6, .cells [.dat tI (0 : Int), .dat tI (0 : Int), .dat tI (0 : Int), .nilS]), (1000, .map tI tI (some l1 : Option (List (Int × Int))))]) (by kernel_rfl) ?_
    exact exQ_mk (by kernel_rfl) (by kernel_rfl)
  · intro e fr L hJ
    obtain ⟨rfl, rfl, rfl⟩ := hJ
    refine LT_keep [0, 1, 2, 6, 7, 8] [1000, 6] (fr' := [(0, .one (.slc 1000)), (1, aI a1), (2, aI a2), (6, .one (.ptr 6 0)), (7, aI v15.1), (8, aI v15.2)]) (L' := [(1000, .map tI tI (some l1 : Option (List (Int × Int)))), (6, .cells [.dat tI (0 : Int), .dat tI (0 : Int), .dat tI (0 : Int), .nilS])]) (by kernel_rfl) ?_
    refine blockQ_hit ?_
    refine seqQ_norm ?_
    refine W_seq (by kernel_rfl) ?_
    refine W_run 6 [(7, .val .nilP)] [0, 6, 7, 8, 10] [1000, 6, 10] (fr' := [(0, .one (.slc 1000)), (6, .one (.ptr 6 0)), (7, aI v15.1), (8, aI v15.2), (10, .one (.ptr 10 0))]) (L' := [(1000, .map tI tI (some l1 : Option (List (Int × Int)))), (6, .cells [.dat tI (0 : Int), .dat tI (0 : Int), .dat tI (0 : Int), .nilS]), (10, .cells [.dat tI a1, .dat tI a2, .dat tI v15.1, .nilS])]) (obs := [True]) (by kernel_rfl) (by kernel_rfl) (by kernel_rfl) (allP1 trivial) ?_
    refine seqQ_norm ?_
    refine W_seq (by kernel_rfl) ?_
    refine W_seq (by kernel_rfl) ?_
    refine W_run 2 [] [0, 6, 8, 10, 11] [1000, 6, 10] (fr' := [(0, .one (.slc 1000)), (6, .one (.ptr 6 0)), (8, aI v15.2), (10, .one (.ptr 10 0)), (11, aI v15.1)]) (L' := [(1000, .map tI tI (some l1 : Option (List (Int × Int)))), (6, .cells [.dat tI (0 : Int), .dat tI (0 : Int), .dat tI (0 : Int), .nilS]), (10, .cells [.dat tI a1, .dat tI a2, .dat tI v15.1, .nilS])]) (obs := []) (by kernel_rfl) (by kernel_rfl) (by kernel_rfl) allP0 ?_
    refine seqQ_norm ?_
    refine W_block (id := 2) (by kernel_rfl) ?_
    obtain ⟨v25, h26, h⟩ := bind_of h
    refine W_cellown 10 3 42 tI (by kernel_rfl) ?_
    refine W_weaken [0, 6, 8, 10, 11] [6, 10, 1000, 42] (fr' := ((tape_now_s5 a1 a2 l1 v15) (v15.1, [])).1) (L' := ((tape_now_s5 a1 a2 l1 v15) (v15.1, [])).2) (by kernel_rfl) ?_
    refine W_cutK (W_loop (S := (tape_now_s5 a1 a2 l1 v15)) (J := (exQ (.exit 2) (tape_now_s6 a1 a2 l1 v15))) (by kernel_rfl) ?_ fuel _ v25 h26) ?_
    · rintro x20 s h
      refine W_seq (by kernel_rfl) ?_
      refine W_seq (by kernel_rfl) ?_
      refine W_run 3 [] [0, 6, 8, 10, 11, 33] [1000, 6, 10, 42] (fr' := [(0, .one (.slc 1000)), (6, .one (.ptr 6 0)), (8, aI v15.2), (10, .one (.ptr 10 0)), (11, aI x20.1), (33, aB (decide (x20.1 ≤ v15.2)))]) (L' := [(1000, .map tI tI (some l1 : Option (List (Int × Int)))), (6, .cells [.dat tI (0 : Int), .dat tI (0 : Int), .dat tI (0 : Int), .nilS]), (10, .cells [.dat tI a1, .dat tI a2, .dat tI v15.1, .slc 42]), (42, .seq tI x20.2)]) (obs := []) (by kernel_rfl) (by kernel_rfl) (by kernel_rfl) allP0 ?_
      refine seqQ_norm ?_
      refine W_cond (o := .tmp 33) (b := decide (x20.1 ≤ v15.2)) (by kernel_rfl) (by kernel_rfl) (fun h23 => ?_) (fun h23 => ?_)
      · replace h := ofT h23 h
        refine W_skip [0, 6, 8, 10, 11] [1000, 6, 10, 42] (fr' := [(0, .one (.slc 1000)), (6, .one (.ptr 6 0)), (8, aI v15.2), (10, .one (.ptr 10 0)), (11, aI x20.1)]) (L' := [(1000, .map tI tI (some l1 : Option (List (Int × Int)))), (6, .cells [.dat tI (0 : Int), .dat tI (0 : Int), .dat tI (0 : Int), .nilS]), (10, .cells [.dat tI a1, .dat tI a2, .dat tI v15.1, .slc 42]), (42, .seq tI x20.2)]) (by kernel_rfl) (by kernel_rfl) ?_
        refine seqQ_norm ?_
        refine W_seq (by kernel_rfl) ?_
        refine W_block (id := 3) (by kernel_rfl) ?_
        obtain ⟨_, h24, h⟩ := bind_of h
        replace h24 := ck_some h24
        refine W_run 9 [] [0, 6, 8, 10, 11] [1000, 6, 10, 42] (fr' := [(0, .one (.slc 1000)), (6, .one (.ptr 6 0)), (8, aI v15.2), (10, .one (.ptr 10 0)), (11, aI x20.1)]) (L' := [(1000, .map tI tI (some l1 : Option (List (Int × Int)))), (6, .cells [.dat tI (0 : Int), .dat tI (0 : Int), .dat tI (0 : Int), .nilS]), (10, .cells [.dat tI a1, .dat tI a2, .dat tI v15.1, .slc 42]), (42, .seq tI (x20.2 ++ [Option.getD (mGet (deqT tI) (Option.getD (some l1 : Option (List (Int × Int))) []) x20.1) (0 : Int)]))]) (obs := [SmallLen (List.length x20.2 + List.length [Option.getD (mGet (deqT tI) (Option.getD (some l1 : Option (List (Int × Int))) []) x20.1) (0 : Int)]), True]) (by kernel_rfl) (by kernel_rfl) (by kernel_rfl) (allP2 h24 (allP1 trivial)) ?_
        refine blockQ_norm ?_
        refine seqQ_norm ?_
        obtain rfl := Option.some.inj h
        refine W_run 3 [] [0, 6, 8, 10, 11] [6, 10, 1000, 42] (fr' := [(0, .one (.slc 1000)), (6, .one (.ptr 6 0)), (8, aI v15.2), (10, .one (.ptr 10 0)), (11, aI (w64 (x20.1 + (1 : Int))))]) (L' := [(6, .cells [.dat tI (0 : Int), .dat tI (0 : Int), .dat tI (0 : Int), .nilS]), (10, .cells [.dat tI a1, .dat tI a2, .dat tI v15.1, .slc 42]), (1000, .map tI tI (some l1 : Option (List (Int × Int)))), (42, .seq tI (x20.2 ++ [Option.getD (mGet (deqT tI) (Option.getD (some l1 : Option (List (Int × Int))) []) x20.1) (0 : Int)]))]) (obs := []) (by kernel_rfl) (by kernel_rfl) (by kernel_rfl) allP0 ?_
        exact round_next' (by kernel_rfl) (by kernel_rfl)
      · replace h := ofF h23 h
        obtain rfl := Option.some.inj h
        refine W_exit (id := 2) [6, 10] [6, 10, 1000, 42] (fr' := [(6, .one (.ptr 6 0)), (10, .one (.ptr 10 0))]) (L' := [(6, .cells [.dat tI (0 : Int), .dat tI (0 : Int), .dat tI (0 : Int), .nilS]), (10, .cells [.dat tI a1, .dat tI a2, .dat tI v15.1, .slc 42]), (1000, .map tI tI (some l1 : Option (List (Int × Int)))), (42, .seq tI x20.2)]) (by kernel_rfl) (by kernel_rfl) ?_
        refine seqQ_exit ?_
        refine round_exit ?_
        exact exQ_mk (by kernel_rfl) (by kernel_rfl)
    · intro e fr L hJ
      obtain ⟨rfl, rfl, rfl⟩ := hJ
      refine LT_keep [6, 10] [6, 10, 1000, 42] (fr' := [(6, .one (.ptr 6 0)), (10, .one (.ptr 10 0))]) (L' := [(6, .cells [.dat tI (0 : Int), .dat tI (0 : Int), .dat tI (0 : Int), .nilS]), (10, .cells [.dat tI a1, .dat tI a2, .dat tI v15.1, .slc 42]), (1000, .map tI tI (some l1 : Option (List (Int × Int)))), (42, .seq tI v25)]) (by kernel_rfl) ?_
      refine blockQ_hit ?_
      refine seqQ_norm ?_
      refine W_seq (by kernel_rfl) ?_
      refine W_run 2 [] [6] [6, 1000, 42] (fr' := [(6, .one (.ptr 6 0))]) (L' := [(6, .cells [.dat tI a1, .dat tI a2, .dat tI v15.1, .slc 42]), (1000, .map tI tI (some l1 : Option (List (Int × Int)))), (42, .seq tI v25)]) (obs := [True]) (by kernel_rfl) (by kernel_rfl) (by kernel_rfl) (allP1 trivial) ?_
      refine seqQ_norm ?_
      obtain rfl := Option.some.inj h
      refine W_frz 42 (by kernel_rfl) ?_
      refine W_pack 6 (.pair tI (.pair tI (.pair tI (.slice tI)))) (by kernel_rfl) ?_
      refine W_ret [6] [6, 1000] (fr' := [(6, .one (.ptr 6 0))]) (L' := [(6, .one (.pair tI (.pair tI (.pair tI (.slice tI)))) (a1, a2, v15.1, v25)), (1000, .map tI tI (some l1 : Option (List (Int × Int))))]) (by kernel_rfl) (by kernel_rfl) ?_
      exact retQ_mk (by kernel_rfl) (by kernel_rfl) (by kernel_rfl)

@[reducible] noncomputable def tape_run_s3 (a0 : (Int × (Int × (List (List (Int × (Int × Int))))))) (a4 : Int) (x10 : (Int × Int × Int × (Option (List (Int × Int))))) (v : Bool) : Fr × LL := ([(1, .one (.slc 1000)), (2, aI x10.1), (3, aI x10.2.1), (4, aI a4), (5, .one (.ptr 5 0)), (10, .one (.ptr 10 0)), (12, aI x10.2.2.1), (21, aB v)], [(1000, .map tI tI x10.2.2.2), (5, .one (.pair tI (.pair tI (.slice (.slice (.pair tI (.pair tI tI)))))) a0), (10, .one (.pair tI (.pair tI (.pair tI (.slice tI)))) ((0 : Int), (0 : Int), (0 : Int), []))])
noncomputable def tape_run_b4 (a0 : (Int × (Int × (List (List (Int × (Int × Int))))))) (a4 : Int) (x10 : (Int × Int × Int × (Option (List (Int × Int))))) : Option (Flow (Int × Int × Int × (Option (List (Int × Int)))) (Int × Int × Int × (Option (List (Int × Int))))) :=
(bif decide (x10.2.2.1 < a4) then
(some (decide (x10.1 < a0.1)))
else
(some false)).bind fun v22 =>
bif v22 then
((tape_Step a0 x10.1 x10.2.1 x10.2.2.2).bind fun r25 =>
some (.next (r25.1, r25.2.1, w64 (x10.2.2.1 + (1 : Int)), r25.2.2)))
else
(some (.done (x10.1, x10.2.1, x10.2.2.1, x10.2.2.2)))
@[reducible] noncomputable def tape_run_s5 (a0 : (Int × (Int × (List (List (Int × (Int × Int))))))) (a4 : Int) (v : (Int × Int × Int × (Option (List (Int × Int))))) : Fr × LL := ([(1, .one (.slc 1000)), (2, aI v.1), (3, aI v.2.1), (4, aI a4), (5, .one (.ptr 5 0)), (10, .one (.ptr 10 0)), (12, aI v.2.2.1)], [(1000, .map tI tI v.2.2.2), (5, .one (.pair tI (.pair tI (.slice (.slice (.pair tI (.pair tI tI)))))) a0), (10, .one (.pair tI (.pair tI (.pair tI (.slice tI)))) ((0 : Int), (0 : Int), (0 : Int), []))])
@[reducible] noncomputable def tape_run_s6 (v : (Int × Int × Int × (Option (List (Int × Int))))) : Fr × LL := ([(1, .one (.slc 1000)), (2, aI v.1), (3, aI v.2.1), (10, .one (.ptr 10 0)), (12, aI v.2.2.1)], [(1000, .map tI tI v.2.2.2), (10, .one (.pair tI (.pair tI (.pair tI (.slice tI)))) ((0 : Int), (0 : Int), (0 : Int), []))])
noncomputable def tape_run (fuel : Nat) (a0 : (Int × (Int × (List (List (Int × (Int × Int))))))) (a2 : Int) (a3 : Int) (a4 : Int) (c0 : (Option (List (Int × Int)))) : Option ((Int × (Int × (Int × (List Int)))) × Int × (Option (List (Int × Int)))) :=
(iter (tape_run_b4 a0 a4) fuel (a2, a3, (0 : Int), c0)).bind fun v27 =>
(tape_now fuel v27.1 v27.2.1 v27.2.2.2).bind fun r31 =>
some (r31.1, v27.2.2.1, r31.2)
theorem tape_run_ok {fuel : Nat} {a0 : (Int × (Int × (List (List (Int × (Int × Int))))))} {a2 : Int} {a3 : Int} {a4 : Int} {c0 : (Option (List (Int × Int)))} {r : ((Int × (Int × (Int × (List Int)))) × Int × (Option (List (Int × Int))))} (h : tape_run fuel a0 a2 a3 a4 c0 = some r) : FnC Try.prog 96 [aD (.pair tI (.pair tI (.slice (.slice (.pair tI (.pair tI tI)))))) a0, .one (.slc 1000), aI a2, aI a3, aI a4] [(1000, .map tI tI c0)] (.tup [.dat (.pair tI (.pair tI (.pair tI (.slice tI)))) r.1, .dat tI r.2.1]) [(1000, .map tI tI r.2.2)] := by
  refine fnC_of_W (B := bodyOf Try.f96) (n := 37) Try.func96 (by kernel_rfl) (by kernel_rfl) (by kernel_rfl) (by kernel_rfl) (by kernel_rfl) ?_
  intro K
  refine W_seq (by kernel_rfl) ?_
  refine W_run 3 [(3, .typed)] [1, 2, 3, 4, 5, 10] [1000, 5, 10] (fr' := [(1, .one (.slc 1000)), (2, aI a2), (3, aI a3), (4, aI a4), (5, .one (.ptr 5 0)), (10, .one (.ptr 10 0))]) (L' := [(1000, .map tI tI c0), (5, .one (.pair tI (.pair tI (.slice (.slice (.pair tI (.pair tI tI)))))) a0), (10, .one (.pair tI (.pair tI (.pair tI (.slice tI)))) ((0 : Int), (0 : Int), (0 : Int), []))]) (obs := []) (by kernel_rfl) (by kernel_rfl) (by kernel_rfl) allP0 ?_
  refine seqQ_norm ?_
  refine W_seq (by kernel_rfl) ?_
  refine W_run 1 [] [1, 2, 3, 4, 5, 10, 12] [1000, 5, 10] (fr' := [(1, .one (.slc 1000)), (2, aI a2), (3, aI a3), (4, aI a4), (5, .one (.ptr 5 0)), (10, .one (.ptr 10 0)), (12, aI (0 : Int))]) (L' := [(1000, .map tI tI c0), (5, .one (.pair tI (.pair tI (.slice (.slice (.pair tI (.pair tI tI)))))) a0), (10, .one (.pair tI (.pair tI (.pair tI (.slice tI)))) ((0 : Int), (0 : Int), (0 : Int), []))]) (obs := []) (by kernel_rfl) (by kernel_rfl) (by kernel_rfl) allP0 ?_
  refine seqQ_norm ?_
  refine W_seq (by kernel_rfl) ?_
  refine W_block (id := 0) (by kernel_rfl) ?_
  obtain ⟨v27, h28, h⟩ := bind_of h
  refine W_weaken [1, 2, 3, 4, 5, 10, 12] [1000, 5, 10] (fr' := ((tape_run_s5 a0 a4) (a2, a3, (0 : Int), c0)).1) (L' := ((tape_run_s5 a0 a4) (a2, a3, (0 : Int), c0)).2) (by kernel_rfl) ?_
  refine W_cutK (W_loop (S := (tape_run_s5 a0 a4)) (J := (exQ (.exit 0) tape_run_s6)) (by kernel_rfl) ?_ fuel _ v27 h28) ?_
  · rintro x10 s h
    refine W_seq (by kernel_rfl) ?_
    refine W_seq (by kernel_rfl) ?_
    obtain ⟨v22, h23, h⟩ := bind_of h
    refine W_cutK (Q' := (exQ .normal (tape_run_s3 a0 a4 x10)) v22) ?_ ?_
    · replace h := h23
      refine W_region (by kernel_rfl) ?_
      refine WO_run (j := 4) (k := 4) (orcs := []) (kF := [1, 2, 3, 4, 5, 10, 12, 16]) (kL := [5, 10, 1000]) (fr' := [(1, .one (.slc 1000)), (2, aI x10.1), (3, aI x10.2.1), (4, aI a4), (5, .one (.ptr 5 0)), (10, .one (.ptr 10 0)), (12, aI x10.2.2.1), (16, aB (decide (x10.2.2.1 < a4)))]) (L' := [(5, .one (.pair tI (.pair tI (.slice (.slice (.pair tI (.pair tI tI)))))) a0), (10, .one (.pair tI (.pair tI (.pair tI (.slice tI)))) ((0 : Int), (0 : Int), (0 : Int), [])), (1000, .map tI tI x10.2.2.2)]) (obs := []) rfl (by kernel_rfl) allP0 ?_
      rcases Bool.eq_false_or_eq_true (decide (x10.2.2.1 < a4)) with h21 | h21
      · replace h := ofT h21 h
        refine WO_run (j := 9) (k := 5) (orcs := [(8, .known true), (10, .known true), (12, .known true), (14, .known true), (17, .val (.dat .bool true))]) (kF := [1, 2, 3, 4, 5, 10, 12, 21]) (kL := [5, 10, 1000]) (fr' := [(1, .one (.slc 1000)), (2, aI x10.1), (3, aI x10.2.1), (4, aI a4), (5, .one (.ptr 5 0)), (10, .one (.ptr 10 0)), (12, aI x10.2.2.1), (21, aB (decide (x10.1 < a0.1)))]) (L' := [(5, .one (.pair tI (.pair tI (.slice (.slice (.pair tI (.pair tI tI)))))) a0), (10, .one (.pair tI (.pair tI (.pair tI (.slice tI)))) ((0 : Int), (0 : Int), (0 : Int), [])), (1000, .map tI tI x10.2.2.2)]) (obs := [((decide (x10.2.2.1 < a4)) = true), ((decide (x10.2.2.1 < a4)) = true), ((decide (x10.2.2.1 < a4)) = true), ((decide (x10.2.2.1 < a4)) = true), ((decide (x10.2.2.1 < a4)) = true)]) rfl (by kernel_rfl) (allP2 h21 (allP2 h21 (allP2 h21 (allP2 h21 (allP1 h21))))) ?_
        obtain rfl := Option.some.inj h
        refine WO_fin [1, 2, 3, 4, 5, 10, 12, 21] [1000, 5, 10] (fr' := [(1, .one (.slc 1000)), (2, aI x10.1), (3, aI x10.2.1), (4, aI a4), (5, .one (.ptr 5 0)), (10, .one (.ptr 10 0)), (12, aI x10.2.2.1), (21, aB (decide (x10.1 < a0.1)))]) (L' := [(1000, .map tI tI x10.2.2.2), (5, .one (.pair tI (.pair tI (.slice (.slice (.pair tI (.pair tI tI)))))) a0), (10, .one (.pair tI (.pair tI (.pair tI (.slice tI)))) ((0 : Int), (0 : Int), (0 : Int), []))]) (by kernel_rfl) (by kernel_rfl) ?_
        exact exQ_mk (by kernel_rfl) (by kernel_rfl)
      · replace h := ofF h21 h
        refine WO_run (j := 9) (k := 5) (orcs := [(8, .known false), (10, .known false), (12, .known false), (14, .known false), (17, .val (.dat .bool false))]) (kF := [1, 2, 3, 4, 5, 10, 12, 21]) (kL := [5, 10, 1000]) (fr' := [(1, .one (.slc 1000)), (2, aI x10.1), (3, aI x10.2.1), (4, aI a4), (5, .one (.ptr 5 0)), (10, .one (.ptr 10 0)), (12, aI x10.2.2.1), (21, aB false)]) (L' := [(5, .one (.pair tI (.pair tI (.slice (.slice (.pair tI (.pair tI tI)))))) a0), (10, .one (.pair tI (.pair tI (.pair tI (.slice tI)))) ((0 : Int), (0 : Int), (0 : Int), [])), (1000, .map tI tI x10.2.2.2)]) (obs := [((decide (x10.2.2.1 < a4)) = false), ((decide (x10.2.2.1 < a4)) = false), ((decide (x10.2.2.1 < a4)) = false), ((decide (x10.2.2.1 < a4)) = false), ((decide (x10.2.2.1 < a4)) = false)]) rfl (by kernel_rfl) (allP2 h21 (allP2 h21 (allP2 h21 (allP2 h21 (allP1 h21))))) ?_
        obtain rfl := Option.some.inj h
        refine WO_fin [1, 2, 3, 4, 5, 10, 12, 21] [1000, 5, 10] (fr' := [(1, .one (.slc 1000)), (2, aI x10.1), (3, aI x10.2.1), (4, aI a4), (5, .one (.ptr 5 0)), (10, .one (.ptr 10 0)), (12, aI x10.2.2.1), (21, aB false)]) (L' := [(1000, .map tI tI x10.2.2.2), (5, .one (.pair tI (.pair tI (.slice (.slice (.pair tI (.pair tI tI)))))) a0), (10, .one (.pair tI (.pair tI (.pair tI (.slice tI)))) ((0 : Int), (0 : Int), (0 : Int), []))]) (by kernel_rfl) (by kernel_rfl) ?_
        exact exQ_mk (by kernel_rfl) (by kernel_rfl)
    · intro e fr L hJ
      obtain ⟨rfl, rfl, rfl⟩ := hJ
      refine LT_keep [1, 2, 3, 4, 5, 10, 12, 21] [1000, 5, 10] (fr' := [(1, .one (.slc 1000)), (2, aI x10.1), (3, aI x10.2.1), (4, aI a4), (5, .one (.ptr 5 0)), (10, .one (.ptr 10 0)), (12, aI x10.2.2.1), (21, aB v22)]) (L' := [(1000, .map tI tI x10.2.2.2), (5, .one (.pair tI (.pair tI (.slice (.slice (.pair tI (.pair tI tI)))))) a0), (10, .one (.pair tI (.pair tI (.pair tI (.slice tI)))) ((0 : Int), (0 : Int), (0 : Int), []))]) (by kernel_rfl) ?_
      refine seqQ_norm ?_
      refine W_cond (o := .tmp 21) (b := v22) (by kernel_rfl) (by kernel_rfl) (fun h24 => ?_) (fun h24 => ?_)
      · replace h := ofT h24 h
        refine W_skip [1, 2, 3, 4, 5, 10, 12] [1000, 5, 10] (fr' := [(1, .one (.slc 1000)), (2, aI x10.1), (3, aI x10.2.1), (4, aI a4), (5, .one (.ptr 5 0)), (10, .one (.ptr 10 0)), (12, aI x10.2.2.1)]) (L' := [(1000, .map tI tI x10.2.2.2), (5, .one (.pair tI (.pair tI (.slice (.slice (.pair tI (.pair tI tI)))))) a0), (10, .one (.pair tI (.pair tI (.pair tI (.slice tI)))) ((0 : Int), (0 : Int), (0 : Int), []))]) (by kernel_rfl) (by kernel_rfl) ?_
        refine seqQ_norm ?_
        refine W_seq (by kernel_rfl) ?_
        refine W_block (id := 1) (by kernel_rfl) ?_
        refine W_region (by kernel_rfl) ?_
        refine WO_run (j := 4) (k := 4) (orcs := []) (kF := [1, 2, 3, 4, 5, 10, 12, 25, 26, 27, 28]) (kL := [5, 10, 1000]) (fr' := [(1, .one (.slc 1000)), (2, aI x10.1), (3, aI x10.2.1), (4, aI a4), (5, .one (.ptr 5 0)), (10, .one (.ptr 10 0)), (12, aI x10.2.2.1), (25, aD (.pair tI (.pair tI (.slice (.slice (.pair tI (.pair tI tI)))))) a0), (26, .one (.slc 1000)), (27, aI x10.1), (28, aI x10.2.1)]) (L' := [(5, .one (.pair tI (.pair tI (.slice (.slice (.pair tI (.pair tI tI)))))) a0), (10, .one (.pair tI (.pair tI (.pair tI (.slice tI)))) ((0 : Int), (0 : Int), (0 : Int), [])), (1000, .map tI tI x10.2.2.2)]) (obs := []) rfl (by kernel_rfl) allP0 ?_
        obtain ⟨r25, h26, h⟩ := bind_of h
        refine WO_lend [(1000, 1000)] (us := [none, none, none, none]) (d := 29) (p := True) (j := 5) rfl ⟨by kernel_rfl, by kernel_rfl, by kernel_rfl⟩ trivial (tape_Step_ok h26) (by kernel_rfl) (by kernel_rfl) ?_
        refine WO_run (j := 10) (k := 5) (orcs := []) (kF := [1, 2, 3, 4, 5, 10, 12]) (kL := [5, 10, 1000]) (fr' := [(1, .one (.slc 1000)), (2, aI r25.1), (3, aI r25.2.1), (4, aI a4), (5, .one (.ptr 5 0)), (10, .one (.ptr 10 0)), (12, aI x10.2.2.1)]) (L' := [(5, .one (.pair tI (.pair tI (.slice (.slice (.pair tI (.pair tI tI)))))) a0), (10, .one (.pair tI (.pair tI (.pair tI (.slice tI)))) ((0 : Int), (0 : Int), (0 : Int), [])), (1000, .map tI tI r25.2.2)]) (obs := []) rfl (by kernel_rfl) allP0 ?_
        refine WO_fin [1, 2, 3, 4, 5, 10, 12] [1000, 5, 10] (fr' := [(1, .one (.slc 1000)), (2, aI r25.1), (3, aI r25.2.1), (4, aI a4), (5, .one (.ptr 5 0)), (10, .one (.ptr 10 0)), (12, aI x10.2.2.1)]) (L' := [(1000, .map tI tI r25.2.2), (5, .one (.pair tI (.pair tI (.slice (.slice (.pair tI (.pair tI tI)))))) a0), (10, .one (.pair tI (.pair tI (.pair tI (.slice tI)))) ((0 : Int), (0 : Int), (0 : Int), []))]) (by kernel_rfl) (by kernel_rfl) ?_
        refine blockQ_norm ?_
        refine seqQ_norm ?_
        obtain rfl := Option.some.inj h
        refine W_run 3 [] [1, 2, 3, 4, 5, 10, 12] [1000, 5, 10] (fr' := [(1, .one (.slc 1000)), (2, aI r25.1), (3, aI r25.2.1), (4, aI a4), (5, .one (.ptr 5 0)), (10, .one (.ptr 10 0)), (12, aI (w64 (x10.2.2.1 + (1 : Int))))]) (L' := [(1000, .map tI tI r25.2.2), (5, .one (.pair tI (.pair tI (.slice (.slice (.pair tI (.pair tI tI)))))) a0), (10, .one (.pair tI (.pair tI (.pair tI (.slice tI)))) ((0 : Int), (0 : Int), (0 : Int), []))]) (obs := []) (by kernel_rfl) (by kernel_rfl) (by kernel_rfl) allP0 ?_
        exact round_next' (by kernel_rfl) (by kernel_rfl)
      · replace h := ofF h24 h
        obtain rfl := Option.some.inj h
        refine W_exit (id := 0) [1, 2, 3, 10, 12] [1000, 10] (fr' := [(1, .one (.slc 1000)), (2, aI x10.1), (3, aI x10.2.1), (10, .one (.ptr 10 0)), (12, aI x10.2.2.1)]) (L' := [(1000, .map tI tI x10.2.2.2), (10, .one (.pair tI (.pair tI (.pair tI (.slice tI)))) ((0 : Int), (0 : Int), (0 : Int), []))]) (by kernel_rfl) (by kernel_rfl) ?_
        refine seqQ_exit ?_
        refine round_exit ?_
        exact exQ_mk (by kernel_rfl) (by kernel_rfl)
  · intro e fr L hJ
    obtain ⟨rfl, rfl, rfl⟩ := hJ
    refine LT_keep [1, 2, 3, 10, 12] [1000, 10] (fr' := [(1, .one (.slc 1000)), (2, aI v27.1), (3, aI v27.2.1), (10, .one (.ptr 10 0)), (12, aI v27.2.2.1)]) (L' := [(1000, .map tI tI v27.2.2.2), (10, .one (.pair tI (.pair tI (.pair tI (.slice tI)))) ((0 : Int), (0 : Int), (0 : Int), []))]) (by kernel_rfl) ?_
    refine blockQ_hit ?_
    refine seqQ_norm ?_
    refine W_seq (by kernel_rfl) ?_
    refine W_region (by kernel_rfl) ?_
    refine WO_run (j := 3) (k := 3) (orcs := []) (kF := [10, 12, 32, 33, 34]) (kL := [10, 1000]) (fr' := [(10, .one (.ptr 10 0)), (12, aI v27.2.2.1), (32, .one (.slc 1000)), (33, aI v27.1), (34, aI v27.2.1)]) (L' := [(10, .one (.pair tI (.pair tI (.pair tI (.slice tI)))) ((0 : Int), (0 : Int), (0 : Int), [])), (1000, .map tI tI v27.2.2.2)]) (obs := []) rfl (by kernel_rfl) allP0 ?_
    obtain ⟨r31, h32, h⟩ := bind_of h
    refine WO_lend [(1000, 1000)] (us := [none, none, none]) (d := 35) (p := True) (j := 4) rfl ⟨by kernel_rfl, by kernel_rfl, by kernel_rfl⟩ trivial (tape_now_ok h32) (by kernel_rfl) (by kernel_rfl) ?_
    refine WO_run (j := 7) (k := 3) (orcs := []) (kF := [10, 11]) (kL := [10, 1000]) (fr' := [(10, .one (.ptr 10 0)), (11, aI v27.2.2.1)]) (L' := [(10, .one (.pair tI (.pair tI (.pair tI (.slice tI)))) r31.1), (1000, .map tI tI r31.2)]) (obs := [True]) rfl (by kernel_rfl) (allP1 trivial) ?_
    refine WO_fin [10, 11] [10, 1000] (fr' := [(10, .one (.ptr 10 0)), (11, aI v27.2.2.1)]) (L' := [(10, .one (.pair tI (.pair tI (.pair tI (.slice tI)))) r31.1), (1000, .map tI tI r31.2)]) (by kernel_rfl) (by kernel_rfl) ?_
    refine seqQ_norm ?_
    obtain rfl := Option.some.inj h
    refine W_ret [10, 11] [10, 1000] (fr' := [(10, .one (.ptr 10 0)), (11, aI v27.2.2.1)]) (L' := [(10, .one (.pair tI (.pair tI (.pair tI (.slice tI)))) r31.1), (1000, .map tI tI r31.2)]) (by kernel_rfl) (by kernel_rfl) ?_
    exact retQ_mk (by kernel_rfl) (by kernel_rfl) (by kernel_rfl)

noncomputable def tape_Run (fuel : Nat) (a0 : (Int × (Int × (List (List (Int × (Int × Int))))))) (a1 : (List Int)) (a2 : Int) : Option ((Int × (Int × (Int × (List Int)))) × Int × Int) :=
(tape_Check a0).bind fun r1 =>
bif r1 != (0 : Int) then
(some (((0 : Int), (0 : Int), (0 : Int), []), (0 : Int), r1))
else
(bif decide ((List.length a1 : Int) > (8 : Int)) then
(some (((0 : Int), (0 : Int), (0 : Int), []), (0 : Int), (1 : Int)))
else
((tape_lay a0 a1 (0 : Int)).bind fun r5 =>
bif !r5.2 then
(some (((0 : Int), (0 : Int), (0 : Int), []), (0 : Int), (2 : Int)))
else
(bif (decide (a2 < (0 : Int))) || (decide (a2 > (60 : Int))) then
(some (((0 : Int), (0 : Int), (0 : Int), []), (0 : Int), (7 : Int)))
else
((tape_run fuel a0 (0 : Int) (0 : Int) a2 r5.1).bind fun r9 =>
some (r9.1, r9.2.1, (0 : Int))))))
theorem tape_Run_ok {fuel : Nat} {a0 : (Int × (Int × (List (List (Int × (Int × Int))))))} {a1 : (List Int)} {a2 : Int} {r : ((Int × (Int × (Int × (List Int)))) × Int × Int)} (h : tape_Run fuel a0 a1 a2 = some r) : FnC Try.prog 72 [aD (.pair tI (.pair tI (.slice (.slice (.pair tI (.pair tI tI)))))) a0, aD (.slice tI) a1, aI a2] [] (.tup [.dat (.pair tI (.pair tI (.pair tI (.slice tI)))) r.1, .dat tI r.2.1, .dat tI r.2.2]) [] := by
  refine fnC_of_W (B := bodyOf Try.f72) (n := 49) Try.func72 (by kernel_rfl) (by kernel_rfl) (by kernel_rfl) (by kernel_rfl) (by kernel_rfl) ?_
  intro K
  refine W_seq (by kernel_rfl) ?_
  refine W_run 4 [(3, .typed)] [1, 2, 3, 6] [3, 6] (fr' := [(1, aD (.slice tI) a1), (2, aI a2), (3, .one (.ptr 3 0)), (6, .one (.ptr 6 0))]) (L' := [(3, .one (.pair tI (.pair tI (.slice (.slice (.pair tI (.pair tI tI)))))) a0), (6, .one (.pair tI (.pair tI (.pair tI (.slice tI)))) ((0 : Int), (0 : Int), (0 : Int), []))]) (obs := []) (by kernel_rfl) (by kernel_rfl) (by kernel_rfl) allP0 ?_
  refine seqQ_norm ?_
  refine W_seq (by kernel_rfl) ?_
  refine W_seq (by kernel_rfl) ?_
  refine W_region (by kernel_rfl) ?_
  refine WO_run (j := 1) (k := 1) (orcs := []) (kF := [1, 2, 3, 6, 14]) (kL := [3, 6]) (fr' := [(1, aD (.slice tI) a1), (2, aI a2), (3, .one (.ptr 3 0)), (6, .one (.ptr 6 0)), (14, aD (.pair tI (.pair tI (.slice (.slice (.pair tI (.pair tI tI)))))) a0)]) (L' := [(3, .one (.pair tI (.pair tI (.slice (.slice (.pair tI (.pair tI tI)))))) a0), (6, .one (.pair tI (.pair tI (.pair tI (.slice tI)))) ((0 : Int), (0 : Int), (0 : Int), []))]) (obs := []) rfl (by kernel_rfl) allP0 ?_
  obtain ⟨r1, h2, h⟩ := bind_of h
  refine WO_call0 (us := [none]) (d := 15) (p := True) (j := 2) rfl ⟨by kernel_rfl, by kernel_rfl, by kernel_rfl⟩ trivial (tape_Check_ok h2) (by kernel_rfl) ?_
  refine WO_run (j := 3) (k := 1) (orcs := []) (kF := [1, 2, 3, 6, 9]) (kL := [3, 6]) (fr' := [(1, aD (.slice tI) a1), (2, aI a2), (3, .one (.ptr 3 0)), (6, .one (.ptr 6 0)), (9, aI r1)]) (L' := [(3, .one (.pair tI (.pair tI (.slice (.slice (.pair tI (.pair tI tI)))))) a0), (6, .one (.pair tI (.pair tI (.pair tI (.slice tI)))) ((0 : Int), (0 : Int), (0 : Int), []))]) (obs := []) rfl (by kernel_rfl) allP0 ?_
  refine WO_fin [1, 2, 3, 6, 9] [3, 6] (fr' := [(1, aD (.slice tI) a1), (2, aI a2), (3, .one (.ptr 3 0)), (6, .one (.ptr 6 0)), (9, aI r1)]) (L' := [(3, .one (.pair tI (.pair tI (.slice (.slice (.pair tI (.pair tI tI)))))) a0), (6, .one (.pair tI (.pair tI (.pair tI (.slice tI)))) ((0 : Int), (0 : Int), (0 : Int), []))]) (by kernel_rfl) (by kernel_rfl) ?_
  refine seqQ_norm ?_
  refine W_seq (by kernel_rfl) ?_
  refine W_run 2 [] [1, 2, 3, 6, 9, 17] [3, 6] (fr' := [(1, aD (.slice tI) a1), (2, aI a2), (3, .one (.ptr 3 0)), (6, .one (.ptr 6 0)), (9, aI r1), (17, aB (r1 != (0 : Int)))]) (L' := [(3, .one (.pair tI (.pair tI (.slice (.slice (.pair tI (.pair tI tI)))))) a0), (6, .one (.pair tI (.pair tI (.pair tI (.slice tI)))) ((0 : Int), (0 : Int), (0 : Int), []))]) (obs := []) (by kernel_rfl) (by kernel_rfl) (by kernel_rfl) allP0 ?_
  refine seqQ_norm ?_
  refine W_cond (o := .tmp 17) (b := r1 != (0 : Int)) (by kernel_rfl) (by kernel_rfl) (fun h3 => ?_) (fun h3 => ?_)
  · replace h := ofT h3 h
    refine W_seq (by kernel_rfl) ?_
    refine W_run 5 [] [6, 7, 8] [6] (fr' := [(6, .one (.ptr 6 0)), (7, aI (0 : Int)), (8, aI r1)]) (L' := [(6, .one (.pair tI (.pair tI (.pair tI (.slice tI)))) ((0 : Int), (0 : Int), (0 : Int), []))]) (obs := [True]) (by kernel_rfl) (by kernel_rfl) (by kernel_rfl) (allP1 trivial) ?_
    refine seqQ_norm ?_
    obtain rfl := Option.some.inj h
    refine W_ret [6, 7, 8] [6] (fr' := [(6, .one (.ptr 6 0)), (7, aI (0 : Int)), (8, aI r1)]) (L' := [(6, .one (.pair tI (.pair tI (.pair tI (.slice tI)))) ((0 : Int), (0 : Int), (0 : Int), []))]) (by kernel_rfl) (by kernel_rfl) ?_
    refine seqQ_ret ?_
    exact retQ_mk (by kernel_rfl) (by kernel_rfl) (by kernel_rfl)
  · replace h := ofF h3 h
    refine W_skip [1, 2, 3, 6] [3, 6] (fr' := [(1, aD (.slice tI) a1), (2, aI a2), (3, .one (.ptr 3 0)), (6, .one (.ptr 6 0))]) (L' := [(3, .one (.pair tI (.pair tI (.slice (.slice (.pair tI (.pair tI tI)))))) a0), (6, .one (.pair tI (.pair tI (.pair tI (.slice tI)))) ((0 : Int), (0 : Int), (0 : Int), []))]) (by kernel_rfl) (by kernel_rfl) ?_
    refine seqQ_norm ?_
    refine W_seq (by kernel_rfl) ?_
    refine W_seq (by kernel_rfl) ?_
    refine W_run 3 [] [1, 2, 3, 6, 22] [3, 6] (fr' := [(1, aD (.slice tI) a1), (2, aI a2), (3, .one (.ptr 3 0)), (6, .one (.ptr 6 0)), (22, aB (decide ((List.length a1 : Int) > (8 : Int))))]) (L' := [(3, .one (.pair tI (.pair tI (.slice (.slice (.pair tI (.pair tI tI)))))) a0), (6, .one (.pair tI (.pair tI (.pair tI (.slice tI)))) ((0 : Int), (0 : Int), (0 : Int), []))]) (obs := []) (by kernel_rfl) (by kernel_rfl) (by kernel_rfl) allP0 ?_
    refine seqQ_norm ?_
    refine W_cond (o := .tmp 22) (b := decide ((List.length a1 : Int) > (8 : Int))) (by kernel_rfl) (by kernel_rfl) (fun h4 => ?_) (fun h4 => ?_)
    · replace h := ofT h4 h
      refine W_seq (by kernel_rfl) ?_
      refine W_run 4 [] [6, 7, 8] [6] (fr' := [(6, .one (.ptr 6 0)), (7, aI (0 : Int)), (8, aI (1 : Int))]) (L' := [(6, .one (.pair tI (.pair tI (.pair tI (.slice tI)))) ((0 : Int), (0 : Int), (0 : Int), []))]) (obs := [True]) (by kernel_rfl) (by kernel_rfl) (by kernel_rfl) (allP1 trivial) ?_
      refine seqQ_norm ?_
      obtain rfl := Option.some.inj h
      refine W_ret [6, 7, 8] [6] (fr' := [(6, .one (.ptr 6 0)), (7, aI (0 : Int)), (8, aI (1 : Int))]) (L' := [(6, .one (.pair tI (.pair tI (.pair tI (.slice tI)))) ((0 : Int), (0 : Int), (0 : Int), []))]) (by kernel_rfl) (by kernel_rfl) ?_
      refine seqQ_ret ?_
      exact retQ_mk (by kernel_rfl) (by kernel_rfl) (by kernel_rfl)
    · replace h := ofF h4 h
      refine W_skip [1, 2, 3, 6] [3, 6] (fr' := [(1, aD (.slice tI) a1), (2, aI a2), (3, .one (.ptr 3 0)), (6, .one (.ptr 6 0))]) (L' := [(3, .one (.pair tI (.pair tI (.slice (.slice (.pair tI (.pair tI tI)))))) a0), (6, .one (.pair tI (.pair tI (.pair tI (.slice tI)))) ((0 : Int), (0 : Int), (0 : Int), []))]) (by kernel_rfl) (by kernel_rfl) ?_
      refine seqQ_norm ?_
      refine W_seq (by kernel_rfl) ?_
      refine W_region (by kernel_rfl) ?_
      refine WO_run (j := 2) (k := 2) (orcs := []) (kF := [2, 3, 6, 25, 26]) (kL := [3, 6]) (fr' := [(2, aI a2), (3, .one (.ptr 3 0)), (6, .one (.ptr 6 0)), (25, aD (.pair tI (.pair tI (.slice (.slice (.pair tI (.pair tI tI)))))) a0), (26, aD (.slice tI) a1)]) (L' := [(3, .one (.pair tI (.pair tI (.slice (.slice (.pair tI (.pair tI tI)))))) a0), (6, .one (.pair tI (.pair tI (.pair tI (.slice tI)))) ((0 : Int), (0 : Int), (0 : Int), []))]) (obs := []) rfl (by kernel_rfl) allP0 ?_
      obtain ⟨r5, h6, h⟩ := bind_of h
      refine WO_call1 (us := [none, none, none]) (d := 27) (t := 27) (p := True) (j := 3) rfl ⟨by kernel_rfl, by kernel_rfl, by kernel_rfl⟩ trivial (tape_lay_ok h6) (by kernel_rfl) ?_
      refine WO_run (j := 8) (k := 5) (orcs := []) (kF := [2, 3, 6, 10, 11]) (kL := [3, 6, 27]) (fr' := [(2, aI a2), (3, .one (.ptr 3 0)), (6, .one (.ptr 6 0)), (10, .one (.slc 27)), (11, aB r5.2)]) (L' := [(3, .one (.pair tI (.pair tI (.slice (.slice (.pair tI (.pair tI tI)))))) a0), (6, .one (.pair tI (.pair tI (.pair tI (.slice tI)))) ((0 : Int), (0 : Int), (0 : Int), [])), (27, .map tI tI r5.1)]) (obs := []) rfl (by kernel_rfl) allP0 ?_
      refine WO_fin [2, 3, 6, 10, 11] [3, 6, 27] (fr' := [(2, aI a2), (3, .one (.ptr 3 0)), (6, .one (.ptr 6 0)), (10, .one (.slc 27)), (11, aB r5.2)]) (L' := [(3, .one (.pair tI (.pair tI (.slice (.slice (.pair tI (.pair tI tI)))))) a0), (6, .one (.pair tI (.pair tI (.pair tI (.slice tI)))) ((0 : Int), (0 : Int), (0 : Int), [])), (27, .map tI tI r5.1)]) (by kernel_rfl) (by kernel_rfl) ?_
      refine seqQ_norm ?_
      refine W_seq (by kernel_rfl) ?_
      refine W_seq (by kernel_rfl) ?_
      refine W_run 2 [] [2, 3, 6, 10, 31] [3, 6, 27] (fr' := [(2, aI a2), (3, .one (.ptr 3 0)), (6, .one (.ptr 6 0)), (10, .one (.slc 27)), (31, aB (!r5.2))]) (L' := [(3, .one (.pair tI (.pair tI (.slice (.slice (.pair tI (.pair tI tI)))))) a0), (6, .one (.pair tI (.pair tI (.pair tI (.slice tI)))) ((0 : Int), (0 : Int), (0 : Int), [])), (27, .map tI tI r5.1)]) (obs := []) (by kernel_rfl) (by kernel_rfl) (by kernel_rfl) allP0 ?_
      refine seqQ_norm ?_
      refine W_cond (o := .tmp 31) (b := !r5.2) (by kernel_rfl) (by kernel_rfl) (fun h7 => ?_) (fun h7 => ?_)
      · replace h := ofT h7 h
        refine W_seq (by kernel_rfl) ?_
        refine W_run 4 [] [6, 7, 8] [6] (fr' := [(6, .one (.ptr 6 0)), (7, aI (0 : Int)), (8, aI (2 : Int))]) (L' := [(6, .one (.pair tI (.pair tI (.pair tI (.slice tI)))) ((0 : Int), (0 : Int), (0 : Int), []))]) (obs := [True]) (by kernel_rfl) (by kernel_rfl) (by kernel_rfl) (allP1 trivial) ?_
        refine seqQ_norm ?_
        obtain rfl := Option.some.inj h
        refine W_ret [6, 7, 8] [6] (fr' := [(6, .one (.ptr 6 0)), (7, aI (0 : Int)), (8, aI (2 : Int))]) (L' := [(6, .one (.pair tI (.pair tI (.pair tI (.slice tI)))) ((0 : Int), (0 : Int), (0 : Int), []))]) (by kernel_rfl) (by kernel_rfl) ?_
        refine seqQ_ret ?_
        exact retQ_mk (by kernel_rfl) (by kernel_rfl) (by kernel_rfl)
      · replace h := ofF h7 h
        refine W_skip [2, 3, 6, 10] [3, 6, 27] (fr' := [(2, aI a2), (3, .one (.ptr 3 0)), (6, .one (.ptr 6 0)), (10, .one (.slc 27))]) (L' := [(3, .one (.pair tI (.pair tI (.slice (.slice (.pair tI (.pair tI tI)))))) a0), (6, .one (.pair tI (.pair tI (.pair tI (.slice tI)))) ((0 : Int), (0 : Int), (0 : Int), [])), (27, .map tI tI r5.1)]) (by kernel_rfl) (by kernel_rfl) ?_
        refine seqQ_norm ?_
        refine W_seq (by kernel_rfl) ?_
        refine W_seq (by kernel_rfl) ?_
        refine W_run 6 [] [2, 3, 6, 10, 38] [3, 6, 27] (fr' := [(2, aI a2), (3, .one (.ptr 3 0)), (6, .one (.ptr 6 0)), (10, .one (.slc 27)), (38, aB ((decide (a2 < (0 : Int))) || (decide (a2 > (60 : Int)))))]) (L' := [(3, .one (.pair tI (.pair tI (.slice (.slice (.pair tI (.pair tI tI)))))) a0), (6, .one (.pair tI (.pair tI (.pair tI (.slice tI)))) ((0 : Int), (0 : Int), (0 : Int), [])), (27, .map tI tI r5.1)]) (obs := []) (by kernel_rfl) (by kernel_rfl) (by kernel_rfl) allP0 ?_
        refine seqQ_norm ?_
        refine W_cond (o := .tmp 38) (b := (decide (a2 < (0 : Int))) || (decide (a2 > (60 : Int)))) (by kernel_rfl) (by kernel_rfl) (fun h8 => ?_) (fun h8 => ?_)
        · replace h := ofT h8 h
          refine W_seq (by kernel_rfl) ?_
          refine W_run 4 [] [6, 7, 8] [6] (fr' := [(6, .one (.ptr 6 0)), (7, aI (0 : Int)), (8, aI (7 : Int))]) (L' := [(6, .one (.pair tI (.pair tI (.pair tI (.slice tI)))) ((0 : Int), (0 : Int), (0 : Int), []))]) (obs := [True]) (by kernel_rfl) (by kernel_rfl) (by kernel_rfl) (allP1 trivial) ?_
          refine seqQ_norm ?_
          obtain rfl := Option.some.inj h
          refine W_ret [6, 7, 8] [6] (fr' := [(6, .one (.ptr 6 0)), (7, aI (0 : Int)), (8, aI (7 : Int))]) (L' := [(6, .one (.pair tI (.pair tI (.pair tI (.slice tI)))) ((0 : Int), (0 : Int), (0 : Int), []))]) (by kernel_rfl) (by kernel_rfl) ?_
          refine seqQ_ret ?_
          exact retQ_mk (by kernel_rfl) (by kernel_rfl) (by kernel_rfl)
        · replace h := ofF h8 h
          refine W_skip [2, 3, 6, 10] [3, 6, 27] (fr' := [(2, aI a2), (3, .one (.ptr 3 0)), (6, .one (.ptr 6 0)), (10, .one (.slc 27))]) (L' := [(3, .one (.pair tI (.pair tI (.slice (.slice (.pair tI (.pair tI tI)))))) a0), (6, .one (.pair tI (.pair tI (.pair tI (.slice tI)))) ((0 : Int), (0 : Int), (0 : Int), [])), (27, .map tI tI r5.1)]) (by kernel_rfl) (by kernel_rfl) ?_
          refine seqQ_norm ?_
          refine W_seq (by kernel_rfl) ?_
          refine W_region (by kernel_rfl) ?_
          refine WO_run (j := 3) (k := 3) (orcs := []) (kF := [6, 41, 42, 43]) (kL := [3, 6, 27]) (fr' := [(6, .one (.ptr 6 0)), (41, aD (.pair tI (.pair tI (.slice (.slice (.pair tI (.pair tI tI)))))) a0), (42, .one (.slc 27)), (43, aI a2)]) (L' := [(3, .one (.pair tI (.pair tI (.slice (.slice (.pair tI (.pair tI tI)))))) a0), (6, .one (.pair tI (.pair tI (.pair tI (.slice tI)))) ((0 : Int), (0 : Int), (0 : Int), [])), (27, .map tI tI r5.1)]) (obs := []) rfl (by kernel_rfl) allP0 ?_
          obtain ⟨r9, h10, h⟩ := bind_of h
          refine WO_lend [(1000, 27)] (us := [none, none, none, none, none]) (d := 44) (p := True) (j := 4) rfl ⟨by kernel_rfl, by kernel_rfl, by kernel_rfl⟩ trivial (tape_run_ok h10) (by kernel_rfl) (by kernel_rfl) ?_
          refine WO_run (j := 10) (k := 6) (orcs := [(15, .typed)]) (kF := [6, 12, 13]) (kL := [3, 6, 12, 27]) (fr' := [(6, .one (.ptr 6 0)), (12, .one (.ptr 12 0)), (13, aI r9.2.1)]) (L' := [(3, .one (.pair tI (.pair tI (.slice (.slice (.pair tI (.pair tI tI)))))) a0), (6, .one (.pair tI (.pair tI (.pair tI (.slice tI)))) ((0 : Int), (0 : Int), (0 : Int), [])), (12, .one (.pair tI (.pair tI (.pair tI (.slice tI)))) r9.1), (27, .map tI tI r9.2.2)]) (obs := [True]) rfl (by kernel_rfl) (allP1 trivial) ?_
          refine WO_fin [6, 12, 13] [6, 12] (fr' := [(6, .one (.ptr 6 0)), (12, .one (.ptr 12 0)), (13, aI r9.2.1)]) (L' := [(6, .one (.pair tI (.pair tI (.pair tI (.slice tI)))) ((0 : Int), (0 : Int), (0 : Int), [])), (12, .one (.pair tI (.pair tI (.pair tI (.slice tI)))) r9.1)]) (by kernel_rfl) (by kernel_rfl) ?_
          refine seqQ_norm ?_
          refine W_seq (by kernel_rfl) ?_
          refine W_run 5 [] [6, 7, 8] [6] (fr' := [(6, .one (.ptr 6 0)), (7, aI r9.2.1), (8, aI (0 : Int))]) (L' := [(6, .one (.pair tI (.pair tI (.pair tI (.slice tI)))) r9.1)]) (obs := [True]) (by kernel_rfl) (by kernel_rfl) (by kernel_rfl) (allP1 trivial) ?_
          refine seqQ_norm ?_
          obtain rfl := Option.some.inj h
          refine W_ret [6, 7, 8] [6] (fr' := [(6, .one (.ptr 6 0)), (7, aI r9.2.1), (8, aI (0 : Int))]) (L' := [(6, .one (.pair tI (.pair tI (.pair tI (.slice tI)))) r9.1)]) (by kernel_rfl) (by kernel_rfl) ?_
          exact retQ_mk (by kernel_rfl) (by kernel_rfl) (by kernel_rfl)

noncomputable def busy_Most_b29 (i230 : Int) (v233 : Int) (x231 : Int) : Option (Flow Int Int) :=
some (.next (w64 (x231 + v233)))
@[reducible] noncomputable def busy_Most_s30 (a0 : Int) (a1 : Int) (r3 : Int) (i163 : Int) (x164 : (Int × Int × Int)) (r219 : ((Int × (Int × (Int × (List Int)))) × Int × Int)) (v : Int × Int) : Fr × LL := ([(0, aI a0), (1, aI a1), (8, aI x164.1), (9, aI x164.2.1), (10, aI x164.2.2), (15, aI r219.2.1), (17, aI v.2), (33, aI r3), (34, aI i163), (55, aD (.slice tI) r219.1.2.2.2), (56, aI (List.length r219.1.2.2.2 : Int)), (57, aI v.1)], [])
@[reducible] noncomputable def busy_Most_s31 (a0 : Int) (a1 : Int) (r3 : Int) (i163 : Int) (x164 : (Int × Int × Int)) (r219 : ((Int × (Int × (Int × (List Int)))) × Int × Int)) (v : Int) : Fr × LL := ([(0, aI a0), (1, aI a1), (8, aI x164.1), (9, aI x164.2.1), (10, aI x164.2.2), (15, aI r219.2.1), (17, aI v), (33, aI r3), (34, aI i163)], [])
noncomputable def busy_Most_g32 (a0 : Int) (a1 : Int) (fuel : Nat) (i163 : Int) (x164 : (Int × Int × Int)) : Option (Int × Int × Int) :=
(busy_Build fuel a0 i163).bind fun r217 =>
(tape_Run fuel r217.1 [] a1).bind fun r219 =>
bif decide (r219.1.1 < a0) then
(some (x164.1, x164.2.1, x164.2.2))
else
((forL busy_Most_b29 (fun x231 => x231) r219.1.2.2.2 0 (0 : Int)).bind fun v237 =>
some (imax x164.1 r219.2.1, imax x164.2.1 v237, w64 (x164.2.2 + (1 : Int))))
@[reducible] noncomputable def busy_Most_s33 (a0 : Int) (a1 : Int) (r3 : Int) (i163 : Int) (v : (Int × Int × Int)) : Fr × LL := ([(0, aI a0), (1, aI a1), (8, aI v.1), (9, aI v.2.1), (10, aI v.2.2), (33, aI r3), (34, aI i163)], [])
noncomputable def busy_Most_b34 (a0 : Int) (a1 : Int) (fuel : Nat) (i163 : Int) (x164 : (Int × Int × Int)) : Option (Flow (Int × Int × Int) (Int × Int × Int)) :=
(busy_Most_g32 a0 a1 fuel i163 x164).bind fun v242 =>
some (.next (v242.1, v242.2.1, v242.2.2))
@[reducible] noncomputable def busy_Most_s35 (a0 : Int) (a1 : Int) (r3 : Int) (v : Int × (Int × Int × Int)) : Fr × LL := ([(0, aI a0), (1, aI a1), (8, aI v.2.1), (9, aI v.2.2.1), (10, aI v.2.2.2), (33, aI r3), (34, aI v.1)], [])
@[reducible] noncomputable def busy_Most_s36 (v : (Int × Int × Int)) : Fr × LL := ([(8, aI v.1), (9, aI v.2.1), (10, aI v.2.2)], [])
noncomputable def busy_Most (fuel : Nat) (a0 : Int) (a1 : Int) : Option (Int × Int × Int × Int) :=
bif (decide (a0 < (1 : Int))) || (decide (a0 > (2 : Int))) then
(some ((0 : Int), (0 : Int), (0 : Int), (1 : Int)))
else
(bif (decide (a1 < (0 : Int))) || (decide (a1 > (60 : Int))) then
(some ((0 : Int), (0 : Int), (0 : Int), (7 : Int)))
else
((busy_power a0).bind fun r3 =>
(forI (0 : Int) r3 (busy_Most_b34 a0 a1 fuel) (fun x164 => (x164.1, x164.2.1, x164.2.2)) ((0 : Int), (0 : Int), (0 : Int))).bind fun v245 =>
some (v245.1, v245.2.1, v245.2.2, (0 : Int))))
theorem busy_Most_ok {fuel : Nat} {a0 : Int} {a1 : Int} {r : (Int × Int × Int × Int)} (h : busy_Most fuel a0 a1 = some r) : FnC Try.prog 44 [aI a0, aI a1] [] (.tup [.dat tI r.1, .dat tI r.2.1, .dat tI r.2.2.1, .dat tI r.2.2.2]) [] := by
  refine fnC_of_W (B := bodyOf Try.f44) (n := 77) Try.func44 (by kernel_rfl) (by kernel_rfl) (by kernel_rfl) (by kernel_rfl) (by kernel_rfl) ?_
  intro K
  refine W_seq (by kernel_rfl) ?_
  refine W_run 4 [] [0, 1] [] (fr' := [(0, aI a0), (1, aI a1)]) (L' := []) (obs := []) (by kernel_rfl) (by kernel_rfl) (by kernel_rfl) allP0 ?_
  refine seqQ_norm ?_
  refine W_seq (by kernel_rfl) ?_
  refine W_seq (by kernel_rfl) ?_
  refine W_run 6 [] [0, 1, 25] [] (fr' := [(0, aI a0), (1, aI a1), (25, aB ((decide (a0 < (1 : Int))) || (decide (a0 > (2 : Int)))))]) (L' := []) (obs := []) (by kernel_rfl) (by kernel_rfl) (by kernel_rfl) allP0 ?_
  refine seqQ_norm ?_
  refine W_cond (o := .tmp 25) (b := (decide (a0 < (1 : Int))) || (decide (a0 > (2 : Int)))) (by kernel_rfl) (by kernel_rfl) (fun h1 => ?_) (fun h1 => ?_)
  · replace h := ofT h1 h
    refine W_seq (by kernel_rfl) ?_
    refine W_run 4 [] [4, 5, 6, 7] [] (fr' := [(4, aI (0 : Int)), (5, aI (0 : Int)), (6, aI (0 : Int)), (7, aI (1 : Int))]) (L' := []) (obs := []) (by kernel_rfl) (by kernel_rfl) (by kernel_rfl) allP0 ?_
    refine seqQ_norm ?_
    obtain rfl := Option.some.inj h
    refine W_ret [4, 5, 6, 7] [] (fr' := [(4, aI (0 : Int)), (5, aI (0 : Int)), (6, aI (0 : Int)), (7, aI (1 : Int))]) (L' := []) (by kernel_rfl) (by kernel_rfl) ?_
    refine seqQ_ret ?_
    exact retQ_mk (by kernel_rfl) (by kernel_rfl) (by kernel_rfl)
  · replace h := ofF h1 h
    refine W_skip [0, 1] [] (fr' := [(0, aI a0), (1, aI a1)]) (L' := []) (by kernel_rfl) (by kernel_rfl) ?_
    refine seqQ_norm ?_
    refine W_seq (by kernel_rfl) ?_
    refine W_seq (by kernel_rfl) ?_
    refine W_run 6 [] [0, 1, 31] [] (fr' := [(0, aI a0), (1, aI a1), (31, aB ((decide (a1 < (0 : Int))) || (decide (a1 > (60 : Int)))))]) (L' := []) (obs := []) (by kernel_rfl) (by kernel_rfl) (by kernel_rfl) allP0 ?_
    refine seqQ_norm ?_
    refine W_cond (o := .tmp 31) (b := (decide (a1 < (0 : Int))) || (decide (a1 > (60 : Int)))) (by kernel_rfl) (by kernel_rfl) (fun h2 => ?_) (fun h2 => ?_)
    · replace h := ofT h2 h
      refine W_seq (by kernel_rfl) ?_
      refine W_run 4 [] [4, 5, 6, 7] [] (fr' := [(4, aI (0 : Int)), (5, aI (0 : Int)), (6, aI (0 : Int)), (7, aI (7 : Int))]) (L' := []) (obs := []) (by kernel_rfl) (by kernel_rfl) (by kernel_rfl) allP0 ?_
      refine seqQ_norm ?_
      obtain rfl := Option.some.inj h
      refine W_ret [4, 5, 6, 7] [] (fr' := [(4, aI (0 : Int)), (5, aI (0 : Int)), (6, aI (0 : Int)), (7, aI (7 : Int))]) (L' := []) (by kernel_rfl) (by kernel_rfl) ?_
      refine seqQ_ret ?_
      exact retQ_mk (by kernel_rfl) (by kernel_rfl) (by kernel_rfl)
    · replace h := ofF h2 h
      refine W_skip [0, 1] [] (fr' := [(0, aI a0), (1, aI a1)]) (L' := []) (by kernel_rfl) (by kernel_rfl) ?_
      refine seqQ_norm ?_
      refine W_seq (by kernel_rfl) ?_
      refine W_run 3 [] [0, 1, 8, 9, 10] [] (fr' := [(0, aI a0), (1, aI a1), (8, aI (0 : Int)), (9, aI (0 : Int)), (10, aI (0 : Int))]) (L' := []) (obs := []) (by kernel_rfl) (by kernel_rfl) (by kernel_rfl) allP0 ?_
      refine seqQ_norm ?_
      refine W_seq (by kernel_rfl) ?_
      refine W_seq (by kernel_rfl) ?_
      refine W_region (by kernel_rfl) ?_
      refine WO_run (j := 1) (k := 1) (orcs := []) (kF := [0, 1, 8, 9, 10, 32]) (kL := []) (fr' := [(0, aI a0), (1, aI a1), (8, aI (0 : Int)), (9, aI (0 : Int)), (10, aI (0 : Int)), (32, aI a0)]) (L' := []) (obs := []) rfl (by kernel_rfl) allP0 ?_
      obtain ⟨r3, h4, h⟩ := bind_of h
      refine WO_call0 (us := [none]) (d := 33) (p := True) (j := 2) rfl ⟨by kernel_rfl, by kernel_rfl, by kernel_rfl⟩ trivial (busy_power_ok h4) (by kernel_rfl) ?_
      refine WO_run (j := 3) (k := 1) (orcs := []) (kF := [0, 1, 8, 9, 10, 33, 34]) (kL := []) (fr' := [(0, aI a0), (1, aI a1), (8, aI (0 : Int)), (9, aI (0 : Int)), (10, aI (0 : Int)), (33, aI r3), (34, aI (0 : Int))]) (L' := []) (obs := []) rfl (by kernel_rfl) allP0 ?_
      refine WO_fin [0, 1, 8, 9, 10, 33, 34] [] (fr' := [(0, aI a0), (1, aI a1), (8, aI (0 : Int)), (9, aI (0 : Int)), (10, aI (0 : Int)), (33, aI r3), (34, aI (0 : Int))]) (L' := []) (by kernel_rfl) (by kernel_rfl) ?_
      refine seqQ_norm ?_
      refine W_block (id := 0) (by kernel_rfl) ?_
      obtain ⟨v245, h246, h⟩ := bind_of h
      obtain ⟨h247, h248⟩ := forI_iter h246
      refine W_weaken [0, 1, 8, 9, 10, 33, 34] [] (fr' := ((busy_Most_s35 a0 a1 r3) ((0 : Int), ((0 : Int), (0 : Int), (0 : Int)))).1) (L' := ((busy_Most_s35 a0 a1 r3) ((0 : Int), ((0 : Int), (0 : Int), (0 : Int)))).2) (by kernel_rfl) ?_
      refine W_cutK (W_loop (S := (busy_Most_s35 a0 a1 r3)) (J := (exQ (.exit 0) busy_Most_s36)) (by kernel_rfl) ?_ h247 _ v245 h248) ?_
      · rintro ⟨i163, x164⟩ s h
        refine W_seq (by kernel_rfl) ?_
        refine W_run 1 [] [0, 1, 8, 9, 10, 33, 34, 35] [] (fr' := [(0, aI a0), (1, aI a1), (8, aI x164.1), (9, aI x164.2.1), (10, aI x164.2.2), (33, aI r3), (34, aI i163), (35, aB (decide (i163 < r3)))]) (L' := []) (obs := []) (by kernel_rfl) (by kernel_rfl) (by kernel_rfl) allP0 ?_
        refine seqQ_norm ?_
        refine W_seq (by kernel_rfl) ?_
        refine W_cond (o := .tmp 35) (b := decide (i163 < r3)) (by kernel_rfl) (by kernel_rfl) (fun h166 => ?_) (fun h166 => ?_)
        · replace h := stepI_true h166 h
          obtain ⟨_, h, rfl⟩ := h
          refine W_skip [0, 1, 8, 9, 10, 33, 34] [] (fr' := [(0, aI a0), (1, aI a1), (8, aI x164.1), (9, aI x164.2.1), (10, aI x164.2.2), (33, aI r3), (34, aI i163)]) (L' := []) (by kernel_rfl) (by kernel_rfl) ?_
          refine seqQ_norm ?_
          refine W_seq (by kernel_rfl) ?_
          obtain ⟨v242, h243, h⟩ := bind_of h
          refine W_cutK (Q' := (exQ .normal (busy_Most_s33 a0 a1 r3 i163)) v242) ?_ ?_
          · replace h := h243
            refine W_block (id := 1) (by kernel_rfl) ?_
            refine W_seq (by kernel_rfl) ?_
            refine W_run 2 [] [0, 1, 8, 9, 10, 11, 33, 34] [] (fr' := [(0, aI a0), (1, aI a1), (8, aI x164.1), (9, aI x164.2.1), (10, aI x164.2.2), (11, aI i163), (33, aI r3), (34, aI i163)]) (L' := []) (obs := []) (by kernel_rfl) (by kernel_rfl) (by kernel_rfl) allP0 ?_
            refine seqQ_norm ?_
            refine W_seq (by kernel_rfl) ?_
            refine W_region (by kernel_rfl) ?_
            refine WO_run (j := 2) (k := 2) (orcs := []) (kF := [0, 1, 8, 9, 10, 33, 34, 38, 39]) (kL := []) (fr' := [(0, aI a0), (1, aI a1), (8, aI x164.1), (9, aI x164.2.1), (10, aI x164.2.2), (33, aI r3), (34, aI i163), (38, aI a0), (39, aI i163)]) (L' := []) (obs := []) rfl (by kernel_rfl) allP0 ?_
            obtain ⟨r217, h218, h⟩ := bind_of h
            refine WO_call0 (us := [none, none]) (d := 40) (p := True) (j := 3) rfl ⟨by kernel_rfl, by kernel_rfl, by kernel_rfl⟩ trivial (busy_Build_ok h218) (by kernel_rfl) ?_
            refine WO_run (j := 9) (k := 6) (orcs := [(13, .typed)]) (kF := [0, 1, 8, 9, 10, 12, 33, 34]) (kL := [12]) (fr' := [(0, aI a0), (1, aI a1), (8, aI x164.1), (9, aI x164.2.1), (10, aI x164.2.2), (12, .one (.ptr 12 0)), (33, aI r3), (34, aI i163)]) (L' := [(12, .one (.pair tI (.pair tI (.slice (.slice (.pair tI (.pair tI tI)))))) r217.1)]) (obs := [True]) rfl (by kernel_rfl) (allP1 trivial) ?_
            refine WO_fin [0, 1, 8, 9, 10, 12, 33, 34] [12] (fr' := [(0, aI a0), (1, aI a1), (8, aI x164.1), (9, aI x164.2.1), (10, aI x164.2.2), (12, .one (.ptr 12 0)), (33, aI r3), (34, aI i163)]) (L' := [(12, .one (.pair tI (.pair tI (.slice (.slice (.pair tI (.pair tI tI)))))) r217.1)]) (by kernel_rfl) (by kernel_rfl) ?_
            refine seqQ_norm ?_
            refine W_seq (by kernel_rfl) ?_
            refine W_region (by kernel_rfl) ?_
            refine WO_run (j := 2) (k := 2) (orcs := []) (kF := [0, 1, 8, 9, 10, 33, 34, 44, 45]) (kL := [12]) (fr' := [(0, aI a0), (1, aI a1), (8, aI x164.1), (9, aI x164.2.1), (10, aI x164.2.2), (33, aI r3), (34, aI i163), (44, aD (.pair tI (.pair tI (.slice (.slice (.pair tI (.pair tI tI)))))) r217.1), (45, aI a1)]) (L' := [(12, .one (.pair tI (.pair tI (.slice (.slice (.pair tI (.pair tI tI)))))) r217.1)]) (obs := []) rfl (by kernel_rfl) allP0 ?_
            obtain ⟨r219, h220, h⟩ := bind_of h
            refine WO_call0 (us := [none, some (.slice tI), none]) (d := 46) (p := True) (j := 3) rfl ⟨by kernel_rfl, by kernel_rfl, by kernel_rfl⟩ trivial (tape_Run_ok h220) (by kernel_rfl) ?_
            refine WO_run (j := 11) (k := 8) (orcs := [(15, .typed)]) (kF := [0, 1, 8, 9, 10, 14, 15, 33, 34]) (kL := [12, 14]) (fr' := [(0, aI a0), (1, aI a1), (8, aI x164.1), (9, aI x164.2.1), (10, aI x164.2.2), (14, .one (.ptr 14 0)), (15, aI r219.2.1), (33, aI r3), (34, aI i163)]) (L' := [(12, .one (.pair tI (.pair tI (.slice (.slice (.pair tI (.pair tI tI)))))) r217.1), (14, .one (.pair tI (.pair tI (.pair tI (.slice tI)))) r219.1)]) (obs := [True]) rfl (by kernel_rfl) (allP1 trivial) ?_
            refine WO_fin [0, 1, 8, 9, 10, 14, 15, 33, 34] [14] (fr' := [(0, aI a0), (1, aI a1), (8, aI x164.1), (9, aI x164.2.1), (10, aI x164.2.2), (14, .one (.ptr 14 0)), (15, aI r219.2.1), (33, aI r3), (34, aI i163)]) (L' := [(14, .one (.pair tI (.pair tI (.pair tI (.slice tI)))) r219.1)]) (by kernel_rfl) (by kernel_rfl) ?_
            refine seqQ_norm ?_
            refine W_seq (by kernel_rfl) ?_
            refine W_seq (by kernel_rfl) ?_
            refine W_run 4 [] [0, 1, 8, 9, 10, 14, 15, 33, 34, 53] [14] (fr' := [(0, aI a0), (1, aI a1), (8, aI x164.1), (9, aI x164.2.1), (10, aI x164.2.2), (14, .one (.ptr 14 0)), (15, aI r219.2.1), (33, aI r3), (34, aI i163), (53, aB (decide (r219.1.1 < a0)))]) (L' := [(14, .one (.pair tI (.pair tI (.pair tI (.slice tI)))) r219.1)]) (obs := []) (by kernel_rfl) (by kernel_rfl) (by kernel_rfl) allP0 ?_
            refine seqQ_norm ?_
            refine W_cond (o := .tmp 53) (b := decide (r219.1.1 < a0)) (by kernel_rfl) (by kernel_rfl) (fun h221 => ?_) (fun h221 => ?_)
            · replace h := ofT h221 h
              obtain rfl := Option.some.inj h
              refine W_exit (id := 1) [0, 1, 8, 9, 10, 33, 34] [] (fr' := [(0, aI a0), (1, aI a1), (8, aI x164.1), (9, aI x164.2.1), (10, aI x164.2.2), (33, aI r3), (34, aI i163)]) (L' := []) (by kernel_rfl) (by kernel_rfl) ?_
              refine seqQ_exit ?_
              refine blockQ_hit ?_
              exact exQ_mk (by kernel_rfl) (by kernel_rfl)
            · replace h := ofF h221 h
              refine W_skip [0, 1, 8, 9, 10, 14, 15, 33, 34] [14] (fr' := [(0, aI a0), (1, aI a1), (8, aI x164.1), (9, aI x164.2.1), (10, aI x164.2.2), (14, .one (.ptr 14 0)), (15, aI r219.2.1), (33, aI r3), (34, aI i163)]) (L' := [(14, .one (.pair tI (.pair tI (.pair tI (.slice tI)))) r219.1)]) (by kernel_rfl) (by kernel_rfl) ?_
              refine seqQ_norm ?_
              refine W_seq (by kernel_rfl) ?_
              refine W_run 1 [] [0, 1, 8, 9, 10, 14, 15, 17, 33, 34] [14] (fr' := [(0, aI a0), (1, aI a1), (8, aI x164.1), (9, aI x164.2.1), (10, aI x164.2.2), (14, .one (.ptr 14 0)), (15, aI r219.2.1), (17, aI (0 : Int)), (33, aI r3), (34, aI i163)]) (L' := [(14, .one (.pair tI (.pair tI (.pair tI (.slice tI)))) r219.1)]) (obs := []) (by kernel_rfl) (by kernel_rfl) (by kernel_rfl) allP0 ?_
              refine seqQ_norm ?_
              refine W_seq (by kernel_rfl) ?_
              refine W_seq (by kernel_rfl) ?_
              refine W_run 4 [] [0, 1, 8, 9, 10, 15, 17, 33, 34, 55, 56, 57] [] (fr' := [(0, aI a0), (1, aI a1), (8, aI x164.1), (9, aI x164.2.1), (10, aI x164.2.2), (15, aI r219.2.1), (17, aI (0 : Int)), (33, aI r3), (34, aI i163), (55, aD (.slice tI) r219.1.2.2.2), (56, aI (List.length r219.1.2.2.2 : Int)), (57, aI (0 : Int))]) (L' := []) (obs := []) (by kernel_rfl) (by kernel_rfl) (by kernel_rfl) allP0 ?_
              refine seqQ_norm ?_
              refine W_block (id := 2) (by kernel_rfl) ?_
              obtain ⟨v237, h238, h⟩ := bind_of h
              refine W_len (t := 55) (u := tI) (xs := r219.1.2.2.2) (by kernel_rfl) (fun h241 => ?_)
              obtain ⟨h239, h240⟩ := forL_iter h241 h238
              refine W_weaken [0, 1, 8, 9, 10, 15, 17, 33, 34, 55, 56, 57] [] (fr' := ((busy_Most_s30 a0 a1 r3 i163 x164 r219) ((0 : Int), (0 : Int))).1) (L' := ((busy_Most_s30 a0 a1 r3 i163 x164 r219) ((0 : Int), (0 : Int))).2) (by kernel_rfl) ?_
              refine W_cutK (W_loop (S := (busy_Most_s30 a0 a1 r3 i163 x164 r219)) (J := (exQ (.exit 2) (busy_Most_s31 a0 a1 r3 i163 x164 r219))) (by kernel_rfl) ?_ h239 _ v237 h240) ?_
              · rintro ⟨i230, x231⟩ s h
                refine W_seq (by kernel_rfl) ?_
                refine W_run 1 [] [0, 1, 8, 9, 10, 15, 17, 33, 34, 55, 56, 57, 58] [] (fr' := [(0, aI a0), (1, aI a1), (8, aI x164.1), (9, aI x164.2.1), (10, aI x164.2.2), (15, aI r219.2.1), (17, aI x231), (33, aI r3), (34, aI i163), (55, aD (.slice tI) r219.1.2.2.2), (56, aI (List.length r219.1.2.2.2 : Int)), (57, aI i230), (58, aB (decide (i230 < (List.length r219.1.2.2.2 : Int))))]) (L' := []) (obs := []) (by kernel_rfl) (by kernel_rfl) (by kernel_rfl) allP0 ?_
                refine seqQ_norm ?_
                refine W_seq (by kernel_rfl) ?_
                refine W_cond (o := .tmp 58) (b := decide (i230 < (List.length r219.1.2.2.2 : Int))) (by kernel_rfl) (by kernel_rfl) (fun h235 => ?_) (fun h235 => ?_)
                · replace h := stepL_true h235 h
                  obtain ⟨v233, _, h234, h, rfl⟩ := h
                  refine W_skip [0, 1, 8, 9, 10, 15, 17, 33, 34, 55, 56, 57] [] (fr' := [(0, aI a0), (1, aI a1), (8, aI x164.1), (9, aI x164.2.1), (10, aI x164.2.2), (15, aI r219.2.1), (17, aI x231), (33, aI r3), (34, aI i163), (55, aD (.slice tI) r219.1.2.2.2), (56, aI (List.length r219.1.2.2.2 : Int)), (57, aI i230)]) (L' := []) (by kernel_rfl) (by kernel_rfl) ?_
                  refine seqQ_norm ?_
                  refine W_seq (by kernel_rfl) ?_
                  refine W_block (id := 3) (by kernel_rfl) ?_
                  refine W_seq (by kernel_rfl) ?_
                  refine W_run 3 [(1, .val (.dat tI v233))] [0, 1, 8, 9, 10, 15, 17, 19, 33, 34, 55, 56, 57] [] (fr' := [(0, aI a0), (1, aI a1), (8, aI x164.1), (9, aI x164.2.1), (10, aI x164.2.2), (15, aI r219.2.1), (17, aI x231), (19, aI v233), (33, aI r3), (34, aI i163), (55, aD (.slice tI) r219.1.2.2.2), (56, aI (List.length r219.1.2.2.2 : Int)), (57, aI i230)]) (L' := []) (obs := [Idx r219.1.2.2.2 i230 v233]) (by kernel_rfl) (by kernel_rfl) (by kernel_rfl) (allP1 (Idx.of h234)) ?_
                  refine seqQ_norm ?_
                  refine W_run 4 [] [0, 1, 8, 9, 10, 15, 17, 33, 34, 55, 56, 57] [] (fr' := [(0, aI a0), (1, aI a1), (8, aI x164.1), (9, aI x164.2.1), (10, aI x164.2.2), (15, aI r219.2.1), (17, aI (w64 (x231 + v233))), (33, aI r3), (34, aI i163), (55, aD (.slice tI) r219.1.2.2.2), (56, aI (List.length r219.1.2.2.2 : Int)), (57, aI i230)]) (L' := []) (obs := []) (by kernel_rfl) (by kernel_rfl) (by kernel_rfl) allP0 ?_
                  refine blockQ_norm ?_
                  refine seqQ_norm ?_
                  obtain rfl := Option.some.inj h
                  refine W_run 2 [] [0, 1, 8, 9, 10, 15, 17, 33, 34, 55, 56, 57] [] (fr' := [(0, aI a0), (1, aI a1), (8, aI x164.1), (9, aI x164.2.1), (10, aI x164.2.2), (15, aI r219.2.1), (17, aI (w64 (x231 + v233))), (33, aI r3), (34, aI i163), (55, aD (.slice tI) r219.1.2.2.2), (56, aI (List.length r219.1.2.2.2 : Int)), (57, aI (w64 (i230 + (1 : Int))))]) (L' := []) (obs := []) (by kernel_rfl) (by kernel_rfl) (by kernel_rfl) allP0 ?_
                  exact round_next' (by kernel_rfl) (by kernel_rfl)
                · obtain rfl := stepL_false h235 h
                  refine W_exit (id := 2) [0, 1, 8, 9, 10, 15, 17, 33, 34] [] (fr' := [(0, aI a0), (1, aI a1), (8, aI x164.1), (9, aI x164.2.1), (10, aI x164.2.2), (15, aI r219.2.1), (17, aI x231), (33, aI r3), (34, aI i163)]) (L' := []) (by kernel_rfl) (by kernel_rfl) ?_
                  refine seqQ_exit ?_
                  refine round_exit ?_
                  exact exQ_mk (by kernel_rfl) (by kernel_rfl)
              · intro e fr L hJ
                obtain ⟨rfl, rfl, rfl⟩ := hJ
                refine LT_keep [0, 1, 8, 9, 10, 15, 17, 33, 34] [] (fr' := [(0, aI a0), (1, aI a1), (8, aI x164.1), (9, aI x164.2.1), (10, aI x164.2.2), (15, aI r219.2.1), (17, aI v237), (33, aI r3), (34, aI i163)]) (L' := []) (by kernel_rfl) ?_
                refine blockQ_hit ?_
                refine seqQ_norm ?_
                obtain rfl := Option.some.inj h
                refine W_run 11 [] [0, 1, 8, 9, 10, 33, 34] [] (fr' := [(0, aI a0), (1, aI a1), (8, aI (imax x164.1 r219.2.1)), (9, aI (imax x164.2.1 v237)), (10, aI (w64 (x164.2.2 + (1 : Int)))), (33, aI r3), (34, aI i163)]) (L' := []) (obs := []) (by kernel_rfl) (by kernel_rfl) (by kernel_rfl) allP0 ?_
                refine blockQ_norm ?_
                exact exQ_mk (by kernel_rfl) (by kernel_rfl)
          · intro e fr L hJ
            obtain ⟨rfl, rfl, rfl⟩ := hJ
            refine LT_keep [0, 1, 8, 9, 10, 33, 34] [] (fr' := [(0, aI a0), (1, aI a1), (8, aI v242.1), (9, aI v242.2.1), (10, aI v242.2.2), (33, aI r3), (34, aI i163)]) (L' := []) (by kernel_rfl) ?_
            refine seqQ_norm ?_
            obtain rfl := Option.some.inj h
            refine W_run 2 [] [0, 1, 8, 9, 10, 33, 34] [] (fr' := [(0, aI a0), (1, aI a1), (8, aI v242.1), (9, aI v242.2.1), (10, aI v242.2.2), (33, aI r3), (34, aI (w64 (i163 + (1 : Int))))]) (L' := []) (obs := []) (by kernel_rfl) (by kernel_rfl) (by kernel_rfl) allP0 ?_
            exact round_next' (by kernel_rfl) (by kernel_rfl)
        · obtain rfl := stepI_false h166 h
          refine W_exit (id := 0) [8, 9, 10] [] (fr' := [(8, aI x164.1), (9, aI x164.2.1), (10, aI x164.2.2)]) (L' := []) (by kernel_rfl) (by kernel_rfl) ?_
          refine seqQ_exit ?_
          refine round_exit ?_
          exact exQ_mk (by kernel_rfl) (by kernel_rfl)
      · intro e fr L hJ
        obtain ⟨rfl, rfl, rfl⟩ := hJ
        refine LT_keep [8, 9, 10] [] (fr' := [(8, aI v245.1), (9, aI v245.2.1), (10, aI v245.2.2)]) (L' := []) (by kernel_rfl) ?_
        refine blockQ_hit ?_
        refine seqQ_norm ?_
        refine W_seq (by kernel_rfl) ?_
        refine W_run 7 [] [4, 5, 6, 7] [] (fr' := [(4, aI v245.1), (5, aI v245.2.1), (6, aI v245.2.2), (7, aI (0 : Int))]) (L' := []) (obs := []) (by kernel_rfl) (by kernel_rfl) (by kernel_rfl) allP0 ?_
        refine seqQ_norm ?_
        obtain rfl := Option.some.inj h
        refine W_ret [4, 5, 6, 7] [] (fr' := [(4, aI v245.1), (5, aI v245.2.1), (6, aI v245.2.2), (7, aI (0 : Int))]) (L' := []) (by kernel_rfl) (by kernel_rfl) ?_
        exact retQ_mk (by kernel_rfl) (by kernel_rfl) (by kernel_rfl)

noncomputable def ref_Within (a0 : Int) (a1 : Int) (a2 : Int) : Option Bool :=
some ((decide (a0 ≤ a1)) && (decide (a1 ≤ a2)))
theorem ref_Within_ok {a0 : Int} {a1 : Int} {a2 : Int} {r : Bool} (h : ref_Within a0 a1 a2 = some r) : FnC Try.prog 16 [aI a0, aI a1, aI a2] [] (aB r) [] := by
  refine fnC_of_W (B := bodyOf Try.f16) (n := 15) Try.func16 (by kernel_rfl) (by kernel_rfl) (by kernel_rfl) (by kernel_rfl) (by kernel_rfl) ?_
  intro K
  refine W_seq (by kernel_rfl) ?_
  refine W_run 1 [] [0, 1, 2] [] (fr' := [(0, aI a0), (1, aI a1), (2, aI a2)]) (L' := []) (obs := []) (by kernel_rfl) (by kernel_rfl) (by kernel_rfl) allP0 ?_
  refine seqQ_norm ?_
  refine W_seq (by kernel_rfl) ?_
  refine W_run 9 [] [6] [] (fr' := [(6, aB ((decide (a0 ≤ a1)) && (decide (a1 ≤ a2))))]) (L' := []) (obs := []) (by kernel_rfl) (by kernel_rfl) (by kernel_rfl) allP0 ?_
  refine seqQ_norm ?_
  obtain rfl := Option.some.inj h
  refine W_ret [6] [] (fr' := [(6, aB ((decide (a0 ≤ a1)) && (decide (a1 ≤ a2))))]) (L' := []) (by kernel_rfl) (by kernel_rfl) ?_
  exact retQ_mk (by kernel_rfl) (by kernel_rfl) (by kernel_rfl)

noncomputable def ref_Power_b1 (a0 : Int) (i5 : Int) (x6 : Int) : Option (Flow Int Int) :=
some (.next (w64 (x6 * a0)))
@[reducible] noncomputable def ref_Power_s2 (a0 : Int) (a1 : Int) (v : Int × Int) : Fr × LL := ([(0, aI a0), (1, aI a1), (5, aI v.2), (6, aI v.1)], [])
@[reducible] noncomputable def ref_Power_s3 (v : Int) : Fr × LL := ([(5, aI v)], [])
noncomputable def ref_Power (a0 : Int) (a1 : Int) : Option Int :=
(forI (0 : Int) a1 (ref_Power_b1 a0) (fun x6 => x6) (1 : Int)).bind fun v10 =>
some v10
theorem ref_Power_ok {a0 : Int} {a1 : Int} {r : Int} (h : ref_Power a0 a1 = some r) : FnC Try.prog 17 [aI a0, aI a1] [] (aI r) [] := by
  refine fnC_of_W (B := bodyOf Try.f17) (n := 16) Try.func17 (by kernel_rfl) (by kernel_rfl) (by kernel_rfl) (by kernel_rfl) (by kernel_rfl) ?_
  intro K
  refine W_seq (by kernel_rfl) ?_
  refine W_run 1 [] [0, 1] [] (fr' := [(0, aI a0), (1, aI a1)]) (L' := []) (obs := []) (by kernel_rfl) (by kernel_rfl) (by kernel_rfl) allP0 ?_
  refine seqQ_norm ?_
  refine W_seq (by kernel_rfl) ?_
  refine W_run 1 [] [0, 1, 5] [] (fr' := [(0, aI a0), (1, aI a1), (5, aI (1 : Int))]) (L' := []) (obs := []) (by kernel_rfl) (by kernel_rfl) (by kernel_rfl) allP0 ?_
  refine seqQ_norm ?_
  refine W_seq (by kernel_rfl) ?_
  refine W_seq (by kernel_rfl) ?_
  refine W_run 1 [] [0, 1, 5, 6] [] (fr' := [(0, aI a0), (1, aI a1), (5, aI (1 : Int)), (6, aI (0 : Int))]) (L' := []) (obs := []) (by kernel_rfl) (by kernel_rfl) (by kernel_rfl) allP0 ?_
  refine seqQ_norm ?_
  refine W_block (id := 0) (by kernel_rfl) ?_
  obtain ⟨v10, h11, h⟩ := bind_of h
  obtain ⟨h12, h13⟩ := forI_iter h11
  refine W_weaken [0, 1, 5, 6] [] (fr' := ((ref_Power_s2 a0 a1) ((0 : Int), (1 : Int))).1) (L' := ((ref_Power_s2 a0 a1) ((0 : Int), (1 : Int))).2) (by kernel_rfl) ?_
  refine W_cutK (W_loop (S := (ref_Power_s2 a0 a1)) (J := (exQ (.exit 0) ref_Power_s3)) (by kernel_rfl) ?_ h12 _ v10 h13) ?_
  · rintro ⟨i5, x6⟩ s h
    refine W_seq (by kernel_rfl) ?_
    refine W_seq (by kernel_rfl) ?_
    refine W_run 3 [] [0, 1, 5, 6, 9] [] (fr' := [(0, aI a0), (1, aI a1), (5, aI x6), (6, aI i5), (9, aB (decide (i5 < a1)))]) (L' := []) (obs := []) (by kernel_rfl) (by kernel_rfl) (by kernel_rfl) allP0 ?_
    refine seqQ_norm ?_
    refine W_cond (o := .tmp 9) (b := decide (i5 < a1)) (by kernel_rfl) (by kernel_rfl) (fun h8 => ?_) (fun h8 => ?_)
    · replace h := stepI_true h8 h
      obtain ⟨_, h, rfl⟩ := h
      refine W_skip [0, 1, 5, 6] [] (fr' := [(0, aI a0), (1, aI a1), (5, aI x6), (6, aI i5)]) (L' := []) (by kernel_rfl) (by kernel_rfl) ?_
      refine seqQ_norm ?_
      refine W_seq (by kernel_rfl) ?_
      refine W_block (id := 1) (by kernel_rfl) ?_
      refine W_run 4 [] [0, 1, 5, 6] [] (fr' := [(0, aI a0), (1, aI a1), (5, aI (w64 (x6 * a0))), (6, aI i5)]) (L' := []) (obs := []) (by kernel_rfl) (by kernel_rfl) (by kernel_rfl) allP0 ?_
      refine blockQ_norm ?_
      refine seqQ_norm ?_
      obtain rfl := Option.some.inj h
      refine W_run 3 [] [0, 1, 5, 6] [] (fr' := [(0, aI a0), (1, aI a1), (5, aI (w64 (x6 * a0))), (6, aI (w64 (i5 + (1 : Int))))]) (L' := []) (obs := []) (by kernel_rfl) (by kernel_rfl) (by kernel_rfl) allP0 ?_
      exact round_next' (by kernel_rfl) (by kernel_rfl)
    · obtain rfl := stepI_false h8 h
      refine W_exit (id := 0) [5] [] (fr' := [(5, aI x6)]) (L' := []) (by kernel_rfl) (by kernel_rfl) ?_
      refine seqQ_exit ?_
      refine round_exit ?_
      exact exQ_mk (by kernel_rfl) (by kernel_rfl)
  · intro e fr L hJ
    obtain ⟨rfl, rfl, rfl⟩ := hJ
    refine LT_keep [5] [] (fr' := [(5, aI v10)]) (L' := []) (by kernel_rfl) ?_
    refine blockQ_hit ?_
    refine seqQ_norm ?_
    refine W_seq (by kernel_rfl) ?_
    refine W_run 2 [] [4] [] (fr' := [(4, aI v10)]) (L' := []) (obs := []) (by kernel_rfl) (by kernel_rfl) (by kernel_rfl) allP0 ?_
    refine seqQ_norm ?_
    obtain rfl := Option.some.inj h
    refine W_ret [4] [] (fr' := [(4, aI v10)]) (L' := []) (by kernel_rfl) (by kernel_rfl) ?_
    exact retQ_mk (by kernel_rfl) (by kernel_rfl) (by kernel_rfl)

noncomputable def ref_Busy_g113 (a0 : Int) (x235 : (Int × Int × Int × Int)) (x640 : (Int × Int × Int × (List Int))) (r658 : Int) : Option Int :=
bif (Int.tmod (w64 (Int.tdiv (Int.tmod (w64 (Int.tdiv x235.2.2.2 r658)) (w64 ((4 : Int) * (w64 (a0 + (1 : Int)))))) (w64 (a0 + (1 : Int))))) (2 : Int)) == (1 : Int) then
(some (w64 (x640.2.1 + (1 : Int))))
else
(some (w64 (x640.2.1 - (1 : Int))))
@[reducible] noncomputable def ref_Busy_s114 (a0 : Int) (a1 : Int) (x235 : (Int × Int × Int × Int)) (x640 : (Int × Int × Int × (List Int))) (r658 : Int) (v : Int) : Fr × LL := ([(0, aI a0), (1, aI a1), (7, aI x235.1), (8, aI x235.2.1), (9, aI x235.2.2.1), (10, aI (w64 ((4 : Int) * (w64 (a0 + (1 : Int)))))), (11, aI x235.2.2.2), (13, aI v), (14, .one (.slc 36)), (15, aI x640.2.2.1), (17, aI (Int.tmod (w64 (Int.tdiv x235.2.2.2 r658)) (w64 ((4 : Int) * (w64 (a0 + (1 : Int)))))))], [(36, .seq tI (List.set x640.2.2.2 (Int.toNat x640.2.1) (w64 (Int.tdiv (w64 (Int.tdiv (Int.tmod (w64 (Int.tdiv x235.2.2.2 r658)) (w64 ((4 : Int) * (w64 (a0 + (1 : Int)))))) (w64 (a0 + (1 : Int))))) (2 : Int)))))])
noncomputable def ref_Busy_b115 (a0 : Int) (a1 : Int) (x235 : (Int × Int × Int × Int)) (x640 : (Int × Int × Int × (List Int))) : Option (Flow (Int × Int × Int × (List Int)) (Int × Int × (List Int))) :=
bif (decide (x640.2.2.1 < a1)) && (decide (x640.1 < a0)) then
((idx x640.2.2.2 x640.2.1).bind fun v656 =>
(ref_Power (w64 ((4 : Int) * (w64 (a0 + (1 : Int))))) (w64 ((w64 ((w64 ((2 : Int) * a0)) - (1 : Int))) - (w64 ((w64 ((2 : Int) * x640.1)) + v656))))).bind fun r658 =>
(ck (r658 ≠ 0)).bind fun _ =>
(ck (w64 ((4 : Int) * (w64 (a0 + (1 : Int)))) ≠ 0)).bind fun _ =>
(ck (w64 (a0 + (1 : Int)) ≠ 0)).bind fun _ =>
(ref_Busy_g113 a0 x235 x640 r658).bind fun v666 =>
bif (decide (v666 < (0 : Int))) || (decide (v666 > (w64 ((2 : Int) * a1)))) then
(some (.done (Int.tmod (Int.tmod (w64 (Int.tdiv x235.2.2.2 r658)) (w64 ((4 : Int) * (w64 (a0 + (1 : Int)))))) (w64 (a0 + (1 : Int))), w64 (x640.2.2.1 + (1 : Int)), List.set x640.2.2.2 (Int.toNat x640.2.1) (w64 (Int.tdiv (w64 (Int.tdiv (Int.tmod (w64 (Int.tdiv x235.2.2.2 r658)) (w64 ((4 : Int) * (w64 (a0 + (1 : Int)))))) (w64 (a0 + (1 : Int))))) (2 : Int))))))
else
(some (.next (Int.tmod (Int.tmod (w64 (Int.tdiv x235.2.2.2 r658)) (w64 ((4 : Int) * (w64 (a0 + (1 : Int)))))) (w64 (a0 + (1 : Int))), v666, w64 (x640.2.2.1 + (1 : Int)), List.set x640.2.2.2 (Int.toNat x640.2.1) (w64 (Int.tdiv (w64 (Int.tdiv (Int.tmod (w64 (Int.tdiv x235.2.2.2 r658)) (w64 ((4 : Int) * (w64 (a0 + (1 : Int)))))) (w64 (a0 + (1 : Int))))) (2 : Int)))))))
else
(some (.done (x640.1, x640.2.2.1, x640.2.2.2)))
@[reducible] noncomputable def ref_Busy_s116 (a0 : Int) (a1 : Int) (x235 : (Int × Int × Int × Int)) (v : (Int × Int × Int × (List Int))) : Fr × LL := ([(0, aI a0), (1, aI a1), (7, aI x235.1), (8, aI x235.2.1), (9, aI x235.2.2.1), (10, aI (w64 ((4 : Int) * (w64 (a0 + (1 : Int)))))), (11, aI x235.2.2.2), (12, aI v.1), (13, aI v.2.1), (14, .one (.slc 36)), (15, aI v.2.2.1)], [(36, .seq tI v.2.2.2)])
@[reducible] noncomputable def ref_Busy_s117 (a0 : Int) (a1 : Int) (x235 : (Int × Int × Int × Int)) (v : (Int × Int × (List Int))) : Fr × LL := ([(0, aI a0), (1, aI a1), (7, aI x235.1), (8, aI x235.2.1), (9, aI x235.2.2.1), (10, aI (w64 ((4 : Int) * (w64 (a0 + (1 : Int)))))), (11, aI x235.2.2.2), (12, aI v.1), (14, .one (.slc 36)), (15, aI v.2.1)], [(36, .seq tI v.2.2)])
noncomputable def ref_Busy_b118 (i687 : Int) (v690 : Int) (x688 : Int) : Option (Flow Int Int) :=
some (.next (w64 (x688 + v690)))
@[reducible] noncomputable def ref_Busy_s119 (a0 : Int) (a1 : Int) (x235 : (Int × Int × Int × Int)) (v669 : (Int × Int × (List Int))) (v677 : Int) (v : Int × Int) : Fr × LL := ([(0, aI a0), (1, aI a1), (7, aI v677), (8, aI x235.2.1), (9, aI (w64 (x235.2.2.1 + (1 : Int)))), (10, aI (w64 ((4 : Int) * (w64 (a0 + (1 : Int)))))), (11, aI x235.2.2.2), (18, aI v.2), (104, .one (.slc 36)), (105, aI (List.length v669.2.2 : Int)), (106, aI v.1)], [(36, .seq tI v669.2.2)])
@[reducible] noncomputable def ref_Busy_s120 (a0 : Int) (a1 : Int) (x235 : (Int × Int × Int × Int)) (v677 : Int) (v : Int) : Fr × LL := ([(0, aI a0), (1, aI a1), (7, aI v677), (8, aI x235.2.1), (9, aI (w64 (x235.2.2.1 + (1 : Int)))), (10, aI (w64 ((4 : Int) * (w64 (a0 + (1 : Int)))))), (11, aI x235.2.2.2), (18, aI v)], [])
@[reducible] noncomputable def ref_Busy_s121 (a0 : Int) (a1 : Int) (x235 : (Int × Int × Int × Int)) (v669 : (Int × Int × (List Int))) (v : Int) : Fr × LL := ([(0, aI a0), (1, aI a1), (7, aI v), (8, aI x235.2.1), (9, aI (w64 (x235.2.2.1 + (1 : Int)))), (10, aI (w64 ((4 : Int) * (w64 (a0 + (1 : Int)))))), (11, aI x235.2.2.2), (14, .one (.slc 36))], [(36, .seq tI v669.2.2)])
noncomputable def ref_Busy_g122 (a0 : Int) (a1 : Int) (fuel : Nat) (x235 : (Int × Int × Int × Int)) : Option (Int × Int × Int) :=
(ck (0 ≤ w64 ((w64 ((2 : Int) * a1)) + (1 : Int)) ∧ w64 ((w64 ((2 : Int) * a1)) + (1 : Int)) = w64 ((w64 ((2 : Int) * a1)) + (1 : Int)) ∧ w64 ((w64 ((2 : Int) * a1)) + (1 : Int)) ≤ 4294967296)).bind fun _ =>
(iter (ref_Busy_b115 a0 a1 x235) fuel ((0 : Int), a1, (0 : Int), List.replicate (Int.toNat (w64 ((w64 ((2 : Int) * a1)) + (1 : Int)))) (0 : Int))).bind fun v669 =>
bif decide (v669.1 < a0) then
(some (x235.1, x235.2.1, x235.2.2.1))
else
((bif decide (v669.2.1 > x235.1) then
(some v669.2.1)
else
(some x235.1)).bind fun v677 =>
(forL ref_Busy_b118 (fun x688 => x688) v669.2.2 0 (0 : Int)).bind fun v694 =>
bif decide (v694 > x235.2.1) then
(some (v677, v694, w64 (x235.2.2.1 + (1 : Int))))
else
(some (v677, x235.2.1, w64 (x235.2.2.1 + (1 : Int)))))
@[reducible] noncomputable def ref_Busy_s123 (a0 : Int) (a1 : Int) (x235 : (Int × Int × Int × Int)) (v : (Int × Int × Int)) : Fr × LL := ([(0, aI a0), (1, aI a1), (7, aI v.1), (8, aI v.2.1), (9, aI v.2.2), (10, aI (w64 ((4 : Int) * (w64 (a0 + (1 : Int)))))), (11, aI x235.2.2.2)], [])
noncomputable def ref_Busy_b124 (a0 : Int) (a1 : Int) (fuel : Nat) (x235 : (Int × Int × Int × Int)) : Option (Flow (Int × Int × Int × Int) (Int × Int × Int)) :=
(ref_Power (w64 ((4 : Int) * (w64 (a0 + (1 : Int))))) (w64 ((2 : Int) * a0))).bind fun r469 =>
bif decide (x235.2.2.2 < r469) then
((ref_Busy_g122 a0 a1 fuel x235).bind fun v700 =>
some (.next (v700.1, v700.2.1, v700.2.2, w64 (x235.2.2.2 + (1 : Int)))))
else
(some (.done (x235.1, x235.2.1, x235.2.2.1)))
@[reducible] noncomputable def ref_Busy_s125 (a0 : Int) (a1 : Int) (v : (Int × Int × Int × Int)) : Fr × LL := ([(0, aI a0), (1, aI a1), (7, aI v.1), (8, aI v.2.1), (9, aI v.2.2.1), (10, aI (w64 ((4 : Int) * (w64 (a0 + (1 : Int)))))), (11, aI v.2.2.2)], [])
@[reducible] noncomputable def ref_Busy_s126 (v : (Int × Int × Int)) : Fr × LL := ([(7, aI v.1), (8, aI v.2.1), (9, aI v.2.2)], [])
noncomputable def ref_Busy (fuel : Nat) (a0 : Int) (a1 : Int) : Option (Int × Int × Int) :=
(iter (ref_Busy_b124 a0 a1 fuel) fuel ((0 : Int), (0 : Int), (0 : Int), (0 : Int))).bind fun v702 =>
some (v702.1, v702.2.1, v702.2.2)
theorem ref_Busy_ok {fuel : Nat} {a0 : Int} {a1 : Int} {r : (Int × Int × Int)} (h : ref_Busy fuel a0 a1 = some r) : FnC Try.prog 45 [aI a0, aI a1] [] (.tup [.dat tI r.1, .dat tI r.2.1, .dat tI r.2.2]) [] := by
  refine fnC_of_W (B := bodyOf Try.f45) (n := 121) Try.func45 (by kernel_rfl) (by kernel_rfl) (by kernel_rfl) (by kernel_rfl) (by kernel_rfl) ?_
  intro K
  refine W_seq (by kernel_rfl) ?_
  refine W_run 3 [] [0, 1] [] (fr' := [(0, aI a0), (1, aI a1)]) (L' := []) (obs := []) (by kernel_rfl) (by kernel_rfl) (by kernel_rfl) allP0 ?_
  refine seqQ_norm ?_
  refine W_seq (by kernel_rfl) ?_
  refine W_run 1 [] [0, 1, 7] [] (fr' := [(0, aI a0), (1, aI a1), (7, aI (0 : Int))]) (L' := []) (obs := []) (by kernel_rfl) (by kernel_rfl) (by kernel_rfl) allP0 ?_
  refine seqQ_norm ?_
  refine W_seq (by kernel_rfl) ?_
  refine W_run 1 [] [0, 1, 7, 8] [] (fr' := [(0, aI a0), (1, aI a1), (7, aI (0 : Int)), (8, aI (0 : Int))]) (L' := []) (obs := []) (by kernel_rfl) (by kernel_rfl) (by kernel_rfl) allP0 ?_
  refine seqQ_norm ?_
  refine W_seq (by kernel_rfl) ?_
  refine W_run 1 [] [0, 1, 7, 8, 9] [] (fr' := [(0, aI a0), (1, aI a1), (7, aI (0 : Int)), (8, aI (0 : Int)), (9, aI (0 : Int))]) (L' := []) (obs := []) (by kernel_rfl) (by kernel_rfl) (by kernel_rfl) allP0 ?_
  refine seqQ_norm ?_
  refine W_seq (by kernel_rfl) ?_
  refine W_run 4 [] [0, 1, 7, 8, 9, 10] [] (fr' := [(0, aI a0), (1, aI a1), (7, aI (0 : Int)), (8, aI (0 : Int)), (9, aI (0 : Int)), (10, aI (w64 ((4 : Int) * (w64 (a0 + (1 : Int))))))]) (L' := []) (obs := []) (by kernel_rfl) (by kernel_rfl) (by kernel_rfl) allP0 ?_
  refine seqQ_norm ?_
  refine W_seq (by kernel_rfl) ?_
  refine W_seq (by kernel_rfl) ?_
  refine W_run 1 [] [0, 1, 7, 8, 9, 10, 11] [] (fr' := [(0, aI a0), (1, aI a1), (7, aI (0 : Int)), (8, aI (0 : Int)), (9, aI (0 : Int)), (10, aI (w64 ((4 : Int) * (w64 (a0 + (1 : Int)))))), (11, aI (0 : Int))]) (L' := []) (obs := []) (by kernel_rfl) (by kernel_rfl) (by kernel_rfl) allP0 ?_
  refine seqQ_norm ?_
  refine W_block (id := 0) (by kernel_rfl) ?_
  obtain ⟨v702, h703, h⟩ := bind_of h
  refine W_weaken [0, 1, 7, 8, 9, 10, 11] [] (fr' := ((ref_Busy_s125 a0 a1) ((0 : Int), (0 : Int), (0 : Int), (0 : Int))).1) (L' := ((ref_Busy_s125 a0 a1) ((0 : Int), (0 : Int), (0 : Int), (0 : Int))).2) (by kernel_rfl) ?_
  refine W_cutK (W_loop (S := (ref_Busy_s125 a0 a1)) (J := (exQ (.exit 0) ref_Busy_s126)) (by kernel_rfl) ?_ fuel _ v702 h703) ?_
  · rintro x235 s h
    refine W_seq (by kernel_rfl) ?_
    refine W_seq (by kernel_rfl) ?_
    refine W_region (by kernel_rfl) ?_
    refine WO_run (j := 4) (k := 4) (orcs := []) (kF := [0, 1, 7, 8, 9, 10, 11, 24, 25, 27]) (kL := []) (fr' := [(0, aI a0), (1, aI a1), (7, aI x235.1), (8, aI x235.2.1), (9, aI x235.2.2.1), (10, aI (w64 ((4 : Int) * (w64 (a0 + (1 : Int)))))), (11, aI x235.2.2.2), (24, aI x235.2.2.2), (25, aI (w64 ((4 : Int) * (w64 (a0 + (1 : Int)))))), (27, aI (w64 ((2 : Int) * a0)))]) (L' := []) (obs := []) rfl (by kernel_rfl) allP0 ?_
    obtain ⟨r469, h470, h⟩ := bind_of h
    refine WO_call0 (us := [none, none]) (d := 28) (p := True) (j := 5) rfl ⟨by kernel_rfl, by kernel_rfl, by kernel_rfl⟩ trivial (ref_Power_ok h470) (by kernel_rfl) ?_
    refine WO_run (j := 6) (k := 1) (orcs := []) (kF := [0, 1, 7, 8, 9, 10, 11, 29]) (kL := []) (fr' := [(0, aI a0), (1, aI a1), (7, aI x235.1), (8, aI x235.2.1), (9, aI x235.2.2.1), (10, aI (w64 ((4 : Int) * (w64 (a0 + (1 : Int)))))), (11, aI x235.2.2.2), (29, aB (decide (x235.2.2.2 < r469)))]) (L' := []) (obs := []) rfl (by kernel_rfl) allP0 ?_
    refine WO_fin [0, 1, 7, 8, 9, 10, 11, 29] [] (fr' := [(0, aI a0), (1, aI a1), (7, aI x235.1), (8, aI x235.2.1), (9, aI x235.2.2.1), (10, aI (w64 ((4 : Int) * (w64 (a0 + (1 : Int)))))), (11, aI x235.2.2.2), (29, aB (decide (x235.2.2.2 < r469)))]) (L' := []) (by kernel_rfl) (by kernel_rfl) ?_
    refine seqQ_norm ?_
    refine W_cond (o := .tmp 29) (b := decide (x235.2.2.2 < r469)) (by kernel_rfl) (by kernel_rfl) (fun h471 => ?_) (fun h471 => ?_)
    · replace h := ofT h471 h
      refine W_skip [0, 1, 7, 8, 9, 10, 11] [] (fr' := [(0, aI a0), (1, aI a1), (7, aI x235.1), (8, aI x235.2.1), (9, aI x235.2.2.1), (10, aI (w64 ((4 : Int) * (w64 (a0 + (1 : Int)))))), (11, aI x235.2.2.2)]) (L' := []) (by kernel_rfl) (by kernel_rfl) ?_
      refine seqQ_norm ?_
      refine W_seq (by kernel_rfl) ?_
      obtain ⟨v700, h701, h⟩ := bind_of h
      refine W_cutK (Q' := (exQ .normal (ref_Busy_s123 a0 a1 x235)) v700) ?_ ?_
      · replace h := h701
        refine W_block (id := 1) (by kernel_rfl) ?_
        refine W_seq (by kernel_rfl) ?_
        refine W_run 1 [] [0, 1, 7, 8, 9, 10, 11, 12] [] (fr' := [(0, aI a0), (1, aI a1), (7, aI x235.1), (8, aI x235.2.1), (9, aI x235.2.2.1), (10, aI (w64 ((4 : Int) * (w64 (a0 + (1 : Int)))))), (11, aI x235.2.2.2), (12, aI (0 : Int))]) (L' := []) (obs := []) (by kernel_rfl) (by kernel_rfl) (by kernel_rfl) allP0 ?_
        refine seqQ_norm ?_
        refine W_seq (by kernel_rfl) ?_
        refine W_run 2 [] [0, 1, 7, 8, 9, 10, 11, 12, 13] [] (fr' := [(0, aI a0), (1, aI a1), (7, aI x235.1), (8, aI x235.2.1), (9, aI x235.2.2.1), (10, aI (w64 ((4 : Int) * (w64 (a0 + (1 : Int)))))), (11, aI x235.2.2.2), (12, aI (0 : Int)), (13, aI a1)]) (L' := []) (obs := []) (by kernel_rfl) (by kernel_rfl) (by kernel_rfl) allP0 ?_
        refine seqQ_norm ?_
        refine W_seq (by kernel_rfl) ?_
        obtain ⟨_, h624, h⟩ := bind_of h
        replace h624 := ck_some h624
        refine W_run 5 [] [0, 1, 7, 8, 9, 10, 11, 12, 13, 14] [36] (fr' := [(0, aI a0), (1, aI a1), (7, aI x235.1), (8, aI x235.2.1), (9, aI x235.2.2.1), (10, aI (w64 ((4 : Int) * (w64 (a0 + (1 : Int)))))), (11, aI x235.2.2.2), (12, aI (0 : Int)), (13, aI a1), (14, .one (.slc 36))]) (L' := [(36, .seq tI (List.replicate (Int.toNat (w64 ((w64 ((2 : Int) * a1)) + (1 : Int)))) (0 : Int)))]) (obs := [0 ≤ w64 ((w64 ((2 : Int) * a1)) + (1 : Int)) ∧ w64 ((w64 ((2 : Int) * a1)) + (1 : Int)) = w64 ((w64 ((2 : Int) * a1)) + (1 : Int)) ∧ SmallLen (w64 ((w64 ((2 : Int) * a1)) + (1 : Int)))]) (by kernel_rfl) (by kernel_rfl) (by kernel_rfl) (allP1 h624) ?_
        refine seqQ_norm ?_
        refine W_seq (by kernel_rfl) ?_
        refine W_run 1 [] [0, 1, 7, 8, 9, 10, 11, 12, 13, 14, 15] [36] (fr' := [(0, aI a0), (1, aI a1), (7, aI x235.1), (8, aI x235.2.1), (9, aI x235.2.2.1), (10, aI (w64 ((4 : Int) * (w64 (a0 + (1 : Int)))))), (11, aI x235.2.2.2), (12, aI (0 : Int)), (13, aI a1), (14, .one (.slc 36)), (15, aI (0 : Int))]) (L' := [(36, .seq tI (List.replicate (Int.toNat (w64 ((w64 ((2 : Int) * a1)) + (1 : Int)))) (0 : Int)))]) (obs := []) (by kernel_rfl) (by kernel_rfl) (by kernel_rfl) allP0 ?_
        refine seqQ_norm ?_
        refine W_seq (by kernel_rfl) ?_
        refine W_block (id := 2) (by kernel_rfl) ?_
        obtain ⟨v669, h670, h⟩ := bind_of h
        refine W_weaken [0, 1, 7, 8, 9, 10, 11, 12, 13, 14, 15] [36] (fr' := ((ref_Busy_s116 a0 a1 x235) ((0 : Int), a1, (0 : Int), List.replicate (Int.toNat (w64 ((w64 ((2 : Int) * a1)) + (1 : Int)))) (0 : Int))).1) (L' := ((ref_Busy_s116 a0 a1 x235) ((0 : Int), a1, (0 : Int), List.replicate (Int.toNat (w64 ((w64 ((2 : Int) * a1)) + (1 : Int)))) (0 : Int))).2) (by kernel_rfl) ?_
        refine W_cutK (W_loop (S := (ref_Busy_s116 a0 a1 x235)) (J := (exQ (.exit 2) (ref_Busy_s117 a0 a1 x235))) (by kernel_rfl) ?_ fuel _ v669 h670) ?_
        · rintro x640 s h
          refine W_seq (by kernel_rfl) ?_
          refine W_seq (by kernel_rfl) ?_
          refine W_run 8 [] [0, 1, 7, 8, 9, 10, 11, 12, 13, 14, 15, 44] [36] (fr' := [(0, aI a0), (1, aI a1), (7, aI x235.1), (8, aI x235.2.1), (9, aI x235.2.2.1), (10, aI (w64 ((4 : Int) * (w64 (a0 + (1 : Int)))))), (11, aI x235.2.2.2), (12, aI x640.1), (13, aI x640.2.1), (14, .one (.slc 36)), (15, aI x640.2.2.1), (44, aB ((decide (x640.2.2.1 < a1)) && (decide (x640.1 < a0))))]) (L' := [(36, .seq tI x640.2.2.2)]) (obs := []) (by kernel_rfl) (by kernel_rfl) (by kernel_rfl) allP0 ?_
          refine seqQ_norm ?_
          refine W_cond (o := .tmp 44) (b := (decide (x640.2.2.1 < a1)) && (decide (x640.1 < a0))) (by kernel_rfl) (by kernel_rfl) (fun h655 => ?_) (fun h655 => ?_)
          · replace h := ofT h655 h
            refine W_skip [0, 1, 7, 8, 9, 10, 11, 12, 13, 14, 15] [36] (fr' := [(0, aI a0), (1, aI a1), (7, aI x235.1), (8, aI x235.2.1), (9, aI x235.2.2.1), (10, aI (w64 ((4 : Int) * (w64 (a0 + (1 : Int)))))), (11, aI x235.2.2.2), (12, aI x640.1), (13, aI x640.2.1), (14, .one (.slc 36)), (15, aI x640.2.2.1)]) (L' := [(36, .seq tI x640.2.2.2)]) (by kernel_rfl) (by kernel_rfl) ?_
            refine seqQ_norm ?_
            refine W_block (id := 3) (by kernel_rfl) ?_
            refine W_seq (by kernel_rfl) ?_
            obtain ⟨v656, h657, h⟩ := bind_of h
            refine W_run 8 [(11, .val (.dat tI v656))] [0, 1, 7, 8, 9, 10, 11, 13, 14, 15, 16] [36] (fr' := [(0, aI a0), (1, aI a1), (7, aI x235.1), (8, aI x235.2.1), (9, aI x235.2.2.1), (10, aI (w64 ((4 : Int) * (w64 (a0 + (1 : Int)))))), (11, aI x235.2.2.2), (13, aI x640.2.1), (14, .one (.slc 36)), (15, aI x640.2.2.1), (16, aI (w64 ((w64 ((2 : Int) * x640.1)) + v656)))]) (L' := [(36, .seq tI x640.2.2.2)]) (obs := [InR x640.2.1 (List.length x640.2.2.2), Idx x640.2.2.2 x640.2.1 v656]) (by kernel_rfl) (by kernel_rfl) (by kernel_rfl) (allP2 (InR.of h657) (allP1 (Idx.of h657))) ?_
            refine seqQ_norm ?_
            refine W_seq (by kernel_rfl) ?_
            refine W_region (by kernel_rfl) ?_
            refine WO_run (j := 7) (k := 7) (orcs := []) (kF := [0, 1, 7, 8, 9, 10, 11, 13, 14, 15, 52, 53, 58]) (kL := [36]) (fr' := [(0, aI a0), (1, aI a1), (7, aI x235.1), (8, aI x235.2.1), (9, aI x235.2.2.1), (10, aI (w64 ((4 : Int) * (w64 (a0 + (1 : Int)))))), (11, aI x235.2.2.2), (13, aI x640.2.1), (14, .one (.slc 36)), (15, aI x640.2.2.1), (52, aI x235.2.2.2), (53, aI (w64 ((4 : Int) * (w64 (a0 + (1 : Int)))))), (58, aI (w64 ((w64 ((w64 ((2 : Int) * a0)) - (1 : Int))) - (w64 ((w64 ((2 : Int) * x640.1)) + v656)))))]) (L' := [(36, .seq tI x640.2.2.2)]) (obs := []) rfl (by kernel_rfl) allP0 ?_
            obtain ⟨r658, h659, h⟩ := bind_of h
            refine WO_call0 (us := [none, none]) (d := 59) (p := True) (j := 8) rfl ⟨by kernel_rfl, by kernel_rfl, by kernel_rfl⟩ trivial (ref_Power_ok h659) (by kernel_rfl) ?_
            obtain ⟨_, h660, h⟩ := bind_of h
            replace h660 := ck_some h660
            obtain ⟨_, h661, h⟩ := bind_of h
            replace h661 := ck_some h661
            refine WO_run (j := 12) (k := 4) (orcs := []) (kF := [0, 1, 7, 8, 9, 10, 11, 13, 14, 15, 17]) (kL := [36]) (fr' := [(0, aI a0), (1, aI a1), (7, aI x235.1), (8, aI x235.2.1), (9, aI x235.2.2.1), (10, aI (w64 ((4 : Int) * (w64 (a0 + (1 : Int)))))), (11, aI x235.2.2.2), (13, aI x640.2.1), (14, .one (.slc 36)), (15, aI x640.2.2.1), (17, aI (Int.tmod (w64 (Int.tdiv x235.2.2.2 r658)) (w64 ((4 : Int) * (w64 (a0 + (1 : Int)))))))]) (L' := [(36, .seq tI x640.2.2.2)]) (obs := [(r658 ≠ 0), (w64 ((4 : Int) * (w64 (a0 + (1 : Int)))) ≠ 0)]) rfl (by kernel_rfl) (allP2 h660 (allP1 h661)) ?_
            refine WO_fin [0, 1, 7, 8, 9, 10, 11, 13, 14, 15, 17] [36] (fr' := [(0, aI a0), (1, aI a1), (7, aI x235.1), (8, aI x235.2.1), (9, aI x235.2.2.1), (10, aI (w64 ((4 : Int) * (w64 (a0 + (1 : Int)))))), (11, aI x235.2.2.2), (13, aI x640.2.1), (14, .one (.slc 36)), (15, aI x640.2.2.1), (17, aI (Int.tmod (w64 (Int.tdiv x235.2.2.2 r658)) (w64 ((4 : Int) * (w64 (a0 + (1 : Int)))))))]) (L' := [(36, .seq tI x640.2.2.2)]) (by kernel_rfl) (by kernel_rfl) ?_
            refine seqQ_norm ?_
            refine W_seq (by kernel_rfl) ?_
            obtain ⟨_, h662, h⟩ := bind_of h
            replace h662 := ck_some h662
            refine W_run 9 [] [0, 1, 7, 8, 9, 10, 11, 13, 14, 15, 17] [36] (fr' := [(0, aI a0), (1, aI a1), (7, aI x235.1), (8, aI x235.2.1), (9, aI x235.2.2.1), (10, aI (w64 ((4 : Int) * (w64 (a0 + (1 : Int)))))), (11, aI x235.2.2.2), (13, aI x640.2.1), (14, .one (.slc 36)), (15, aI x640.2.2.1), (17, aI (Int.tmod (w64 (Int.tdiv x235.2.2.2 r658)) (w64 ((4 : Int) * (w64 (a0 + (1 : Int)))))))]) (L' := [(36, .seq tI (List.set x640.2.2.2 (Int.toNat x640.2.1) (w64 (Int.tdiv (w64 (Int.tdiv (Int.tmod (w64 (Int.tdiv x235.2.2.2 r658)) (w64 ((4 : Int) * (w64 (a0 + (1 : Int)))))) (w64 (a0 + (1 : Int))))) (2 : Int)))))]) (obs := [(w64 (a0 + (1 : Int)) ≠ 0), ((2 : Int) ≠ 0), InR x640.2.1 (List.length x640.2.2.2), InR x640.2.1 (List.length x640.2.2.2)]) (by kernel_rfl) (by kernel_rfl) (by kernel_rfl) (allP2 h662 (allP2 (by decide) (allP2 (InR.of h657) (allP1 (InR.of h657))))) ?_
            refine seqQ_norm ?_
            refine W_seq (by kernel_rfl) ?_
            obtain ⟨v666, h667, h⟩ := bind_of h
            refine W_cutK (Q' := (exQ .normal (ref_Busy_s114 a0 a1 x235 x640 r658)) v666) ?_ ?_
            · replace h := h667
              refine W_seq (by kernel_rfl) ?_
              refine W_run 6 [] [0, 1, 7, 8, 9, 10, 11, 13, 14, 15, 17, 76] [36] (fr' := [(0, aI a0), (1, aI a1), (7, aI x235.1), (8, aI x235.2.1), (9, aI x235.2.2.1), (10, aI (w64 ((4 : Int) * (w64 (a0 + (1 : Int)))))), (11, aI x235.2.2.2), (13, aI x640.2.1), (14, .one (.slc 36)), (15, aI x640.2.2.1), (17, aI (Int.tmod (w64 (Int.tdiv x235.2.2.2 r658)) (w64 ((4 : Int) * (w64 (a0 + (1 : Int))))))), (76, aB ((Int.tmod (w64 (Int.tdiv (Int.tmod (w64 (Int.tdiv x235.2.2.2 r658)) (w64 ((4 : Int) * (w64 (a0 + (1 : Int)))))) (w64 (a0 + (1 : Int))))) (2 : Int)) == (1 : Int)))]) (L' := [(36, .seq tI (List.set x640.2.2.2 (Int.toNat x640.2.1) (w64 (Int.tdiv (w64 (Int.tdiv (Int.tmod (w64 (Int.tdiv x235.2.2.2 r658)) (w64 ((4 : Int) * (w64 (a0 + (1 : Int)))))) (w64 (a0 + (1 : Int))))) (2 : Int)))))]) (obs := [(w64 (a0 + (1 : Int)) ≠ 0), ((2 : Int) ≠ 0)]) (by kernel_rfl) (by kernel_rfl) (by kernel_rfl) (allP2 h662 (allP1 (by decide))) ?_
              refine seqQ_norm ?_
              refine W_cond (o := .tmp 76) (b := (Int.tmod (w64 (Int.tdiv (Int.tmod (w64 (Int.tdiv x235.2.2.2 r658)) (w64 ((4 : Int) * (w64 (a0 + (1 : Int)))))) (w64 (a0 + (1 : Int))))) (2 : Int)) == (1 : Int)) (by kernel_rfl) (by kernel_rfl) (fun h665 => ?_) (fun h665 => ?_)
              · replace h := ofT h665 h
                obtain rfl := Option.some.inj h
                refine W_run 3 [] [0, 1, 7, 8, 9, 10, 11, 13, 14, 15, 17] [36] (fr' := [(0, aI a0), (1, aI a1), (7, aI x235.1), (8, aI x235.2.1), (9, aI x235.2.2.1), (10, aI (w64 ((4 : Int) * (w64 (a0 + (1 : Int)))))), (11, aI x235.2.2.2), (13, aI (w64 (x640.2.1 + (1 : Int)))), (14, .one (.slc 36)), (15, aI x640.2.2.1), (17, aI (Int.tmod (w64 (Int.tdiv x235.2.2.2 r658)) (w64 ((4 : Int) * (w64 (a0 + (1 : Int)))))))]) (L' := [(36, .seq tI (List.set x640.2.2.2 (Int.toNat x640.2.1) (w64 (Int.tdiv (w64 (Int.tdiv (Int.tmod (w64 (Int.tdiv x235.2.2.2 r658)) (w64 ((4 : Int) * (w64 (a0 + (1 : Int)))))) (w64 (a0 + (1 : Int))))) (2 : Int)))))]) (obs := []) (by kernel_rfl) (by kernel_rfl) (by kernel_rfl) allP0 ?_
                exact exQ_mk (by kernel_rfl) (by kernel_rfl)
              · replace h := ofF h665 h
                obtain rfl := Option.some.inj h
                refine W_run 3 [] [0, 1, 7, 8, 9, 10, 11, 13, 14, 15, 17] [36] (fr' := [(0, aI a0), (1, aI a1), (7, aI x235.1), (8, aI x235.2.1), (9, aI x235.2.2.1), (10, aI (w64 ((4 : Int) * (w64 (a0 + (1 : Int)))))), (11, aI x235.2.2.2), (13, aI (w64 (x640.2.1 - (1 : Int)))), (14, .one (.slc 36)), (15, aI x640.2.2.1), (17, aI (Int.tmod (w64 (Int.tdiv x235.2.2.2 r658)) (w64 ((4 : Int) * (w64 (a0 + (1 : Int)))))))]) (L' := [(36, .seq tI (List.set x640.2.2.2 (Int.toNat x640.2.1) (w64 (Int.tdiv (w64 (Int.tdiv (Int.tmod (w64 (Int.tdiv x235.2.2.2 r658)) (w64 ((4 : Int) * (w64 (a0 + (1 : Int)))))) (w64 (a0 + (1 : Int))))) (2 : Int)))))]) (obs := []) (by kernel_rfl) (by kernel_rfl) (by kernel_rfl) allP0 ?_
                exact exQ_mk (by kernel_rfl) (by kernel_rfl)
            · intro e fr L hJ
              obtain ⟨rfl, rfl, rfl⟩ := hJ
              refine LT_keep [0, 1, 7, 8, 9, 10, 11, 13, 14, 15, 17] [36] (fr' := [(0, aI a0), (1, aI a1), (7, aI x235.1), (8, aI x235.2.1), (9, aI x235.2.2.1), (10, aI (w64 ((4 : Int) * (w64 (a0 + (1 : Int)))))), (11, aI x235.2.2.2), (13, aI v666), (14, .one (.slc 36)), (15, aI x640.2.2.1), (17, aI (Int.tmod (w64 (Int.tdiv x235.2.2.2 r658)) (w64 ((4 : Int) * (w64 (a0 + (1 : Int)))))))]) (L' := [(36, .seq tI (List.set x640.2.2.2 (Int.toNat x640.2.1) (w64 (Int.tdiv (w64 (Int.tdiv (Int.tmod (w64 (Int.tdiv x235.2.2.2 r658)) (w64 ((4 : Int) * (w64 (a0 + (1 : Int)))))) (w64 (a0 + (1 : Int))))) (2 : Int)))))]) (by kernel_rfl) ?_
              refine seqQ_norm ?_
              refine W_seq (by kernel_rfl) ?_
              refine W_run 5 [] [0, 1, 7, 8, 9, 10, 11, 12, 13, 14, 15] [36] (fr' := [(0, aI a0), (1, aI a1), (7, aI x235.1), (8, aI x235.2.1), (9, aI x235.2.2.1), (10, aI (w64 ((4 : Int) * (w64 (a0 + (1 : Int)))))), (11, aI x235.2.2.2), (12, aI (Int.tmod (Int.tmod (w64 (Int.tdiv x235.2.2.2 r658)) (w64 ((4 : Int) * (w64 (a0 + (1 : Int)))))) (w64 (a0 + (1 : Int))))), (13, aI v666), (14, .one (.slc 36)), (15, aI x640.2.2.1)]) (L' := [(36, .seq tI (List.set x640.2.2.2 (Int.toNat x640.2.1) (w64 (Int.tdiv (w64 (Int.tdiv (Int.tmod (w64 (Int.tdiv x235.2.2.2 r658)) (w64 ((4 : Int) * (w64 (a0 + (1 : Int)))))) (w64 (a0 + (1 : Int))))) (2 : Int)))))]) (obs := [(w64 (a0 + (1 : Int)) ≠ 0)]) (by kernel_rfl) (by kernel_rfl) (by kernel_rfl) (allP1 h662) ?_
              refine seqQ_norm ?_
              refine W_seq (by kernel_rfl) ?_
              refine W_run 3 [] [0, 1, 7, 8, 9, 10, 11, 12, 13, 14, 15] [36] (fr' := [(0, aI a0), (1, aI a1), (7, aI x235.1), (8, aI x235.2.1), (9, aI x235.2.2.1), (10, aI (w64 ((4 : Int) * (w64 (a0 + (1 : Int)))))), (11, aI x235.2.2.2), (12, aI (Int.tmod (Int.tmod (w64 (Int.tdiv x235.2.2.2 r658)) (w64 ((4 : Int) * (w64 (a0 + (1 : Int)))))) (w64 (a0 + (1 : Int))))), (13, aI v666), (14, .one (.slc 36)), (15, aI (w64 (x640.2.2.1 + (1 : Int))))]) (L' := [(36, .seq tI (List.set x640.2.2.2 (Int.toNat x640.2.1) (w64 (Int.tdiv (w64 (Int.tdiv (Int.tmod (w64 (Int.tdiv x235.2.2.2 r658)) (w64 ((4 : Int) * (w64 (a0 + (1 : Int)))))) (w64 (a0 + (1 : Int))))) (2 : Int)))))]) (obs := []) (by kernel_rfl) (by kernel_rfl) (by kernel_rfl) allP0 ?_
              refine seqQ_norm ?_
              refine W_seq (by kernel_rfl) ?_
              refine W_run 8 [] [0, 1, 7, 8, 9, 10, 11, 12, 13, 14, 15, 94] [36] (fr' := [(0, aI a0), (1, aI a1), (7, aI x235.1), (8, aI x235.2.1), (9, aI x235.2.2.1), (10, aI (w64 ((4 : Int) * (w64 (a0 + (1 : Int)))))), (11, aI x235.2.2.2), (12, aI (Int.tmod (Int.tmod (w64 (Int.tdiv x235.2.2.2 r658)) (w64 ((4 : Int) * (w64 (a0 + (1 : Int)))))) (w64 (a0 + (1 : Int))))), (13, aI v666), (14, .one (.slc 36)), (15, aI (w64 (x640.2.2.1 + (1 : Int)))), (94, aB ((decide (v666 < (0 : Int))) || (decide (v666 > (w64 ((2 : Int) * a1))))))]) (L' := [(36, .seq tI (List.set x640.2.2.2 (Int.toNat x640.2.1) (w64 (Int.tdiv (w64 (Int.tdiv (Int.tmod (w64 (Int.tdiv x235.2.2.2 r658)) (w64 ((4 : Int) * (w64 (a0 + (1 : Int)))))) (w64 (a0 + (1 : Int))))) (2 : Int)))))]) (obs := []) (by kernel_rfl) (by kernel_rfl) (by kernel_rfl) allP0 ?_
              refine seqQ_norm ?_
              refine W_cond (o := .tmp 94) (b := (decide (v666 < (0 : Int))) || (decide (v666 > (w64 ((2 : Int) * a1))))) (by kernel_rfl) (by kernel_rfl) (fun h668 => ?_) (fun h668 => ?_)
              · replace h := ofT h668 h
                obtain rfl := Option.some.inj h
                refine W_exit (id := 2) [0, 1, 7, 8, 9, 10, 11, 12, 14, 15] [36] (fr' := [(0, aI a0), (1, aI a1), (7, aI x235.1), (8, aI x235.2.1), (9, aI x235.2.2.1), (10, aI (w64 ((4 : Int) * (w64 (a0 + (1 : Int)))))), (11, aI x235.2.2.2), (12, aI (Int.tmod (Int.tmod (w64 (Int.tdiv x235.2.2.2 r658)) (w64 ((4 : Int) * (w64 (a0 + (1 : Int)))))) (w64 (a0 + (1 : Int))))), (14, .one (.slc 36)), (15, aI (w64 (x640.2.2.1 + (1 : Int))))]) (L' := [(36, .seq tI (List.set x640.2.2.2 (Int.toNat x640.2.1) (w64 (Int.tdiv (w64 (Int.tdiv (Int.tmod (w64 (Int.tdiv x235.2.2.2 r658)) (w64 ((4 : Int) * (w64 (a0 + (1 : Int)))))) (w64 (a0 + (1 : Int))))) (2 : Int)))))]) (by kernel_rfl) (by kernel_rfl) ?_
                refine blockQ_miss rfl ?_
                refine round_exit ?_
                exact exQ_mk (by kernel_rfl) (by kernel_rfl)
              · replace h := ofF h668 h
                obtain rfl := Option.some.inj h
                refine W_skip [0, 1, 7, 8, 9, 10, 11, 12, 13, 14, 15] [36] (fr' := [(0, aI a0), (1, aI a1), (7, aI x235.1), (8, aI x235.2.1), (9, aI x235.2.2.1), (10, aI (w64 ((4 : Int) * (w64 (a0 + (1 : Int)))))), (11, aI x235.2.2.2), (12, aI (Int.tmod (Int.tmod (w64 (Int.tdiv x235.2.2.2 r658)) (w64 ((4 : Int) * (w64 (a0 + (1 : Int)))))) (w64 (a0 + (1 : Int))))), (13, aI v666), (14, .one (.slc 36)), (15, aI (w64 (x640.2.2.1 + (1 : Int))))]) (L' := [(36, .seq tI (List.set x640.2.2.2 (Int.toNat x640.2.1) (w64 (Int.tdiv (w64 (Int.tdiv (Int.tmod (w64 (Int.tdiv x235.2.2.2 r658)) (w64 ((4 : Int) * (w64 (a0 + (1 : Int)))))) (w64 (a0 + (1 : Int))))) (2 : Int)))))]) (by kernel_rfl) (by kernel_rfl) ?_
                refine blockQ_norm ?_
                exact round_next' (by kernel_rfl) (by kernel_rfl)
          · replace h := ofF h655 h
            obtain rfl := Option.some.inj h
            refine W_exit (id := 2) [0, 1, 7, 8, 9, 10, 11, 12, 14, 15] [36] (fr' := [(0, aI a0), (1, aI a1), (7, aI x235.1), (8, aI x235.2.1), (9, aI x235.2.2.1), (10, aI (w64 ((4 : Int) * (w64 (a0 + (1 : Int)))))), (11, aI x235.2.2.2), (12, aI x640.1), (14, .one (.slc 36)), (15, aI x640.2.2.1)]) (L' := [(36, .seq tI x640.2.2.2)]) (by kernel_rfl) (by kernel_rfl) ?_
            refine seqQ_exit ?_
            refine round_exit ?_
            exact exQ_mk (by kernel_rfl) (by kernel_rfl)
        · intro e fr L hJ
          obtain ⟨rfl, rfl, rfl⟩ := hJ
          refine LT_keep [0, 1, 7, 8, 9, 10, 11, 12, 14, 15] [36] (fr' := [(0, aI a0), (1, aI a1), (7, aI x235.1), (8, aI x235.2.1), (9, aI x235.2.2.1), (10, aI (w64 ((4 : Int) * (w64 (a0 + (1 : Int)))))), (11, aI x235.2.2.2), (12, aI v669.1), (14, .one (.slc 36)), (15, aI v669.2.1)]) (L' := [(36, .seq tI v669.2.2)]) (by kernel_rfl) ?_
          refine blockQ_hit ?_
          refine seqQ_norm ?_
          refine W_seq (by kernel_rfl) ?_
          refine W_seq (by kernel_rfl) ?_
          refine W_run 3 [] [0, 1, 7, 8, 9, 10, 11, 14, 15, 97] [36] (fr' := [(0, aI a0), (1, aI a1), (7, aI x235.1), (8, aI x235.2.1), (9, aI x235.2.2.1), (10, aI (w64 ((4 : Int) * (w64 (a0 + (1 : Int)))))), (11, aI x235.2.2.2), (14, .one (.slc 36)), (15, aI v669.2.1), (97, aB (decide (v669.1 < a0)))]) (L' := [(36, .seq tI v669.2.2)]) (obs := []) (by kernel_rfl) (by kernel_rfl) (by kernel_rfl) allP0 ?_
          refine seqQ_norm ?_
          refine W_cond (o := .tmp 97) (b := decide (v669.1 < a0)) (by kernel_rfl) (by kernel_rfl) (fun h673 => ?_) (fun h673 => ?_)
          · replace h := ofT h673 h
            obtain rfl := Option.some.inj h
            refine W_exit (id := 1) [0, 1, 7, 8, 9, 10, 11] [] (fr' := [(0, aI a0), (1, aI a1), (7, aI x235.1), (8, aI x235.2.1), (9, aI x235.2.2.1), (10, aI (w64 ((4 : Int) * (w64 (a0 + (1 : Int)))))), (11, aI x235.2.2.2)]) (L' := []) (by kernel_rfl) (by kernel_rfl) ?_
            refine seqQ_exit ?_
            refine blockQ_hit ?_
            exact exQ_mk (by kernel_rfl) (by kernel_rfl)
          · replace h := ofF h673 h
            refine W_skip [0, 1, 7, 8, 9, 10, 11, 14, 15] [36] (fr' := [(0, aI a0), (1, aI a1), (7, aI x235.1), (8, aI x235.2.1), (9, aI x235.2.2.1), (10, aI (w64 ((4 : Int) * (w64 (a0 + (1 : Int)))))), (11, aI x235.2.2.2), (14, .one (.slc 36)), (15, aI v669.2.1)]) (L' := [(36, .seq tI v669.2.2)]) (by kernel_rfl) (by kernel_rfl) ?_
            refine seqQ_norm ?_
            refine W_seq (by kernel_rfl) ?_
            refine W_run 3 [] [0, 1, 7, 8, 9, 10, 11, 14, 15] [36] (fr' := [(0, aI a0), (1, aI a1), (7, aI x235.1), (8, aI x235.2.1), (9, aI (w64 (x235.2.2.1 + (1 : Int)))), (10, aI (w64 ((4 : Int) * (w64 (a0 + (1 : Int)))))), (11, aI x235.2.2.2), (14, .one (.slc 36)), (15, aI v669.2.1)]) (L' := [(36, .seq tI v669.2.2)]) (obs := []) (by kernel_rfl) (by kernel_rfl) (by kernel_rfl) allP0 ?_
            refine seqQ_norm ?_
            refine W_seq (by kernel_rfl) ?_
            obtain ⟨v677, h678, h⟩ := bind_of h
            refine W_cutK (Q' := (exQ .normal (ref_Busy_s121 a0 a1 x235 v669)) v677) ?_ ?_
            · replace h := h678
              refine W_seq (by kernel_rfl) ?_
              refine W_run 3 [] [0, 1, 7, 8, 9, 10, 11, 14, 15, 102] [36] (fr' := [(0, aI a0), (1, aI a1), (7, aI x235.1), (8, aI x235.2.1), (9, aI (w64 (x235.2.2.1 + (1 : Int)))), (10, aI (w64 ((4 : Int) * (w64 (a0 + (1 : Int)))))), (11, aI x235.2.2.2), (14, .one (.slc 36)), (15, aI v669.2.1), (102, aB (decide (v669.2.1 > x235.1)))]) (L' := [(36, .seq tI v669.2.2)]) (obs := []) (by kernel_rfl) (by kernel_rfl) (by kernel_rfl) allP0 ?_
              refine seqQ_norm ?_
              refine W_cond (o := .tmp 102) (b := decide (v669.2.1 > x235.1)) (by kernel_rfl) (by kernel_rfl) (fun h676 => ?_) (fun h676 => ?_)
              · replace h := ofT h676 h
                obtain rfl := Option.some.inj h
                refine W_run 2 [] [0, 1, 7, 8, 9, 10, 11, 14] [36] (fr' := [(0, aI a0), (1, aI a1), (7, aI v669.2.1), (8, aI x235.2.1), (9, aI (w64 (x235.2.2.1 + (1 : Int)))), (10, aI (w64 ((4 : Int) * (w64 (a0 + (1 : Int)))))), (11, aI x235.2.2.2), (14, .one (.slc 36))]) (L' := [(36, .seq tI v669.2.2)]) (obs := []) (by kernel_rfl) (by kernel_rfl) (by kernel_rfl) allP0 ?_
                exact exQ_mk (by kernel_rfl) (by kernel_rfl)
              · replace h := ofF h676 h
                obtain rfl := Option.some.inj h
                refine W_skip [0, 1, 7, 8, 9, 10, 11, 14] [36] (fr' := [(0, aI a0), (1, aI a1), (7, aI x235.1), (8, aI x235.2.1), (9, aI (w64 (x235.2.2.1 + (1 : Int)))), (10, aI (w64 ((4 : Int) * (w64 (a0 + (1 : Int)))))), (11, aI x235.2.2.2), (14, .one (.slc 36))]) (L' := [(36, .seq tI v669.2.2)]) (by kernel_rfl) (by kernel_rfl) ?_
                exact exQ_mk (by kernel_rfl) (by kernel_rfl)
            · intro e fr L hJ
              obtain ⟨rfl, rfl, rfl⟩ := hJ
              refine LT_keep [0, 1, 7, 8, 9, 10, 11, 14] [36] (fr' := [(0, aI a0), (1, aI a1), (7, aI v677), (8, aI x235.2.1), (9, aI (w64 (x235.2.2.1 + (1 : Int)))), (10, aI (w64 ((4 : Int) * (w64 (a0 + (1 : Int)))))), (11, aI x235.2.2.2), (14, .one (.slc 36))]) (L' := [(36, .seq tI v669.2.2)]) (by kernel_rfl) ?_
              refine seqQ_norm ?_
              refine W_seq (by kernel_rfl) ?_
              refine W_run 1 [] [0, 1, 7, 8, 9, 10, 11, 14, 18] [36] (fr' := [(0, aI a0), (1, aI a1), (7, aI v677), (8, aI x235.2.1), (9, aI (w64 (x235.2.2.1 + (1 : Int)))), (10, aI (w64 ((4 : Int) * (w64 (a0 + (1 : Int)))))), (11, aI x235.2.2.2), (14, .one (.slc 36)), (18, aI (0 : Int))]) (L' := [(36, .seq tI v669.2.2)]) (obs := []) (by kernel_rfl) (by kernel_rfl) (by kernel_rfl) allP0 ?_
              refine seqQ_norm ?_
              refine W_seq (by kernel_rfl) ?_
              refine W_seq (by kernel_rfl) ?_
              refine W_run 3 [] [0, 1, 7, 8, 9, 10, 11, 18, 104, 105, 106] [36] (fr' := [(0, aI a0), (1, aI a1), (7, aI v677), (8, aI x235.2.1), (9, aI (w64 (x235.2.2.1 + (1 : Int)))), (10, aI (w64 ((4 : Int) * (w64 (a0 + (1 : Int)))))), (11, aI x235.2.2.2), (18, aI (0 : Int)), (104, .one (.slc 36)), (105, aI (List.length v669.2.2 : Int)), (106, aI (0 : Int))]) (L' := [(36, .seq tI v669.2.2)]) (obs := []) (by kernel_rfl) (by kernel_rfl) (by kernel_rfl) allP0 ?_
              refine seqQ_norm ?_
              refine W_block (id := 4) (by kernel_rfl) ?_
              obtain ⟨v694, h695, h⟩ := bind_of h
              refine W_lenS (s := 36) (u := tI) (xs := v669.2.2) (by kernel_rfl) (fun h698 => ?_)
              obtain ⟨h696, h697⟩ := forL_iter h698 h695
              refine W_weaken [0, 1, 7, 8, 9, 10, 11, 18, 104, 105, 106] [36] (fr' := ((ref_Busy_s119 a0 a1 x235 v669 v677) ((0 : Int), (0 : Int))).1) (L' := ((ref_Busy_s119 a0 a1 x235 v669 v677) ((0 : Int), (0 : Int))).2) (by kernel_rfl) ?_
              refine W_cutK (W_loop (S := (ref_Busy_s119 a0 a1 x235 v669 v677)) (J := (exQ (.exit 4) (ref_Busy_s120 a0 a1 x235 v677))) (by kernel_rfl) ?_ h696 _ v694 h697) ?_
              · rintro ⟨i687, x688⟩ s h
                refine W_seq (by kernel_rfl) ?_
                refine W_run 1 [] [0, 1, 7, 8, 9, 10, 11, 18, 104, 105, 106, 107] [36] (fr' := [(0, aI a0), (1, aI a1), (7, aI v677), (8, aI x235.2.1), (9, aI (w64 (x235.2.2.1 + (1 : Int)))), (10, aI (w64 ((4 : Int) * (w64 (a0 + (1 : Int)))))), (11, aI x235.2.2.2), (18, aI x688), (104, .one (.slc 36)), (105, aI (List.length v669.2.2 : Int)), (106, aI i687), (107, aB (decide (i687 < (List.length v669.2.2 : Int))))]) (L' := [(36, .seq tI v669.2.2)]) (obs := []) (by kernel_rfl) (by kernel_rfl) (by kernel_rfl) allP0 ?_
                refine seqQ_norm ?_
                refine W_seq (by kernel_rfl) ?_
                refine W_cond (o := .tmp 107) (b := decide (i687 < (List.length v669.2.2 : Int))) (by kernel_rfl) (by kernel_rfl) (fun h692 => ?_) (fun h692 => ?_)
                · replace h := stepL_true h692 h
                  obtain ⟨v690, _, h691, h, rfl⟩ := h
                  refine W_skip [0, 1, 7, 8, 9, 10, 11, 18, 104, 105, 106] [36] (fr' := [(0, aI a0), (1, aI a1), (7, aI v677), (8, aI x235.2.1), (9, aI (w64 (x235.2.2.1 + (1 : Int)))), (10, aI (w64 ((4 : Int) * (w64 (a0 + (1 : Int)))))), (11, aI x235.2.2.2), (18, aI x688), (104, .one (.slc 36)), (105, aI (List.length v669.2.2 : Int)), (106, aI i687)]) (L' := [(36, .seq tI v669.2.2)]) (by kernel_rfl) (by kernel_rfl) ?_
                  refine seqQ_norm ?_
                  refine W_seq (by kernel_rfl) ?_
                  refine W_block (id := 5) (by kernel_rfl) ?_
                  refine W_seq (by kernel_rfl) ?_
                  refine W_run 3 [(3, .val (.dat tI v690))] [0, 1, 7, 8, 9, 10, 11, 18, 20, 104, 105, 106] [36] (fr' := [(0, aI a0), (1, aI a1), (7, aI v677), (8, aI x235.2.1), (9, aI (w64 (x235.2.2.1 + (1 : Int)))), (10, aI (w64 ((4 : Int) * (w64 (a0 + (1 : Int)))))), (11, aI x235.2.2.2), (18, aI x688), (20, aI v690), (104, .one (.slc 36)), (105, aI (List.length v669.2.2 : Int)), (106, aI i687)]) (L' := [(36, .seq tI v669.2.2)]) (obs := [InR i687 (List.length v669.2.2), Idx v669.2.2 i687 v690]) (by kernel_rfl) (by kernel_rfl) (by kernel_rfl) (allP2 (InR.of h691) (allP1 (Idx.of h691))) ?_
                  refine seqQ_norm ?_
                  refine W_run 4 [] [0, 1, 7, 8, 9, 10, 11, 18, 104, 105, 106] [36] (fr' := [(0, aI a0), (1, aI a1), (7, aI v677), (8, aI x235.2.1), (9, aI (w64 (x235.2.2.1 + (1 : Int)))), (10, aI (w64 ((4 : Int) * (w64 (a0 + (1 : Int)))))), (11, aI x235.2.2.2), (18, aI (w64 (x688 + v690))), (104, .one (.slc 36)), (105, aI (List.length v669.2.2 : Int)), (106, aI i687)]) (L' := [(36, .seq tI v669.2.2)]) (obs := []) (by kernel_rfl) (by kernel_rfl) (by kernel_rfl) allP0 ?_
                  refine blockQ_norm ?_
                  refine seqQ_norm ?_
                  obtain rfl := Option.some.inj h
                  refine W_run 2 [] [0, 1, 7, 8, 9, 10, 11, 18, 104, 105, 106] [36] (fr' := [(0, aI a0), (1, aI a1), (7, aI v677), (8, aI x235.2.1), (9, aI (w64 (x235.2.2.1 + (1 : Int)))), (10, aI (w64 ((4 : Int) * (w64 (a0 + (1 : Int)))))), (11, aI x235.2.2.2), (18, aI (w64 (x688 + v690))), (104, .one (.slc 36)), (105, aI (List.length v669.2.2 : Int)), (106, aI (w64 (i687 + (1 : Int))))]) (L' := [(36, .seq tI v669.2.2)]) (obs := []) (by kernel_rfl) (by kernel_rfl) (by kernel_rfl) allP0 ?_
                  exact round_next' (by kernel_rfl) (by kernel_rfl)
                · obtain rfl := stepL_false h692 h
                  refine W_exit (id := 4) [0, 1, 7, 8, 9, 10, 11, 18] [] (fr' := [(0, aI a0), (1, aI a1), (7, aI v677), (8, aI x235.2.1), (9, aI (w64 (x235.2.2.1 + (1 : Int)))), (10, aI (w64 ((4 : Int) * (w64 (a0 + (1 : Int)))))), (11, aI x235.2.2.2), (18, aI x688)]) (L' := []) (by kernel_rfl) (by kernel_rfl) ?_
                  refine seqQ_exit ?_
                  refine round_exit ?_
                  exact exQ_mk (by kernel_rfl) (by kernel_rfl)
              · intro e fr L hJ
                obtain ⟨rfl, rfl, rfl⟩ := hJ
                refine LT_keep [0, 1, 7, 8, 9, 10, 11, 18] [] (fr' := [(0, aI a0), (1, aI a1), (7, aI v677), (8, aI x235.2.1), (9, aI (w64 (x235.2.2.1 + (1 : Int)))), (10, aI (w64 ((4 : Int) * (w64 (a0 + (1 : Int)))))), (11, aI x235.2.2.2), (18, aI v694)]) (L' := []) (by kernel_rfl) ?_
                refine blockQ_hit ?_
                refine seqQ_norm ?_
                refine W_seq (by kernel_rfl) ?_
                refine W_run 3 [] [0, 1, 7, 8, 9, 10, 11, 18, 116] [] (fr' := [(0, aI a0), (1, aI a1), (7, aI v677), (8, aI x235.2.1), (9, aI (w64 (x235.2.2.1 + (1 : Int)))), (10, aI (w64 ((4 : Int) * (w64 (a0 + (1 : Int)))))), (11, aI x235.2.2.2), (18, aI v694), (116, aB (decide (v694 > x235.2.1)))]) (L' := []) (obs := []) (by kernel_rfl) (by kernel_rfl) (by kernel_rfl) allP0 ?_
                refine seqQ_norm ?_
                refine W_cond (o := .tmp 116) (b := decide (v694 > x235.2.1)) (by kernel_rfl) (by kernel_rfl) (fun h699 => ?_) (fun h699 => ?_)
                · replace h := ofT h699 h
                  obtain rfl := Option.some.inj h
                  refine W_run 2 [] [0, 1, 7, 8, 9, 10, 11] [] (fr' := [(0, aI a0), (1, aI a1), (7, aI v677), (8, aI v694), (9, aI (w64 (x235.2.2.1 + (1 : Int)))), (10, aI (w64 ((4 : Int) * (w64 (a0 + (1 : Int)))))), (11, aI x235.2.2.2)]) (L' := []) (obs := []) (by kernel_rfl) (by kernel_rfl) (by kernel_rfl) allP0 ?_
                  refine blockQ_norm ?_
                  exact exQ_mk (by kernel_rfl) (by kernel_rfl)
                · replace h := ofF h699 h
                  obtain rfl := Option.some.inj h
                  refine W_skip [0, 1, 7, 8, 9, 10, 11] [] (fr' := [(0, aI a0), (1, aI a1), (7, aI v677), (8, aI x235.2.1), (9, aI (w64 (x235.2.2.1 + (1 : Int)))), (10, aI (w64 ((4 : Int) * (w64 (a0 + (1 : Int)))))), (11, aI x235.2.2.2)]) (L' := []) (by kernel_rfl) (by kernel_rfl) ?_
                  refine blockQ_norm ?_
                  exact exQ_mk (by kernel_rfl) (by kernel_rfl)
      · intro e fr L hJ
        obtain ⟨rfl, rfl, rfl⟩ := hJ
        refine LT_keep [0, 1, 7, 8, 9, 10, 11] [] (fr' := [(0, aI a0), (1, aI a1), (7, aI v700.1), (8, aI v700.2.1), (9, aI v700.2.2), (10, aI (w64 ((4 : Int) * (w64 (a0 + (1 : Int)))))), (11, aI x235.2.2.2)]) (L' := []) (by kernel_rfl) ?_
        refine seqQ_norm ?_
        obtain rfl := Option.some.inj h
        refine W_run 3 [] [0, 1, 7, 8, 9, 10, 11] [] (fr' := [(0, aI a0), (1, aI a1), (7, aI v700.1), (8, aI v700.2.1), (9, aI v700.2.2), (10, aI (w64 ((4 : Int) * (w64 (a0 + (1 : Int)))))), (11, aI (w64 (x235.2.2.2 + (1 : Int))))]) (L' := []) (obs := []) (by kernel_rfl) (by kernel_rfl) (by kernel_rfl) allP0 ?_
        exact round_next' (by kernel_rfl) (by kernel_rfl)
    · replace h := ofF h471 h
      obtain rfl := Option.some.inj h
      refine W_exit (id := 0) [7, 8, 9] [] (fr' := [(7, aI x235.1), (8, aI x235.2.1), (9, aI x235.2.2.1)]) (L' := []) (by kernel_rfl) (by kernel_rfl) ?_
      refine seqQ_exit ?_
      refine round_exit ?_
      exact exQ_mk (by kernel_rfl) (by kernel_rfl)
  · intro e fr L hJ
    obtain ⟨rfl, rfl, rfl⟩ := hJ
    refine LT_keep [7, 8, 9] [] (fr' := [(7, aI v702.1), (8, aI v702.2.1), (9, aI v702.2.2)]) (L' := []) (by kernel_rfl) ?_
    refine blockQ_hit ?_
    refine seqQ_norm ?_
    refine W_seq (by kernel_rfl) ?_
    refine W_run 6 [] [4, 5, 6] [] (fr' := [(4, aI v702.1), (5, aI v702.2.1), (6, aI v702.2.2)]) (L' := []) (obs := []) (by kernel_rfl) (by kernel_rfl) (by kernel_rfl) allP0 ?_
    refine seqQ_norm ?_
    obtain rfl := Option.some.inj h
    refine W_ret [4, 5, 6] [] (fr' := [(4, aI v702.1), (5, aI v702.2.1), (6, aI v702.2.2)]) (L' := []) (by kernel_rfl) (by kernel_rfl) ?_
    exact retQ_mk (by kernel_rfl) (by kernel_rfl) (by kernel_rfl)

noncomputable def law_BusyMost_g1 (a0 : Int) (a1 : Int) : Option Int :=
(ref_Within (1 : Int) a0 (2 : Int)).bind fun r15 =>
bif !r15 then
(some (1 : Int))
else
((ref_Within (0 : Int) a1 (60 : Int)).bind fun r18 =>
bif !r18 then
(some (7 : Int))
else
(some (0 : Int)))
@[reducible] noncomputable def law_BusyMost_s2 (a0 : Int) (a1 : Int) (r1 : (Int × Int × Int × Int)) (v : Int) : Fr × LL := ([(0, aI a0), (1, aI a1), (5, aI r1.1), (6, aI r1.2.1), (7, aI r1.2.2.1), (8, aI r1.2.2.2), (9, aI v)], [])
noncomputable def law_BusyMost (fuel : Nat) (a0 : Int) (a1 : Int) : Option Bool :=
(busy_Most fuel a0 a1).bind fun r1 =>
(law_BusyMost_g1 a0 a1).bind fun v21 =>
bif v21 != (0 : Int) then
(some ((((r1.2.2.2 == v21) && (r1.1 == (0 : Int))) && (r1.2.1 == (0 : Int))) && (r1.2.2.1 == (0 : Int))))
else
((ref_Busy fuel a0 a1).bind fun r24 =>
some ((((r1.2.2.2 == (0 : Int)) && (r1.1 == r24.1)) && (r1.2.1 == r24.2.1)) && (r1.2.2.1 == r24.2.2)))
theorem law_BusyMost_ok {fuel : Nat} {a0 : Int} {a1 : Int} {r : Bool} (h : law_BusyMost fuel a0 a1 = some r) : FnC Try.prog 10 [aI a0, aI a1] [] (aB r) [] := by
  refine fnC_of_W (B := bodyOf Try.f10) (n := 68) Try.func10 (by kernel_rfl) (by kernel_rfl) (by kernel_rfl) (by kernel_rfl) (by kernel_rfl) ?_
  intro K
  refine W_seq (by kernel_rfl) ?_
  refine W_run 1 [] [0, 1] [] (fr' := [(0, aI a0), (1, aI a1)]) (L' := []) (obs := []) (by kernel_rfl) (by kernel_rfl) (by kernel_rfl) allP0 ?_
  refine seqQ_norm ?_
  refine W_seq (by kernel_rfl) ?_
  refine W_region (by kernel_rfl) ?_
  refine WO_run (j := 2) (k := 2) (orcs := []) (kF := [0, 1, 14, 15]) (kL := []) (fr' := [(0, aI a0), (1, aI a1), (14, aI a0), (15, aI a1)]) (L' := []) (obs := []) rfl (by kernel_rfl) allP0 ?_
  obtain ⟨r1, h2, h⟩ := bind_of h
  refine WO_call0 (us := [none, none]) (d := 16) (p := True) (j := 3) rfl ⟨by kernel_rfl, by kernel_rfl, by kernel_rfl⟩ trivial (busy_Most_ok h2) (by kernel_rfl) ?_
  refine WO_run (j := 12) (k := 9) (orcs := []) (kF := [0, 1, 5, 6, 7, 8]) (kL := []) (fr' := [(0, aI a0), (1, aI a1), (5, aI r1.1), (6, aI r1.2.1), (7, aI r1.2.2.1), (8, aI r1.2.2.2)]) (L' := []) (obs := []) rfl (by kernel_rfl) allP0 ?_
  refine WO_fin [0, 1, 5, 6, 7, 8] [] (fr' := [(0, aI a0), (1, aI a1), (5, aI r1.1), (6, aI r1.2.1), (7, aI r1.2.2.1), (8, aI r1.2.2.2)]) (L' := []) (by kernel_rfl) (by kernel_rfl) ?_
  refine seqQ_norm ?_
  refine W_seq (by kernel_rfl) ?_
  refine W_run 1 [] [0, 1, 5, 6, 7, 8, 9] [] (fr' := [(0, aI a0), (1, aI a1), (5, aI r1.1), (6, aI r1.2.1), (7, aI r1.2.2.1), (8, aI r1.2.2.2), (9, aI (0 : Int))]) (L' := []) (obs := []) (by kernel_rfl) (by kernel_rfl) (by kernel_rfl) allP0 ?_
  refine seqQ_norm ?_
  refine W_seq (by kernel_rfl) ?_
  obtain ⟨v21, h22, h⟩ := bind_of h
  refine W_cutK (Q' := (exQ .normal (law_BusyMost_s2 a0 a1 r1)) v21) ?_ ?_
  · replace h := h22
    refine W_seq (by kernel_rfl) ?_
    refine W_region (by kernel_rfl) ?_
    refine WO_run (j := 1) (k := 1) (orcs := []) (kF := [0, 1, 5, 6, 7, 8, 9, 21]) (kL := []) (fr' := [(0, aI a0), (1, aI a1), (5, aI r1.1), (6, aI r1.2.1), (7, aI r1.2.2.1), (8, aI r1.2.2.2), (9, aI (0 : Int)), (21, aI a0)]) (L' := []) (obs := []) rfl (by kernel_rfl) allP0 ?_
    obtain ⟨r15, h16, h⟩ := bind_of h
    refine WO_call0 (us := [none, none, none]) (d := 22) (p := True) (j := 2) rfl ⟨by kernel_rfl, by kernel_rfl, by kernel_rfl⟩ trivial (ref_Within_ok h16) (by kernel_rfl) ?_
    refine WO_run (j := 3) (k := 1) (orcs := []) (kF := [0, 1, 5, 6, 7, 8, 9, 23]) (kL := []) (fr' := [(0, aI a0), (1, aI a1), (5, aI r1.1), (6, aI r1.2.1), (7, aI r1.2.2.1), (8, aI r1.2.2.2), (9, aI (0 : Int)), (23, aB (!r15))]) (L' := []) (obs := []) rfl (by kernel_rfl) allP0 ?_
    refine WO_fin [0, 1, 5, 6, 7, 8, 9, 23] [] (fr' := [(0, aI a0), (1, aI a1), (5, aI r1.1), (6, aI r1.2.1), (7, aI r1.2.2.1), (8, aI r1.2.2.2), (9, aI (0 : Int)), (23, aB (!r15))]) (L' := []) (by kernel_rfl) (by kernel_rfl) ?_
    refine seqQ_norm ?_
    refine W_cond (o := .tmp 23) (b := !r15) (by kernel_rfl) (by kernel_rfl) (fun h17 => ?_) (fun h17 => ?_)
    · replace h := ofT h17 h
      obtain rfl := Option.some.inj h
      refine W_run 1 [] [0, 1, 5, 6, 7, 8, 9] [] (fr' := [(0, aI a0), (1, aI a1), (5, aI r1.1), (6, aI r1.2.1), (7, aI r1.2.2.1), (8, aI r1.2.2.2), (9, aI (1 : Int))]) (L' := []) (obs := []) (by kernel_rfl) (by kernel_rfl) (by kernel_rfl) allP0 ?_
      exact exQ_mk (by kernel_rfl) (by kernel_rfl)
    · replace h := ofF h17 h
      refine W_seq (by kernel_rfl) ?_
      refine W_region (by kernel_rfl) ?_
      refine WO_run (j := 1) (k := 1) (orcs := []) (kF := [0, 1, 5, 6, 7, 8, 9, 24]) (kL := []) (fr' := [(0, aI a0), (1, aI a1), (5, aI r1.1), (6, aI r1.2.1), (7, aI r1.2.2.1), (8, aI r1.2.2.2), (9, aI (0 : Int)), (24, aI a1)]) (L' := []) (obs := []) rfl (by kernel_rfl) allP0 ?_
      obtain ⟨r18, h19, h⟩ := bind_of h
      refine WO_call0 (us := [none, none, none]) (d := 25) (p := True) (j := 2) rfl ⟨by kernel_rfl, by kernel_rfl, by kernel_rfl⟩ trivial (ref_Within_ok h19) (by kernel_rfl) ?_
      refine WO_run (j := 3) (k := 1) (orcs := []) (kF := [0, 1, 5, 6, 7, 8, 9, 26]) (kL := []) (fr' := [(0, aI a0), (1, aI a1), (5, aI r1.1), (6, aI r1.2.1), (7, aI r1.2.2.1), (8, aI r1.2.2.2), (9, aI (0 : Int)), (26, aB (!r18))]) (L' := []) (obs := []) rfl (by kernel_rfl) allP0 ?_
      refine WO_fin [0, 1, 5, 6, 7, 8, 9, 26] [] (fr' := [(0, aI a0), (1, aI a1), (5, aI r1.1), (6, aI r1.2.1), (7, aI r1.2.2.1), (8, aI r1.2.2.2), (9, aI (0 : Int)), (26, aB (!r18))]) (L' := []) (by kernel_rfl) (by kernel_rfl) ?_
      refine seqQ_norm ?_
      refine W_cond (o := .tmp 26) (b := !r18) (by kernel_rfl) (by kernel_rfl) (fun h20 => ?_) (fun h20 => ?_)
      · replace h := ofT h20 h
        obtain rfl := Option.some.inj h
        refine W_run 1 [] [0, 1, 5, 6, 7, 8, 9] [] (fr' := [(0, aI a0), (1, aI a1), (5, aI r1.1), (6, aI r1.2.1), (7, aI r1.2.2.1), (8, aI r1.2.2.2), (9, aI (7 : Int))]) (L' := []) (obs := []) (by kernel_rfl) (by kernel_rfl) (by kernel_rfl) allP0 ?_
        exact exQ_mk (by kernel_rfl) (by kernel_rfl)
      · replace h := ofF h20 h
        obtain rfl := Option.some.inj h
        refine W_skip [0, 1, 5, 6, 7, 8, 9] [] (fr' := [(0, aI a0), (1, aI a1), (5, aI r1.1), (6, aI r1.2.1), (7, aI r1.2.2.1), (8, aI r1.2.2.2), (9, aI (0 : Int))]) (L' := []) (by kernel_rfl) (by kernel_rfl) ?_
        exact exQ_mk (by kernel_rfl) (by kernel_rfl)
  · intro e fr L hJ
    obtain ⟨rfl, rfl, rfl⟩ := hJ
    refine LT_keep [0, 1, 5, 6, 7, 8, 9] [] (fr' := [(0, aI a0), (1, aI a1), (5, aI r1.1), (6, aI r1.2.1), (7, aI r1.2.2.1), (8, aI r1.2.2.2), (9, aI v21)]) (L' := []) (by kernel_rfl) ?_
    refine seqQ_norm ?_
    refine W_seq (by kernel_rfl) ?_
    refine W_seq (by kernel_rfl) ?_
    refine W_run 2 [] [0, 1, 5, 6, 7, 8, 9, 28] [] (fr' := [(0, aI a0), (1, aI a1), (5, aI r1.1), (6, aI r1.2.1), (7, aI r1.2.2.1), (8, aI r1.2.2.2), (9, aI v21), (28, aB (v21 != (0 : Int)))]) (L' := []) (obs := []) (by kernel_rfl) (by kernel_rfl) (by kernel_rfl) allP0 ?_
    refine seqQ_norm ?_
    refine W_cond (o := .tmp 28) (b := v21 != (0 : Int)) (by kernel_rfl) (by kernel_rfl) (fun h23 => ?_) (fun h23 => ?_)
    · replace h := ofT h23 h
      refine W_seq (by kernel_rfl) ?_
      refine W_run 16 [] [4] [] (fr' := [(4, aB ((((r1.2.2.2 == v21) && (r1.1 == (0 : Int))) && (r1.2.1 == (0 : Int))) && (r1.2.2.1 == (0 : Int))))]) (L' := []) (obs := []) (by kernel_rfl) (by kernel_rfl) (by kernel_rfl) allP0 ?_
      refine seqQ_norm ?_
      obtain rfl := Option.some.inj h
      refine W_ret [4] [] (fr' := [(4, aB ((((r1.2.2.2 == v21) && (r1.1 == (0 : Int))) && (r1.2.1 == (0 : Int))) && (r1.2.2.1 == (0 : Int))))]) (L' := []) (by kernel_rfl) (by kernel_rfl) ?_
      refine seqQ_ret ?_
      exact retQ_mk (by kernel_rfl) (by kernel_rfl) (by kernel_rfl)
    · replace h := ofF h23 h
      refine W_skip [0, 1, 5, 6, 7, 8] [] (fr' := [(0, aI a0), (1, aI a1), (5, aI r1.1), (6, aI r1.2.1), (7, aI r1.2.2.1), (8, aI r1.2.2.2)]) (L' := []) (by kernel_rfl) (by kernel_rfl) ?_
      refine seqQ_norm ?_
      refine W_seq (by kernel_rfl) ?_
      refine W_region (by kernel_rfl) ?_
      refine WO_run (j := 2) (k := 2) (orcs := []) (kF := [5, 6, 7, 8, 45, 46]) (kL := []) (fr' := [(5, aI r1.1), (6, aI r1.2.1), (7, aI r1.2.2.1), (8, aI r1.2.2.2), (45, aI a0), (46, aI a1)]) (L' := []) (obs := []) rfl (by kernel_rfl) allP0 ?_
      obtain ⟨r24, h25, h⟩ := bind_of h
      refine WO_call0 (us := [none, none]) (d := 47) (p := True) (j := 3) rfl ⟨by kernel_rfl, by kernel_rfl, by kernel_rfl⟩ trivial (ref_Busy_ok h25) (by kernel_rfl) ?_
      refine WO_run (j := 10) (k := 7) (orcs := []) (kF := [5, 6, 7, 8, 10, 11, 12]) (kL := []) (fr' := [(5, aI r1.1), (6, aI r1.2.1), (7, aI r1.2.2.1), (8, aI r1.2.2.2), (10, aI r24.1), (11, aI r24.2.1), (12, aI r24.2.2)]) (L' := []) (obs := []) rfl (by kernel_rfl) allP0 ?_
      refine WO_fin [5, 6, 7, 8, 10, 11, 12] [] (fr' := [(5, aI r1.1), (6, aI r1.2.1), (7, aI r1.2.2.1), (8, aI r1.2.2.2), (10, aI r24.1), (11, aI r24.2.1), (12, aI r24.2.2)]) (L' := []) (by kernel_rfl) (by kernel_rfl) ?_
      refine seqQ_norm ?_
      refine W_seq (by kernel_rfl) ?_
      refine W_run 18 [] [4] [] (fr' := [(4, aB ((((r1.2.2.2 == (0 : Int)) && (r1.1 == r24.1)) && (r1.2.1 == r24.2.1)) && (r1.2.2.1 == r24.2.2)))]) (L' := []) (obs := []) (by kernel_rfl) (by kernel_rfl) (by kernel_rfl) allP0 ?_
      refine seqQ_norm ?_
      obtain rfl := Option.some.inj h
      refine W_ret [4] [] (fr' := [(4, aB ((((r1.2.2.2 == (0 : Int)) && (r1.1 == r24.1)) && (r1.2.1 == r24.2.1)) && (r1.2.2.1 == r24.2.2)))]) (L' := []) (by kernel_rfl) (by kernel_rfl) ?_
      exact retQ_mk (by kernel_rfl) (by kernel_rfl) (by kernel_rfl)
end Go.Proofs.Ytnblafiefaalgaa.busyMost
