/- What the functions that TwoOpens calls compute, as models, and that they compute it: written by a program of mine. -/
import Derived.Test.YtmongadolmofnaaProg
import Derived.Test.YtmongadolmofnaaSl3
set_option linter.all false
set_option maxRecDepth 100000
namespace Go.Proofs.Ytmongadolmofnaa.twoOpens
open Go Go.Sl
def two_prime (a0 : Int) : Option Int :=
(idx [(2 : Int), (3 : Int), (5 : Int), (7 : Int)] a0).bind fun v1 =>
some v1
theorem two_prime_ok {a0 : Int} {r : Int} (h : two_prime a0 = some r) : FnC Try.prog 38 [aI a0] [] (aI r) [] := by
  refine fnC_of_W (B := bodyOf Try.f38) (n := 7) Try.func38 (by kernel_rfl) (by kernel_rfl) (by kernel_rfl) (by kernel_rfl) (by kernel_rfl) ?_
  intro K
  refine W_seq (by kernel_rfl) ?_
  refine W_run 1 [] [0] [] (fr' := [(0, aI a0)]) (L' := []) (obs := []) (by kernel_rfl) (by kernel_rfl) (by kernel_rfl) allP0 ?_
  refine seqQ_norm ?_
  refine W_seq (by kernel_rfl) ?_
  obtain ⟨v1, h2, h⟩ := bind_of h
  refine W_run 5 [(7, .val (.dat tI v1))] [2] [] (fr' := [(2, aI v1)]) (L' := []) (obs := [InR a0 (List.length [(2 : Int), (3 : Int), (5 : Int), (7 : Int)]), Idx [(2 : Int), (3 : Int), (5 : Int), (7 : Int)] a0 v1]) (by kernel_rfl) (by kernel_rfl) (by kernel_rfl) (allP2 (InR.of h2) (allP1 (Idx.of h2))) ?_
  refine seqQ_norm ?_
  obtain rfl := Option.some.inj h
  refine W_ret [2] [] (fr' := [(2, aI v1)]) (L' := []) (by kernel_rfl) (by kernel_rfl) ?_
  exact retQ_mk (by kernel_rfl) (by kernel_rfl) (by kernel_rfl)

def two_Open_b7 (i48 : Int) (r54 : Int) (x61 : (Int × (List Int))) : Option (Flow (Int × (List Int)) (Int × (List Int))) :=
(ck (r54 ≠ 0)).bind fun _ =>
bif (Int.tmod x61.1 r54) == (0 : Int) then
((idx x61.2 i48).bind fun v68 =>
some (.next (w64 (Int.tdiv x61.1 r54), List.set x61.2 (Int.toNat i48) (w64 (v68 + (1 : Int))))))
else
(some (.done (x61.1, x61.2)))
@[reducible] def two_Open_s8 (a0 : Int) (i48 : Int) (r54 : Int) (v : (Int × (List Int))) : Fr × LL := ([(1, aI v.1), (6, .one (.slc 18)), (7, aI i48), (8, aI r54), (20, aI (List.length (List.replicate (Int.toNat a0) (0 : Int)) : Int)), (21, aI i48)], [(18, .seq tI v.2)])
@[reducible] def two_Open_s9 (a0 : Int) (i48 : Int) (v : (Int × (List Int))) : Fr × LL := ([(1, aI v.1), (6, .one (.slc 18)), (20, aI (List.length (List.replicate (Int.toNat a0) (0 : Int)) : Int)), (21, aI i48)], [(18, .seq tI v.2)])
def two_Open_b10 (fuel : Nat) (i48 : Int) (v51 : Int) (x49 : (Int × (List Int))) : Option (Flow (Int × (List Int)) (Int × (List Int))) :=
(two_prime i48).bind fun r54 =>
(iter (two_Open_b7 i48 r54) fuel (x49.1, x49.2)).bind fun v70 =>
some (.next (v70.1, v70.2))
@[reducible] def two_Open_s11 (a0 : Int) (v : Int × (Int × (List Int))) : Fr × LL := ([(1, aI v.2.1), (6, .one (.slc 18)), (20, aI (List.length (List.replicate (Int.toNat a0) (0 : Int)) : Int)), (21, aI v.1)], [(18, .seq tI v.2.2)])
@[reducible] def two_Open_s12 (v : (Int × (List Int))) : Fr × LL := ([(1, aI v.1), (6, .one (.slc 18))], [(18, .seq tI v.2)])
def two_Open (fuel : Nat) (a0 : Int) (a1 : Int) : Option ((List Int) × Int) :=
bif (decide (a0 < (1 : Int))) || (decide (a0 > (4 : Int))) then
(some ([], (1 : Int)))
else
(bif decide (a1 < (1 : Int)) then
(some ([], (4 : Int)))
else
((ck (0 ≤ a0 ∧ a0 = a0 ∧ a0 ≤ 4294967296)).bind fun _ =>
(forL (two_Open_b10 fuel) (fun x49 => (x49.1, x49.2)) (List.replicate (Int.toNat a0) (0 : Int)) 0 (a1, List.replicate (Int.toNat a0) (0 : Int))).bind fun v75 =>
bif v75.1 != (1 : Int) then
(some ([], (5 : Int)))
else
(some (v75.2, (0 : Int)))))
theorem two_Open_ok {fuel : Nat} {a0 : Int} {a1 : Int} {r : ((List Int) × Int)} (h : two_Open fuel a0 a1 = some r) : FnC Try.prog 21 [aI a0, aI a1] [] (.tup [.dat (.slice tI) r.1, .dat tI r.2]) [] := by
  refine fnC_of_W (B := bodyOf Try.f21) (n := 43) Try.func21 (by kernel_rfl) (by kernel_rfl) (by kernel_rfl) (by kernel_rfl) (by kernel_rfl) ?_
  intro K
  refine W_seq (by kernel_rfl) ?_
  refine W_run 2 [] [0, 1] [] (fr' := [(0, aI a0), (1, aI a1)]) (L' := []) (obs := []) (by kernel_rfl) (by kernel_rfl) (by kernel_rfl) allP0 ?_
  refine seqQ_norm ?_
  refine W_seq (by kernel_rfl) ?_
  refine W_seq (by kernel_rfl) ?_
  refine W_run 6 [] [0, 1, 14] [] (fr' := [(0, aI a0), (1, aI a1), (14, aB ((decide (a0 < (1 : Int))) || (decide (a0 > (4 : Int)))))]) (L' := []) (obs := []) (by kernel_rfl) (by kernel_rfl) (by kernel_rfl) allP0 ?_
  refine seqQ_norm ?_
  refine W_cond (o := .tmp 14) (b := (decide (a0 < (1 : Int))) || (decide (a0 > (4 : Int)))) (by kernel_rfl) (by kernel_rfl) (fun h1 => ?_) (fun h1 => ?_)
  · replace h := ofT h1 h
    refine W_seq (by kernel_rfl) ?_
    refine W_run 2 [] [4, 5] [] (fr' := [(4, .one (.nilS)), (5, aI (1 : Int))]) (L' := []) (obs := []) (by kernel_rfl) (by kernel_rfl) (by kernel_rfl) allP0 ?_
    refine seqQ_norm ?_
    obtain rfl := Option.some.inj h
    refine W_cnv 4 (.slice tI) (by kernel_rfl) ?_
    refine W_ret [4, 5] [] (fr' := [(4, aD (.slice tI) []), (5, aI (1 : Int))]) (L' := []) (by kernel_rfl) (by kernel_rfl) ?_
    refine seqQ_ret ?_
    exact retQ_mk (by kernel_rfl) (by kernel_rfl) (by kernel_rfl)
  · replace h := ofF h1 h
    refine W_skip [0, 1] [] (fr' := [(0, aI a0), (1, aI a1)]) (L' := []) (by kernel_rfl) (by kernel_rfl) ?_
    refine seqQ_norm ?_
    refine W_seq (by kernel_rfl) ?_
    refine W_seq (by kernel_rfl) ?_
    refine W_run 2 [] [0, 1, 16] [] (fr' := [(0, aI a0), (1, aI a1), (16, aB (decide (a1 < (1 : Int))))]) (L' := []) (obs := []) (by kernel_rfl) (by kernel_rfl) (by kernel_rfl) allP0 ?_
    refine seqQ_norm ?_
    refine W_cond (o := .tmp 16) (b := decide (a1 < (1 : Int))) (by kernel_rfl) (by kernel_rfl) (fun h2 => ?_) (fun h2 => ?_)
    · replace h := ofT h2 h
      refine W_seq (by kernel_rfl) ?_
      refine W_run 2 [] [4, 5] [] (fr' := [(4, .one (.nilS)), (5, aI (4 : Int))]) (L' := []) (obs := []) (by kernel_rfl) (by kernel_rfl) (by kernel_rfl) allP0 ?_
      refine seqQ_norm ?_
      obtain rfl := Option.some.inj h
      refine W_cnv 4 (.slice tI) (by kernel_rfl) ?_
      refine W_ret [4, 5] [] (fr' := [(4, aD (.slice tI) []), (5, aI (4 : Int))]) (L' := []) (by kernel_rfl) (by kernel_rfl) ?_
      refine seqQ_ret ?_
      exact retQ_mk (by kernel_rfl) (by kernel_rfl) (by kernel_rfl)
    · replace h := ofF h2 h
      refine W_skip [0, 1] [] (fr' := [(0, aI a0), (1, aI a1)]) (L' := []) (by kernel_rfl) (by kernel_rfl) ?_
      refine seqQ_norm ?_
      refine W_seq (by kernel_rfl) ?_
      obtain ⟨_, h3, h⟩ := bind_of h
      replace h3 := ck_some h3
      refine W_run 3 [] [1, 6] [18] (fr' := [(1, aI a1), (6, .one (.slc 18))]) (L' := [(18, .seq tI (List.replicate (Int.toNat a0) (0 : Int)))]) (obs := [0 ≤ a0 ∧ a0 = a0 ∧ SmallLen a0]) (by kernel_rfl) (by kernel_rfl) (by kernel_rfl) (allP1 h3) ?_
      refine seqQ_norm ?_
      refine W_seq (by kernel_rfl) ?_
      refine W_seq (by kernel_rfl) ?_
      refine W_run 3 [] [1, 6, 20, 21] [18] (fr' := [(1, aI a1), (6, .one (.slc 18)), (20, aI (List.length (List.replicate (Int.toNat a0) (0 : Int)) : Int)), (21, aI (0 : Int))]) (L' := [(18, .seq tI (List.replicate (Int.toNat a0) (0 : Int)))]) (obs := []) (by kernel_rfl) (by kernel_rfl) (by kernel_rfl) allP0 ?_
      refine seqQ_norm ?_
      refine W_block (id := 0) (by kernel_rfl) ?_
      obtain ⟨v75, h76, h⟩ := bind_of h
      refine W_lenS (s := 18) (u := tI) (xs := List.replicate (Int.toNat a0) (0 : Int)) (by kernel_rfl) (fun h79 => ?_)
      obtain ⟨h77, h78⟩ := forL_iter h79 h76
      refine W_weaken [1, 6, 20, 21] [18] (fr' := ((two_Open_s11 a0) ((0 : Int), (a1, List.replicate (Int.toNat a0) (0 : Int)))).1) (L' := ((two_Open_s11 a0) ((0 : Int), (a1, List.replicate (Int.toNat a0) (0 : Int)))).2) (by kernel_rfl) ?_
      refine W_cutK (W_loop (S := (two_Open_s11 a0)) (J := (exQ (.exit 0) two_Open_s12)) (by kernel_rfl) ?_ h77 _ v75 h78) ?_
      · rintro ⟨i48, x49⟩ s h
        refine W_seq (by kernel_rfl) ?_
        refine W_run 1 [] [1, 6, 20, 21, 22] [18] (fr' := [(1, aI x49.1), (6, .one (.slc 18)), (20, aI (List.length (List.replicate (Int.toNat a0) (0 : Int)) : Int)), (21, aI i48), (22, aB (decide (i48 < (List.length (List.replicate (Int.toNat a0) (0 : Int)) : Int))))]) (L' := [(18, .seq tI x49.2)]) (obs := []) (by kernel_rfl) (by kernel_rfl) (by kernel_rfl) allP0 ?_
        refine seqQ_norm ?_
        refine W_seq (by kernel_rfl) ?_
        refine W_cond (o := .tmp 22) (b := decide (i48 < (List.length (List.replicate (Int.toNat a0) (0 : Int)) : Int))) (by kernel_rfl) (by kernel_rfl) (fun h53 => ?_) (fun h53 => ?_)
        · replace h := stepL_true h53 h
          obtain ⟨v51, _, h52, h, rfl⟩ := h
          refine W_skip [1, 6, 20, 21] [18] (fr' := [(1, aI x49.1), (6, .one (.slc 18)), (20, aI (List.length (List.replicate (Int.toNat a0) (0 : Int)) : Int)), (21, aI i48)]) (L' := [(18, .seq tI x49.2)]) (by kernel_rfl) (by kernel_rfl) ?_
          refine seqQ_norm ?_
          refine W_seq (by kernel_rfl) ?_
          refine W_block (id := 1) (by kernel_rfl) ?_
          refine W_seq (by kernel_rfl) ?_
          refine W_run 2 [] [1, 6, 7, 20, 21] [18] (fr' := [(1, aI x49.1), (6, .one (.slc 18)), (7, aI i48), (20, aI (List.length (List.replicate (Int.toNat a0) (0 : Int)) : Int)), (21, aI i48)]) (L' := [(18, .seq tI x49.2)]) (obs := []) (by kernel_rfl) (by kernel_rfl) (by kernel_rfl) allP0 ?_
          refine seqQ_norm ?_
          refine W_seq (by kernel_rfl) ?_
          refine W_region (by kernel_rfl) ?_
          refine WO_run (j := 1) (k := 1) (orcs := []) (kF := [1, 6, 7, 20, 21, 24]) (kL := [18]) (fr' := [(1, aI x49.1), (6, .one (.slc 18)), (7, aI i48), (20, aI (List.length (List.replicate (Int.toNat a0) (0 : Int)) : Int)), (21, aI i48), (24, aI i48)]) (L' := [(18, .seq tI x49.2)]) (obs := []) rfl (by kernel_rfl) allP0 ?_
          obtain ⟨r54, h55, h⟩ := bind_of h
          refine WO_call0 (us := [none]) (d := 25) (p := True) (j := 2) rfl ⟨by kernel_rfl, by kernel_rfl, by kernel_rfl⟩ trivial (two_prime_ok h55) (by kernel_rfl) ?_
          refine WO_run (j := 3) (k := 1) (orcs := []) (kF := [1, 6, 7, 8, 20, 21]) (kL := [18]) (fr' := [(1, aI x49.1), (6, .one (.slc 18)), (7, aI i48), (8, aI r54), (20, aI (List.length (List.replicate (Int.toNat a0) (0 : Int)) : Int)), (21, aI i48)]) (L' := [(18, .seq tI x49.2)]) (obs := []) rfl (by kernel_rfl) allP0 ?_
          refine WO_fin [1, 6, 7, 8, 20, 21] [18] (fr' := [(1, aI x49.1), (6, .one (.slc 18)), (7, aI i48), (8, aI r54), (20, aI (List.length (List.replicate (Int.toNat a0) (0 : Int)) : Int)), (21, aI i48)]) (L' := [(18, .seq tI x49.2)]) (by kernel_rfl) (by kernel_rfl) ?_
          refine seqQ_norm ?_
          refine W_block (id := 2) (by kernel_rfl) ?_
          obtain ⟨v70, h71, h⟩ := bind_of h
          refine W_weaken [1, 6, 7, 8, 20, 21] [18] (fr' := ((two_Open_s8 a0 i48 r54) (x49.1, x49.2)).1) (L' := ((two_Open_s8 a0 i48 r54) (x49.1, x49.2)).2) (by kernel_rfl) ?_
          refine W_cutK (W_loop (S := (two_Open_s8 a0 i48 r54)) (J := (exQ (.exit 2) (two_Open_s9 a0 i48))) (by kernel_rfl) ?_ fuel _ v70 h71) ?_
          · rintro x61 s h
            refine W_seq (by kernel_rfl) ?_
            refine W_seq (by kernel_rfl) ?_
            obtain ⟨_, h66, h⟩ := bind_of h
            replace h66 := ck_some h66
            refine W_run 4 [] [1, 6, 7, 8, 20, 21, 29] [18] (fr' := [(1, aI x61.1), (6, .one (.slc 18)), (7, aI i48), (8, aI r54), (20, aI (List.length (List.replicate (Int.toNat a0) (0 : Int)) : Int)), (21, aI i48), (29, aB ((Int.tmod x61.1 r54) == (0 : Int)))]) (L' := [(18, .seq tI x61.2)]) (obs := [(r54 ≠ 0)]) (by kernel_rfl) (by kernel_rfl) (by kernel_rfl) (allP1 h66) ?_
            refine seqQ_norm ?_
            refine W_cond (o := .tmp 29) (b := (Int.tmod x61.1 r54) == (0 : Int)) (by kernel_rfl) (by kernel_rfl) (fun h67 => ?_) (fun h67 => ?_)
            · replace h := ofT h67 h
              refine W_skip [1, 6, 7, 8, 20, 21] [18] (fr' := [(1, aI x61.1), (6, .one (.slc 18)), (7, aI i48), (8, aI r54), (20, aI (List.length (List.replicate (Int.toNat a0) (0 : Int)) : Int)), (21, aI i48)]) (L' := [(18, .seq tI x61.2)]) (by kernel_rfl) (by kernel_rfl) ?_
              refine seqQ_norm ?_
              refine W_seq (by kernel_rfl) ?_
              refine W_block (id := 3) (by kernel_rfl) ?_
              obtain ⟨v68, h69, h⟩ := bind_of h
              refine W_run 7 [(7, .val (.dat tI v68))] [1, 6, 7, 8, 20, 21] [18] (fr' := [(1, aI x61.1), (6, .one (.slc 18)), (7, aI i48), (8, aI r54), (20, aI (List.length (List.replicate (Int.toNat a0) (0 : Int)) : Int)), (21, aI i48)]) (L' := [(18, .seq tI (List.set x61.2 (Int.toNat i48) (w64 (v68 + (1 : Int)))))]) (obs := [InR i48 (List.length x61.2), Idx x61.2 i48 v68, InR i48 (List.length x61.2), InR i48 (List.length x61.2)]) (by kernel_rfl) (by kernel_rfl) (by kernel_rfl) (allP2 (InR.of h69) (allP2 (Idx.of h69) (allP2 (InR.of h69) (allP1 (InR.of h69))))) ?_
              refine blockQ_norm ?_
              refine seqQ_norm ?_
              obtain rfl := Option.some.inj h
              refine W_run 4 [] [1, 6, 7, 8, 20, 21] [18] (fr' := [(1, aI (w64 (Int.tdiv x61.1 r54))), (6, .one (.slc 18)), (7, aI i48), (8, aI r54), (20, aI (List.length (List.replicate (Int.toNat a0) (0 : Int)) : Int)), (21, aI i48)]) (L' := [(18, .seq tI (List.set x61.2 (Int.toNat i48) (w64 (v68 + (1 : Int)))))]) (obs := [(r54 ≠ 0)]) (by kernel_rfl) (by kernel_rfl) (by kernel_rfl) (allP1 h66) ?_
              exact round_next' (by kernel_rfl) (by kernel_rfl)
            · replace h := ofF h67 h
              obtain rfl := Option.some.inj h
              refine W_exit (id := 2) [1, 6, 20, 21] [18] (fr' := [(1, aI x61.1), (6, .one (.slc 18)), (20, aI (List.length (List.replicate (Int.toNat a0) (0 : Int)) : Int)), (21, aI i48)]) (L' := [(18, .seq tI x61.2)]) (by kernel_rfl) (by kernel_rfl) ?_
              refine seqQ_exit ?_
              refine round_exit ?_
              exact exQ_mk (by kernel_rfl) (by kernel_rfl)
          · intro e fr L hJ
            obtain ⟨rfl, rfl, rfl⟩ := hJ
            refine LT_keep [1, 6, 20, 21] [18] (fr' := [(1, aI v70.1), (6, .one (.slc 18)), (20, aI (List.length (List.replicate (Int.toNat a0) (0 : Int)) : Int)), (21, aI i48)]) (L' := [(18, .seq tI v70.2)]) (by kernel_rfl) ?_
            refine blockQ_hit ?_
            refine blockQ_norm ?_
            refine seqQ_norm ?_
            obtain rfl := Option.some.inj h
            refine W_run 2 [] [1, 6, 20, 21] [18] (fr' := [(1, aI v70.1), (6, .one (.slc 18)), (20, aI (List.length (List.replicate (Int.toNat a0) (0 : Int)) : Int)), (21, aI (w64 (i48 + (1 : Int))))]) (L' := [(18, .seq tI v70.2)]) (obs := []) (by kernel_rfl) (by kernel_rfl) (by kernel_rfl) allP0 ?_
            exact round_next' (by kernel_rfl) (by kernel_rfl)
        · obtain rfl := stepL_false h53 h
          refine W_exit (id := 0) [1, 6] [18] (fr' := [(1, aI x49.1), (6, .one (.slc 18))]) (L' := [(18, .seq tI x49.2)]) (by kernel_rfl) (by kernel_rfl) ?_
          refine seqQ_exit ?_
          refine round_exit ?_
          exact exQ_mk (by kernel_rfl) (by kernel_rfl)
      · intro e fr L hJ
        obtain ⟨rfl, rfl, rfl⟩ := hJ
        refine LT_keep [1, 6] [18] (fr' := [(1, aI v75.1), (6, .one (.slc 18))]) (L' := [(18, .seq tI v75.2)]) (by kernel_rfl) ?_
        refine blockQ_hit ?_
        refine seqQ_norm ?_
        refine W_seq (by kernel_rfl) ?_
        refine W_seq (by kernel_rfl) ?_
        refine W_run 2 [] [6, 41] [18] (fr' := [(6, .one (.slc 18)), (41, aB (v75.1 != (1 : Int)))]) (L' := [(18, .seq tI v75.2)]) (obs := []) (by kernel_rfl) (by kernel_rfl) (by kernel_rfl) allP0 ?_
        refine seqQ_norm ?_
        refine W_cond (o := .tmp 41) (b := v75.1 != (1 : Int)) (by kernel_rfl) (by kernel_rfl) (fun h80 => ?_) (fun h80 => ?_)
        · replace h := ofT h80 h
          refine W_seq (by kernel_rfl) ?_
          refine W_run 2 [] [4, 5] [] (fr' := [(4, .one (.nilS)), (5, aI (5 : Int))]) (L' := []) (obs := []) (by kernel_rfl) (by kernel_rfl) (by kernel_rfl) allP0 ?_
          refine seqQ_norm ?_
          obtain rfl := Option.some.inj h
          refine W_cnv 4 (.slice tI) (by kernel_rfl) ?_
          refine W_ret [4, 5] [] (fr' := [(4, aD (.slice tI) []), (5, aI (5 : Int))]) (L' := []) (by kernel_rfl) (by kernel_rfl) ?_
          refine seqQ_ret ?_
          exact retQ_mk (by kernel_rfl) (by kernel_rfl) (by kernel_rfl)
        · replace h := ofF h80 h
          refine W_skip [6] [18] (fr' := [(6, .one (.slc 18))]) (L' := [(18, .seq tI v75.2)]) (by kernel_rfl) (by kernel_rfl) ?_
          refine seqQ_norm ?_
          refine W_seq (by kernel_rfl) ?_
          refine W_run 3 [] [4, 5] [18] (fr' := [(4, .one (.slc 18)), (5, aI (0 : Int))]) (L' := [(18, .seq tI v75.2)]) (obs := []) (by kernel_rfl) (by kernel_rfl) (by kernel_rfl) allP0 ?_
          refine seqQ_norm ?_
          obtain rfl := Option.some.inj h
          refine W_frz 18 (by kernel_rfl) ?_
          refine W_ret [4, 5] [] (fr' := [(4, aD (.slice tI) v75.2), (5, aI (0 : Int))]) (L' := []) (by kernel_rfl) (by kernel_rfl) ?_
          exact retQ_mk (by kernel_rfl) (by kernel_rfl) (by kernel_rfl)

def ref_Within (a0 : Int) (a1 : Int) (a2 : Int) : Option Bool :=
some ((decide (a0 ≤ a1)) && (decide (a1 ≤ a2)))
theorem ref_Within_ok {a0 : Int} {a1 : Int} {a2 : Int} {r : Bool} (h : ref_Within a0 a1 a2 = some r) : FnC Try.prog 15 [aI a0, aI a1, aI a2] [] (aB r) [] := by
  refine fnC_of_W (B := bodyOf Try.f15) (n := 15) Try.func15 (by kernel_rfl) (by kernel_rfl) (by kernel_rfl) (by kernel_rfl) (by kernel_rfl) ?_
  intro K
  refine W_seq (by kernel_rfl) ?_
  refine W_run 1 [] [0, 1, 2] [] (fr' := [(0, aI a0), (1, aI a1), (2, aI a2)]) (L' := []) (obs := []) (by kernel_rfl) (by kernel_rfl) (by kernel_rfl) allP0 ?_
  refine seqQ_norm ?_
  refine W_seq (by kernel_rfl) ?_
  refine W_run 9 [] [6] [] (fr' := [(6, aB ((decide (a0 ≤ a1)) && (decide (a1 ≤ a2))))]) (L' := []) (obs := []) (by kernel_rfl) (by kernel_rfl) (by kernel_rfl) allP0 ?_
  refine seqQ_norm ?_
  obtain rfl := Option.some.inj h
  refine W_ret [6] [] (fr' := [(6, aB ((decide (a0 ≤ a1)) && (decide (a1 ≤ a2))))]) (L' := []) (by kernel_rfl) (by kernel_rfl) ?_
  exact retQ_mk (by kernel_rfl) (by kernel_rfl) (by kernel_rfl)

def ref_Packed_b7 (i41 : Int) (i55 : Int) (x56 : Int) : Option (Flow Int Int) :=
(idx [(2 : Int), (3 : Int), (5 : Int), (7 : Int)] i41).bind fun v59 =>
some (.next (w64 (x56 * v59)))
@[reducible] def ref_Packed_s8 (a0 : (List Int)) (i41 : Int) (v44 : Int) (v : Int × Int) : Fr × LL := ([(3, aI v.2), (4, aI i41), (5, aI v44), (6, aI v.1), (7, aD (.slice tI) a0), (8, aI (List.length a0 : Int)), (9, aI i41)], [])
@[reducible] def ref_Packed_s9 (a0 : (List Int)) (i41 : Int) (v : Int) : Fr × LL := ([(3, aI v), (7, aD (.slice tI) a0), (8, aI (List.length a0 : Int)), (9, aI i41)], [])
def ref_Packed_b10 (i41 : Int) (v44 : Int) (x42 : Int) : Option (Flow Int Int) :=
(forI (0 : Int) v44 (ref_Packed_b7 i41) (fun x56 => x56) x42).bind fun v62 =>
some (.next v62)
@[reducible] def ref_Packed_s11 (a0 : (List Int)) (v : Int × Int) : Fr × LL := ([(3, aI v.2), (7, aD (.slice tI) a0), (8, aI (List.length a0 : Int)), (9, aI v.1)], [])
@[reducible] def ref_Packed_s12 (v : Int) : Fr × LL := ([(3, aI v)], [])
def ref_Packed (a0 : (List Int)) : Option Int :=
(forL ref_Packed_b10 (fun x42 => x42) a0 0 (1 : Int)).bind fun v67 =>
some v67
theorem ref_Packed_ok {a0 : (List Int)} {r : Int} (h : ref_Packed a0 = some r) : FnC Try.prog 20 [aD (.slice tI) a0] [] (aI r) [] := by
  refine fnC_of_W (B := bodyOf Try.f20) (n := 27) Try.func20 (by kernel_rfl) (by kernel_rfl) (by kernel_rfl) (by kernel_rfl) (by kernel_rfl) ?_
  intro K
  refine W_seq (by kernel_rfl) ?_
  refine W_run 1 [] [0] [] (fr' := [(0, aD (.slice tI) a0)]) (L' := []) (obs := []) (by kernel_rfl) (by kernel_rfl) (by kernel_rfl) allP0 ?_
  refine seqQ_norm ?_
  refine W_seq (by kernel_rfl) ?_
  refine W_run 1 [] [0, 3] [] (fr' := [(0, aD (.slice tI) a0), (3, aI (1 : Int))]) (L' := []) (obs := []) (by kernel_rfl) (by kernel_rfl) (by kernel_rfl) allP0 ?_
  refine seqQ_norm ?_
  refine W_seq (by kernel_rfl) ?_
  refine W_seq (by kernel_rfl) ?_
  refine W_run 3 [] [3, 7, 8, 9] [] (fr' := [(3, aI (1 : Int)), (7, aD (.slice tI) a0), (8, aI (List.length a0 : Int)), (9, aI (0 : Int))]) (L' := []) (obs := []) (by kernel_rfl) (by kernel_rfl) (by kernel_rfl) allP0 ?_
  refine seqQ_norm ?_
  refine W_block (id := 0) (by kernel_rfl) ?_
  obtain ⟨v67, h68, h⟩ := bind_of h
  refine W_len (t := 7) (u := tI) (xs := a0) (by kernel_rfl) (fun h71 => ?_)
  obtain ⟨h69, h70⟩ := forL_iter h71 h68
  refine W_weaken [3, 7, 8, 9] [] (fr' := ((ref_Packed_s11 a0) ((0 : Int), (1 : Int))).1) (L' := ((ref_Packed_s11 a0) ((0 : Int), (1 : Int))).2) (by kernel_rfl) ?_
  refine W_cutK (W_loop (S := (ref_Packed_s11 a0)) (J := (exQ (.exit 0) ref_Packed_s12)) (by kernel_rfl) ?_ h69 _ v67 h70) ?_
  · rintro ⟨i41, x42⟩ s h
    refine W_seq (by kernel_rfl) ?_
    refine W_run 1 [] [3, 7, 8, 9, 10] [] (fr' := [(3, aI x42), (7, aD (.slice tI) a0), (8, aI (List.length a0 : Int)), (9, aI i41), (10, aB (decide (i41 < (List.length a0 : Int))))]) (L' := []) (obs := []) (by kernel_rfl) (by kernel_rfl) (by kernel_rfl) allP0 ?_
    refine seqQ_norm ?_
    refine W_seq (by kernel_rfl) ?_
    refine W_cond (o := .tmp 10) (b := decide (i41 < (List.length a0 : Int))) (by kernel_rfl) (by kernel_rfl) (fun h46 => ?_) (fun h46 => ?_)
    · replace h := stepL_true h46 h
      obtain ⟨v44, _, h45, h, rfl⟩ := h
      refine W_skip [3, 7, 8, 9] [] (fr' := [(3, aI x42), (7, aD (.slice tI) a0), (8, aI (List.length a0 : Int)), (9, aI i41)]) (L' := []) (by kernel_rfl) (by kernel_rfl) ?_
      refine seqQ_norm ?_
      refine W_seq (by kernel_rfl) ?_
      refine W_block (id := 1) (by kernel_rfl) ?_
      refine W_seq (by kernel_rfl) ?_
      refine W_run 5 [(3, .val (.dat tI v44))] [3, 4, 5, 7, 8, 9] [] (fr' := [(3, aI x42), (4, aI i41), (5, aI v44), (7, aD (.slice tI) a0), (8, aI (List.length a0 : Int)), (9, aI i41)]) (L' := []) (obs := [Idx a0 i41 v44]) (by kernel_rfl) (by kernel_rfl) (by kernel_rfl) (allP1 (Idx.of h45)) ?_
      refine seqQ_norm ?_
      refine W_seq (by kernel_rfl) ?_
      refine W_run 1 [] [3, 4, 5, 6, 7, 8, 9] [] (fr' := [(3, aI x42), (4, aI i41), (5, aI v44), (6, aI (0 : Int)), (7, aD (.slice tI) a0), (8, aI (List.length a0 : Int)), (9, aI i41)]) (L' := []) (obs := []) (by kernel_rfl) (by kernel_rfl) (by kernel_rfl) allP0 ?_
      refine seqQ_norm ?_
      refine W_block (id := 2) (by kernel_rfl) ?_
      obtain ⟨v62, h63, h⟩ := bind_of h
      obtain ⟨h64, h65⟩ := forI_iter h63
      refine W_weaken [3, 4, 5, 6, 7, 8, 9] [] (fr' := ((ref_Packed_s8 a0 i41 v44) ((0 : Int), x42)).1) (L' := ((ref_Packed_s8 a0 i41 v44) ((0 : Int), x42)).2) (by kernel_rfl) ?_
      refine W_cutK (W_loop (S := (ref_Packed_s8 a0 i41 v44)) (J := (exQ (.exit 2) (ref_Packed_s9 a0 i41))) (by kernel_rfl) ?_ h64 _ v62 h65) ?_
      · rintro ⟨i55, x56⟩ s h
        refine W_seq (by kernel_rfl) ?_
        refine W_seq (by kernel_rfl) ?_
        refine W_run 3 [] [3, 4, 5, 6, 7, 8, 9, 16] [] (fr' := [(3, aI x56), (4, aI i41), (5, aI v44), (6, aI i55), (7, aD (.slice tI) a0), (8, aI (List.length a0 : Int)), (9, aI i41), (16, aB (decide (i55 < v44)))]) (L' := []) (obs := []) (by kernel_rfl) (by kernel_rfl) (by kernel_rfl) allP0 ?_
        refine seqQ_norm ?_
        refine W_cond (o := .tmp 16) (b := decide (i55 < v44)) (by kernel_rfl) (by kernel_rfl) (fun h58 => ?_) (fun h58 => ?_)
        · replace h := stepI_true h58 h
          obtain ⟨_, h, rfl⟩ := h
          refine W_skip [3, 4, 5, 6, 7, 8, 9] [] (fr' := [(3, aI x56), (4, aI i41), (5, aI v44), (6, aI i55), (7, aD (.slice tI) a0), (8, aI (List.length a0 : Int)), (9, aI i41)]) (L' := []) (by kernel_rfl) (by kernel_rfl) ?_
          refine seqQ_norm ?_
          refine W_seq (by kernel_rfl) ?_
          refine W_block (id := 3) (by kernel_rfl) ?_
          obtain ⟨v59, h60, h⟩ := bind_of h
          refine W_run 7 [(9, .val (.dat tI v59))] [3, 4, 5, 6, 7, 8, 9] [] (fr' := [(3, aI (w64 (x56 * v59))), (4, aI i41), (5, aI v44), (6, aI i55), (7, aD (.slice tI) a0), (8, aI (List.length a0 : Int)), (9, aI i41)]) (L' := []) (obs := [InR i41 (List.length [(2 : Int), (3 : Int), (5 : Int), (7 : Int)]), Idx [(2 : Int), (3 : Int), (5 : Int), (7 : Int)] i41 v59]) (by kernel_rfl) (by kernel_rfl) (by kernel_rfl) (allP2 (InR.of h60) (allP1 (Idx.of h60))) ?_
          refine blockQ_norm ?_
          refine seqQ_norm ?_
          obtain rfl := Option.some.inj h
          refine W_run 3 [] [3, 4, 5, 6, 7, 8, 9] [] (fr' := [(3, aI (w64 (x56 * v59))), (4, aI i41), (5, aI v44), (6, aI (w64 (i55 + (1 : Int)))), (7, aD (.slice tI) a0), (8, aI (List.length a0 : Int)), (9, aI i41)]) (L' := []) (obs := []) (by kernel_rfl) (by kernel_rfl) (by kernel_rfl) allP0 ?_
          exact round_next' (by kernel_rfl) (by kernel_rfl)
        · obtain rfl := stepI_false h58 h
          refine W_exit (id := 2) [3, 7, 8, 9] [] (fr' := [(3, aI x56), (7, aD (.slice tI) a0), (8, aI (List.length a0 : Int)), (9, aI i41)]) (L' := []) (by kernel_rfl) (by kernel_rfl) ?_
          refine seqQ_exit ?_
          refine round_exit ?_
          exact exQ_mk (by kernel_rfl) (by kernel_rfl)
      · intro e fr L hJ
        obtain ⟨rfl, rfl, rfl⟩ := hJ
        refine LT_keep [3, 7, 8, 9] [] (fr' := [(3, aI v62), (7, aD (.slice tI) a0), (8, aI (List.length a0 : Int)), (9, aI i41)]) (L' := []) (by kernel_rfl) ?_
        refine blockQ_hit ?_
        refine blockQ_norm ?_
        refine seqQ_norm ?_
        obtain rfl := Option.some.inj h
        refine W_run 2 [] [3, 7, 8, 9] [] (fr' := [(3, aI v62), (7, aD (.slice tI) a0), (8, aI (List.length a0 : Int)), (9, aI (w64 (i41 + (1 : Int))))]) (L' := []) (obs := []) (by kernel_rfl) (by kernel_rfl) (by kernel_rfl) allP0 ?_
        exact round_next' (by kernel_rfl) (by kernel_rfl)
    · obtain rfl := stepL_false h46 h
      refine W_exit (id := 0) [3] [] (fr' := [(3, aI x42)]) (L' := []) (by kernel_rfl) (by kernel_rfl) ?_
      refine seqQ_exit ?_
      refine round_exit ?_
      exact exQ_mk (by kernel_rfl) (by kernel_rfl)
  · intro e fr L hJ
    obtain ⟨rfl, rfl, rfl⟩ := hJ
    refine LT_keep [3] [] (fr' := [(3, aI v67)]) (L' := []) (by kernel_rfl) ?_
    refine blockQ_hit ?_
    refine seqQ_norm ?_
    refine W_seq (by kernel_rfl) ?_
    refine W_run 2 [] [2] [] (fr' := [(2, aI v67)]) (L' := []) (obs := []) (by kernel_rfl) (by kernel_rfl) (by kernel_rfl) allP0 ?_
    refine seqQ_norm ?_
    obtain rfl := Option.some.inj h
    refine W_ret [2] [] (fr' := [(2, aI v67)]) (L' := []) (by kernel_rfl) (by kernel_rfl) ?_
    exact retQ_mk (by kernel_rfl) (by kernel_rfl) (by kernel_rfl)

def law_TwoOpens_b7 (v38 : Int) (x43 : Int) : Option (Flow Int Int) :=
(ck (v38 ≠ 0)).bind fun _ =>
bif (Int.tmod x43 v38) == (0 : Int) then
(some (.next (w64 (Int.tdiv x43 v38))))
else
(some (.done x43))
@[reducible] def law_TwoOpens_s8 (a0 : Int) (a1 : Int) (r1 : ((List Int) × Int)) (i34 : Int) (v38 : Int) (v : Int) : Fr × LL := ([(0, aI a0), (1, aI a1), (5, aD (.slice tI) r1.1), (6, aI r1.2), (7, aI v), (8, aI i34), (9, aI v38)], [])
@[reducible] def law_TwoOpens_s9 (a0 : Int) (a1 : Int) (r1 : ((List Int) × Int)) (i34 : Int) (v : Int) : Fr × LL := ([(0, aI a0), (1, aI a1), (5, aD (.slice tI) r1.1), (6, aI r1.2), (7, aI v), (8, aI i34)], [])
def law_TwoOpens_b10 (fuel : Nat) (i34 : Int) (x35 : Int) : Option (Flow Int Int) :=
(idx [(2 : Int), (3 : Int), (5 : Int), (7 : Int)] i34).bind fun v38 =>
(iter (law_TwoOpens_b7 v38) fuel x35).bind fun v48 =>
some (.next v48)
@[reducible] def law_TwoOpens_s11 (a0 : Int) (a1 : Int) (r1 : ((List Int) × Int)) (v : Int × Int) : Fr × LL := ([(0, aI a0), (1, aI a1), (5, aD (.slice tI) r1.1), (6, aI r1.2), (7, aI v.2), (8, aI v.1)], [])
@[reducible] def law_TwoOpens_s12 (a0 : Int) (a1 : Int) (r1 : ((List Int) × Int)) (v : Int) : Fr × LL := ([(0, aI a0), (1, aI a1), (5, aD (.slice tI) r1.1), (6, aI r1.2), (7, aI v)], [])
@[reducible] def law_TwoOpens_s13 (v : Bool) : Fr × LL := ([(4, aB v)], [])
def law_TwoOpens (fuel : Nat) (a0 : Int) (a1 : Int) : Option Bool :=
(two_Open fuel a0 a1).bind fun r1 =>
(ref_Within (1 : Int) a0 (4 : Int)).bind fun r3 =>
bif !r3 then
(some ((r1.2 == (1 : Int)) && ((List.length r1.1 : Int) == (0 : Int))))
else
(bif decide (a1 < (1 : Int)) then
(some ((r1.2 == (4 : Int)) && ((List.length r1.1 : Int) == (0 : Int))))
else
((forI (0 : Int) a0 (law_TwoOpens_b10 fuel) (fun x35 => x35) a1).bind fun v53 =>
bif v53 != (1 : Int) then
(some ((r1.2 == (5 : Int)) && ((List.length r1.1 : Int) == (0 : Int))))
else
((bif (r1.2 == (0 : Int)) && ((List.length r1.1 : Int) == a0) then
((ref_Packed r1.1).bind fun r65 =>
some (r65 == a1))
else
(some false)).bind fun v67 =>
some v67)))
theorem law_TwoOpens_ok {fuel : Nat} {a0 : Int} {a1 : Int} {r : Bool} (h : law_TwoOpens fuel a0 a1 = some r) : FnC Try.prog 8 [aI a0, aI a1] [] (aB r) [] := by
  refine fnC_of_W (B := bodyOf Try.f8) (n := 75) Try.func8 (by kernel_rfl) (by kernel_rfl) (by kernel_rfl) (by kernel_rfl) (by kernel_rfl) ?_
  intro K
  refine W_seq (by kernel_rfl) ?_
  refine W_run 1 [] [0, 1] [] (fr' := [(0, aI a0), (1, aI a1)]) (L' := []) (obs := []) (by kernel_rfl) (by kernel_rfl) (by kernel_rfl) allP0 ?_
  refine seqQ_norm ?_
  refine W_seq (by kernel_rfl) ?_
  refine W_region (by kernel_rfl) ?_
  refine WO_run (j := 2) (k := 2) (orcs := []) (kF := [0, 1, 11, 12]) (kL := []) (fr' := [(0, aI a0), (1, aI a1), (11, aI a0), (12, aI a1)]) (L' := []) (obs := []) rfl (by kernel_rfl) allP0 ?_
  obtain ⟨r1, h2, h⟩ := bind_of h
  refine WO_call0 (us := [none, none]) (d := 13) (p := True) (j := 3) rfl ⟨by kernel_rfl, by kernel_rfl, by kernel_rfl⟩ trivial (two_Open_ok h2) (by kernel_rfl) ?_
  refine WO_run (j := 8) (k := 5) (orcs := []) (kF := [0, 1, 5, 6]) (kL := []) (fr' := [(0, aI a0), (1, aI a1), (5, aD (.slice tI) r1.1), (6, aI r1.2)]) (L' := []) (obs := []) rfl (by kernel_rfl) allP0 ?_
  refine WO_fin [0, 1, 5, 6] [] (fr' := [(0, aI a0), (1, aI a1), (5, aD (.slice tI) r1.1), (6, aI r1.2)]) (L' := []) (by kernel_rfl) (by kernel_rfl) ?_
  refine seqQ_norm ?_
  refine W_seq (by kernel_rfl) ?_
  refine W_seq (by kernel_rfl) ?_
  refine W_region (by kernel_rfl) ?_
  refine WO_run (j := 1) (k := 1) (orcs := []) (kF := [0, 1, 5, 6, 16]) (kL := []) (fr' := [(0, aI a0), (1, aI a1), (5, aD (.slice tI) r1.1), (6, aI r1.2), (16, aI a0)]) (L' := []) (obs := []) rfl (by kernel_rfl) allP0 ?_
  obtain ⟨r3, h4, h⟩ := bind_of h
  refine WO_call0 (us := [none, none, none]) (d := 17) (p := True) (j := 2) rfl ⟨by kernel_rfl, by kernel_rfl, by kernel_rfl⟩ trivial (ref_Within_ok h4) (by kernel_rfl) ?_
  refine WO_run (j := 3) (k := 1) (orcs := []) (kF := [0, 1, 5, 6, 18]) (kL := []) (fr' := [(0, aI a0), (1, aI a1), (5, aD (.slice tI) r1.1), (6, aI r1.2), (18, aB (!r3))]) (L' := []) (obs := []) rfl (by kernel_rfl) allP0 ?_
  refine WO_fin [0, 1, 5, 6, 18] [] (fr' := [(0, aI a0), (1, aI a1), (5, aD (.slice tI) r1.1), (6, aI r1.2), (18, aB (!r3))]) (L' := []) (by kernel_rfl) (by kernel_rfl) ?_
  refine seqQ_norm ?_
  refine W_cond (o := .tmp 18) (b := !r3) (by kernel_rfl) (by kernel_rfl) (fun h5 => ?_) (fun h5 => ?_)
  · replace h := ofT h5 h
    refine W_seq (by kernel_rfl) ?_
    refine W_run 8 [] [4] [] (fr' := [(4, aB ((r1.2 == (1 : Int)) && ((List.length r1.1 : Int) == (0 : Int))))]) (L' := []) (obs := []) (by kernel_rfl) (by kernel_rfl) (by kernel_rfl) allP0 ?_
    refine seqQ_norm ?_
    obtain rfl := Option.some.inj h
    refine W_ret [4] [] (fr' := [(4, aB ((r1.2 == (1 : Int)) && ((List.length r1.1 : Int) == (0 : Int))))]) (L' := []) (by kernel_rfl) (by kernel_rfl) ?_
    refine seqQ_ret ?_
    exact retQ_mk (by kernel_rfl) (by kernel_rfl) (by kernel_rfl)
  · replace h := ofF h5 h
    refine W_skip [0, 1, 5, 6] [] (fr' := [(0, aI a0), (1, aI a1), (5, aD (.slice tI) r1.1), (6, aI r1.2)]) (L' := []) (by kernel_rfl) (by kernel_rfl) ?_
    refine seqQ_norm ?_
    refine W_seq (by kernel_rfl) ?_
    refine W_seq (by kernel_rfl) ?_
    refine W_run 2 [] [0, 1, 5, 6, 27] [] (fr' := [(0, aI a0), (1, aI a1), (5, aD (.slice tI) r1.1), (6, aI r1.2), (27, aB (decide (a1 < (1 : Int))))]) (L' := []) (obs := []) (by kernel_rfl) (by kernel_rfl) (by kernel_rfl) allP0 ?_
    refine seqQ_norm ?_
    refine W_cond (o := .tmp 27) (b := decide (a1 < (1 : Int))) (by kernel_rfl) (by kernel_rfl) (fun h6 => ?_) (fun h6 => ?_)
    · replace h := ofT h6 h
      refine W_seq (by kernel_rfl) ?_
      refine W_run 8 [] [4] [] (fr' := [(4, aB ((r1.2 == (4 : Int)) && ((List.length r1.1 : Int) == (0 : Int))))]) (L' := []) (obs := []) (by kernel_rfl) (by kernel_rfl) (by kernel_rfl) allP0 ?_
      refine seqQ_norm ?_
      obtain rfl := Option.some.inj h
      refine W_ret [4] [] (fr' := [(4, aB ((r1.2 == (4 : Int)) && ((List.length r1.1 : Int) == (0 : Int))))]) (L' := []) (by kernel_rfl) (by kernel_rfl) ?_
      refine seqQ_ret ?_
      exact retQ_mk (by kernel_rfl) (by kernel_rfl) (by kernel_rfl)
    · replace h := ofF h6 h
      refine W_skip [0, 1, 5, 6] [] (fr' := [(0, aI a0), (1, aI a1), (5, aD (.slice tI) r1.1), (6, aI r1.2)]) (L' := []) (by kernel_rfl) (by kernel_rfl) ?_
      refine seqQ_norm ?_
      refine W_seq (by kernel_rfl) ?_
      refine W_run 2 [] [0, 1, 5, 6, 7] [] (fr' := [(0, aI a0), (1, aI a1), (5, aD (.slice tI) r1.1), (6, aI r1.2), (7, aI a1)]) (L' := []) (obs := []) (by kernel_rfl) (by kernel_rfl) (by kernel_rfl) allP0 ?_
      refine seqQ_norm ?_
      refine W_seq (by kernel_rfl) ?_
      refine W_seq (by kernel_rfl) ?_
      refine W_run 1 [] [0, 1, 5, 6, 7, 8] [] (fr' := [(0, aI a0), (1, aI a1), (5, aD (.slice tI) r1.1), (6, aI r1.2), (7, aI a1), (8, aI (0 : Int))]) (L' := []) (obs := []) (by kernel_rfl) (by kernel_rfl) (by kernel_rfl) allP0 ?_
      refine seqQ_norm ?_
      refine W_block (id := 0) (by kernel_rfl) ?_
      obtain ⟨v53, h54, h⟩ := bind_of h
      obtain ⟨h55, h56⟩ := forI_iter h54
      refine W_weaken [0, 1, 5, 6, 7, 8] [] (fr' := ((law_TwoOpens_s11 a0 a1 r1) ((0 : Int), a1)).1) (L' := ((law_TwoOpens_s11 a0 a1 r1) ((0 : Int), a1)).2) (by kernel_rfl) ?_
      refine W_cutK (W_loop (S := (law_TwoOpens_s11 a0 a1 r1)) (J := (exQ (.exit 0) (law_TwoOpens_s12 a0 a1 r1))) (by kernel_rfl) ?_ h55 _ v53 h56) ?_
      · rintro ⟨i34, x35⟩ s h
        refine W_seq (by kernel_rfl) ?_
        refine W_seq (by kernel_rfl) ?_
        refine W_run 3 [] [0, 1, 5, 6, 7, 8, 38] [] (fr' := [(0, aI a0), (1, aI a1), (5, aD (.slice tI) r1.1), (6, aI r1.2), (7, aI x35), (8, aI i34), (38, aB (decide (i34 < a0)))]) (L' := []) (obs := []) (by kernel_rfl) (by kernel_rfl) (by kernel_rfl) allP0 ?_
        refine seqQ_norm ?_
        refine W_cond (o := .tmp 38) (b := decide (i34 < a0)) (by kernel_rfl) (by kernel_rfl) (fun h37 => ?_) (fun h37 => ?_)
        · replace h := stepI_true h37 h
          obtain ⟨_, h, rfl⟩ := h
          refine W_skip [0, 1, 5, 6, 7, 8] [] (fr' := [(0, aI a0), (1, aI a1), (5, aD (.slice tI) r1.1), (6, aI r1.2), (7, aI x35), (8, aI i34)]) (L' := []) (by kernel_rfl) (by kernel_rfl) ?_
          refine seqQ_norm ?_
          refine W_seq (by kernel_rfl) ?_
          refine W_block (id := 1) (by kernel_rfl) ?_
          refine W_seq (by kernel_rfl) ?_
          obtain ⟨v38, h39, h⟩ := bind_of h
          refine W_run 5 [(7, .val (.dat tI v38))] [0, 1, 5, 6, 7, 8, 9] [] (fr' := [(0, aI a0), (1, aI a1), (5, aD (.slice tI) r1.1), (6, aI r1.2), (7, aI x35), (8, aI i34), (9, aI v38)]) (L' := []) (obs := [InR i34 (List.length [(2 : Int), (3 : Int), (5 : Int), (7 : Int)]), Idx [(2 : Int), (3 : Int), (5 : Int), (7 : Int)] i34 v38]) (by kernel_rfl) (by kernel_rfl) (by kernel_rfl) (allP2 (InR.of h39) (allP1 (Idx.of h39))) ?_
          refine seqQ_norm ?_
          refine W_block (id := 2) (by kernel_rfl) ?_
          obtain ⟨v48, h49, h⟩ := bind_of h
          refine W_weaken [0, 1, 5, 6, 7, 8, 9] [] (fr' := ((law_TwoOpens_s8 a0 a1 r1 i34 v38) x35).1) (L' := ((law_TwoOpens_s8 a0 a1 r1 i34 v38) x35).2) (by kernel_rfl) ?_
          refine W_cutK (W_loop (S := (law_TwoOpens_s8 a0 a1 r1 i34 v38)) (J := (exQ (.exit 2) (law_TwoOpens_s9 a0 a1 r1 i34))) (by kernel_rfl) ?_ fuel _ v48 h49) ?_
          · rintro x43 s h
            refine W_seq (by kernel_rfl) ?_
            refine W_seq (by kernel_rfl) ?_
            obtain ⟨_, h46, h⟩ := bind_of h
            replace h46 := ck_some h46
            refine W_run 4 [] [0, 1, 5, 6, 7, 8, 9, 48] [] (fr' := [(0, aI a0), (1, aI a1), (5, aD (.slice tI) r1.1), (6, aI r1.2), (7, aI x43), (8, aI i34), (9, aI v38), (48, aB ((Int.tmod x43 v38) == (0 : Int)))]) (L' := []) (obs := [(v38 ≠ 0)]) (by kernel_rfl) (by kernel_rfl) (by kernel_rfl) (allP1 h46) ?_
            refine seqQ_norm ?_
            refine W_cond (o := .tmp 48) (b := (Int.tmod x43 v38) == (0 : Int)) (by kernel_rfl) (by kernel_rfl) (fun h47 => ?_) (fun h47 => ?_)
            · replace h := ofT h47 h
              refine W_skip [0, 1, 5, 6, 7, 8, 9] [] (fr' := [(0, aI a0), (1, aI a1), (5, aD (.slice tI) r1.1), (6, aI r1.2), (7, aI x43), (8, aI i34), (9, aI v38)]) (L' := []) (by kernel_rfl) (by kernel_rfl) ?_
              refine seqQ_norm ?_
              refine W_block (id := 3) (by kernel_rfl) ?_
              obtain rfl := Option.some.inj h
              refine W_run 4 [] [0, 1, 5, 6, 7, 8, 9] [] (fr' := [(0, aI a0), (1, aI a1), (5, aD (.slice tI) r1.1), (6, aI r1.2), (7, aI (w64 (Int.tdiv x43 v38))), (8, aI i34), (9, aI v38)]) (L' := []) (obs := [(v38 ≠ 0)]) (by kernel_rfl) (by kernel_rfl) (by kernel_rfl) (allP1 h46) ?_
              refine blockQ_norm ?_
              exact round_next' (by kernel_rfl) (by kernel_rfl)
            · replace h := ofF h47 h
              obtain rfl := Option.some.inj h
              refine W_exit (id := 2) [0, 1, 5, 6, 7, 8] [] (fr' := [(0, aI a0), (1, aI a1), (5, aD (.slice tI) r1.1), (6, aI r1.2), (7, aI x43), (8, aI i34)]) (L' := []) (by kernel_rfl) (by kernel_rfl) ?_
              refine seqQ_exit ?_
              refine round_exit ?_
              exact exQ_mk (by kernel_rfl) (by kernel_rfl)
          · intro e fr L hJ
            obtain ⟨rfl, rfl, rfl⟩ := hJ
            refine LT_keep [0, 1, 5, 6, 7, 8] [] (fr' := [(0, aI a0), (1, aI a1), (5, aD (.slice tI) r1.1), (6, aI r1.2), (7, aI v48), (8, aI i34)]) (L' := []) (by kernel_rfl) ?_
            refine blockQ_hit ?_
            refine blockQ_norm ?_
            refine seqQ_norm ?_
            obtain rfl := Option.some.inj h
            refine W_run 3 [] [0, 1, 5, 6, 7, 8] [] (fr' := [(0, aI a0), (1, aI a1), (5, aD (.slice tI) r1.1), (6, aI r1.2), (7, aI v48), (8, aI (w64 (i34 + (1 : Int))))]) (L' := []) (obs := []) (by kernel_rfl) (by kernel_rfl) (by kernel_rfl) allP0 ?_
            exact round_next' (by kernel_rfl) (by kernel_rfl)
        · obtain rfl := stepI_false h37 h
          refine W_exit (id := 0) [0, 1, 5, 6, 7] [] (fr' := [(0, aI a0), (1, aI a1), (5, aD (.slice tI) r1.1), (6, aI r1.2), (7, aI x35)]) (L' := []) (by kernel_rfl) (by kernel_rfl) ?_
          refine seqQ_exit ?_
          refine round_exit ?_
          exact exQ_mk (by kernel_rfl) (by kernel_rfl)
      · intro e fr L hJ
        obtain ⟨rfl, rfl, rfl⟩ := hJ
        refine LT_keep [0, 1, 5, 6, 7] [] (fr' := [(0, aI a0), (1, aI a1), (5, aD (.slice tI) r1.1), (6, aI r1.2), (7, aI v53)]) (L' := []) (by kernel_rfl) ?_
        refine blockQ_hit ?_
        refine seqQ_norm ?_
        refine W_seq (by kernel_rfl) ?_
        refine W_seq (by kernel_rfl) ?_
        refine W_run 2 [] [0, 1, 5, 6, 53] [] (fr' := [(0, aI a0), (1, aI a1), (5, aD (.slice tI) r1.1), (6, aI r1.2), (53, aB (v53 != (1 : Int)))]) (L' := []) (obs := []) (by kernel_rfl) (by kernel_rfl) (by kernel_rfl) allP0 ?_
        refine seqQ_norm ?_
        refine W_cond (o := .tmp 53) (b := v53 != (1 : Int)) (by kernel_rfl) (by kernel_rfl) (fun h57 => ?_) (fun h57 => ?_)
        · replace h := ofT h57 h
          refine W_seq (by kernel_rfl) ?_
          refine W_run 8 [] [4] [] (fr' := [(4, aB ((r1.2 == (5 : Int)) && ((List.length r1.1 : Int) == (0 : Int))))]) (L' := []) (obs := []) (by kernel_rfl) (by kernel_rfl) (by kernel_rfl) allP0 ?_
          refine seqQ_norm ?_
          obtain rfl := Option.some.inj h
          refine W_ret [4] [] (fr' := [(4, aB ((r1.2 == (5 : Int)) && ((List.length r1.1 : Int) == (0 : Int))))]) (L' := []) (by kernel_rfl) (by kernel_rfl) ?_
          refine seqQ_ret ?_
          exact retQ_mk (by kernel_rfl) (by kernel_rfl) (by kernel_rfl)
        · replace h := ofF h57 h
          refine W_skip [0, 1, 5, 6] [] (fr' := [(0, aI a0), (1, aI a1), (5, aD (.slice tI) r1.1), (6, aI r1.2)]) (L' := []) (by kernel_rfl) (by kernel_rfl) ?_
          refine seqQ_norm ?_
          refine W_seq (by kernel_rfl) ?_
          obtain ⟨v67, h68, h⟩ := bind_of h
          refine W_cutK (Q' := (exQ .normal law_TwoOpens_s13) v67) ?_ ?_
          · replace h := h68
            refine W_region (by kernel_rfl) ?_
            refine WO_run (j := 9) (k := 9) (orcs := []) (kF := [1, 5, 69]) (kL := []) (fr' := [(1, aI a1), (5, aD (.slice tI) r1.1), (69, aB ((r1.2 == (0 : Int)) && ((List.length r1.1 : Int) == a0)))]) (L' := []) (obs := []) rfl (by kernel_rfl) allP0 ?_
            rcases Bool.eq_false_or_eq_true ((r1.2 == (0 : Int)) && ((List.length r1.1 : Int) == a0)) with h64 | h64
            · replace h := ofT h64 h
              refine WO_run (j := 10) (k := 1) (orcs := [(18, .known true)]) (kF := [1, 69, 70]) (kL := []) (fr' := [(1, aI a1), (69, aB ((r1.2 == (0 : Int)) && ((List.length r1.1 : Int) == a0))), (70, aD (.slice tI) r1.1)]) (L' := []) (obs := [(((r1.2 == (0 : Int)) && ((List.length r1.1 : Int) == a0)) = true)]) rfl (by kernel_rfl) (allP1 h64) ?_
              obtain ⟨r65, h66, h⟩ := bind_of h
              refine WO_call0 (us := [none]) (d := 71) (p := (((r1.2 == (0 : Int)) && ((List.length r1.1 : Int) == a0)) = true)) (j := 11) rfl ⟨by kernel_rfl, by kernel_rfl, by kernel_rfl⟩ h64 (ref_Packed_ok h66) (by kernel_rfl) ?_
              refine WO_run (j := 15) (k := 4) (orcs := [(22, .known true), (24, .known true), (27, .val (.dat .bool true))]) (kF := [4]) (kL := []) (fr' := [(4, aB (r65 == a1))]) (L' := []) (obs := [(((r1.2 == (0 : Int)) && ((List.length r1.1 : Int) == a0)) = true), (((r1.2 == (0 : Int)) && ((List.length r1.1 : Int) == a0)) = true), (((r1.2 == (0 : Int)) && ((List.length r1.1 : Int) == a0)) = true)]) rfl (by kernel_rfl) (allP2 h64 (allP2 h64 (allP1 h64))) ?_
              obtain rfl := Option.some.inj h
              refine WO_fin [4] [] (fr' := [(4, aB (r65 == a1))]) (L' := []) (by kernel_rfl) (by kernel_rfl) ?_
              exact exQ_mk (by kernel_rfl) (by kernel_rfl)
            · replace h := ofF h64 h
              refine WO_run (j := 15) (k := 6) (orcs := [(18, .known false), (20, .known false), (22, .known false), (24, .known false), (27, .val (.dat .bool false))]) (kF := [4]) (kL := []) (fr' := [(4, aB false)]) (L' := []) (obs := [(((r1.2 == (0 : Int)) && ((List.length r1.1 : Int) == a0)) = false), (((r1.2 == (0 : Int)) && ((List.length r1.1 : Int) == a0)) = false), (((r1.2 == (0 : Int)) && ((List.length r1.1 : Int) == a0)) = false), (((r1.2 == (0 : Int)) && ((List.length r1.1 : Int) == a0)) = false), (((r1.2 == (0 : Int)) && ((List.length r1.1 : Int) == a0)) = false)]) rfl (by kernel_rfl) (allP2 h64 (allP2 h64 (allP2 h64 (allP2 h64 (allP1 h64))))) ?_
              obtain rfl := Option.some.inj h
              refine WO_fin [4] [] (fr' := [(4, aB false)]) (L' := []) (by kernel_rfl) (by kernel_rfl) ?_
              exact exQ_mk (by kernel_rfl) (by kernel_rfl)
          · intro e fr L hJ
            obtain ⟨rfl, rfl, rfl⟩ := hJ
            refine LT_keep [4] [] (fr' := [(4, aB v67)]) (L' := []) (by kernel_rfl) ?_
            refine seqQ_norm ?_
            obtain rfl := Option.some.inj h
            refine W_ret [4] [] (fr' := [(4, aB v67)]) (L' := []) (by kernel_rfl) (by kernel_rfl) ?_
            exact retQ_mk (by kernel_rfl) (by kernel_rfl) (by kernel_rfl)
end Go.Proofs.Ytmongadolmofnaa.twoOpens
