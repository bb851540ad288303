/- What the functions that TwoPacks calls compute, as models, and that they compute it: written by a program of mine. -/
import Derived.Test.YtmongadolmofnaaProg
import Derived.Test.YtmongadolmofnaaSl3
set_option linter.all false
set_option maxRecDepth 100000
namespace Go.Proofs.Ytmongadolmofnaa.twoPacks
open Go Go.Sl
def two_prime (a0 : Int) : Option Int :=
(idx [(2 : Int), (3 : Int), (5 : Int), (7 : Int)] a0).bind fun v1 =>
some v1
theorem two_prime_ok {a0 : Int} {r : Int} (h : two_prime a0 = some r) : FnC Try.prog 38 [aI a0] [] (aI r) [] := by
  refine fnC_of_W (B := bodyOf Try.f38) (n := 7) Try.func38 (by kernel_rfl) (by kernel_rfl) (by kernel_rfl) (by kernel_rfl) (by kernel_rfl) ?_
  intro K
  refine W_seq (by kernel_rfl) ?_
  refine W_run 1 [] [0] [] (fr' := [(0, aI a0)]) (L' := []) (obs := []) (by kernel_rfl) (by kernel_rfl) (by kernel_rfl) allP0 ?_
  refine seqQ_norm ?_
  refine W_seq (by kernel_rfl) ?_
  obtain ⟨v1, h2, h⟩ := bind_of h
  refine W_run 5 [(7, .val (.dat tI v1))] [2] [] (fr' := [(2, aI v1)]) (L' := []) (obs := [InR a0 (List.length [(2 : Int), (3 : Int), (5 : Int), (7 : Int)]), Idx [(2 : Int), (3 : Int), (5 : Int), (7 : Int)] a0 v1]) (by kernel_rfl) (by kernel_rfl) (by kernel_rfl) (allP2 (InR.of h2) (allP1 (Idx.of h2))) ?_
  refine seqQ_norm ?_
  obtain rfl := Option.some.inj h
  refine W_ret [2] [] (fr' := [(2, aI v1)]) (L' := []) (by kernel_rfl) (by kernel_rfl) ?_
  exact retQ_mk (by kernel_rfl) (by kernel_rfl) (by kernel_rfl)

def two_Pack_b7 (i50 : Int) (i65 : Int) (x66 : Int) : Option (Flow Int Int) :=
(two_prime i50).bind fun r69 =>
some (.next (w64 (x66 * r69)))
@[reducible] def two_Pack_s8 (a0 : (List Int)) (i50 : Int) (v53 : Int) (v : Int × Int) : Fr × LL := ([(4, aI v.2), (5, aI i50), (15, aD (.slice tI) a0), (16, aI (List.length a0 : Int)), (17, aI i50), (28, aI v53), (29, aI v.1)], [])
@[reducible] def two_Pack_s9 (a0 : (List Int)) (i50 : Int) (v : Int) : Fr × LL := ([(4, aI v), (15, aD (.slice tI) a0), (16, aI (List.length a0 : Int)), (17, aI i50)], [])
def two_Pack_b10 (i50 : Int) (v53 : Int) (x51 : Int) : Option (Flow Int (Esc (Int × Int) Int)) :=
bif (decide (v53 < (0 : Int))) || (decide (v53 > (4 : Int))) then
(some (.done (.ret ((0 : Int), (4 : Int)))))
else
((forI (0 : Int) v53 (two_Pack_b7 i50) (fun x66 => x66) x51).bind fun v72 =>
some (.next v72))
@[reducible] def two_Pack_s11 (a0 : (List Int)) (v : Int × Int) : Fr × LL := ([(4, aI v.2), (15, aD (.slice tI) a0), (16, aI (List.length a0 : Int)), (17, aI v.1)], [])
@[reducible] def two_Pack_s12 (v : (Int × Int)) : Fr × LL := ([(2, aI v.1), (3, aI v.2)], [])
@[reducible] def two_Pack_s13 (v : Int) : Fr × LL := ([(4, aI v)], [])
def two_Pack (a0 : (List Int)) : Option (Int × Int) :=
bif (decide ((List.length a0 : Int) < (1 : Int))) || (decide ((List.length a0 : Int) > (4 : Int))) then
(some ((0 : Int), (1 : Int)))
else
((forL two_Pack_b10 (fun x51 => (.brk x51)) a0 0 (1 : Int)).bind fun v77 =>
match v77 with
| .ret v82 =>
(some (v82.1, v82.2))
| .brk v83 =>
(some (v83, (0 : Int))))
theorem two_Pack_ok {a0 : (List Int)} {r : (Int × Int)} (h : two_Pack a0 = some r) : FnC Try.prog 19 [aD (.slice tI) a0] [] (.tup [.dat tI r.1, .dat tI r.2]) [] := by
  refine fnC_of_W (B := bodyOf Try.f19) (n := 38) Try.func19 (by kernel_rfl) (by kernel_rfl) (by kernel_rfl) (by kernel_rfl) (by kernel_rfl) ?_
  intro K
  refine W_seq (by kernel_rfl) ?_
  refine W_run 2 [] [0] [] (fr' := [(0, aD (.slice tI) a0)]) (L' := []) (obs := []) (by kernel_rfl) (by kernel_rfl) (by kernel_rfl) allP0 ?_
  refine seqQ_norm ?_
  refine W_seq (by kernel_rfl) ?_
  refine W_seq (by kernel_rfl) ?_
  refine W_run 8 [] [0, 14] [] (fr' := [(0, aD (.slice tI) a0), (14, aB ((decide ((List.length a0 : Int) < (1 : Int))) || (decide ((List.length a0 : Int) > (4 : Int)))))]) (L' := []) (obs := []) (by kernel_rfl) (by kernel_rfl) (by kernel_rfl) allP0 ?_
  refine seqQ_norm ?_
  refine W_cond (o := .tmp 14) (b := (decide ((List.length a0 : Int) < (1 : Int))) || (decide ((List.length a0 : Int) > (4 : Int)))) (by kernel_rfl) (by kernel_rfl) (fun h1 => ?_) (fun h1 => ?_)
  · replace h := ofT h1 h
    refine W_seq (by kernel_rfl) ?_
    refine W_run 2 [] [2, 3] [] (fr' := [(2, aI (0 : Int)), (3, aI (1 : Int))]) (L' := []) (obs := []) (by kernel_rfl) (by kernel_rfl) (by kernel_rfl) allP0 ?_
    refine seqQ_norm ?_
    obtain rfl := Option.some.inj h
    refine W_ret [2, 3] [] (fr' := [(2, aI (0 : Int)), (3, aI (1 : Int))]) (L' := []) (by kernel_rfl) (by kernel_rfl) ?_
    refine seqQ_ret ?_
    exact retQ_mk (by kernel_rfl) (by kernel_rfl) (by kernel_rfl)
  · replace h := ofF h1 h
    refine W_skip [0] [] (fr' := [(0, aD (.slice tI) a0)]) (L' := []) (by kernel_rfl) (by kernel_rfl) ?_
    refine seqQ_norm ?_
    refine W_seq (by kernel_rfl) ?_
    refine W_run 1 [] [0, 4] [] (fr' := [(0, aD (.slice tI) a0), (4, aI (1 : Int))]) (L' := []) (obs := []) (by kernel_rfl) (by kernel_rfl) (by kernel_rfl) allP0 ?_
    refine seqQ_norm ?_
    refine W_seq (by kernel_rfl) ?_
    refine W_seq (by kernel_rfl) ?_
    refine W_run 3 [] [4, 15, 16, 17] [] (fr' := [(4, aI (1 : Int)), (15, aD (.slice tI) a0), (16, aI (List.length a0 : Int)), (17, aI (0 : Int))]) (L' := []) (obs := []) (by kernel_rfl) (by kernel_rfl) (by kernel_rfl) allP0 ?_
    refine seqQ_norm ?_
    refine W_block (id := 0) (by kernel_rfl) ?_
    obtain ⟨v77, h78, h⟩ := bind_of h
    refine W_len (t := 15) (u := tI) (xs := a0) (by kernel_rfl) (fun h81 => ?_)
    obtain ⟨h79, h80⟩ := forL_iter h81 h78
    refine W_weaken [4, 15, 16, 17] [] (fr' := ((two_Pack_s11 a0) ((0 : Int), (1 : Int))).1) (L' := ((two_Pack_s11 a0) ((0 : Int), (1 : Int))).2) (by kernel_rfl) ?_
    refine W_cutK (W_loop (S := (two_Pack_s11 a0)) (J := (escQ (exQ .ret two_Pack_s12) (exQ (.exit 0) two_Pack_s13))) (by kernel_rfl) ?_ h79 _ v77 h80) ?_
    · rintro ⟨i50, x51⟩ s h
      refine W_seq (by kernel_rfl) ?_
      refine W_run 1 [] [4, 15, 16, 17, 18] [] (fr' := [(4, aI x51), (15, aD (.slice tI) a0), (16, aI (List.length a0 : Int)), (17, aI i50), (18, aB (decide (i50 < (List.length a0 : Int))))]) (L' := []) (obs := []) (by kernel_rfl) (by kernel_rfl) (by kernel_rfl) allP0 ?_
      refine seqQ_norm ?_
      refine W_seq (by kernel_rfl) ?_
      refine W_cond (o := .tmp 18) (b := decide (i50 < (List.length a0 : Int))) (by kernel_rfl) (by kernel_rfl) (fun h55 => ?_) (fun h55 => ?_)
      · replace h := stepL_true h55 h
        obtain ⟨v53, _, h54, h, rfl⟩ := h
        refine W_skip [4, 15, 16, 17] [] (fr' := [(4, aI x51), (15, aD (.slice tI) a0), (16, aI (List.length a0 : Int)), (17, aI i50)]) (L' := []) (by kernel_rfl) (by kernel_rfl) ?_
        refine seqQ_norm ?_
        refine W_seq (by kernel_rfl) ?_
        refine W_block (id := 1) (by kernel_rfl) ?_
        refine W_seq (by kernel_rfl) ?_
        refine W_run 5 [(3, .val (.dat tI v53))] [4, 5, 6, 15, 16, 17] [] (fr' := [(4, aI x51), (5, aI i50), (6, aI v53), (15, aD (.slice tI) a0), (16, aI (List.length a0 : Int)), (17, aI i50)]) (L' := []) (obs := [Idx a0 i50 v53]) (by kernel_rfl) (by kernel_rfl) (by kernel_rfl) (allP1 (Idx.of h54)) ?_
        refine seqQ_norm ?_
        refine W_seq (by kernel_rfl) ?_
        refine W_seq (by kernel_rfl) ?_
        refine W_run 6 [] [4, 5, 6, 15, 16, 17, 27] [] (fr' := [(4, aI x51), (5, aI i50), (6, aI v53), (15, aD (.slice tI) a0), (16, aI (List.length a0 : Int)), (17, aI i50), (27, aB ((decide (v53 < (0 : Int))) || (decide (v53 > (4 : Int)))))]) (L' := []) (obs := []) (by kernel_rfl) (by kernel_rfl) (by kernel_rfl) allP0 ?_
        refine seqQ_norm ?_
        refine W_cond (o := .tmp 27) (b := (decide (v53 < (0 : Int))) || (decide (v53 > (4 : Int)))) (by kernel_rfl) (by kernel_rfl) (fun h56 => ?_) (fun h56 => ?_)
        · replace h := ofT h56 h
          refine W_seq (by kernel_rfl) ?_
          refine W_run 2 [] [2, 3] [] (fr' := [(2, aI (0 : Int)), (3, aI (4 : Int))]) (L' := []) (obs := []) (by kernel_rfl) (by kernel_rfl) (by kernel_rfl) allP0 ?_
          refine seqQ_norm ?_
          obtain rfl := Option.some.inj h
          refine W_ret [2, 3] [] (fr' := [(2, aI (0 : Int)), (3, aI (4 : Int))]) (L' := []) (by kernel_rfl) (by kernel_rfl) ?_
          refine seqQ_ret ?_
          refine blockQ_ret ?_
          refine seqQ_ret ?_
          refine round_ret ?_
          refine escQ_ret ?_
          exact exQ_mk (by kernel_rfl) (by kernel_rfl)
        · replace h := ofF h56 h
          refine W_skip [4, 5, 6, 15, 16, 17] [] (fr' := [(4, aI x51), (5, aI i50), (6, aI v53), (15, aD (.slice tI) a0), (16, aI (List.length a0 : Int)), (17, aI i50)]) (L' := []) (by kernel_rfl) (by kernel_rfl) ?_
          refine seqQ_norm ?_
          refine W_seq (by kernel_rfl) ?_
          refine W_run 2 [] [4, 5, 15, 16, 17, 28, 29] [] (fr' := [(4, aI x51), (5, aI i50), (15, aD (.slice tI) a0), (16, aI (List.length a0 : Int)), (17, aI i50), (28, aI v53), (29, aI (0 : Int))]) (L' := []) (obs := []) (by kernel_rfl) (by kernel_rfl) (by kernel_rfl) allP0 ?_
          refine seqQ_norm ?_
          refine W_block (id := 2) (by kernel_rfl) ?_
          obtain ⟨v72, h73, h⟩ := bind_of h
          obtain ⟨h74, h75⟩ := forI_iter h73
          refine W_weaken [4, 5, 15, 16, 17, 28, 29] [] (fr' := ((two_Pack_s8 a0 i50 v53) ((0 : Int), x51)).1) (L' := ((two_Pack_s8 a0 i50 v53) ((0 : Int), x51)).2) (by kernel_rfl) ?_
          refine W_cutK (W_loop (S := (two_Pack_s8 a0 i50 v53)) (J := (exQ (.exit 2) (two_Pack_s9 a0 i50))) (by kernel_rfl) ?_ h74 _ v72 h75) ?_
          · rintro ⟨i65, x66⟩ s h
            refine W_seq (by kernel_rfl) ?_
            refine W_run 1 [] [4, 5, 15, 16, 17, 28, 29, 30] [] (fr' := [(4, aI x66), (5, aI i50), (15, aD (.slice tI) a0), (16, aI (List.length a0 : Int)), (17, aI i50), (28, aI v53), (29, aI i65), (30, aB (decide (i65 < v53)))]) (L' := []) (obs := []) (by kernel_rfl) (by kernel_rfl) (by kernel_rfl) allP0 ?_
            refine seqQ_norm ?_
            refine W_seq (by kernel_rfl) ?_
            refine W_cond (o := .tmp 30) (b := decide (i65 < v53)) (by kernel_rfl) (by kernel_rfl) (fun h68 => ?_) (fun h68 => ?_)
            · replace h := stepI_true h68 h
              obtain ⟨_, h, rfl⟩ := h
              refine W_skip [4, 5, 15, 16, 17, 28, 29] [] (fr' := [(4, aI x66), (5, aI i50), (15, aD (.slice tI) a0), (16, aI (List.length a0 : Int)), (17, aI i50), (28, aI v53), (29, aI i65)]) (L' := []) (by kernel_rfl) (by kernel_rfl) ?_
              refine seqQ_norm ?_
              refine W_seq (by kernel_rfl) ?_
              refine W_block (id := 3) (by kernel_rfl) ?_
              refine W_region (by kernel_rfl) ?_
              refine WO_run (j := 2) (k := 2) (orcs := []) (kF := [4, 5, 15, 16, 17, 28, 29, 31, 32]) (kL := []) (fr' := [(4, aI x66), (5, aI i50), (15, aD (.slice tI) a0), (16, aI (List.length a0 : Int)), (17, aI i50), (28, aI v53), (29, aI i65), (31, aI x66), (32, aI i50)]) (L' := []) (obs := []) rfl (by kernel_rfl) allP0 ?_
              obtain ⟨r69, h70, h⟩ := bind_of h
              refine WO_call0 (us := [none]) (d := 33) (p := True) (j := 3) rfl ⟨by kernel_rfl, by kernel_rfl, by kernel_rfl⟩ trivial (two_prime_ok h70) (by kernel_rfl) ?_
              refine WO_run (j := 5) (k := 2) (orcs := []) (kF := [4, 5, 15, 16, 17, 28, 29]) (kL := []) (fr' := [(4, aI (w64 (x66 * r69))), (5, aI i50), (15, aD (.slice tI) a0), (16, aI (List.length a0 : Int)), (17, aI i50), (28, aI v53), (29, aI i65)]) (L' := []) (obs := []) rfl (by kernel_rfl) allP0 ?_
              refine WO_fin [4, 5, 15, 16, 17, 28, 29] [] (fr' := [(4, aI (w64 (x66 * r69))), (5, aI i50), (15, aD (.slice tI) a0), (16, aI (List.length a0 : Int)), (17, aI i50), (28, aI v53), (29, aI i65)]) (L' := []) (by kernel_rfl) (by kernel_rfl) ?_
              refine blockQ_norm ?_
              refine seqQ_norm ?_
              obtain rfl := Option.some.inj h
              refine W_run 2 [] [4, 5, 15, 16, 17, 28, 29] [] (fr' := [(4, aI (w64 (x66 * r69))), (5, aI i50), (15, aD (.slice tI) a0), (16, aI (List.length a0 : Int)), (17, aI i50), (28, aI v53), (29, aI (w64 (i65 + (1 : Int))))]) (L' := []) (obs := []) (by kernel_rfl) (by kernel_rfl) (by kernel_rfl) allP0 ?_
              exact round_next' (by kernel_rfl) (by kernel_rfl)
            · obtain rfl := stepI_false h68 h
              refine W_exit (id := 2) [4, 15, 16, 17] [] (fr' := [(4, aI x66), (15, aD (.slice tI) a0), (16, aI (List.length a0 : Int)), (17, aI i50)]) (L' := []) (by kernel_rfl) (by kernel_rfl) ?_
              refine seqQ_exit ?_
              refine round_exit ?_
              exact exQ_mk (by kernel_rfl) (by kernel_rfl)
          · intro e fr L hJ
            obtain ⟨rfl, rfl, rfl⟩ := hJ
            refine LT_keep [4, 15, 16, 17] [] (fr' := [(4, aI v72), (15, aD (.slice tI) a0), (16, aI (List.length a0 : Int)), (17, aI i50)]) (L' := []) (by kernel_rfl) ?_
            refine blockQ_hit ?_
            refine blockQ_norm ?_
            refine seqQ_norm ?_
            obtain rfl := Option.some.inj h
            refine W_run 2 [] [4, 15, 16, 17] [] (fr' := [(4, aI v72), (15, aD (.slice tI) a0), (16, aI (List.length a0 : Int)), (17, aI (w64 (i50 + (1 : Int))))]) (L' := []) (obs := []) (by kernel_rfl) (by kernel_rfl) (by kernel_rfl) allP0 ?_
            exact round_next' (by kernel_rfl) (by kernel_rfl)
      · obtain rfl := stepL_false h55 h
        refine W_exit (id := 0) [4] [] (fr' := [(4, aI x51)]) (L' := []) (by kernel_rfl) (by kernel_rfl) ?_
        refine seqQ_exit ?_
        refine round_exit ?_
        refine escQ_brk ?_
        exact exQ_mk (by kernel_rfl) (by kernel_rfl)
    · intro e fr L hJ
      rcases v77 with v82 | v83
      · obtain ⟨rfl, rfl, rfl⟩ := hJ
        obtain rfl := Option.some.inj h
        refine LT_keep [2, 3] [] (fr' := [(2, aI v82.1), (3, aI v82.2)]) (L' := []) (by kernel_rfl) ?_
        refine blockQ_ret ?_
        refine seqQ_ret ?_
        exact retQ_mk (by kernel_rfl) (by kernel_rfl) (by kernel_rfl)
      · obtain ⟨rfl, rfl, rfl⟩ := hJ
        refine LT_keep [4] [] (fr' := [(4, aI v83)]) (L' := []) (by kernel_rfl) ?_
        refine blockQ_hit ?_
        refine seqQ_norm ?_
        refine W_seq (by kernel_rfl) ?_
        refine W_run 3 [] [2, 3] [] (fr' := [(2, aI v83), (3, aI (0 : Int))]) (L' := []) (obs := []) (by kernel_rfl) (by kernel_rfl) (by kernel_rfl) allP0 ?_
        refine seqQ_norm ?_
        obtain rfl := Option.some.inj h
        refine W_ret [2, 3] [] (fr' := [(2, aI v83), (3, aI (0 : Int))]) (L' := []) (by kernel_rfl) (by kernel_rfl) ?_
        exact retQ_mk (by kernel_rfl) (by kernel_rfl) (by kernel_rfl)

def ref_Within (a0 : Int) (a1 : Int) (a2 : Int) : Option Bool :=
some ((decide (a0 ≤ a1)) && (decide (a1 ≤ a2)))
theorem ref_Within_ok {a0 : Int} {a1 : Int} {a2 : Int} {r : Bool} (h : ref_Within a0 a1 a2 = some r) : FnC Try.prog 15 [aI a0, aI a1, aI a2] [] (aB r) [] := by
  refine fnC_of_W (B := bodyOf Try.f15) (n := 15) Try.func15 (by kernel_rfl) (by kernel_rfl) (by kernel_rfl) (by kernel_rfl) (by kernel_rfl) ?_
  intro K
  refine W_seq (by kernel_rfl) ?_
  refine W_run 1 [] [0, 1, 2] [] (fr' := [(0, aI a0), (1, aI a1), (2, aI a2)]) (L' := []) (obs := []) (by kernel_rfl) (by kernel_rfl) (by kernel_rfl) allP0 ?_
  refine seqQ_norm ?_
  refine W_seq (by kernel_rfl) ?_
  refine W_run 9 [] [6] [] (fr' := [(6, aB ((decide (a0 ≤ a1)) && (decide (a1 ≤ a2))))]) (L' := []) (obs := []) (by kernel_rfl) (by kernel_rfl) (by kernel_rfl) allP0 ?_
  refine seqQ_norm ?_
  obtain rfl := Option.some.inj h
  refine W_ret [6] [] (fr' := [(6, aB ((decide (a0 ≤ a1)) && (decide (a1 ≤ a2))))]) (L' := []) (by kernel_rfl) (by kernel_rfl) ?_
  exact retQ_mk (by kernel_rfl) (by kernel_rfl) (by kernel_rfl)

def ref_Packed_b7 (i41 : Int) (i55 : Int) (x56 : Int) : Option (Flow Int Int) :=
(idx [(2 : Int), (3 : Int), (5 : Int), (7 : Int)] i41).bind fun v59 =>
some (.next (w64 (x56 * v59)))
@[reducible] def ref_Packed_s8 (a0 : (List Int)) (i41 : Int) (v44 : Int) (v : Int × Int) : Fr × LL := ([(3, aI v.2), (4, aI i41), (5, aI v44), (6, aI v.1), (7, aD (.slice tI) a0), (8, aI (List.length a0 : Int)), (9, aI i41)], [])
@[reducible] def ref_Packed_s9 (a0 : (List Int)) (i41 : Int) (v : Int) : Fr × LL := ([(3, aI v), (7, aD (.slice tI) a0), (8, aI (List.length a0 : Int)), (9, aI i41)], [])
def ref_Packed_b10 (i41 : Int) (v44 : Int) (x42 : Int) : Option (Flow Int Int) :=
(forI (0 : Int) v44 (ref_Packed_b7 i41) (fun x56 => x56) x42).bind fun v62 =>
some (.next v62)
@[reducible] def ref_Packed_s11 (a0 : (List Int)) (v : Int × Int) : Fr × LL := ([(3, aI v.2), (7, aD (.slice tI) a0), (8, aI (List.length a0 : Int)), (9, aI v.1)], [])
@[reducible] def ref_Packed_s12 (v : Int) : Fr × LL := ([(3, aI v)], [])
def ref_Packed (a0 : (List Int)) : Option Int :=
(forL ref_Packed_b10 (fun x42 => x42) a0 0 (1 : Int)).bind fun v67 =>
some v67
theorem ref_Packed_ok {a0 : (List Int)} {r : Int} (h : ref_Packed a0 = some r) : FnC Try.prog 20 [aD (.slice tI) a0] [] (aI r) [] := by
  refine fnC_of_W (B := bodyOf Try.f20) (n := 27) Try.func20 (by kernel_rfl) (by kernel_rfl) (by kernel_rfl) (by kernel_rfl) (by kernel_rfl) ?_
  intro K
  refine W_seq (by kernel_rfl) ?_
  refine W_run 1 [] [0] [] (fr' := [(0, aD (.slice tI) a0)]) (L' := []) (obs := []) (by kernel_rfl) (by kernel_rfl) (by kernel_rfl) allP0 ?_
  refine seqQ_norm ?_
  refine W_seq (by kernel_rfl) ?_
  refine W_run 1 [] [0, 3] [] (fr' := [(0, aD (.slice tI) a0), (3, aI (1 : Int))]) (L' := []) (obs := []) (by kernel_rfl) (by kernel_rfl) (by kernel_rfl) allP0 ?_
  refine seqQ_norm ?_
  refine W_seq (by kernel_rfl) ?_
  refine W_seq (by kernel_rfl) ?_
  refine W_run 3 [] [3, 7, 8, 9] [] (fr' := [(3, aI (1 : Int)), (7, aD (.slice tI) a0), (8, aI (List.length a0 : Int)), (9, aI (0 : Int))]) (L' := []) (obs := []) (by kernel_rfl) (by kernel_rfl) (by kernel_rfl) allP0 ?_
  refine seqQ_norm ?_
  refine W_block (id := 0) (by kernel_rfl) ?_
  obtain ⟨v67, h68, h⟩ := bind_of h
  refine W_len (t := 7) (u := tI) (xs := a0) (by kernel_rfl) (fun h71 => ?_)
  obtain ⟨h69, h70⟩ := forL_iter h71 h68
  refine W_weaken [3, 7, 8, 9] [] (fr' := ((ref_Packed_s11 a0) ((0 : Int), (1 : Int))).1) (L' := ((ref_Packed_s11 a0) ((0 : Int), (1 : Int))).2) (by kernel_rfl) ?_
  refine W_cutK (W_loop (S := (ref_Packed_s11 a0)) (J := (exQ (.exit 0) ref_Packed_s12)) (by kernel_rfl) ?_ h69 _ v67 h70) ?_
  · rintro ⟨i41, x42⟩ s h
    refine W_seq (by kernel_rfl) ?_
    refine W_run 1 [] [3, 7, 8, 9, 10] [] (fr' := [(3, aI x42), (7, aD (.slice tI) a0), (8, aI (List.length a0 : Int)), (9, aI i41), (10, aB (decide (i41 < (List.length a0 : Int))))]) (L' := []) (obs := []) (by kernel_rfl) (by kernel_rfl) (by kernel_rfl) allP0 ?_
    refine seqQ_norm ?_
    refine W_seq (by kernel_rfl) ?_
    refine W_cond (o := .tmp 10) (b := decide (i41 < (List.length a0 : Int))) (by kernel_rfl) (by kernel_rfl) (fun h46 => ?_) (fun h46 => ?_)
    · replace h := stepL_true h46 h
      obtain ⟨v44, _, h45, h, rfl⟩ := h
      refine W_skip [3, 7, 8, 9] [] (fr' := [(3, aI x42), (7, aD (.slice tI) a0), (8, aI (List.length a0 : Int)), (9, aI i41)]) (L' := []) (by kernel_rfl) (by kernel_rfl) ?_
      refine seqQ_norm ?_
      refine W_seq (by kernel_rfl) ?_
      refine W_block (id := 1) (by kernel_rfl) ?_
      refine W_seq (by kernel_rfl) ?_
      refine W_run 5 [(3, .val (.dat tI v44))] [3, 4, 5, 7, 8, 9] [] (fr' := [(3, aI x42), (4, aI i41), (5, aI v44), (7, aD (.slice tI) a0), (8, aI (List.length a0 : Int)), (9, aI i41)]) (L' := []) (obs := [Idx a0 i41 v44]) (by kernel_rfl) (by kernel_rfl) (by kernel_rfl) (allP1 (Idx.of h45)) ?_
      refine seqQ_norm ?_
      refine W_seq (by kernel_rfl) ?_
      refine W_run 1 [] [3, 4, 5, 6, 7, 8, 9] [] (fr' := [(3, aI x42), (4, aI i41), (5, aI v44), (6, aI (0 : Int)), (7, aD (.slice tI) a0), (8, aI (List.length a0 : Int)), (9, aI i41)]) (L' := []) (obs := []) (by kernel_rfl) (by kernel_rfl) (by kernel_rfl) allP0 ?_
      refine seqQ_norm ?_
      refine W_block (id := 2) (by kernel_rfl) ?_
      obtain ⟨v62, h63, h⟩ := bind_of h
      obtain ⟨h64, h65⟩ := forI_iter h63
      refine W_weaken [3, 4, 5, 6, 7, 8, 9] [] (fr' := ((ref_Packed_s8 a0 i41 v44) ((0 : Int), x42)).1) (L' := ((ref_Packed_s8 a0 i41 v44) ((0 : Int), x42)).2) (by kernel_rfl) ?_
      refine W_cutK (W_loop (S := (ref_Packed_s8 a0 i41 v44)) (J := (exQ (.exit 2) (ref_Packed_s9 a0 i41))) (by kernel_rfl) ?_ h64 _ v62 h65) ?_
      · rintro ⟨i55, x56⟩ s h
        refine W_seq (by kernel_rfl) ?_
        refine W_seq (by kernel_rfl) ?_
        refine W_run 3 [] [3, 4, 5, 6, 7, 8, 9, 16] [] (fr' := [(3, aI x56), (4, aI i41), (5, aI v44), (6, aI i55), (7, aD (.slice tI) a0), (8, aI (List.length a0 : Int)), (9, aI i41), (16, aB (decide (i55 < v44)))]) (L' := []) (obs := []) (by kernel_rfl) (by kernel_rfl) (by kernel_rfl) allP0 ?_
        refine seqQ_norm ?_
        refine W_cond (o := .tmp 16) (b := decide (i55 < v44)) (by kernel_rfl) (by kernel_rfl) (fun h58 => ?_) (fun h58 => ?_)
        · replace h := stepI_true h58 h
          obtain ⟨_, h, rfl⟩ := h
          refine W_skip [3, 4, 5, 6, 7, 8, 9] [] (fr' := [(3, aI x56), (4, aI i41), (5, aI v44), (6, aI i55), (7, aD (.slice tI) a0), (8, aI (List.length a0 : Int)), (9, aI i41)]) (L' := []) (by kernel_rfl) (by kernel_rfl) ?_
          refine seqQ_norm ?_
          refine W_seq (by kernel_rfl) ?_
          refine W_block (id := 3) (by kernel_rfl) ?_
          obtain ⟨v59, h60, h⟩ := bind_of h
          refine W_run 7 [(9, .val (.dat tI v59))] [3, 4, 5, 6, 7, 8, 9] [] (fr' := [(3, aI (w64 (x56 * v59))), (4, aI i41), (5, aI v44), (6, aI i55), (7, aD (.slice tI) a0), (8, aI (List.length a0 : Int)), (9, aI i41)]) (L' := []) (obs := [InR i41 (List.length [(2 : Int), (3 : Int), (5 : Int), (7 : Int)]), Idx [(2 : Int), (3 : Int), (5 : Int), (7 : Int)] i41 v59]) (by kernel_rfl) (by kernel_rfl) (by kernel_rfl) (allP2 (InR.of h60) (allP1 (Idx.of h60))) ?_
          refine blockQ_norm ?_
          refine seqQ_norm ?_
          obtain rfl := Option.some.inj h
          refine W_run 3 [] [3, 4, 5, 6, 7, 8, 9] [] (fr' := [(3, aI (w64 (x56 * v59))), (4, aI i41), (5, aI v44), (6, aI (w64 (i55 + (1 : Int)))), (7, aD (.slice tI) a0), (8, aI (List.length a0 : Int)), (9, aI i41)]) (L' := []) (obs := []) (by kernel_rfl) (by kernel_rfl) (by kernel_rfl) allP0 ?_
          exact round_next' (by kernel_rfl) (by kernel_rfl)
        · obtain rfl := stepI_false h58 h
          refine W_exit (id := 2) [3, 7, 8, 9] [] (fr' := [(3, aI x56), (7, aD (.slice tI) a0), (8, aI (List.length a0 : Int)), (9, aI i41)]) (L' := []) (by kernel_rfl) (by kernel_rfl) ?_
          refine seqQ_exit ?_
          refine round_exit ?_
          exact exQ_mk (by kernel_rfl) (by kernel_rfl)
      · intro e fr L hJ
        obtain ⟨rfl, rfl, rfl⟩ := hJ
        refine LT_keep [3, 7, 8, 9] [] (fr' := [(3, aI v62), (7, aD (.slice tI) a0), (8, aI (List.length a0 : Int)), (9, aI i41)]) (L' := []) (by kernel_rfl) ?_
        refine blockQ_hit ?_
        refine blockQ_norm ?_
        refine seqQ_norm ?_
        obtain rfl := Option.some.inj h
        refine W_run 2 [] [3, 7, 8, 9] [] (fr' := [(3, aI v62), (7, aD (.slice tI) a0), (8, aI (List.length a0 : Int)), (9, aI (w64 (i41 + (1 : Int))))]) (L' := []) (obs := []) (by kernel_rfl) (by kernel_rfl) (by kernel_rfl) allP0 ?_
        exact round_next' (by kernel_rfl) (by kernel_rfl)
    · obtain rfl := stepL_false h46 h
      refine W_exit (id := 0) [3] [] (fr' := [(3, aI x42)]) (L' := []) (by kernel_rfl) (by kernel_rfl) ?_
      refine seqQ_exit ?_
      refine round_exit ?_
      exact exQ_mk (by kernel_rfl) (by kernel_rfl)
  · intro e fr L hJ
    obtain ⟨rfl, rfl, rfl⟩ := hJ
    refine LT_keep [3] [] (fr' := [(3, aI v67)]) (L' := []) (by kernel_rfl) ?_
    refine blockQ_hit ?_
    refine seqQ_norm ?_
    refine W_seq (by kernel_rfl) ?_
    refine W_run 2 [] [2] [] (fr' := [(2, aI v67)]) (L' := []) (obs := []) (by kernel_rfl) (by kernel_rfl) (by kernel_rfl) allP0 ?_
    refine seqQ_norm ?_
    obtain rfl := Option.some.inj h
    refine W_ret [2] [] (fr' := [(2, aI v67)]) (L' := []) (by kernel_rfl) (by kernel_rfl) ?_
    exact retQ_mk (by kernel_rfl) (by kernel_rfl) (by kernel_rfl)

@[reducible] def law_TwoPacks_s13 (a0 : (List Int)) (r1 : (Int × Int)) (i106 : Int) (x107 : Int) (v : Bool) : Fr × LL := ([(0, aD (.slice tI) a0), (3, aI r1.1), (4, aI r1.2), (5, aI x107), (17, aD (.slice tI) a0), (18, aI (List.length a0 : Int)), (19, aI i106), (29, aB v)], [])
def law_TwoPacks_g14 (x107 : Int) (v109 : Int) : Option Int :=
(bif x107 == (0 : Int) then
((ref_Within (0 : Int) v109 (4 : Int)).bind fun r143 =>
some (!r143))
else
(some false)).bind fun v145 =>
bif v145 then
(some (4 : Int))
else
(some x107)
@[reducible] def law_TwoPacks_s15 (a0 : (List Int)) (r1 : (Int × Int)) (i106 : Int) (v : Int) : Fr × LL := ([(0, aD (.slice tI) a0), (3, aI r1.1), (4, aI r1.2), (5, aI v), (17, aD (.slice tI) a0), (18, aI (List.length a0 : Int)), (19, aI i106)], [])
def law_TwoPacks_b16 (i106 : Int) (v109 : Int) (x107 : Int) : Option (Flow Int Int) :=
(law_TwoPacks_g14 x107 v109).bind fun v148 =>
some (.next v148)
@[reducible] def law_TwoPacks_s17 (a0 : (List Int)) (r1 : (Int × Int)) (v : Int × Int) : Fr × LL := ([(0, aD (.slice tI) a0), (3, aI r1.1), (4, aI r1.2), (5, aI v.2), (17, aD (.slice tI) a0), (18, aI (List.length a0 : Int)), (19, aI v.1)], [])
@[reducible] def law_TwoPacks_s18 (a0 : (List Int)) (r1 : (Int × Int)) (v : Int) : Fr × LL := ([(0, aD (.slice tI) a0), (3, aI r1.1), (4, aI r1.2), (5, aI v)], [])
@[reducible] def law_TwoPacks_s19 (v : Bool) : Fr × LL := ([(2, aB v)], [])
@[reducible] def law_TwoPacks_s20 (a0 : (List Int)) (r1 : (Int × Int)) (v : Int) : Fr × LL := ([(0, aD (.slice tI) a0), (3, aI r1.1), (4, aI r1.2), (5, aI v)], [])
def law_TwoPacks (a0 : (List Int)) : Option Bool :=
(two_Pack a0).bind fun r1 =>
((ref_Within (1 : Int) (List.length a0 : Int) (4 : Int)).bind fun r9 =>
bif !r9 then
(some (1 : Int))
else
(some (0 : Int))).bind fun v12 =>
(forL law_TwoPacks_b16 (fun x107 => x107) a0 0 v12).bind fun v151 =>
bif v151 != (0 : Int) then
(some ((r1.2 == v151) && (r1.1 == (0 : Int))))
else
((bif r1.2 == (0 : Int) then
((ref_Packed a0).bind fun r164 =>
some (r1.1 == r164))
else
(some false)).bind fun v166 =>
some v166)
theorem law_TwoPacks_ok {a0 : (List Int)} {r : Bool} (h : law_TwoPacks a0 = some r) : FnC Try.prog 7 [aD (.slice tI) a0] [] (aB r) [] := by
  refine fnC_of_W (B := bodyOf Try.f7) (n := 48) Try.func7 (by kernel_rfl) (by kernel_rfl) (by kernel_rfl) (by kernel_rfl) (by kernel_rfl) ?_
  intro K
  refine W_seq (by kernel_rfl) ?_
  refine W_run 1 [] [0] [] (fr' := [(0, aD (.slice tI) a0)]) (L' := []) (obs := []) (by kernel_rfl) (by kernel_rfl) (by kernel_rfl) allP0 ?_
  refine seqQ_norm ?_
  refine W_seq (by kernel_rfl) ?_
  refine W_region (by kernel_rfl) ?_
  refine WO_run (j := 1) (k := 1) (orcs := []) (kF := [0, 9]) (kL := []) (fr' := [(0, aD (.slice tI) a0), (9, aD (.slice tI) a0)]) (L' := []) (obs := []) rfl (by kernel_rfl) allP0 ?_
  obtain ⟨r1, h2, h⟩ := bind_of h
  refine WO_call0 (us := [none]) (d := 10) (p := True) (j := 2) rfl ⟨by kernel_rfl, by kernel_rfl, by kernel_rfl⟩ trivial (two_Pack_ok h2) (by kernel_rfl) ?_
  refine WO_run (j := 7) (k := 5) (orcs := []) (kF := [0, 3, 4]) (kL := []) (fr' := [(0, aD (.slice tI) a0), (3, aI r1.1), (4, aI r1.2)]) (L' := []) (obs := []) rfl (by kernel_rfl) allP0 ?_
  refine WO_fin [0, 3, 4] [] (fr' := [(0, aD (.slice tI) a0), (3, aI r1.1), (4, aI r1.2)]) (L' := []) (by kernel_rfl) (by kernel_rfl) ?_
  refine seqQ_norm ?_
  refine W_seq (by kernel_rfl) ?_
  refine W_run 1 [] [0, 3, 4, 5] [] (fr' := [(0, aD (.slice tI) a0), (3, aI r1.1), (4, aI r1.2), (5, aI (0 : Int))]) (L' := []) (obs := []) (by kernel_rfl) (by kernel_rfl) (by kernel_rfl) allP0 ?_
  refine seqQ_norm ?_
  refine W_seq (by kernel_rfl) ?_
  obtain ⟨v12, h13, h⟩ := bind_of h
  refine W_cutK (Q' := (exQ .normal (law_TwoPacks_s20 a0 r1)) v12) ?_ ?_
  · replace h := h13
    refine W_seq (by kernel_rfl) ?_
    refine W_region (by kernel_rfl) ?_
    refine WO_run (j := 2) (k := 2) (orcs := []) (kF := [0, 3, 4, 5, 14]) (kL := []) (fr' := [(0, aD (.slice tI) a0), (3, aI r1.1), (4, aI r1.2), (5, aI (0 : Int)), (14, aI (List.length a0 : Int))]) (L' := []) (obs := []) rfl (by kernel_rfl) allP0 ?_
    obtain ⟨r9, h10, h⟩ := bind_of h
    refine WO_call0 (us := [none, none, none]) (d := 15) (p := True) (j := 3) rfl ⟨by kernel_rfl, by kernel_rfl, by kernel_rfl⟩ trivial (ref_Within_ok h10) (by kernel_rfl) ?_
    refine WO_run (j := 4) (k := 1) (orcs := []) (kF := [0, 3, 4, 5, 16]) (kL := []) (fr' := [(0, aD (.slice tI) a0), (3, aI r1.1), (4, aI r1.2), (5, aI (0 : Int)), (16, aB (!r9))]) (L' := []) (obs := []) rfl (by kernel_rfl) allP0 ?_
    refine WO_fin [0, 3, 4, 5, 16] [] (fr' := [(0, aD (.slice tI) a0), (3, aI r1.1), (4, aI r1.2), (5, aI (0 : Int)), (16, aB (!r9))]) (L' := []) (by kernel_rfl) (by kernel_rfl) ?_
    refine seqQ_norm ?_
    refine W_cond (o := .tmp 16) (b := !r9) (by kernel_rfl) (by kernel_rfl) (fun h11 => ?_) (fun h11 => ?_)
    · replace h := ofT h11 h
      obtain rfl := Option.some.inj h
      refine W_run 1 [] [0, 3, 4, 5] [] (fr' := [(0, aD (.slice tI) a0), (3, aI r1.1), (4, aI r1.2), (5, aI (1 : Int))]) (L' := []) (obs := []) (by kernel_rfl) (by kernel_rfl) (by kernel_rfl) allP0 ?_
      exact exQ_mk (by kernel_rfl) (by kernel_rfl)
    · replace h := ofF h11 h
      obtain rfl := Option.some.inj h
      refine W_skip [0, 3, 4, 5] [] (fr' := [(0, aD (.slice tI) a0), (3, aI r1.1), (4, aI r1.2), (5, aI (0 : Int))]) (L' := []) (by kernel_rfl) (by kernel_rfl) ?_
      exact exQ_mk (by kernel_rfl) (by kernel_rfl)
  · intro e fr L hJ
    obtain ⟨rfl, rfl, rfl⟩ := hJ
    refine LT_keep [0, 3, 4, 5] [] (fr' := [(0, aD (.slice tI) a0), (3, aI r1.1), (4, aI r1.2), (5, aI v12)]) (L' := []) (by kernel_rfl) ?_
    refine seqQ_norm ?_
    refine W_seq (by kernel_rfl) ?_
    refine W_seq (by kernel_rfl) ?_
    refine W_run 3 [] [0, 3, 4, 5, 17, 18, 19] [] (fr' := [(0, aD (.slice tI) a0), (3, aI r1.1), (4, aI r1.2), (5, aI v12), (17, aD (.slice tI) a0), (18, aI (List.length a0 : Int)), (19, aI (0 : Int))]) (L' := []) (obs := []) (by kernel_rfl) (by kernel_rfl) (by kernel_rfl) allP0 ?_
    refine seqQ_norm ?_
    refine W_block (id := 0) (by kernel_rfl) ?_
    obtain ⟨v151, h152, h⟩ := bind_of h
    refine W_len (t := 17) (u := tI) (xs := a0) (by kernel_rfl) (fun h155 => ?_)
    obtain ⟨h153, h154⟩ := forL_iter h155 h152
    refine W_weaken [0, 3, 4, 5, 17, 18, 19] [] (fr' := ((law_TwoPacks_s17 a0 r1) ((0 : Int), v12)).1) (L' := ((law_TwoPacks_s17 a0 r1) ((0 : Int), v12)).2) (by kernel_rfl) ?_
    refine W_cutK (W_loop (S := (law_TwoPacks_s17 a0 r1)) (J := (exQ (.exit 0) (law_TwoPacks_s18 a0 r1))) (by kernel_rfl) ?_ h153 _ v151 h154) ?_
    · rintro ⟨i106, x107⟩ s h
      refine W_seq (by kernel_rfl) ?_
      refine W_run 1 [] [0, 3, 4, 5, 17, 18, 19, 20] [] (fr' := [(0, aD (.slice tI) a0), (3, aI r1.1), (4, aI r1.2), (5, aI x107), (17, aD (.slice tI) a0), (18, aI (List.length a0 : Int)), (19, aI i106), (20, aB (decide (i106 < (List.length a0 : Int))))]) (L' := []) (obs := []) (by kernel_rfl) (by kernel_rfl) (by kernel_rfl) allP0 ?_
      refine seqQ_norm ?_
      refine W_seq (by kernel_rfl) ?_
      refine W_cond (o := .tmp 20) (b := decide (i106 < (List.length a0 : Int))) (by kernel_rfl) (by kernel_rfl) (fun h111 => ?_) (fun h111 => ?_)
      · replace h := stepL_true h111 h
        obtain ⟨v109, _, h110, h, rfl⟩ := h
        refine W_skip [0, 3, 4, 5, 17, 18, 19] [] (fr' := [(0, aD (.slice tI) a0), (3, aI r1.1), (4, aI r1.2), (5, aI x107), (17, aD (.slice tI) a0), (18, aI (List.length a0 : Int)), (19, aI i106)]) (L' := []) (by kernel_rfl) (by kernel_rfl) ?_
        refine seqQ_norm ?_
        refine W_seq (by kernel_rfl) ?_
        obtain ⟨v148, h149, h⟩ := bind_of h
        refine W_cutK (Q' := (exQ .normal (law_TwoPacks_s15 a0 r1 i106)) v148) ?_ ?_
        · replace h := h149
          refine W_block (id := 1) (by kernel_rfl) ?_
          refine W_seq (by kernel_rfl) ?_
          refine W_run 3 [(1, .val (.dat tI v109))] [0, 3, 4, 5, 7, 17, 18, 19] [] (fr' := [(0, aD (.slice tI) a0), (3, aI r1.1), (4, aI r1.2), (5, aI x107), (7, aI v109), (17, aD (.slice tI) a0), (18, aI (List.length a0 : Int)), (19, aI i106)]) (L' := []) (obs := [Idx a0 i106 v109]) (by kernel_rfl) (by kernel_rfl) (by kernel_rfl) (allP1 (Idx.of h110)) ?_
          refine seqQ_norm ?_
          refine W_seq (by kernel_rfl) ?_
          obtain ⟨v145, h146, h⟩ := bind_of h
          refine W_cutK (Q' := (exQ .normal (law_TwoPacks_s13 a0 r1 i106 x107)) v145) ?_ ?_
          · replace h := h146
            refine W_region (by kernel_rfl) ?_
            refine WO_run (j := 4) (k := 4) (orcs := []) (kF := [0, 3, 4, 5, 17, 18, 19, 25, 26]) (kL := []) (fr' := [(0, aD (.slice tI) a0), (3, aI r1.1), (4, aI r1.2), (5, aI x107), (17, aD (.slice tI) a0), (18, aI (List.length a0 : Int)), (19, aI i106), (25, aB (x107 == (0 : Int))), (26, .mb 25 true (.dat tI v109))]) (L' := []) (obs := []) rfl (by kernel_rfl) allP0 ?_
            rcases Bool.eq_false_or_eq_true (x107 == (0 : Int)) with h142 | h142
            · replace h := ofT h142 h
              obtain ⟨r143, h144, h⟩ := bind_of h
              refine WO_call0 (us := [none, none, none]) (d := 27) (p := ((x107 == (0 : Int)) = true)) (j := 5) rfl ⟨by kernel_rfl, by kernel_rfl, by kernel_rfl⟩ h142 (ref_Within_ok h144) (by kernel_rfl) ?_
              refine WO_run (j := 7) (k := 2) (orcs := [(10, .known true), (13, .val (.dat .bool true))]) (kF := [0, 3, 4, 5, 17, 18, 19, 29]) (kL := []) (fr' := [(0, aD (.slice tI) a0), (3, aI r1.1), (4, aI r1.2), (5, aI x107), (17, aD (.slice tI) a0), (18, aI (List.length a0 : Int)), (19, aI i106), (29, aB (!r143))]) (L' := []) (obs := [((x107 == (0 : Int)) = true), ((x107 == (0 : Int)) = true)]) rfl (by kernel_rfl) (allP2 h142 (allP1 h142)) ?_
              obtain rfl := Option.some.inj h
              refine WO_fin [0, 3, 4, 5, 17, 18, 19, 29] [] (fr' := [(0, aD (.slice tI) a0), (3, aI r1.1), (4, aI r1.2), (5, aI x107), (17, aD (.slice tI) a0), (18, aI (List.length a0 : Int)), (19, aI i106), (29, aB (!r143))]) (L' := []) (by kernel_rfl) (by kernel_rfl) ?_
              exact exQ_mk (by kernel_rfl) (by kernel_rfl)
            · replace h := ofF h142 h
              refine WO_run (j := 7) (k := 3) (orcs := [(8, .known false), (10, .known false), (13, .val (.dat .bool false))]) (kF := [0, 3, 4, 5, 17, 18, 19, 29]) (kL := []) (fr' := [(0, aD (.slice tI) a0), (3, aI r1.1), (4, aI r1.2), (5, aI x107), (17, aD (.slice tI) a0), (18, aI (List.length a0 : Int)), (19, aI i106), (29, aB false)]) (L' := []) (obs := [((x107 == (0 : Int)) = false), ((x107 == (0 : Int)) = false), ((x107 == (0 : Int)) = false)]) rfl (by kernel_rfl) (allP2 h142 (allP2 h142 (allP1 h142))) ?_
              obtain rfl := Option.some.inj h
              refine WO_fin [0, 3, 4, 5, 17, 18, 19, 29] [] (fr' := [(0, aD (.slice tI) a0), (3, aI r1.1), (4, aI r1.2), (5, aI x107), (17, aD (.slice tI) a0), (18, aI (List.length a0 : Int)), (19, aI i106), (29, aB false)]) (L' := []) (by kernel_rfl) (by kernel_rfl) ?_
              exact exQ_mk (by kernel_rfl) (by kernel_rfl)
          · intro e fr L hJ
            obtain ⟨rfl, rfl, rfl⟩ := hJ
            refine LT_keep [0, 3, 4, 5, 17, 18, 19, 29] [] (fr' := [(0, aD (.slice tI) a0), (3, aI r1.1), (4, aI r1.2), (5, aI x107), (17, aD (.slice tI) a0), (18, aI (List.length a0 : Int)), (19, aI i106), (29, aB v145)]) (L' := []) (by kernel_rfl) ?_
            refine seqQ_norm ?_
            refine W_cond (o := .tmp 29) (b := v145) (by kernel_rfl) (by kernel_rfl) (fun h147 => ?_) (fun h147 => ?_)
            · replace h := ofT h147 h
              obtain rfl := Option.some.inj h
              refine W_run 1 [] [0, 3, 4, 5, 17, 18, 19] [] (fr' := [(0, aD (.slice tI) a0), (3, aI r1.1), (4, aI r1.2), (5, aI (4 : Int)), (17, aD (.slice tI) a0), (18, aI (List.length a0 : Int)), (19, aI i106)]) (L' := []) (obs := []) (by kernel_rfl) (by kernel_rfl) (by kernel_rfl) allP0 ?_
              refine blockQ_norm ?_
              exact exQ_mk (by kernel_rfl) (by kernel_rfl)
            · replace h := ofF h147 h
              obtain rfl := Option.some.inj h
              refine W_skip [0, 3, 4, 5, 17, 18, 19] [] (fr' := [(0, aD (.slice tI) a0), (3, aI r1.1), (4, aI r1.2), (5, aI x107), (17, aD (.slice tI) a0), (18, aI (List.length a0 : Int)), (19, aI i106)]) (L' := []) (by kernel_rfl) (by kernel_rfl) ?_
              refine blockQ_norm ?_
              exact exQ_mk (by kernel_rfl) (by kernel_rfl)
        · intro e fr L hJ
          obtain ⟨rfl, rfl, rfl⟩ := hJ
          refine LT_keep [0, 3, 4, 5, 17, 18, 19] [] (fr' := [(0, aD (.slice tI) a0), (3, aI r1.1), (4, aI r1.2), (5, aI v148), (17, aD (.slice tI) a0), (18, aI (List.length a0 : Int)), (19, aI i106)]) (L' := []) (by kernel_rfl) ?_
          refine seqQ_norm ?_
          obtain rfl := Option.some.inj h
          refine W_run 2 [] [0, 3, 4, 5, 17, 18, 19] [] (fr' := [(0, aD (.slice tI) a0), (3, aI r1.1), (4, aI r1.2), (5, aI v148), (17, aD (.slice tI) a0), (18, aI (List.length a0 : Int)), (19, aI (w64 (i106 + (1 : Int))))]) (L' := []) (obs := []) (by kernel_rfl) (by kernel_rfl) (by kernel_rfl) allP0 ?_
          exact round_next' (by kernel_rfl) (by kernel_rfl)
      · obtain rfl := stepL_false h111 h
        refine W_exit (id := 0) [0, 3, 4, 5] [] (fr' := [(0, aD (.slice tI) a0), (3, aI r1.1), (4, aI r1.2), (5, aI x107)]) (L' := []) (by kernel_rfl) (by kernel_rfl) ?_
        refine seqQ_exit ?_
        refine round_exit ?_
        exact exQ_mk (by kernel_rfl) (by kernel_rfl)
    · intro e fr L hJ
      obtain ⟨rfl, rfl, rfl⟩ := hJ
      refine LT_keep [0, 3, 4, 5] [] (fr' := [(0, aD (.slice tI) a0), (3, aI r1.1), (4, aI r1.2), (5, aI v151)]) (L' := []) (by kernel_rfl) ?_
      refine blockQ_hit ?_
      refine seqQ_norm ?_
      refine W_seq (by kernel_rfl) ?_
      refine W_seq (by kernel_rfl) ?_
      refine W_run 2 [] [0, 3, 4, 5, 32] [] (fr' := [(0, aD (.slice tI) a0), (3, aI r1.1), (4, aI r1.2), (5, aI v151), (32, aB (v151 != (0 : Int)))]) (L' := []) (obs := []) (by kernel_rfl) (by kernel_rfl) (by kernel_rfl) allP0 ?_
      refine seqQ_norm ?_
      refine W_cond (o := .tmp 32) (b := v151 != (0 : Int)) (by kernel_rfl) (by kernel_rfl) (fun h156 => ?_) (fun h156 => ?_)
      · replace h := ofT h156 h
        refine W_seq (by kernel_rfl) ?_
        refine W_run 8 [] [2] [] (fr' := [(2, aB ((r1.2 == v151) && (r1.1 == (0 : Int))))]) (L' := []) (obs := []) (by kernel_rfl) (by kernel_rfl) (by kernel_rfl) allP0 ?_
        refine seqQ_norm ?_
        obtain rfl := Option.some.inj h
        refine W_ret [2] [] (fr' := [(2, aB ((r1.2 == v151) && (r1.1 == (0 : Int))))]) (L' := []) (by kernel_rfl) (by kernel_rfl) ?_
        refine seqQ_ret ?_
        exact retQ_mk (by kernel_rfl) (by kernel_rfl) (by kernel_rfl)
      · replace h := ofF h156 h
        refine W_skip [0, 3, 4] [] (fr' := [(0, aD (.slice tI) a0), (3, aI r1.1), (4, aI r1.2)]) (L' := []) (by kernel_rfl) (by kernel_rfl) ?_
        refine seqQ_norm ?_
        refine W_seq (by kernel_rfl) ?_
        obtain ⟨v166, h167, h⟩ := bind_of h
        refine W_cutK (Q' := (exQ .normal law_TwoPacks_s19) v166) ?_ ?_
        · replace h := h167
          refine W_region (by kernel_rfl) ?_
          refine WO_run (j := 5) (k := 5) (orcs := []) (kF := [42, 43, 44]) (kL := []) (fr' := [(42, aB (r1.2 == (0 : Int))), (43, .mb 42 true (.dat tI r1.1)), (44, .mb 42 true (.dat (.slice tI) a0))]) (L' := []) (obs := []) rfl (by kernel_rfl) allP0 ?_
          rcases Bool.eq_false_or_eq_true (r1.2 == (0 : Int)) with h163 | h163
          · replace h := ofT h163 h
            obtain ⟨r164, h165, h⟩ := bind_of h
            refine WO_call0 (us := [none]) (d := 45) (p := ((r1.2 == (0 : Int)) = true)) (j := 6) rfl ⟨by kernel_rfl, by kernel_rfl, by kernel_rfl⟩ h163 (ref_Packed_ok h165) (by kernel_rfl) ?_
            refine WO_run (j := 9) (k := 3) (orcs := [(12, .known true), (15, .val (.dat .bool true))]) (kF := [2]) (kL := []) (fr' := [(2, aB (r1.1 == r164))]) (L' := []) (obs := [((r1.2 == (0 : Int)) = true), ((r1.2 == (0 : Int)) = true)]) rfl (by kernel_rfl) (allP2 h163 (allP1 h163)) ?_
            obtain rfl := Option.some.inj h
            refine WO_fin [2] [] (fr' := [(2, aB (r1.1 == r164))]) (L' := []) (by kernel_rfl) (by kernel_rfl) ?_
            exact exQ_mk (by kernel_rfl) (by kernel_rfl)
          · replace h := ofF h163 h
            refine WO_run (j := 9) (k := 4) (orcs := [(10, .known false), (12, .known false), (15, .val (.dat .bool false))]) (kF := [2]) (kL := []) (fr' := [(2, aB false)]) (L' := []) (obs := [((r1.2 == (0 : Int)) = false), ((r1.2 == (0 : Int)) = false), ((r1.2 == (0 : Int)) = false)]) rfl (by kernel_rfl) (allP2 h163 (allP2 h163 (allP1 h163))) ?_
            obtain rfl := Option.some.inj h
            refine WO_fin [2] [] (fr' := [(2, aB false)]) (L' := []) (by kernel_rfl) (by kernel_rfl) ?_
            exact exQ_mk (by kernel_rfl) (by kernel_rfl)
        · intro e fr L hJ
          obtain ⟨rfl, rfl, rfl⟩ := hJ
          refine LT_keep [2] [] (fr' := [(2, aB v166)]) (L' := []) (by kernel_rfl) ?_
          refine seqQ_norm ?_
          obtain rfl := Option.some.inj h
          refine W_ret [2] [] (fr' := [(2, aB v166)]) (L' := []) (by kernel_rfl) (by kernel_rfl) ?_
          exact retQ_mk (by kernel_rfl) (by kernel_rfl) (by kernel_rfl)
end Go.Proofs.Ytmongadolmofnaa.twoPacks
