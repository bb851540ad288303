/- For any number pair.Open returns the specified results: PairOpens returns true and changes nothing; no conditions. -/
import Derived.Test.YtmongadolmofnaaRows
import Derived.WalkKit
import Derived.ProofKit
import Derived.OpenShut
import Derived.ShutString
import Derived.ChangeOld
import Derived.Below
import Derived.Test.YtmongadolmofnaaPairOpensM
set_option linter.all false
set_option maxRecDepth 100000
namespace Go.Proofs.Ytmongadolmofnaa.pairOpens
open Go Go.Sl

theorem po_dvd (s : Int) : (2 : Int) ∣ s * (s + 1) := by
  rcases (show s % 2 = 0 ∨ s % 2 = 1 by omega) with h | h
  · exact Int.dvd_trans (Int.dvd_of_emod_eq_zero h) (Int.dvd_mul_right _ _)
  · exact Int.dvd_trans (Int.dvd_of_emod_eq_zero (by omega)) (Int.dvd_mul_left _ _)
theorem po_mul {s : Int} (h0 : 0 ≤ s) (h1 : s ≤ 2147483648) : 0 ≤ s * (s + 1) ∧ s * (s + 1) ≤ 2147483648 * 2147483649 :=
  ⟨Int.mul_nonneg h0 (by omega), Int.mul_le_mul h1 (by omega) (by omega) (by omega)⟩
theorem po_tri (s : Int) (h0 : 0 ≤ s) (h1 : s ≤ 2147483648) : ∃ t, w64 (Int.tdiv (w64 (s * w64 (s + 1))) 2) = t ∧ 2 * t = s * (s + 1) ∧ 0 ≤ t := by
  have b := po_mul h0 h1
  have e1 : w64 (s + 1) = s + 1 := w64_id (by omega) (by omega)
  have e2 : w64 (s * (s + 1)) = s * (s + 1) := w64_id (by omega) (by omega)
  rw [e1, e2, Int.tdiv_eq_ediv_of_nonneg b.1]
  have hd := Int.mul_ediv_cancel' (po_dvd s)
  refine ⟨_, rfl, ?_⟩
  generalize s * (s + 1) / 2 = q at hd ⊢
  rw [w64_id (by omega) (by omega)]
  omega
theorem po_mono {a b : Int} (h0 : 0 ≤ a) (h : a ≤ b) : a * (a + 1) ≤ b * (b + 1) := Int.mul_le_mul h (by omega) (by omega) (by omega)
theorem po_sums (s : Int) (h0 : 0 ≤ s) (h1 : s ≤ 2147483648) : ∃ t, pair_sums s = some t ∧ 2 * t = s * (s + 1) ∧ 0 ≤ t := by
  obtain ⟨t, h, h2⟩ := po_tri s h0 h1
  exact ⟨t, by unfold pair_sums; rw [h], h2⟩
theorem po_open (n : Int) (h0 : 0 ≤ n) (h1 : n < 2000003000001) (fuel : Nat) (hf : 2000001 < fuel) :
    ∃ y, iter (pair_Open_b1 n) fuel (0, 2000000) = some y ∧ 0 ≤ y ∧ y ≤ 2000000 ∧ y * (y + 1) ≤ 2 * n ∧ 2 * n < (y + 1) * (y + 1 + 1) := by
  refine iter_inv (Inv := fun x => 0 ≤ x.1 ∧ x.1 ≤ x.2 ∧ x.2 ≤ 2000000 ∧ x.1 * (x.1 + 1) ≤ 2 * n ∧ 2 * n < (x.2 + 1) * (x.2 + 1 + 1)) (m := fun x => (x.2 - x.1).toNat) _ ?_ fuel (0, 2000000) (by show ((2000000 : Int) - 0).toNat < fuel; omega) ⟨by simp, by simp, by simp, by simp; omega, by simp; omega⟩
  rintro ⟨lo, hi⟩ ⟨a1, a2, a3, a4, a5⟩
  simp only at a1 a2 a3 a4 a5
  unfold pair_Open_b1
  by_cases hc : lo < hi
  · have e1 : w64 (lo + hi) = lo + hi := w64_id (by omega) (by omega)
    have e2 : w64 (lo + hi + 1) = lo + hi + 1 := w64_id (by omega) (by omega)
    have e3 : w64 (Int.tdiv (lo + hi + 1) 2) = (lo + hi + 1) / 2 := by
      rw [Int.tdiv_eq_ediv_of_nonneg (by omega)]; exact w64_id (by omega) (by omega)
    simp only [decide_eq_true hc, cond_true, e1, e2, e3]
    have m1 : lo < (lo + hi + 1) / 2 := by omega
    have m2 : (lo + hi + 1) / 2 ≤ hi := by omega
    generalize (lo + hi + 1) / 2 = m at m1 m2 ⊢
    obtain ⟨t, ht, ht2, ht0⟩ := po_sums m (by omega) (by omega)
    rw [ht]
    simp only [Option.bind_some]
    by_cases hn : t ≤ n
    · rw [decide_eq_true hn]
      refine ⟨_, rfl, ⟨by dsimp only; omega, m2, a3, by dsimp only; omega, a5⟩, by dsimp only; omega⟩
    · rw [decide_eq_false hn]
      have e4 : w64 (m - 1) = m - 1 := w64_id (by omega) (by omega)
      refine ⟨_, rfl, ?_⟩
      simp only [e4]
      have : (m - 1 + 1) = m := by omega
      rw [this]
      exact ⟨⟨a1, by omega, by omega, a4, by omega⟩, by omega⟩
  · obtain rfl : lo = hi := by omega
    simp only [decide_eq_false hc, cond_false]
    exact ⟨_, rfl, a1, a3, a4, a5⟩
theorem po_law (n : Int) (h0 : 0 ≤ n) (h1 : n ≤ 4000000000000) (fuel : Nat) (hf : 2199023255552 < fuel) :
    ∃ y, iter (law_PairOpens_b7 n) fuel (0, 1099511627776) = some y ∧ 0 ≤ y ∧ y ≤ 2147483648 ∧ y * (y + 1) ≤ 2 * n ∧ (y = 2147483648 ∨ 2 * n < (y + 1) * (y + 1 + 1)) := by
  refine iter_inv (Inv := fun x => 0 ≤ x.1 ∧ x.1 ≤ 2147483648 ∧ x.1 * (x.1 + 1) ≤ 2 * n ∧ ((x.2 = 0 ∧ (x.1 = 2147483648 ∨ 2 * n < (x.1 + 1) * (x.1 + 1 + 1))) ∨ ((∃ k : Nat, k ≤ 40 ∧ x.2 = ((2 ^ k : Nat) : Int)) ∧ (2147483648 < x.1 + 2 * x.2 ∨ 2 * n < (x.1 + 2 * x.2) * (x.1 + 2 * x.2 + 1)))))
    (m := fun x => x.2.toNat) _ ?_ fuel (0, 1099511627776) (by show (1099511627776 : Int).toNat < fuel; omega) ⟨by simp, by simp, by simp; omega, .inr ⟨⟨40, by simp, rfl⟩, .inl (by simp)⟩⟩
  rintro ⟨s, st⟩ ⟨a1, a2, a3, a4⟩
  simp only at a1 a2 a3 a4
  unfold law_PairOpens_b7
  rcases a4 with ⟨rfl, a4⟩ | ⟨⟨k, hk, rfl⟩, a4⟩
  · exact ⟨_, rfl, a1, a2, a3, a4⟩
  · have hp : 0 < 2 ^ k := Nat.pow_pos (by omega)
    have hp2 : 2 ^ k ≤ 2 ^ 40 := Nat.pow_le_pow_right (by omega) hk
    have half : (2 ^ k = 1 ∧ k = 0) ∨ ∃ j, k = j + 1 ∧ 2 ^ k = 2 * 2 ^ j := by
      cases k with
      | zero => exact .inl ⟨rfl, rfl⟩
      | succ j => exact .inr ⟨j, rfl, by rw [Nat.pow_succ]; omega⟩
    have e0 : w64 (Int.tdiv ((2 ^ k : Nat) : Int) 2) = ((2 ^ k : Nat) : Int) / 2 := by
      rw [Int.tdiv_eq_ediv_of_nonneg (by omega)]; exact w64_id (by omega) (by omega)
    generalize hP : ((2 ^ k : Nat) : Int) = P at *
    have hP1 : 1 ≤ P := by omega
    have hP2 : P ≤ 1099511627776 := by omega
    have hc : decide (P > 0) = true := by simp; omega
    have e1 : w64 (s + P) = s + P := w64_id (by omega) (by omega)
    -- what the step makes of s
    have key : ∃ s', law_PairOpens_g5 n (s, P) = some s' ∧ 0 ≤ s' ∧ s' ≤ 2147483648 ∧ s' * (s' + 1) ≤ 2 * n ∧ (2147483648 < s' + P ∨ 2 * n < (s' + P) * (s' + P + 1)) := by
      unfold law_PairOpens_g5
      simp only [e1]
      by_cases c1 : s + P ≤ 2147483648
      · obtain ⟨t, ht, ht2, ht0⟩ := po_tri (s + P) (by omega) c1
        rw [ht]
        by_cases c2 : t ≤ n
        · refine ⟨s + P, by simp [c1, c2], by omega, c1, by omega, ?_⟩
          have : s + P + P = s + 2 * P := by omega
          rw [this]; exact a4
        · exact ⟨s, by simp [c2], a1, a2, a3, .inr (by omega)⟩
      · exact ⟨s, by simp [c1], a1, a2, a3, .inl (by omega)⟩
    obtain ⟨s', k1, k2, k3, k4, k5⟩ := key
    simp only [hc, cond_true, k1, Option.bind_some, e0]
    refine ⟨_, rfl, ⟨k2, k3, k4, ?_⟩, by dsimp only; omega⟩
    dsimp only
    rcases half with ⟨h2, _⟩ | ⟨j, hj, h2⟩
    · left
      have : P = 1 := by omega
      subst this
      refine ⟨rfl, ?_⟩
      rcases k5 with k5 | k5
      · left; omega
      · right; exact k5
    · right
      have : P / 2 = ((2 ^ j : Nat) : Int) := by omega
      refine ⟨⟨j, by omega, this⟩, ?_⟩
      have h3 : 2 * (P / 2) = P := by omega
      rw [h3]; exact k5
theorem po_uniq {a b n : Int} (ha : 0 ≤ a) (hb : 0 ≤ b) (a1 : a * (a + 1) ≤ n) (a2 : n < (a + 1) * (a + 1 + 1)) (b1 : b * (b + 1) ≤ n) (b2 : n < (b + 1) * (b + 1 + 1)) : a = b := by
  rcases Int.lt_trichotomy a b with h | h | h
  · have := po_mono (a := a + 1) (b := b) (by omega) (by omega); omega
  · exact h
  · have := po_mono (a := b + 1) (b := a) (by omega) (by omega); omega
theorem PairOpens_true (a0 : Int) (f0 : Fits (.int .i64) a0) : ∃ fuel, law_PairOpens fuel a0 = some true := by
  refine ⟨2199023255553, ?_⟩
  have f0 := f0.i64
  obtain ⟨T, hT, hT2, _⟩ := po_sums 2000001 (by omega) (by omega)
  have hT3 : T = 2000003000001 := by omega
  subst hT3
  -- the law's own way, when the program says no
  have no : ∀ r : Int × Int × Int, r = (0, 0, 4) → pair_Open 2199023255553 a0 = some r → (∀ y, 0 ≤ a0 → a0 ≤ 4000000000000 → 0 ≤ y → y ≤ 2147483648 → y * (y + 1) ≤ 2 * a0 → (y = 2147483648 ∨ 2 * a0 < (y + 1) * (y + 1 + 1)) → ∀ t, 2 * t = y * (y + 1) → 0 ≤ t → a0 - t > 1000000 ∨ y - (a0 - t) > 1000000) → law_PairOpens 2199023255553 a0 = some true := by
    rintro r rfl hr hy
    unfold law_PairOpens
    rw [hr]
    simp only [Option.bind_some]
    by_cases hc : a0 < 0 ∨ 4000000000000 < a0
    · have : ((decide (a0 < (0 : Int))) || (decide (a0 > (4000000000000 : Int)))) = true := by simp only [Bool.or_eq_true, decide_eq_true_eq]; omega
      rw [this]; rfl
    · have : ((decide (a0 < (0 : Int))) || (decide (a0 > (4000000000000 : Int)))) = false := by simp only [Bool.or_eq_false_iff, decide_eq_false_iff_not]; omega
      obtain ⟨y, y1, y2, y3, y4, y5⟩ := po_law a0 (by omega) (by omega) 2199023255553 (by omega)
      obtain ⟨t, t1, t2, t3⟩ := po_tri y y2 y3
      rw [this, y1]
      simp only [cond_true, cond_false, Option.bind_some, t1]
      have e1 : w64 (a0 - t) = a0 - t := w64_id (by omega) (by omega)
      have e2 : w64 (y - (a0 - t)) = y - (a0 - t) := w64_id (by omega) (by omega)
      rw [e1, e2]
      have := hy y (by omega) (by omega) y2 y3 y4 y5 t t2 t3
      have g : (decide (a0 - t > 1000000) || decide (y - (a0 - t) > 1000000)) = true := by simp only [Bool.or_eq_true, decide_eq_true_eq]; exact this
      rw [g]; rfl
  by_cases h : 0 ≤ a0 ∧ a0 < 2000003000001
  · obtain ⟨y, y1, y2, y3, y4, y5⟩ := po_open a0 h.1 h.2 2199023255553 (by omega)
    obtain ⟨t, t1, t2, t3⟩ := po_sums y y2 (by omega)
    have hy6 : (y + 1) * (y + 1 + 1) = y * (y + 1) + 2 * y + 2 := by rw [Int.add_mul, Int.mul_add, Int.mul_add, Int.mul_add]; omega
    have e1 : w64 (a0 - t) = a0 - t := w64_id (by omega) (by omega)
    have e2 : w64 (y - (a0 - t)) = y - (a0 - t) := w64_id (by omega) (by omega)
    have c1 : decide (a0 < 0) = false := by simp; omega
    have c2 : decide (a0 ≥ 2000003000001) = false := by simp; omega
    by_cases hm : a0 - t > 1000000 ∨ y - (a0 - t) > 1000000
    · have c3 : decide (imax (y - (a0 - t)) (a0 - t) > 1000000) = true := by
        unfold imax; simp only [decide_eq_true_eq]; split <;> omega
      refine no (0, 0, 4) rfl ?_ ?_
      · unfold pair_Open
        simp [hT, c1, c2, y1, t1, e1, e2, c3]
      · intro z _ _ z1 z2 z3 z4 u u1 u2
        have hz : z = y := by
          rcases z4 with rfl | z4
          · exfalso
            have := po_mono (a := 2000001) (b := 2147483648) (by omega) (by omega)
            omega
          · exact po_uniq z1 y2 z3 z4 y4 y5
        subst hz
        have : u = t := by omega
        subst this
        exact hm
    · have c3 : decide (imax (y - (a0 - t)) (a0 - t) > 1000000) = false := by
        unfold imax; simp only [decide_eq_false_iff_not]; split <;> omega
      have hr : pair_Open 2199023255553 a0 = some (y - (a0 - t), a0 - t, 0) := by
        unfold pair_Open
        simp [hT, c1, c2, y1, t1, e1, e2, c3]
      have w1 : ref_Within 0 (y - (a0 - t)) 1000000 = some true := by
        unfold ref_Within
        rw [decide_eq_true (by omega), decide_eq_true (by omega)]; rfl
      have w2 : ref_Within 0 (a0 - t) 1000000 = some true := by
        unfold ref_Within
        rw [decide_eq_true (by omega), decide_eq_true (by omega)]; rfl
      have e3 : w64 (y - (a0 - t) + (a0 - t)) = y := by rw [w64_id (by omega) (by omega)]; omega
      obtain ⟨t', t1', t2', _⟩ := po_tri y y2 (by omega)
      have : t' = t := by omega
      subst this
      have e4 : w64 (t' + (a0 - t')) = a0 := by rw [w64_id (by omega) (by omega)]; omega
      unfold law_PairOpens law_PairOpens_g10
      simp only [hr, w1, w2, e3, t1', e4, Option.bind_some]
      simp
  · have hr : pair_Open 2199023255553 a0 = some (0, 0, 4) := by
      unfold pair_Open
      by_cases h2 : a0 < 0
      · simp [h2]
      · have c2 : decide (a0 ≥ 2000003000001) = true := by simp; omega
        simp [h2, hT, c2]
    refine no _ rfl hr ?_
    intro z _ _ z1 z2 z3 z4 u u1 u2
    rcases z4 with rfl | z4
    · omega
    · by_cases hz : z ≤ 2000000
      · have := po_mono (a := z + 1) (b := 2000001) (by omega) (by omega)
        omega
      · omega

end Go.Proofs.Ytmongadolmofnaa.pairOpens
namespace Go.Proofs.Ytmongadolmofnaa.pairOpens
open Go.ChangeShapes Go.WideShapes Go.ChangeAt Go.RowKit
open Go.ChangeMaps (open_string shut_string)
theorem own : ownKnob Try.prog.godebug = none := by kernel_rfl
theorem laidOut : laidOutB Try.prog = true := by kernel_rfl
theorem lifted (os : Os) (started : os.Started) (H : Type) (enc : TypeId × Value → H) :
    ReturnsInHanded {} Try.checked os 5 .any (Rows.pairOpensSpec.pre6 enc Try.prog Try.f5 Rows.pairOpensRow.domain false) (Rows.pairOpensSpec.post enc Try.prog Try.f5 false true false false) := by
  refine returnsInHanded_of_change (C := Try.checked) own started (by kernel_rfl) Try.func5
    (ChangeSpec.witness6 (enc := enc) (C := Try.checked) false ⟨#[], #[.int .i64 0], []⟩ 8 (by kernel_rfl) (by kernel_rfl) (by kernel_rfl) (by kernel_rfl)) ?_
  intro W base args ds gs before hval0 hW hcnd _
  have hval : ∀ (j : Nat) t v, Try.f5.params[j]? = some t → args[j]? = some v → Value.okWide Try.prog W .any base t v := hval0
  have hW' := hW
  obtain ⟨p, q, hA0, hV, rfl, hfz, hnd⟩ := hW
  have hA : DataW.TrodAll enc Try.prog W 0 (fun _ => true) true Try.f5.params.toList args.toList ds p := hA0
  rw [Try.params5] at hA hval
  obtain ⟨v0, vs0, d0, ds0, p0, q0, hargs, rfl, rfl, h0, r0⟩ := trodAll_cons hA
  obtain ⟨rfl, rfl, rfl⟩ := trodAll_nil r0
  obtain rfl : args = #[v0] := by cases args; simp_all
  obtain ⟨rfl, rfl⟩ := trodVars_none hV
  obtain ⟨x0, f0, k0⟩ := Go.Sl.read_arg (u := (.int .i64)) (by kernel_rfl) (by kernel_rfl) (hval 0 2 v0 rfl rfl) h0
  have lt0 : ∀ x ∈ p0, x.block < W.heap.size := by obtain ⟨m, hm⟩ := h0; exact DataW.trod_lt m _ _ _ hm
  clear hA0 hval0
  obtain ⟨fuel, hm⟩ := PairOpens_true x0 f0
  refine (Go.Sl.law_of (vs := [v0]) (law_PairOpens_ok hm) rfl (.cons (k0 _ _) .nil)).mono fun e W' ⟨he, bel⟩ => ?_
  subst he
  exact ⟨_, rfl, _, _, _, [], _, [], hW', trodAll_mk1 (shut_bool Try.underlying4 _), (trodAll_cons_mk (Below.trod laidOut (by kernel_rfl) (of_decide_eq_true (by kernel_rfl)) h0 bel lt0) trodAll_mk0), rfl, bel.frame _, fun h => by cases h⟩
theorem proved : Rows.PairOpensSaid :=
  OpenClaim.holds_of_wide 5 Try.f5 rfl rfl rfl rfl rfl rfl rfl ⟨rfl, rfl, rfl, rfl, rfl⟩ rfl rfl rfl rfl rfl (by kernel_rfl) Try.func5 (by kernel_rfl)
    (of_decide_eq_true (by kernel_rfl)) (by unfold Func.isWrapper; first | (rw [if_pos (by decide +kernel)]; kernel_rfl) | (rw [if_neg (by decide +kernel)]; exact ⟨rfl, rfl⟩))
    (fun os started H enc _ => lifted os started H enc)
#print axioms proved
end Go.Proofs.Ytmongadolmofnaa.pairOpens
