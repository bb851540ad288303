/- For any clauses hard.Weights returns weights some of which add up to the total if and only if the clauses can be satisfied: HardWeights returns true and changes nothing; no conditions. -/
import Derived.Test.YtcallckeeohoaaaRows
import Derived.WalkKit
import Derived.ProofKit
import Derived.OpenShut
import Derived.ShutString
import Derived.ChangeOld
import Derived.Below
import Derived.Test.YtcallckeeohoaaaHardWeightsM
set_option linter.all false
set_option maxRecDepth 100000
namespace Go.Proofs.Ytcallckeeohoaaa.hardWeights
open Go Go.Sl

theorem within_eq (a b c : Int) : ref_Within a b c = some (decide (a ≤ b ∧ b ≤ c)) := by
  unfold ref_Within
  rw [Bool.decide_and]

def hbad (n : Int) (v : Int) : Bool := decide (v < 0) || decide (v ≥ n)
theorem hc_inside (n : Int) (l : List Int) : ref_Inside n l = some (!l.any (hbad n)) := by
  unfold ref_Inside
  rw [forL_ex (p := hbad n) (y := Esc.ret false) (fun i a _ => by unfold ref_Inside_b1 hbad; cases (decide (a < 0) || decide (a ≥ n)) <;> rfl)]
  cases (l.any (hbad n)) <;> rfl
theorem hc_bad (l : List Int) (n : Int) : slices_ContainsFunc_Lintint_with_hard_wrong_1 l n = some (l.any (hbad n)) := by
  unfold slices_ContainsFunc_Lintint_with_hard_wrong_1 slices_IndexFunc_Lintint_with_hard_wrong_1
  rcases forL_at (body := slices_IndexFunc_Lintint_with_hard_wrong_1_b1 n) (fin := fun _ => (Esc.brk () : Esc Int Unit)) (p := hbad n) (g := fun j => Esc.ret j) (l := l)
    (fun i a _ => by unfold slices_IndexFunc_Lintint_with_hard_wrong_1_b1 hard_wrong_1 hbad; cases (decide (a < 0) || decide (a ≥ n)) <;> rfl) (i := 0) with ⟨h1, h2⟩ | ⟨h1, j, h2, h3, h4⟩
  · rw [h2, h1]; rfl
  · rw [h4, h1]
    simp [h2]
def hA (v : List Int × List Int) : Bool := decide ((v.1.length : Int) > 3) || decide ((v.2.length : Int) > 3) || decide (w64 ((v.1.length : Int) + (v.2.length : Int)) > 3)
def hB (n : Int) (v : List Int × List Int) : Bool := v.1.any (hbad n) || v.2.any (hbad n)
def hcAll (n : Int) (l : List (List Int × List Int)) : Int :=
  bif !decide (0 ≤ n ∧ n ≤ 8) || decide ((l.length : Int) > 12) then 1 else bif l.any hA then 1 else bif l.any (hB n) then 2 else 0
theorem hc_wrong (n : Int) (l : List (List Int × List Int)) : hard_wrong n l = some (hcAll n l) := by
  unfold hard_wrong hcAll
  rw [forL_ex (p := hA) (y := Esc.ret 1) (fun i a _ => by
    unfold hard_wrong_b7 hard_wrong_g5 hA
    cases decide ((a.1.length : Int) > 3) <;> cases decide ((a.2.length : Int) > 3) <;> cases decide (w64 ((a.1.length : Int) + (a.2.length : Int)) > 3) <;> rfl)]
  rw [forL_ex (p := hB n) (y := Esc.ret 2) (fun i a _ => by
    unfold hard_wrong_b17 hard_wrong_g15 hB
    rw [hc_bad, hc_bad]
    cases a.1.any (hbad n) <;> cases a.2.any (hbad n) <;> rfl)]
  have : ((decide (n < (0 : Int))) || (decide (n > 8))) = !decide (0 ≤ n ∧ n ≤ 8) := by
    rw [or_dec, not_dec]; exact decide_eq_decide.2 (by omega)
  rw [this]
  cases (!decide (0 ≤ n ∧ n ≤ 8)) || decide ((l.length : Int) > 12) <;> cases l.any hA <;> cases l.any (hB n) <;> rfl
theorem hc_check (n : Int) (l : List (List Int × List Int)) : ref_HardCheck n l = some (hcAll n l) := by
  unfold ref_HardCheck hcAll
  rw [within_eq, bind_some']
  rw [forL_ex (p := hA) (y := Esc.ret 1) (fun i a _ => by
    unfold ref_HardCheck_b7 ref_HardCheck_g5 hA
    cases decide ((a.1.length : Int) > 3) <;> cases decide ((a.2.length : Int) > 3) <;> cases decide (w64 ((a.1.length : Int) + (a.2.length : Int)) > 3) <;> rfl)]
  rw [forL_ex (p := hB n) (y := Esc.ret 2) (fun i a _ => by
    unfold ref_HardCheck_b14 hB
    rw [hc_inside, hc_inside]
    cases a.1.any (hbad n) <;> cases a.2.any (hbad n) <;> rfl)]
  cases (!decide (0 ≤ n ∧ n ≤ 8)) || decide ((l.length : Int) > 12) <;> cases l.any hA <;> cases l.any (hB n) <;> rfl
theorem hc_ok {n : Int} {l : List (List Int × List Int)} (h : hcAll n l = 0) : (0 ≤ n ∧ n ≤ 8) ∧ l.length ≤ 12 ∧ ∀ v ∈ l, v.1.length ≤ 3 ∧ v.2.length ≤ 3 ∧ v.1.length + v.2.length ≤ 3 ∧ (∀ x ∈ v.1, 0 ≤ x ∧ x < n) ∧ (∀ x ∈ v.2, 0 ≤ x ∧ x < n) := by
  unfold hcAll at h
  cases hc : (!decide (0 ≤ n ∧ n ≤ 8)) || decide ((l.length : Int) > 12) with
  | true => rw [hc] at h; cases h
  | false =>
    rw [hc] at h
    simp only [Bool.or_eq_false_iff, Bool.not_eq_false', decide_eq_true_eq, decide_eq_false_iff_not] at hc
    cases h1 : l.any hA with
    | true => rw [h1] at h; cases h
    | false =>
      rw [h1] at h
      cases h2 : l.any (hB n) with
      | true => rw [h2] at h; cases h
      | false =>
        refine ⟨hc.1, by omega, fun v hv => ?_⟩
        have a1 := List.any_eq_false.1 h1 v hv
        have a2 := List.any_eq_false.1 h2 v hv
        unfold hA at a1
        unfold hB at a2
        simp only [Bool.or_eq_true, decide_eq_true_eq, not_or] at a1
        simp only [Bool.or_eq_true, not_or, Bool.not_eq_true] at a2
        have good : ∀ k : List Int, k.any (hbad n) = false → ∀ x ∈ k, 0 ≤ x ∧ x < n := by
          intro k hk x hx
          have := List.any_eq_false.1 hk x hx
          unfold hbad at this
          simp only [Bool.or_eq_true, decide_eq_true_eq, not_or] at this
          omega
        obtain ⟨⟨b1, b2⟩, b3⟩ := a1
        rw [w64_id (by omega) (by omega)] at b3
        exact ⟨by omega, by omega, by omega, good _ a2.1, good _ a2.2⟩

theorem nm_idx {x : List Bool} {i : Int} (h0 : 0 ≤ i) (h : i < (x.length : Int)) : idx x i = some (x.getD i.toNat false) := by
  obtain ⟨b, h1, h2⟩ := idx_get h0 h
  rw [h1, List.getD_eq_getElem?_getD, h2]; rfl
def clT (b : List Bool) (v : List Int × List Int) : Bool := v.1.any (fun x => b.getD x.toNat false) || v.2.any (fun x => !b.getD x.toNat false)
theorem nm_clause {v : List Int × List Int} {b : List Bool} (h : (∀ x ∈ v.1, 0 ≤ x ∧ x < (b.length : Int)) ∧ (∀ x ∈ v.2, 0 ≤ x ∧ x < (b.length : Int))) : ref_ClauseTrue v b = some (clT b v) := by
  unfold ref_ClauseTrue clT
  rw [forL_ex (p := fun x => b.getD x.toNat false) (y := Esc.ret true) (fun i a ha => by
    unfold ref_ClauseTrue_b1; rw [nm_idx (h.1 a ha).1 (h.1 a ha).2]; simp only [Option.bind_some]; cases b.getD a.toNat false <;> rfl)]
  rw [forL_ex (p := fun x => !b.getD x.toNat false) (y := Esc.ret true) (fun i a ha => by
    unfold ref_ClauseTrue_b5; rw [nm_idx (h.2 a ha).1 (h.2 a ha).2]; simp only [Option.bind_some]; cases b.getD a.toNat false <;> rfl)]
  cases (v.1.any fun x => b.getD x.toNat false) <;> cases (v.2.any fun x => !b.getD x.toNat false) <;> rfl
theorem nm_true {l : List (List Int × List Int)} {b : List Bool} (h : ∀ v ∈ l, (∀ x ∈ v.1, 0 ≤ x ∧ x < (b.length : Int)) ∧ (∀ x ∈ v.2, 0 ≤ x ∧ x < (b.length : Int))) : ref_True l b = some (!l.any fun v => !clT b v) := by
  unfold ref_True
  rw [forL_ex (p := fun v => !clT b v) (y := Esc.ret false) (fun i a ha => by
    unfold ref_True_b1
    rw [nm_clause (h a ha)]
    simp only [Option.bind_some]
    cases clT b a <;> rfl)]
  cases (l.any fun v => !clT b v) <;> rfl

/-- sums over the first numbers -/
def lsum (n : Nat) (g : Nat → Int) : Int := (List.range n).foldl (fun a t => a + g t) 0
theorem lsum_succ (n : Nat) (g : Nat → Int) : lsum (n + 1) g = lsum n g + g n := by
  unfold lsum; rw [List.range_succ, List.foldl_append]; rfl
theorem lsum_sub : ∀ (n : Nat) (g h : Nat → Int), lsum n (fun t => g t - h t) = lsum n g - lsum n h
  | 0, g, h => by simp [lsum]
  | n + 1, g, h => by rw [lsum_succ, lsum_succ, lsum_succ, lsum_sub n]; omega
theorem lsum_add : ∀ (n : Nat) (g h : Nat → Int), lsum n (fun t => g t + h t) = lsum n g + lsum n h
  | 0, g, h => by simp [lsum]
  | n + 1, g, h => by rw [lsum_succ, lsum_succ, lsum_succ, lsum_add n]; omega
theorem lsum_mul : ∀ (n : Nat) (k : Int) (g : Nat → Int), lsum n (fun t => k * g t) = k * lsum n g
  | 0, k, g => by simp [lsum]
  | n + 1, k, g => by rw [lsum_succ, lsum_succ, lsum_mul n, Int.mul_add]
theorem lsum_congr : ∀ (n : Nat) {g h : Nat → Int}, (∀ t, t < n → g t = h t) → lsum n g = lsum n h
  | 0, g, h, e => rfl
  | n + 1, g, h, e => by rw [lsum_succ, lsum_succ, lsum_congr n (fun t ht => e t (by omega)), e n (by omega)]
theorem lsum_zero (n : Nat) : lsum n (fun _ => 0) = 0 := by
  induction n with
  | zero => rfl
  | succ n ih => rw [lsum_succ, ih]; rfl
theorem lsum_one : ∀ (n x : Nat) (g : Nat → Int), x < n → lsum n (fun t => if x = t then g t else 0) = g x
  | 0, x, g, h => by omega
  | n + 1, x, g, h => by
    rw [lsum_succ]
    rcases Nat.lt_or_ge x n with h1 | h1
    · rw [lsum_one n x g h1, if_neg (by omega)]; omega
    · have : x = n := by omega
      subst this
      rw [if_pos rfl, lsum_congr x (h := fun _ => 0) (fun t ht => if_neg (by omega)), lsum_zero]; omega
theorem lsum_bound : ∀ (n : Nat) {g : Nat → Int} {b : Int}, (∀ t, t < n → -b ≤ g t ∧ g t ≤ b) → -(n * b) ≤ lsum n g ∧ lsum n g ≤ n * b
  | 0, g, b, h => by simp [lsum]
  | n + 1, g, b, h => by
    have h1 := lsum_bound n (fun t ht => h t (by omega))
    have h2 := h n (by omega)
    rw [lsum_succ]
    have e : ((n + 1 : Nat) : Int) * b = n * b + b := by rw [Int.natCast_add, Int.add_mul]; simp
    rw [e]; omega

theorem bit_eq {w i : Nat} (hw : w < 2 ^ 63) (hi : i < 63) : ref_Bit (w : Int) (i : Int) = some (w.testBit i) := by
  unfold ref_Bit
  have c : (decide ((i : Int) ≥ 0) && decide ((i : Int) < 63)) = true := by simp; omega
  have e : IntKind.wrap .u64 (i : Int) = (i : Int) := wrap_u64 (by omega) (by omega)
  rw [c, e, ck_ok (by omega)]
  simp only [cond_true, Option.bind_some, bit_mask hw hi]

theorem power_eq {x n : Nat} (hn : n ≤ 1000) (h : x ^ n ≤ 9223372036854775807) (hx : 0 < x) : ref_Power (x : Int) (n : Int) = some ((x ^ n : Nat) : Int) := by
  unfold ref_Power
  obtain ⟨y, h1, h2⟩ := forI_inv (body := ref_Power_b1 (x : Int)) (fin := fun x => x) (lo := 0) (hi := (n : Int)) (x := (1 : Int)) (fun i y => y = ((x ^ i.toNat : Nat) : Int)) (fun y => y = ((x ^ n : Nat) : Int)) (by omega) (by omega) (by simp)
    (fun i y h0 hi hy => by
      obtain ⟨j, rfl⟩ := Int.eq_ofNat_of_zero_le h0
      rw [Int.toNat_natCast] at hy
      subst hy
      have ht : ((j : Int) + 1).toNat = j + 1 := by omega
      have hle : x ^ (j + 1) ≤ x ^ n := Nat.pow_le_pow_right hx (by omega)
      have e : ((x ^ j : Nat) : Int) * (x : Int) = ((x ^ (j + 1) : Nat) : Int) := by rw [Nat.pow_succ, Int.natCast_mul]
      unfold ref_Power_b1
      rw [e, w64_id (by omega) (by omega)]
      exact ⟨_, rfl, by rw [ht]⟩)
    (fun i y h0 h1 h2 hy => by
      have : i.toNat = n := by omega
      rw [hy, this])
  rw [h1, h2]; rfl

theorem iter_seq {X Y : Type} {f : X → Option (Flow X Y)} {s : Nat → X} {y : Y} {n : Nat} (hs : ∀ j, j < n → f (s j) = some (.next (s (j + 1)))) (hf : f (s n) = some (.done y)) : ∀ (k j fuel : Nat), j + k = n → k < fuel → iter f fuel (s j) = some y
  | k, j, 0, _, h => by omega
  | 0, j, fuel + 1, h, _ => by
    have : j = n := by omega
    subst this
    simp only [iter, hf]
  | k + 1, j, fuel + 1, h, hk => by
    simp only [iter, hs j (by omega)]
    exact iter_seq hs hf k (j + 1) fuel (by omega) (by omega)

theorem wlsum_two : ∀ (m : Nat) (g : Nat → Int), lsum (2 * m) g = lsum m (fun t => g (2 * t) + g (2 * t + 1))
  | 0, g => rfl
  | m + 1, g => by
    rw [show 2 * (m + 1) = 2 * m + 1 + 1 by omega, lsum_succ, lsum_succ, lsum_succ, wlsum_two m]; omega
theorem wlsum_swap : ∀ (n m : Nat) (f : Nat → Nat → Int), lsum n (fun j => lsum m (fun k => f j k)) = lsum m (fun k => lsum n (fun j => f j k))
  | 0, m, f => by
    have : ∀ k, lsum 0 (fun j => f j k) = 0 := fun k => rfl
    simp only [this, lsum_zero]; rfl
  | n + 1, m, f => by
    rw [lsum_succ, wlsum_swap n m f, ← lsum_add]
    exact lsum_congr m (fun k _ => by rw [lsum_succ])
theorem wlsum_split (n : Nat) : ∀ (m : Nat) (g : Nat → Int), lsum (n + m) g = lsum n g + lsum m (fun j => g (n + j))
  | 0, g => by simp [lsum]
  | m + 1, g => by rw [← Nat.add_assoc, lsum_succ, lsum_succ, wlsum_split n m]; omega
theorem wlsum_mono : ∀ (n : Nat) {f g : Nat → Int}, (∀ i, i < n → f i ≤ g i) → lsum n f ≤ lsum n g
  | 0, f, g, _ => by simp [lsum]
  | n + 1, f, g, h => by
    have h1 := wlsum_mono n (fun i hi => h i (by omega))
    have h2 := h n (by omega)
    rw [lsum_succ, lsum_succ]; omega
theorem wlsum_nonneg (n : Nat) {f : Nat → Int} (h : ∀ i, i < n → 0 ≤ f i) : 0 ≤ lsum n f := by
  have := wlsum_mono n h
  rw [lsum_zero] at this; exact this
theorem wlsum_ex : ∀ (n : Nat) {f : Nat → Int}, 1 ≤ lsum n f → ∃ i, i < n ∧ 1 ≤ f i
  | 0, f, h => by simp [lsum] at h
  | n + 1, f, h => by
    rw [lsum_succ] at h
    by_cases h1 : 1 ≤ f n
    · exact ⟨n, by omega, h1⟩
    · obtain ⟨i, hi, h2⟩ := wlsum_ex n (f := f) (by omega)
      exact ⟨i, by omega, h2⟩
theorem wlsum_one_le {n i : Nat} {f : Nat → Int} (h : ∀ i, i < n → 0 ≤ f i) (hi : i < n) : f i ≤ lsum n f := by
  have h1 := wlsum_mono n (f := fun t => if i = t then f t else 0) (g := f) (fun t ht => by
    by_cases e : i = t
    · rw [if_pos e]; exact Int.le_refl _
    · rw [if_neg e]; exact h t ht)
  rw [lsum_one n i f hi] at h1; exact h1
/-- powers of ten -/
def P (k : Nat) : Int := ((10 ^ k : Nat) : Int)
theorem P_succ (k : Nat) : P (k + 1) = 10 * P k := by unfold P; rw [Nat.pow_succ, Int.natCast_mul]; omega
theorem P_pos (k : Nat) : 1 ≤ P k := by
  have : 1 ≤ 10 ^ k := Nat.pow_pos (by omega)
  unfold P; omega
theorem P_le {k d : Nat} (h : k ≤ d) : P k ≤ P d := by
  have : 10 ^ k ≤ 10 ^ d := Nat.pow_le_pow_right (by omega) h
  unfold P; omega
theorem P_lt {k d : Nat} (h : k < d) : P k < P d := by
  have := P_le (show k + 1 ≤ d by omega)
  have h2 := P_pos k
  rw [P_succ] at this; omega
theorem P_5 {k : Nat} (h : k ≤ 5) : P k ≤ 100000 := by
  have := P_le h
  have e : P 5 = 100000 := rfl
  omega
/-- a number by its digits -/
theorem dig_bound : ∀ (d : Nat) {f : Nat → Int}, (∀ c, c < d → 0 ≤ f c ∧ f c ≤ 9) → 0 ≤ lsum d (fun c => f c * P c) ∧ lsum d (fun c => f c * P c) < P d
  | 0, f, _ => by simp [lsum, P]
  | d + 1, f, h => by
    have h1 := dig_bound d (fun c hc => h c (by omega))
    have h2 := h d (by omega)
    have hp := P_pos d
    rw [lsum_succ, P_succ]
    have a1 : 0 ≤ f d * P d := Int.mul_nonneg h2.1 (by omega)
    have a2 : f d * P d ≤ 9 * P d := Int.mul_le_mul_of_nonneg_right h2.2 (by omega)
    omega
theorem dig_inj : ∀ (d : Nat) {f g : Nat → Int}, (∀ c, c < d → 0 ≤ f c ∧ f c ≤ 9) → (∀ c, c < d → 0 ≤ g c ∧ g c ≤ 9) → lsum d (fun c => f c * P c) = lsum d (fun c => g c * P c) → ∀ c, c < d → f c = g c
  | 0, _, _, _, _, _, c, hc => by omega
  | d + 1, f, g, hf, hg, h, c, hc => by
    have b1 := dig_bound d (fun c hc => hf c (by omega))
    have b2 := dig_bound d (fun c hc => hg c (by omega))
    have hp := P_pos d
    rw [lsum_succ, lsum_succ] at h
    have e : f d = g d := by
      rcases Int.lt_trichotomy (f d) (g d) with h1 | h1 | h1
      · have a : (f d + 1) * P d ≤ g d * P d := Int.mul_le_mul_of_nonneg_right (by omega) (by omega)
        rw [Int.add_mul] at a; omega
      · exact h1
      · have a : (g d + 1) * P d ≤ f d * P d := Int.mul_le_mul_of_nonneg_right (by omega) (by omega)
        rw [Int.add_mul] at a; omega
    by_cases hcd : c = d
    · rw [hcd]; exact e
    · rw [e] at h
      exact dig_inj d (fun c hc => hf c (by omega)) (fun c hc => hg c (by omega)) (by omega) c (by omega)
theorem hw_pow {k : Nat} (h : k ≤ 10) : hard_Weights_1 (k : Int) = some (P k) := by
  unfold hard_Weights_1
  obtain ⟨y, h1, h2⟩ := forI_inv (body := hard_Weights_1_b1) (fin := fun x => x) (lo := 0) (hi := (k : Int)) (x := (1 : Int)) (fun i y => y = P i.toNat) (fun y => y = P k) (by omega) (by omega) rfl
    (fun i y h0 hi hy => by
      obtain ⟨j, rfl⟩ := Int.eq_ofNat_of_zero_le h0
      rw [Int.toNat_natCast] at hy
      subst hy
      have ht : ((j : Int) + 1).toNat = j + 1 := by omega
      have hle : P (j + 1) ≤ P 10 := P_le (by omega)
      have e10 : P 10 = 10000000000 := rfl
      have hp := P_pos j
      unfold hard_Weights_1_b1
      rw [P_succ] at hle
      rw [w64_id (by omega) (by omega)]
      refine ⟨_, rfl, ?_⟩
      show P j * 10 = _
      rw [ht, P_succ]; omega)
    (fun i y h0 h1 h2 hy => by
      have : i.toNat = k := by omega
      rw [hy, this])
  rw [h1, h2]; rfl
abbrev CL := List (List Int × List Int)
def pI (cl : CL) (i j : Nat) : Int := bif (cl.getD j ([], [])).1.any (· == (i : Int)) then 1 else 0
def qI (cl : CL) (i j : Nat) : Int := bif (cl.getD j ([], [])).2.any (· == (i : Int)) then 1 else 0
theorem pI_01 (cl : CL) (i j : Nat) : 0 ≤ pI cl i j ∧ pI cl i j ≤ 1 := by unfold pI; cases (cl.getD j ([], [])).1.any (· == (i : Int)) <;> simp
theorem qI_01 (cl : CL) (i j : Nat) : 0 ≤ qI cl i j ∧ qI cl i j ≤ 1 := by unfold qI; cases (cl.getD j ([], [])).2.any (· == (i : Int)) <;> simp
theorem cnt_one (n : Nat) (x : Int) : lsum n (fun i => bif x == (i : Int) then 1 else 0) ≤ 1 := by
  by_cases h : 0 ≤ x ∧ x < (n : Int)
  · have e : lsum n (fun i => bif x == (i : Int) then (1 : Int) else 0) = lsum n (fun t => if x.toNat = t then (fun _ => (1 : Int)) t else 0) := lsum_congr n (fun t _ => by
      by_cases e : x.toNat = t
      · rw [if_pos e]
        have : (x == (t : Int)) = true := by simp; omega
        rw [this]; rfl
      · rw [if_neg e]
        have : (x == (t : Int)) = false := by simp; omega
        rw [this]; rfl)
    rw [e, lsum_one n x.toNat _ (by omega)]; omega
  · have e : lsum n (fun i => bif x == (i : Int) then (1 : Int) else 0) = lsum n (fun _ => 0) := lsum_congr n (fun t ht => by
      have : (x == (t : Int)) = false := by simp; omega
      rw [this]; rfl)
    rw [e, lsum_zero]; omega
theorem cnt_le (n : Nat) : ∀ l : List Int, lsum n (fun i => bif l.any (· == (i : Int)) then 1 else 0) ≤ l.length
  | [] => by
    have : lsum n (fun i => bif ([] : List Int).any (· == (i : Int)) then (1 : Int) else 0) = lsum n (fun _ => 0) := rfl
    rw [this, lsum_zero]; simp
  | x :: l => by
    have h1 := cnt_le n l
    have h2 := cnt_one n x
    have h3 := wlsum_mono n (f := fun i => bif (x :: l).any (· == (i : Int)) then (1 : Int) else 0) (g := fun i => (bif x == (i : Int) then (1 : Int) else 0) + (bif l.any (· == (i : Int)) then (1 : Int) else 0)) (fun i _ => by
      rw [List.any_cons]
      cases (x == (i : Int)) <;> cases l.any (· == (i : Int)) <;> simp)
    rw [lsum_add] at h3
    rw [List.length_cons]; omega
def Wt (cl : CL) (n m i : Nat) : Int := P i + lsum m (fun j => pI cl i j * P (n + j))
def Wf (cl : CL) (n m i : Nat) : Int := P i + lsum m (fun j => qI cl i j * P (n + j))
theorem hw_part {n m : Nat} (h : n + m ≤ 5) {r : Nat → Int} (hr : ∀ j, 0 ≤ r j ∧ r j ≤ 1) (j : Nat) (hj : j ≤ m) : 0 ≤ lsum j (fun j => r j * P (n + j)) ∧ lsum j (fun j => r j * P (n + j)) ≤ 500000 := by
  have := lsum_bound j (g := fun j => r j * P (n + j)) (b := 100000) (fun t ht => by
    have hp := P_pos (n + t)
    have h5 := P_5 (show n + t ≤ 5 by omega)
    have a1 : 0 ≤ r t * P (n + t) := Int.mul_nonneg (hr t).1 (by omega)
    have a2 : r t * P (n + t) ≤ 1 * P (n + t) := Int.mul_le_mul_of_nonneg_right (hr t).2 (by omega)
    omega)
  have h2 := wlsum_nonneg j (f := fun j => r j * P (n + j)) (fun t ht => Int.mul_nonneg (hr t).1 (by have := P_pos (n + t); omega))
  omega
theorem hw_inner {cl : CL} {n m i : Nat} (hm : cl.length = m) (h : n + m ≤ 5) (hi : i < n) :
    forL (hard_Weights_b61 (n : Int) (i : Int)) (fun x543 => (x543.1, x543.2)) cl 0 (P i, P i) = some (Wt cl n m i, Wf cl n m i) := by
  obtain ⟨y, h1, h2⟩ := forL_inv (body := hard_Weights_b61 (n : Int) (i : Int)) (fin := fun x543 => (x543.1, x543.2)) (l := cl) (x := (P i, P i))
    (fun j x => x = (P i + lsum j (fun j => pI cl i j * P (n + j)), P i + lsum j (fun j => qI cl i j * P (n + j)))) (fun y => y = (Wt cl n m i, Wf cl n m i)) (by simp [lsum])
    (by
      rintro j v x hv rfl
      have hjl := (List.getElem?_eq_some_iff.1 hv).1
      have b1 := hw_part h (r := fun j => pI cl i j) (pI_01 cl i) j (by omega)
      have b2 := hw_part h (r := fun j => qI cl i j) (qI_01 cl i) j (by omega)
      have b3 := P_5 (show i ≤ 5 by omega)
      have b4 := P_5 (show n + j ≤ 5 by omega)
      have b5 := P_pos i
      have b6 := P_pos (n + j)
      have hd : cl.getD j ([], []) = v := by rw [List.getD_eq_getElem?_getD, hv]; rfl
      have e1 : pI cl i j = bif v.1.any (· == (i : Int)) then 1 else 0 := by unfold pI; rw [hd]
      have e2 : qI cl i j = bif v.2.any (· == (i : Int)) then 1 else 0 := by unfold qI; rw [hd]
      have hw : w64 ((n : Int) + (j : Int)) = ((n + j : Nat) : Int) := by rw [w64_id (by omega) (by omega)]; omega
      unfold hard_Weights_b61
      dsimp only
      rw [forL_ex (p := (· == (i : Int))) (y := w64 ((P i + lsum j (fun j => pI cl i j * P (n + j))) + P (n + j))) (fun t a _ => by
        unfold hard_Weights_b55
        rw [hw, hw_pow (by omega)]
        cases (a == (i : Int)) <;> rfl)]
      rw [bind_some']
      rw [forL_ex (p := (· == (i : Int))) (y := w64 ((P i + lsum j (fun j => qI cl i j * P (n + j))) + P (n + j))) (fun t a _ => by
        unfold hard_Weights_b58
        rw [hw, hw_pow (by omega)]
        cases (a == (i : Int)) <;> rfl)]
      rw [bind_some']
      refine ⟨_, rfl, ?_⟩
      rw [lsum_succ, lsum_succ, e1, e2, w64_id (by omega) (by omega), w64_id (by omega) (by omega)]
      cases v.1.any (· == (i : Int)) <;> cases v.2.any (· == (i : Int)) <;> simp <;> omega)
    (by rintro x rfl; rw [hm]; rfl)
  rw [h1, h2]
def Ac (cl : CL) (n m c : Nat) : Int := if c < n then Wt cl n m c else P c
def Bc (cl : CL) (n m c : Nat) : Int := if c < n then Wf cl n m c else P c
def Ws (cl : CL) (n m c : Nat) (W : List Int) : Prop := W.length = 2 * c ∧ ∀ k, k < c → W[2 * k]? = some (Ac cl n m k) ∧ W[2 * k + 1]? = some (Bc cl n m k)
theorem Ws.snoc {cl : CL} {n m c : Nat} {W : List Int} (h : Ws cl n m c W) {a b : Int} (ha : a = Ac cl n m c) (hb : b = Bc cl n m c) : Ws cl n m (c + 1) (W ++ [a, b]) := by
  subst ha hb
  refine ⟨by rw [List.length_append, h.1]; simp; omega, fun k hk => ?_⟩
  by_cases e : k = c
  · subst e
    rw [List.getElem?_append_right (by rw [h.1]; omega), List.getElem?_append_right (by rw [h.1]; omega), h.1]
    have e1 : 2 * k - 2 * k = 0 := by omega
    have e2 : 2 * k + 1 - 2 * k = 1 := by omega
    rw [e1, e2]
    exact ⟨rfl, rfl⟩
  · rw [List.getElem?_append_left (by rw [h.1]; omega), List.getElem?_append_left (by rw [h.1]; omega)]
    exact h.2 k (by omega)
theorem hw_W {cl : CL} {n m : Nat} (hm : cl.length = m) (h : n + m ≤ 5) (hz : hcAll (n : Int) cl = 0) : ∃ W, hard_Weights (n : Int) cl = some (W, lsum n P + lsum m (fun j => 3 * P (n + j)), 0) ∧ Ws cl n m (n + m) W := by
  unfold hard_Weights
  rw [hc_wrong, hz, bind_some', show ((0 : Int) != 0) = false from rfl, cond_false]
  rw [hm, w64_id (by omega) (by omega), decide_eq_false (by omega), cond_false]
  have hPn : ∀ i, i ≤ n → 0 ≤ lsum i P ∧ lsum i P ≤ 500000 := fun i hi => by
    have h1 := wlsum_nonneg i (f := P) (fun t _ => by have := P_pos t; omega)
    have h2 := lsum_bound i (g := P) (b := 100000) (fun t ht => by have := P_pos t; have := P_5 (show t ≤ 5 by omega); omega)
    omega
  obtain ⟨y, h1, h2, h3⟩ := forI_inv (body := hard_Weights_b64 (n : Int) cl) (fin := fun x411 => (x411.1, x411.2)) (lo := 0) (hi := (n : Int)) (x := ((0 : Int), ([] : List Int)))
    (fun i x => ∃ j : Nat, i = (j : Int) ∧ x.1 = lsum j P ∧ Ws cl n m j x.2) (fun y => y.1 = lsum n P ∧ Ws cl n m n y.2) (by omega) (by omega) ⟨0, rfl, rfl, rfl, fun k hk => by omega⟩
    (by
      rintro _ x _ hlt ⟨i, rfl, hx1, hx2⟩
      have hin : i < n := by omega
      have b1 := hPn i (by omega)
      have b2 := P_5 (show i ≤ 5 by omega)
      have b3 := P_pos i
      have hck : ck ((List.length x.2 : Int) + 2 ≤ 4294967296) = some () := ck_ok (by rw [hx2.1]; omega)
      unfold hard_Weights_b64
      rw [hw_pow (by omega), bind_some', bind_some', hw_inner hm h hin, bind_some', hck, bind_some', bind_some']
      refine ⟨_, rfl, i + 1, rfl, ?_, hx2.snoc ?_ ?_⟩
      · rw [hx1, w64_id (by omega) (by omega), lsum_succ]
      · unfold Ac; rw [if_pos hin]
      · unfold Bc; rw [if_pos hin])
    (by
      rintro i x _ hi _ ⟨j, rfl, hx1, hx2⟩
      rename_i hor
      have : j = n := by omega
      subst this
      exact ⟨hx1, hx2⟩)
  rw [h1, bind_some']
  have hPm : ∀ j, j ≤ m → 0 ≤ lsum j (fun j => 3 * P (n + j)) ∧ lsum j (fun j => 3 * P (n + j)) ≤ 1500000 := fun j hj => by
    have h1 := wlsum_nonneg j (f := fun j => 3 * P (n + j)) (fun t _ => by have := P_pos (n + t); omega)
    have h2 := lsum_bound j (g := fun j => 3 * P (n + j)) (b := 300000) (fun t ht => by have := P_pos (n + t); have := P_5 (show n + t ≤ 5 by omega); omega)
    omega
  obtain ⟨z, q1, q2, q3⟩ := forI_inv (body := hard_Weights_b67 (n : Int)) (fin := fun x639 => (x639.1, x639.2)) (lo := 0) (hi := (m : Int)) (x := (y.1, y.2))
    (fun i x => ∃ j : Nat, i = (j : Int) ∧ x.1 = lsum n P + lsum j (fun j => 3 * P (n + j)) ∧ Ws cl n m (n + j) x.2) (fun y => y.1 = lsum n P + lsum m (fun j => 3 * P (n + j)) ∧ Ws cl n m (n + m) y.2) (by omega) (by omega) ⟨0, rfl, by rw [h2]; simp [lsum], h3⟩
    (by
      rintro _ x _ hlt ⟨j, rfl, hx1, hx2⟩
      have hjm : j < m := by omega
      have b0 := hPn n (by omega)
      have b1 := hPm j (by omega)
      have b2 := P_5 (show n + j ≤ 5 by omega)
      have b3 := P_pos (n + j)
      have hw : w64 ((n : Int) + (j : Int)) = ((n + j : Nat) : Int) := by rw [w64_id (by omega) (by omega)]; omega
      have hck : ck ((List.length x.2 : Int) + 2 ≤ 4294967296) = some () := ck_ok (by rw [hx2.1]; omega)
      unfold hard_Weights_b67
      rw [hw, hw_pow (by omega), bind_some', bind_some', hck, bind_some', bind_some']
      refine ⟨_, rfl, j + 1, rfl, ?_, hx2.snoc ?_ ?_⟩
      · rw [hx1, w64_id (n := 3 * P (n + j)) (by omega) (by omega), w64_id (by omega) (by omega), lsum_succ]; omega
      · unfold Ac; rw [if_neg (by omega)]
      · unfold Bc; rw [if_neg (by omega)])
    (by
      rintro i x _ hi _ ⟨j, rfl, hx1, hx2⟩
      rename_i hor
      have : j = m := by omega
      subst this
      exact ⟨hx1, hx2⟩)
  rw [q1, bind_some', q2]
  exact ⟨z.2, rfl, q3⟩
def b01 (b : Bool) : Int := bif b then 1 else 0
theorem b01_01 (b : Bool) : 0 ≤ b01 b ∧ b01 b ≤ 1 := by cases b <;> simp [b01]
/-- the digits of a choice -/
def Sj (cl : CL) (n : Nat) (a b : Nat → Int) (j : Nat) : Int := lsum n (fun i => a i * pI cl i j + b i * qI cl i j)
theorem hw_sum (cl : CL) (n m : Nat) (a b : Nat → Int) :
    lsum (n + m) (fun c => a c * Ac cl n m c + b c * Bc cl n m c) = lsum n (fun c => (a c + b c) * P c) + lsum m (fun j => (Sj cl n a b j + a (n + j) + b (n + j)) * P (n + j)) := by
  rw [wlsum_split]
  have e1 : lsum n (fun c => a c * Ac cl n m c + b c * Bc cl n m c) = lsum n (fun c => (a c + b c) * P c) + lsum n (fun c => lsum m (fun j => (a c * pI cl c j + b c * qI cl c j) * P (n + j))) := by
    rw [← lsum_add]
    refine lsum_congr n (fun c hc => ?_)
    unfold Ac Bc
    rw [if_pos hc, if_pos hc]
    unfold Wt Wf
    rw [Int.mul_add, Int.mul_add, ← lsum_mul, ← lsum_mul, Int.add_mul]
    have e : lsum m (fun j => (a c * pI cl c j + b c * qI cl c j) * P (n + j)) = lsum m (fun t => a c * (pI cl c t * P (n + t))) + lsum m (fun t => b c * (qI cl c t * P (n + t))) := by
      rw [← lsum_add]
      exact lsum_congr m (fun t _ => by rw [Int.add_mul, Int.mul_assoc, Int.mul_assoc])
    rw [e]; omega
  have e2 : lsum m (fun j => a (n + j) * Ac cl n m (n + j) + b (n + j) * Bc cl n m (n + j)) = lsum m (fun j => (a (n + j) + b (n + j)) * P (n + j)) := lsum_congr m (fun j _ => by
    unfold Ac Bc
    rw [if_neg (by omega), if_neg (by omega), Int.add_mul])
  rw [e1, e2, wlsum_swap]
  have e3 : lsum m (fun j => (Sj cl n a b j + a (n + j) + b (n + j)) * P (n + j)) = lsum m (fun j => lsum n (fun c => (a c * pI cl c j + b c * qI cl c j) * P (n + j))) + lsum m (fun j => (a (n + j) + b (n + j)) * P (n + j)) := by
    rw [← lsum_add]
    refine lsum_congr m (fun j _ => ?_)
    have : lsum n (fun c => (a c * pI cl c j + b c * qI cl c j) * P (n + j)) = Sj cl n a b j * P (n + j) := by
      unfold Sj
      rw [Int.mul_comm, ← lsum_mul]
      exact lsum_congr n (fun c _ => Int.mul_comm _ _)
    rw [this, Int.add_assoc, Int.add_mul]
  rw [e3]; omega
theorem hw_S {cl : CL} {n m : Nat} (hm : cl.length = m) (hcl : ∀ v ∈ cl, v.1.length + v.2.length ≤ 3) {a b : Nat → Int} (ha : ∀ i, 0 ≤ a i ∧ a i ≤ 1) (hb : ∀ i, 0 ≤ b i ∧ b i ≤ 1) {j : Nat} (hj : j < m) : 0 ≤ Sj cl n a b j ∧ Sj cl n a b j ≤ 3 := by
  unfold Sj
  have hv : cl[j]? = some cl[j] := List.getElem?_eq_getElem (by omega)
  have hd : cl.getD j ([], []) = cl[j] := by rw [List.getD_eq_getElem?_getD, hv]; rfl
  have h3 := hcl cl[j] (List.mem_of_getElem? hv)
  have c1 := cnt_le n (cl[j]).1
  have c2 := cnt_le n (cl[j]).2
  have k1 : ∀ i, 0 ≤ a i * pI cl i j ∧ a i * pI cl i j ≤ pI cl i j := fun i => by
    have := ha i
    have hp := pI_01 cl i j
    refine ⟨Int.mul_nonneg this.1 hp.1, ?_⟩
    have := Int.mul_le_mul_of_nonneg_right this.2 hp.1
    omega
  have k2 : ∀ i, 0 ≤ b i * qI cl i j ∧ b i * qI cl i j ≤ qI cl i j := fun i => by
    have := hb i
    have hp := qI_01 cl i j
    refine ⟨Int.mul_nonneg this.1 hp.1, ?_⟩
    have := Int.mul_le_mul_of_nonneg_right this.2 hp.1
    omega
  refine ⟨wlsum_nonneg n (fun i _ => by have := (k1 i).1; have := (k2 i).1; omega), ?_⟩
  have := wlsum_mono n (f := fun i => a i * pI cl i j + b i * qI cl i j) (g := fun i => pI cl i j + qI cl i j) (fun i _ => by have := (k1 i).2; have := (k2 i).2; omega)
  rw [lsum_add n (fun i => pI cl i j)] at this
  have e1 : lsum n (fun i => pI cl i j) = lsum n (fun i => bif (cl[j]).1.any (· == (i : Int)) then 1 else 0) := lsum_congr n (fun i _ => by unfold pI; rw [hd])
  have e2 : lsum n (fun i => qI cl i j) = lsum n (fun i => bif (cl[j]).2.any (· == (i : Int)) then 1 else 0) := lsum_congr n (fun i _ => by unfold qI; rw [hd])
  omega
theorem hw_iff {cl : CL} {n m : Nat} (hm : cl.length = m) (hcl : ∀ v ∈ cl, v.1.length + v.2.length ≤ 3) {a b : Nat → Int} (ha : ∀ i, 0 ≤ a i ∧ a i ≤ 1) (hb : ∀ i, 0 ≤ b i ∧ b i ≤ 1) :
    lsum (n + m) (fun c => a c * Ac cl n m c + b c * Bc cl n m c) = lsum n P + lsum m (fun j => 3 * P (n + j)) ↔ (∀ c, c < n → a c + b c = 1) ∧ ∀ j, j < m → Sj cl n a b j + a (n + j) + b (n + j) = 3 := by
  rw [hw_sum]
  constructor
  · intro h
    have key := dig_inj (n + m) (f := fun c => if c < n then a c + b c else Sj cl n a b (c - n) + a c + b c) (g := fun c => if c < n then 1 else 3)
      (fun c hc => by
        have := ha c; have := hb c
        by_cases h : c < n
        · simp only [if_pos h]; omega
        · have := hw_S (n := n) hm hcl ha hb (show c - n < m by omega)
          simp only [if_neg h]; omega)
      (fun c hc => by
        by_cases h : c < n
        · simp only [if_pos h]; omega
        · simp only [if_neg h]; omega)
      (by
        rw [wlsum_split, wlsum_split]
        have x1 : lsum n (fun c => (if c < n then a c + b c else Sj cl n a b (c - n) + a c + b c) * P c) = lsum n (fun c => (a c + b c) * P c) := lsum_congr n (fun c hc => by rw [if_pos hc])
        have x2 : lsum m (fun j => (if n + j < n then a (n + j) + b (n + j) else Sj cl n a b (n + j - n) + a (n + j) + b (n + j)) * P (n + j)) = lsum m (fun j => (Sj cl n a b j + a (n + j) + b (n + j)) * P (n + j)) := lsum_congr m (fun j hj => by rw [if_neg (by omega), Nat.add_sub_cancel_left])
        have x3 : lsum n (fun c => (if c < n then (1 : Int) else 3) * P c) = lsum n P := lsum_congr n (fun c hc => by rw [if_pos hc]; omega)
        have x4 : lsum m (fun j => (if n + j < n then (1 : Int) else 3) * P (n + j)) = lsum m (fun j => 3 * P (n + j)) := lsum_congr m (fun j hj => by rw [if_neg (by omega)])
        rw [x1, x2, x3, x4]; exact h)
    refine ⟨fun c hc => ?_, fun j hj => ?_⟩
    · have := key c (by omega)
      simpa only [if_pos hc] using this
    · have := key (n + j) (by omega)
      rw [if_neg (by omega), if_neg (by omega), Nat.add_sub_cancel_left] at this
      exact this
  · rintro ⟨h1, h2⟩
    have x1 : lsum n (fun c => (a c + b c) * P c) = lsum n P := lsum_congr n (fun c hc => by rw [h1 c hc]; omega)
    have x2 : lsum m (fun j => (Sj cl n a b j + a (n + j) + b (n + j)) * P (n + j)) = lsum m (fun j => 3 * P (n + j)) := lsum_congr m (fun j hj => by rw [h2 j hj])
    rw [x1, x2]
def satW (cl : CL) (n w : Nat) : Bool := !cl.any fun v => !clT (bitsOf n w) v
theorem hw_sat {cl : CL} {n m : Nat} (hm : cl.length = m) (hcl : ∀ v ∈ cl, v.1.length + v.2.length ≤ 3) (hr : ∀ v ∈ cl, (∀ x ∈ v.1, 0 ≤ x ∧ x < (n : Int)) ∧ (∀ x ∈ v.2, 0 ≤ x ∧ x < (n : Int))) :
    (∃ s, s < 2 ^ (2 * (n + m)) ∧ lsum (n + m) (fun c => b01 (s.testBit (2 * c)) * Ac cl n m c + b01 (s.testBit (2 * c + 1)) * Bc cl n m c) = lsum n P + lsum m (fun j => 3 * P (n + j))) ↔ ∃ w, w < 2 ^ n ∧ satW cl n w = true := by
  have hd : ∀ j (hj : j < m), cl.getD j ([], []) = cl[j] := fun j hj => by rw [List.getD_eq_getElem?_getD, List.getElem?_eq_getElem (by omega)]; rfl
  constructor
  · rintro ⟨s, hs, h⟩
    rw [hw_iff hm hcl (fun i => b01_01 _) (fun i => b01_01 _)] at h
    obtain ⟨h1, h2⟩ := h
    refine ⟨wd ((List.range n).map fun i => s.testBit (2 * i)), by have := wd_lt ((List.range n).map fun i => s.testBit (2 * i)); simpa using this, ?_⟩
    have hbit : ∀ i, i < n → (bitsOf n (wd ((List.range n).map fun i => s.testBit (2 * i)))).getD i false = s.testBit (2 * i) := fun i hi => by
      rw [bitsOf_getD hi, wd_bit]; simp [List.getD_eq_getElem?_getD, hi]
    generalize wd ((List.range n).map fun i => s.testBit (2 * i)) = w at *
    unfold satW
    rw [Bool.not_eq_true', List.any_eq_false]
    intro v hv
    obtain ⟨j, hjl, e⟩ := List.getElem_of_mem hv
    have hj : j < m := by omega
    have h3 : lsum n (fun i => b01 (s.testBit (2 * i)) * pI cl i j + b01 (s.testBit (2 * i + 1)) * qI cl i j) + b01 (s.testBit (2 * (n + j))) + b01 (s.testBit (2 * (n + j) + 1)) = 3 := h2 j hj
    have q1 := b01_01 (s.testBit (2 * (n + j)))
    have q2 := b01_01 (s.testBit (2 * (n + j) + 1))
    obtain ⟨i, hi, h4⟩ := wlsum_ex n (f := fun i => b01 (s.testBit (2 * i)) * pI cl i j + b01 (s.testBit (2 * i + 1)) * qI cl i j) (by omega)
    have h5 := h1 i hi
    have hb := hbit i hi
    have hvd : cl.getD j ([], []) = v := by rw [hd j hj]; exact e
    unfold pI qI at h4
    rw [hvd] at h4
    have hx : clT (bitsOf n w) v = true := by
      unfold clT
      rw [Bool.or_eq_true, List.any_eq_true, List.any_eq_true]
      cases hp : v.1.any (· == (i : Int)) with
      | true =>
        obtain ⟨x, hx, ex⟩ := List.any_eq_true.1 hp
        have ex : x = (i : Int) := by simpa using ex
        subst ex
        cases hbb : s.testBit (2 * i) with
        | true => exact .inl ⟨_, hx, by rw [Int.toNat_natCast, hb, hbb]⟩
        | false =>
          rw [hp, hbb] at h4
          cases hq : v.2.any (· == (i : Int)) with
          | true =>
            obtain ⟨x, hx, ex⟩ := List.any_eq_true.1 hq
            have ex : x = (i : Int) := by simpa using ex
            subst ex
            exact .inr ⟨_, hx, by rw [Int.toNat_natCast, hb, hbb]; rfl⟩
          | false => rw [hq] at h4; simp [b01] at h4
      | false =>
        rw [hp] at h4
        cases hq : v.2.any (· == (i : Int)) with
        | true =>
          obtain ⟨x, hx, ex⟩ := List.any_eq_true.1 hq
          have ex : x = (i : Int) := by simpa using ex
          subst ex
          cases hbb : s.testBit (2 * i) with
          | false => exact .inr ⟨_, hx, by rw [Int.toNat_natCast, hb, hbb]; rfl⟩
          | true =>
            rw [hq] at h4
            rw [hbb] at h5
            have e1 : b01 true = 1 := rfl
            simp at h4
            omega
        | false => rw [hq] at h4; simp at h4
    simp [hx]
  · rintro ⟨w, hw, h⟩
    let a0 : Nat → Int := fun i => b01 (w.testBit i)
    let b0 : Nat → Int := fun i => b01 (!w.testBit i)
    let sb : Nat → Bool := fun t => if t / 2 < n then (if t % 2 = 0 then w.testBit (t / 2) else !w.testBit (t / 2)) else (if t % 2 = 0 then decide (Sj cl n a0 b0 (t / 2 - n) ≤ 2) else decide (Sj cl n a0 b0 (t / 2 - n) ≤ 1))
    refine ⟨wd ((List.range (2 * (n + m))).map sb), by have := wd_lt ((List.range (2 * (n + m))).map sb); simpa using this, ?_⟩
    have hbit : ∀ t, t < 2 * (n + m) → (wd ((List.range (2 * (n + m))).map sb)).testBit t = sb t := fun t ht => by
      rw [wd_bit]; simp [List.getD_eq_getElem?_getD, ht]
    generalize wd ((List.range (2 * (n + m))).map sb) = s at *
    rw [hw_iff hm hcl (fun i => b01_01 _) (fun i => b01_01 _)]
    have hva : ∀ c, c < n → s.testBit (2 * c) = w.testBit c := fun c hc => by
      rw [hbit _ (by omega)]
      show (if 2 * c / 2 < n then _ else _) = _
      rw [show 2 * c / 2 = c by omega, if_pos hc, if_pos (by omega)]
    have hvb : ∀ c, c < n → s.testBit (2 * c + 1) = !w.testBit c := fun c hc => by
      rw [hbit _ (by omega)]
      show (if (2 * c + 1) / 2 < n then _ else _) = _
      rw [show (2 * c + 1) / 2 = c by omega, if_pos hc, if_neg (by omega)]
    have hS : ∀ j, Sj cl n (fun i => b01 (s.testBit (2 * i))) (fun i => b01 (s.testBit (2 * i + 1))) j = Sj cl n a0 b0 j := fun j => by
      unfold Sj
      exact lsum_congr n (fun i hi => by show b01 (s.testBit (2 * i)) * _ + b01 (s.testBit (2 * i + 1)) * _ = b01 (w.testBit i) * _ + b01 (!w.testBit i) * _; rw [hva i hi, hvb i hi])
    refine ⟨fun c hc => ?_, fun j hj => ?_⟩
    · rw [hva c hc, hvb c hc]; cases w.testBit c <;> rfl
    · rw [hS]
      have hb := hw_S (n := n) hm hcl (a := a0) (b := b0) (fun i => b01_01 _) (fun i => b01_01 _) hj
      have hge : 1 ≤ Sj cl n a0 b0 j := by
        unfold satW at h
        rw [Bool.not_eq_true', List.any_eq_false] at h
        have hmem : cl[j] ∈ cl := List.getElem_mem (by omega)
        have h3 := h _ hmem
        have h3 : clT (bitsOf n w) cl[j] = true := by simpa using h3
        unfold clT at h3
        rw [Bool.or_eq_true, List.any_eq_true, List.any_eq_true] at h3
        have hnn : ∀ i, i < n → 0 ≤ a0 i * pI cl i j + b0 i * qI cl i j := fun i _ => by
          have := Int.mul_nonneg (b01_01 (w.testBit i)).1 (pI_01 cl i j).1
          have := Int.mul_nonneg (b01_01 (!w.testBit i)).1 (qI_01 cl i j).1
          show 0 ≤ b01 (w.testBit i) * pI cl i j + b01 (!w.testBit i) * qI cl i j
          omega
        unfold Sj
        rcases h3 with ⟨x, hx, hxb⟩ | ⟨x, hx, hxb⟩
        · have hxr := (hr _ hmem).1 x hx
          have hone := wlsum_one_le hnn (show x.toNat < n by omega)
          rw [bitsOf_getD (by omega)] at hxb
          have e1 : a0 x.toNat = 1 := by show b01 (w.testBit x.toNat) = 1; rw [hxb]; rfl
          have e2 : pI cl x.toNat j = 1 := by
            unfold pI
            rw [hd j hj]
            have : (cl[j]).1.any (· == ((x.toNat : Nat) : Int)) = true := List.any_eq_true.2 ⟨x, hx, by simp; omega⟩
            rw [this]; rfl
          have e3 := Int.mul_nonneg (b01_01 (!w.testBit x.toNat)).1 (qI_01 cl x.toNat j).1
          have e4 : b0 x.toNat = b01 (!w.testBit x.toNat) := rfl
          rw [e1, e2, e4] at hone
          omega
        · have hxr := (hr _ hmem).2 x hx
          have hone := wlsum_one_le hnn (show x.toNat < n by omega)
          rw [bitsOf_getD (by omega)] at hxb
          have e1 : b0 x.toNat = 1 := by show b01 (!w.testBit x.toNat) = 1; rw [hxb]; rfl
          have e2 : qI cl x.toNat j = 1 := by
            unfold qI
            rw [hd j hj]
            have : (cl[j]).2.any (· == ((x.toNat : Nat) : Int)) = true := List.any_eq_true.2 ⟨x, hx, by simp; omega⟩
            rw [this]; rfl
          have e3 := Int.mul_nonneg (b01_01 (w.testBit x.toNat)).1 (pI_01 cl x.toNat j).1
          have e4 : a0 x.toNat = b01 (w.testBit x.toNat) := rfl
          rw [e1, e2, e4] at hone
          omega
      have hsa : s.testBit (2 * (n + j)) = decide (Sj cl n a0 b0 j ≤ 2) := by
        rw [hbit _ (by omega)]
        show (if 2 * (n + j) / 2 < n then _ else _) = _
        rw [show 2 * (n + j) / 2 = n + j by omega, if_neg (by omega), if_pos (by omega), Nat.add_sub_cancel_left]
      have hsb : s.testBit (2 * (n + j) + 1) = decide (Sj cl n a0 b0 j ≤ 1) := by
        rw [hbit _ (by omega)]
        show (if (2 * (n + j) + 1) / 2 < n then _ else _) = _
        rw [show (2 * (n + j) + 1) / 2 = n + j by omega, if_neg (by omega), if_neg (by omega), Nat.add_sub_cancel_left]
      rw [hsa, hsb]
      unfold b01
      by_cases c1 : Sj cl n a0 b0 j ≤ 1
      · rw [decide_eq_true c1, decide_eq_true (by omega)]; simp only [cond_true]; omega
      · rw [decide_eq_false c1]
        by_cases c2 : Sj cl n a0 b0 j ≤ 2
        · rw [decide_eq_true c2]; simp only [cond_true, cond_false]; omega
        · rw [decide_eq_false c2]; simp only [cond_false]; omega
theorem hw_bits {k m : Nat} (hk : k ≤ 8) (hm : m < 2 ^ 8) : ref_Bits (k : Int) (m : Int) = some (bitsOf k m) := by
  unfold ref_Bits
  obtain ⟨y, h1, h2⟩ := forI_inv (body := ref_Bits_b1 (m : Int)) (fin := fun x => x) (lo := 0) (hi := (k : Int)) (x := []) (fun i x => x = bitsOf i.toNat m) (fun y => y = bitsOf k m) (by omega) (by omega) rfl (fun i x h0 h1 hx => by
    obtain ⟨n, rfl⟩ := Int.eq_ofNat_of_zero_le h0
    simp only [Int.toNat_natCast] at hx
    subst hx
    have hl : (bitsOf n m).length = n := by simp [bitsOf]
    refine ⟨.next (bitsOf n m ++ [m.testBit n]), ?_, ?_⟩
    · unfold ref_Bits_b1
      rw [bit_eq (by omega) (by omega), bind_some', ck_ok (by rw [hl]; omega), bind_some']
    show bitsOf n m ++ [m.testBit n] = bitsOf ((n : Int) + 1).toNat m
    have ht : ((n : Int) + 1).toNat = n + 1 := by omega
    rw [ht]
    unfold bitsOf
    rw [List.range_succ, List.map_append]; rfl) (fun i x h0 h1 h2 hx => by
    have : i = k := by omega
    subst this
    simpa using hx)
  rw [h1, h2]; rfl
theorem hw_many {cl : CL} {n : Nat} (hn : n ≤ 5) (hr : ∀ v ∈ cl, (∀ x ∈ v.1, 0 ≤ x ∧ x < (n : Int)) ∧ (∀ x ∈ v.2, 0 ≤ x ∧ x < (n : Int))) : ref_Many 3000 (n : Int) cl = some (((List.range (2 ^ n)).countP (satW cl n) : Nat) : Int) := by
  have hp : 2 ^ n ≤ 32 := by
    have := Nat.pow_le_pow_right (n := 2) (by omega) hn
    simpa using this
  have hw : IntKind.wrap .u64 (n : Int) = (n : Int) := wrap_u64 (by omega) (by omega)
  have hck : ck (0 ≤ (n : Int)) = some () := ck_ok (by omega)
  have hb : ∀ j, j < 2 ^ n → ref_Many_b4 (n : Int) cl ((((List.range j).countP (satW cl n) : Nat) : Int), (j : Int)) = some (.next ((((List.range (j + 1)).countP (satW cl n) : Nat) : Int), ((j + 1 : Nat) : Int))) := by
    intro j hj
    have hcp : (List.range j).countP (satW cl n) ≤ j := by
      have := List.countP_le_length (p := satW cl n) (l := List.range j)
      simpa using this
    have hl : (bitsOf n j).length = n := by simp [bitsOf]
    unfold ref_Many_b4
    dsimp only
    rw [hw, hck, bind_some', bShl_one (by omega), decide_eq_true (by omega), cond_true, hw_bits (by omega) (by omega), bind_some', nm_true (by rw [hl]; exact hr), bind_some', w64_id (by omega) (by omega), w64_id (by omega) (by omega)]
    rw [List.range_succ, List.countP_append]
    have hsat : (!cl.any fun v => !clT (bitsOf n j) v) = satW cl n j := rfl
    rw [hsat]
    cases hs : satW cl n j <;> simp [hs]
  have := iter_seq (f := ref_Many_b4 (n : Int) cl) (s := fun j => ((((List.range j).countP (satW cl n) : Nat) : Int), (j : Int))) (n := 2 ^ n) hb (y := (((List.range (2 ^ n)).countP (satW cl n) : Nat) : Int)) (by
    unfold ref_Many_b4
    dsimp only
    rw [hw, hck, bind_some', bShl_one (by omega), decide_eq_false (by omega)]
    rfl) (2 ^ n) 0 3000 (by omega) (by omega)
  have this : iter (ref_Many_b4 (n : Int) cl) 3000 ((0 : Int), (0 : Int)) = _ := this
  unfold ref_Many
  rw [this]; rfl
theorem Ac_bound {cl : CL} {n m c : Nat} (hc : c < n + m) : (0 ≤ Ac cl n m c ∧ Ac cl n m c < P (n + m)) ∧ 0 ≤ Bc cl n m c ∧ Bc cl n m c < P (n + m) := by
  have hp := P_pos c
  unfold Ac Bc
  by_cases h : c < n
  · rw [if_pos h, if_pos h]
    have key : ∀ r : Nat → Int, (∀ j, 0 ≤ r j ∧ r j ≤ 1) → 0 ≤ P c + lsum m (fun j => r j * P (n + j)) ∧ P c + lsum m (fun j => r j * P (n + j)) < P (n + m) := fun r hr => by
      have b := dig_bound (n + m) (f := fun t => if t < n then (if c = t then 1 else 0) else r (t - n)) (fun t _ => by
        by_cases h1 : t < n
        · simp only [if_pos h1]; by_cases h2 : c = t
          · simp only [if_pos h2]; omega
          · simp only [if_neg h2]; omega
        · simp only [if_neg h1]; have := hr (t - n); omega)
      rw [wlsum_split] at b
      have x1 : lsum n (fun t => (if t < n then (if c = t then (1 : Int) else 0) else r (t - n)) * P t) = lsum n (fun t => if c = t then P t else 0) := lsum_congr n (fun t ht => by
        rw [if_pos ht]; by_cases h2 : c = t
        · rw [if_pos h2, if_pos h2]; omega
        · rw [if_neg h2, if_neg h2]; omega)
      have x2 : lsum m (fun j => (if n + j < n then (if c = n + j then (1 : Int) else 0) else r (n + j - n)) * P (n + j)) = lsum m (fun j => r j * P (n + j)) := lsum_congr m (fun j _ => by rw [if_neg (by omega), Nat.add_sub_cancel_left])
      rw [x1, x2, lsum_one n c P h] at b
      exact b
    exact ⟨key _ (pI_01 cl c), key _ (qI_01 cl c)⟩
  · rw [if_neg h, if_neg h]
    have := P_lt hc
    omega
theorem hw_total {cl : CL} {n m : Nat} (h : n + m ≤ 5) {W : List Int} (hW : Ws cl n m (n + m) W) {s : Nat} (hs : s < 2 ^ 10) (f : Bool) :
    forL (law_HardWeights_b23 (f, (s : Int))) (fun x239 => x239) W 0 (0 : Int) = some (lsum (n + m) (fun c => b01 (s.testBit (2 * c)) * Ac cl n m c + b01 (s.testBit (2 * c + 1)) * Bc cl n m c)) := by
  have hlen := hW.1
  have hel : ∀ (t : Nat) (a : Int), W[t]? = some a → 0 ≤ a ∧ a ≤ 100000 := fun t a ha => by
    have hlt := (List.getElem?_eq_some_iff.1 ha).1
    have hb := Ac_bound (cl := cl) (n := n) (m := m) (c := t / 2) (by omega)
    have h5 := P_5 h
    have h2 := hW.2 (t / 2) (by omega)
    rcases Nat.mod_two_eq_zero_or_one t with e | e
    · rw [show 2 * (t / 2) = t by omega, ha] at h2
      have := Option.some.inj h2.1
      omega
    · rw [show 2 * (t / 2) + 1 = t by omega, ha] at h2
      have := Option.some.inj h2.2
      omega
  obtain ⟨y, h1, h2⟩ := forL_inv (body := law_HardWeights_b23 (f, (s : Int))) (fin := fun x239 => x239) (l := W) (x := (0 : Int))
    (fun t x => x = lsum t (fun t => b01 (s.testBit t) * W.getD t 0) ∧ 0 ≤ x ∧ x ≤ t * 100000) (fun y => y = lsum (2 * (n + m)) (fun t => b01 (s.testBit t) * W.getD t 0)) ⟨by simp [lsum], by omega, by omega⟩
    (by
      rintro t a x ha ⟨hx, hx0, hx1⟩
      have hlt := (List.getElem?_eq_some_iff.1 ha).1
      have hb := hel t a ha
      have hg : W.getD t 0 = a := by rw [List.getD_eq_getElem?_getD, ha]; rfl
      unfold law_HardWeights_b23
      dsimp only
      rw [bit_eq (by omega) (by omega), bind_some']
      cases hbt : s.testBit t with
      | true =>
        simp only [cond_true, bind_some']
        rw [w64_id (by omega) (by omega)]
        refine ⟨_, rfl, ?_, by omega, by omega⟩
        rw [lsum_succ, ← hx, hbt, hg]; simp [b01]
      | false =>
        refine ⟨_, rfl, ?_, by omega, by omega⟩
        rw [lsum_succ, ← hx, hbt]; simp [b01])
    (by rintro x ⟨hx, _⟩; rw [hx, hlen])
  rw [h1, h2, wlsum_two]
  congr 1
  refine lsum_congr (n + m) (fun c hc => ?_)
  have h3 := hW.2 c hc
  rw [List.getD_eq_getElem?_getD, h3.1, List.getD_eq_getElem?_getD, h3.2]; rfl
theorem HardWeights_true (a0 : Int) (a1 : CL) (f0 : Fits (.int .i64) a0) (f1 : Fits (.slice (.pair (.slice (.int .i64)) (.slice (.int .i64)))) a1) : ∃ fuel, law_HardWeights fuel a0 a1 = some true := by
  refine ⟨3000, ?_⟩
  unfold law_HardWeights
  rw [hc_check]
  by_cases hz : hcAll a0 a1 = 0
  · obtain ⟨hn8, hl12, hcl⟩ := hc_ok hz
    obtain ⟨n, rfl⟩ := Int.eq_ofNat_of_zero_le hn8.1
    have hw0 : w64 ((n : Int) + (List.length a1 : Int)) = (n : Int) + (List.length a1 : Int) := w64_id (by omega) (by omega)
    by_cases h5 : n + a1.length ≤ 5
    · obtain ⟨W, hW, hWs⟩ := hw_W (m := a1.length) rfl h5 hz
      have hlen := hWs.1
      have hP := P_5 h5
      have hcl3 : ∀ v ∈ a1, v.1.length + v.2.length ≤ 3 := fun v hv => (hcl v hv).2.2.1
      have hr : ∀ v ∈ a1, (∀ x ∈ v.1, 0 ≤ x ∧ x < (n : Int)) ∧ (∀ x ∈ v.2, 0 ≤ x ∧ x < (n : Int)) := fun v hv => ⟨(hcl v hv).2.2.2.1, (hcl v hv).2.2.2.2⟩
      rw [hW, hz, bind_some', bind_some', hw0, decide_eq_false (by omega), show (((0 : Int) == 0) && false) = false from rfl, cond_false, bind_some', show ((0 : Int) != 0) = false from rfl, cond_false]
      dsimp only
      have e1 : ((List.length W : Int) != (w64 ((w64 ((2 : Int) * (n : Int))) + (w64 ((2 : Int) * (List.length a1 : Int)))))) = false := by
        rw [w64_id (n := 2 * (n : Int)) (by omega) (by omega), w64_id (n := 2 * (a1.length : Int)) (by omega) (by omega), w64_id (by omega) (by omega), bne_dec]
        exact decide_eq_false (by omega)
      rw [e1, show (false || false) = false from rfl, cond_false]
      have hel : ∀ a ∈ W, 0 ≤ a ∧ a < P (n + a1.length) := fun a ha => by
        obtain ⟨t, hlt, e⟩ := List.getElem_of_mem ha
        have ha : W[t]? = some a := by rw [List.getElem?_eq_getElem hlt, e]
        have hb := Ac_bound (cl := a1) (n := n) (m := a1.length) (c := t / 2) (by omega)
        have h2 := hWs.2 (t / 2) (by omega)
        rcases Nat.mod_two_eq_zero_or_one t with e | e
        · rw [show 2 * (t / 2) = t by omega, ha] at h2
          have := Option.some.inj h2.1
          omega
        · rw [show 2 * (t / 2) + 1 = t by omega, ha] at h2
          have := Option.some.inj h2.2
          omega
      have hpow : ref_Power (10 : Int) ((n : Int) + (List.length a1 : Int)) = some (P (n + a1.length)) := by
        have h10 : (10 : Nat) ^ (n + a1.length) ≤ 9223372036854775807 := by
          unfold P at hP; omega
        exact power_eq (x := 10) (n := n + a1.length) (by omega) h10 (by omega)
      rw [forL_ex (p := fun _ => false) (y := Esc.ret false) (fun i a ha => by
        obtain ⟨h1, h2⟩ := hel a ha
        unfold law_HardWeights_b4
        rw [hw0, hpow, decide_eq_false (by omega), cond_false, bind_some', bind_some', decide_eq_false (by omega)]
        rfl)]
      rw [show (W.any fun _ => false) = false by simp, cond_false, bind_some']
      have hp10 : 2 ^ (2 * (n + a1.length)) ≤ 1024 := by
        have := Nat.pow_le_pow_right (n := 2) (by omega) (show 2 * (n + a1.length) ≤ 10 by omega)
        simpa using this
      have hwW : IntKind.wrap .u64 (W.length : Int) = (W.length : Int) := wrap_u64 (by omega) (by omega)
      have hckW : ck (0 ≤ (W.length : Int)) = some () := ck_ok (by omega)
      let Q : Nat → Bool := fun s => lsum (n + a1.length) (fun c => b01 (s.testBit (2 * c)) * Ac a1 n a1.length c + b01 (s.testBit (2 * c + 1)) * Bc a1 n a1.length c) == lsum n P + lsum a1.length (fun j => 3 * P (n + j))
      have hb : ∀ j, j < 2 ^ (2 * (n + a1.length)) → law_HardWeights_b26 (W, lsum n P + lsum a1.length (fun j => 3 * P (n + j)), 0) ((List.range j).any Q, (j : Int)) = some (.next ((List.range (j + 1)).any Q, ((j + 1 : Nat) : Int))) := by
        intro j hj
        unfold law_HardWeights_b26
        dsimp only
        rw [hwW, hckW, bind_some', bShl_one (by omega), hlen, decide_eq_true (by omega), cond_true, hw_total h5 hWs (by omega), bind_some', w64_id (by omega) (by omega), List.range_succ, List.any_append]
        simp [Q]
      have hit := iter_seq (f := law_HardWeights_b26 (W, lsum n P + lsum a1.length (fun j => 3 * P (n + j)), 0)) (s := fun j => ((List.range j).any Q, (j : Int))) (n := 2 ^ (2 * (n + a1.length))) hb (y := (List.range (2 ^ (2 * (n + a1.length)))).any Q) (by
        unfold law_HardWeights_b26
        dsimp only
        rw [hwW, hckW, bind_some', bShl_one (by omega), hlen, decide_eq_false (by omega)]
        rfl) (2 ^ (2 * (n + a1.length))) 0 3000 (by omega) (by omega)
      have hit : iter (law_HardWeights_b26 (W, lsum n P + lsum a1.length (fun j => 3 * P (n + j)), 0)) 3000 (false, (0 : Int)) = _ := hit
      rw [hit, bind_some', hw_many (by omega) hr, bind_some']
      show some (((List.range (2 ^ (2 * (n + a1.length)))).any Q) == decide ((((List.range (2 ^ n)).countP (satW a1 n) : Nat) : Int) > 0)) = some true
      congr 1
      rw [beq_iff_eq, Bool.eq_iff_iff, decide_eq_true_eq]
      have hs := hw_sat (n := n) (m := a1.length) rfl hcl3 hr
      constructor
      · intro hq
        obtain ⟨s, hs1, hs2⟩ := List.any_eq_true.1 hq
        obtain ⟨w, w1, w2⟩ := hs.1 ⟨s, List.mem_range.1 hs1, by simpa [Q] using hs2⟩
        have := List.countP_pos_iff.2 ⟨w, List.mem_range.2 w1, w2⟩
        omega
      · intro hc
        obtain ⟨w, w1, w2⟩ := List.countP_pos_iff.1 (show 0 < (List.range (2 ^ n)).countP (satW a1 n) by omega)
        obtain ⟨s, s1, s2⟩ := hs.2 ⟨w, List.mem_range.1 w1, w2⟩
        exact List.any_eq_true.2 ⟨s, List.mem_range.2 s1, by simpa [Q] using s2⟩
    · unfold hard_Weights
      rw [hc_wrong, hz, bind_some', show ((0 : Int) != 0) = false from rfl, cond_false, hw0, decide_eq_true (by omega)]
      rfl
  · unfold hard_Weights
    have e1 : (hcAll a0 a1 != 0) = true := by simp [hz]
    have e2 : (hcAll a0 a1 == 0) = false := by simp [hz]
    rw [hc_wrong, bind_some', e1, cond_true, bind_some', bind_some', e2, Bool.false_and, cond_false, bind_some', e1, cond_true]
    simp

end Go.Proofs.Ytcallckeeohoaaa.hardWeights
namespace Go.Proofs.Ytcallckeeohoaaa.hardWeights
open Go.ChangeShapes Go.WideShapes Go.ChangeAt Go.RowKit
open Go.ChangeMaps (open_string shut_string)
theorem own : ownKnob Try.prog.godebug = none := by kernel_rfl
theorem laidOut : laidOutB Try.prog = true := by kernel_rfl
theorem lifted (os : Os) (started : os.Started) (H : Type) (enc : TypeId × Value → H) :
    ReturnsInHanded {} Try.checked os 10 .any (Rows.hardWeightsSpec.pre6 enc Try.prog Try.f10 Rows.hardWeightsRow.domain false) (Rows.hardWeightsSpec.post enc Try.prog Try.f10 false true false false) := by
  refine returnsInHanded_of_change (C := Try.checked) own started (by kernel_rfl) Try.func10
    (ChangeSpec.witness6 (enc := enc) (C := Try.checked) false ⟨#[], #[.int .i64 0, .slice none 0 0], []⟩ 8 (by kernel_rfl) (by kernel_rfl) (by kernel_rfl) (by kernel_rfl)) ?_
  intro W base args ds gs before hval0 hW hcnd _
  have hval : ∀ (j : Nat) t v, Try.f10.params[j]? = some t → args[j]? = some v → Value.okWide Try.prog W .any base t v := hval0
  have hW' := hW
  obtain ⟨p, q, hA0, hV, rfl, hfz, hnd⟩ := hW
  have hA : DataW.TrodAll enc Try.prog W 0 (fun _ => true) true Try.f10.params.toList args.toList ds p := hA0
  rw [Try.params10] at hA hval
  obtain ⟨v0, vs0, d0, ds0, p0, q0, hargs, rfl, rfl, h0, r0⟩ := trodAll_cons hA
  obtain ⟨v1, vs1, d1, ds1, p1, q1, rfl, rfl, rfl, h1, r1⟩ := trodAll_cons r0
  obtain ⟨rfl, rfl, rfl⟩ := trodAll_nil r1
  obtain rfl : args = #[v0, v1] := by cases args; simp_all
  obtain ⟨rfl, rfl⟩ := trodVars_none hV
  obtain ⟨x0, f0, k0⟩ := Go.Sl.read_arg (u := (.int .i64)) (by kernel_rfl) (by kernel_rfl) (hval 0 3 v0 rfl rfl) h0
  have lt0 : ∀ x ∈ p0, x.block < W.heap.size := by obtain ⟨m, hm⟩ := h0; exact DataW.trod_lt m _ _ _ hm
  obtain ⟨x1, f1, k1⟩ := Go.Sl.read_arg (u := (.slice (.pair (.slice (.int .i64)) (.slice (.int .i64))))) (by kernel_rfl) (by kernel_rfl) (hval 1 23 v1 rfl rfl) h1
  have lt1 : ∀ x ∈ p1, x.block < W.heap.size := by obtain ⟨m, hm⟩ := h1; exact DataW.trod_lt m _ _ _ hm
  clear hA0 hval0
  obtain ⟨fuel, hm⟩ := HardWeights_true x0 x1 f0 f1
  refine (Go.Sl.law_of (vs := [v0, v1]) (law_HardWeights_ok hm) rfl (.cons (k0 _ _) (.cons (k1 _ _) .nil))).mono fun e W' ⟨he, bel⟩ => ?_
  subst he
  exact ⟨_, rfl, _, _, _, [], _, [], hW', trodAll_mk1 (shut_bool Try.underlying4 _), (trodAll_cons_mk (Below.trod laidOut (by kernel_rfl) (of_decide_eq_true (by kernel_rfl)) h0 bel lt0) (trodAll_cons_mk (Below.trod laidOut (by kernel_rfl) (of_decide_eq_true (by kernel_rfl)) h1 bel lt1) trodAll_mk0)), rfl, bel.frame _, fun h => by cases h⟩
theorem proved : Rows.HardWeightsSaid :=
  OpenClaim.holds_of_wide 10 Try.f10 rfl rfl rfl rfl rfl rfl rfl ⟨rfl, rfl, rfl, rfl, rfl⟩ rfl rfl rfl rfl rfl (by kernel_rfl) Try.func10 (by kernel_rfl)
    (of_decide_eq_true (by kernel_rfl)) (by unfold Func.isWrapper; first | (rw [if_pos (by decide +kernel)]; kernel_rfl) | (rw [if_neg (by decide +kernel)]; exact ⟨rfl, rfl⟩))
    (fun os started H enc _ => lifted os started H enc)
#print axioms proved
end Go.Proofs.Ytcallckeeohoaaa.hardWeights
