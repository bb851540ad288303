/- For any table and what is said proof.Fooled returns the specified results: ProofFools returns true and changes nothing; no conditions. -/
import Derived.Test.YtbicjcdenfcojaaRows
import Derived.WalkKit
import Derived.ProofKit
import Derived.OpenShut
import Derived.ShutString
import Derived.ChangeOld
import Derived.Below
import Derived.Test.YtbicjcdenfcojaaProofFoolsM
set_option linter.all false
set_option maxRecDepth 100000
namespace Go.Proofs.Ytbicjcdenfcojaa.proofFools
open Go Go.Sl

theorem within_eq (a b c : Int) : ref_Within a b c = some (decide (a ≤ b ∧ b ≤ c)) := by
  unfold ref_Within
  rw [Bool.decide_and]

def pbad (v : Int) : Bool := decide (v < 0) || decide (v ≥ 7)
theorem pv_inside (l : List Int) : ref_Inside 7 l = some (!l.any pbad) := by
  unfold ref_Inside
  rw [forL_ex (p := pbad) (y := Esc.ret false) (fun i a _ => by unfold ref_Inside_b1 pbad; cases (decide (a < 0) || decide (a ≥ 7)) <;> rfl)]
  cases (l.any pbad) <;> rfl
theorem pv_bad (l : List Int) : slices_ContainsFunc_Lintint_with_proof_bad l = some (l.any pbad) := by
  unfold slices_ContainsFunc_Lintint_with_proof_bad slices_IndexFunc_Lintint_with_proof_bad
  rcases forL_at (body := slices_IndexFunc_Lintint_with_proof_bad_b1) (fin := fun _ => (Esc.brk () : Esc Int Unit)) (p := pbad) (g := fun j => Esc.ret j) (l := l)
    (fun i a _ => by unfold slices_IndexFunc_Lintint_with_proof_bad_b1 proof_bad pbad; cases (decide (a < 0) || decide (a ≥ 7)) <;> rfl) (i := 0) with ⟨h1, h2⟩ | ⟨h1, j, h2, h3, h4⟩
  · rw [h2, h1]; rfl
  · rw [h4, h1]
    simp [h2]
def psc (a0 : Int) (l : List Int) : Int := if ¬ (1 ≤ a0 ∧ a0 ≤ 4) then 1 else if l.length ≠ 2 ^ a0.toNat then 3 else bif l.any pbad then 4 else 0
theorem pv_len {l : List Int} {k : Nat} (h : k ≤ 4) : ((l.length : Int) != bShl .i64 1 (k : Int)) = !decide (l.length = 2 ^ k) := by
  rw [bShl_one (by omega), bne_dec, not_dec]
  exact decide_eq_decide.2 (by omega)
theorem pv_wrong (a0 : Int) (l : List Int) : proof_wrong a0 l = some (psc a0 l) := by
  unfold proof_wrong psc
  have e1 : ((decide (a0 < (1 : Int))) || (decide (a0 > (4 : Int)))) = !decide (1 ≤ a0 ∧ a0 ≤ 4) := by
    rw [or_dec, not_dec]; exact decide_eq_decide.2 (by omega)
  rw [e1, pv_bad]
  by_cases h : 1 ≤ a0 ∧ a0 ≤ 4
  · obtain ⟨k, rfl⟩ := Int.eq_ofNat_of_zero_le (show 0 ≤ a0 by omega)
    rw [ck_ok (by omega), pv_len (by omega), decide_eq_true h, if_neg (by omega), Int.toNat_natCast]
    by_cases hl : l.length = 2 ^ k
    · rw [if_neg (by omega), decide_eq_true hl]
      cases l.any pbad <;> rfl
    · rw [if_pos hl, decide_eq_false hl]; rfl
  · rw [if_pos h, decide_eq_false h]; rfl
theorem pv_check (a0 : Int) (l : List Int) : ref_SumCheck a0 l = some (psc a0 l) := by
  unfold ref_SumCheck psc
  rw [within_eq, pv_inside]
  by_cases h : 1 ≤ a0 ∧ a0 ≤ 4
  · obtain ⟨k, rfl⟩ := Int.eq_ofNat_of_zero_le (show 0 ≤ a0 by omega)
    rw [wrap_u64 (n := (k : Int)) (by omega) (by omega), ck_ok (by omega), pv_len (by omega), decide_eq_true h, if_neg (by omega), Int.toNat_natCast]
    by_cases hl : l.length = 2 ^ k
    · rw [if_neg (by omega), decide_eq_true hl]
      cases l.any pbad <;> rfl
    · rw [if_pos hl, decide_eq_false hl]; rfl
  · rw [if_pos h, decide_eq_false h]; rfl
def p7 (l : List Int) : Prop := ∀ v ∈ l, 0 ≤ v ∧ v < 7
theorem pv_p7 {l : List Int} (h : l.any pbad = false) : p7 l := by
  intro v hv
  have := List.any_eq_false.1 h v hv
  unfold pbad at this
  simp only [Bool.or_eq_true, decide_eq_true_eq, not_or] at this
  omega
theorem pv_valid {a0 : Int} {l : List Int} (h : psc a0 l = 0) : ∃ k : Nat, 1 ≤ k ∧ k ≤ 4 ∧ a0 = (k : Int) ∧ l.length = 2 ^ k ∧ p7 l := by
  unfold psc at h
  split at h
  · omega
  · split at h
    · omega
    · rename_i h1 h2
      refine ⟨a0.toNat, by omega, by omega, by omega, by omega, pv_p7 ?_⟩
      cases hb : l.any pbad with
      | true => rw [hb] at h; cases h
      | false => rfl

theorem bit_eq {w i : Nat} (hw : w < 2 ^ 63) (hi : i < 63) : ref_Bit (w : Int) (i : Int) = some (w.testBit i) := by
  unfold ref_Bit
  have c : (decide ((i : Int) ≥ 0) && decide ((i : Int) < 63)) = true := by simp; omega
  have e : IntKind.wrap .u64 (i : Int) = (i : Int) := wrap_u64 (by omega) (by omega)
  rw [c, e, ck_ok (by omega)]
  simp only [cond_true, Option.bind_some, bit_mask hw hi]

/-- sums over the first numbers -/
def lsum (n : Nat) (g : Nat → Int) : Int := (List.range n).foldl (fun a t => a + g t) 0
theorem lsum_succ (n : Nat) (g : Nat → Int) : lsum (n + 1) g = lsum n g + g n := by
  unfold lsum; rw [List.range_succ, List.foldl_append]; rfl
theorem lsum_sub : ∀ (n : Nat) (g h : Nat → Int), lsum n (fun t => g t - h t) = lsum n g - lsum n h
  | 0, g, h => by simp [lsum]
  | n + 1, g, h => by rw [lsum_succ, lsum_succ, lsum_succ, lsum_sub n]; omega
theorem lsum_add : ∀ (n : Nat) (g h : Nat → Int), lsum n (fun t => g t + h t) = lsum n g + lsum n h
  | 0, g, h => by simp [lsum]
  | n + 1, g, h => by rw [lsum_succ, lsum_succ, lsum_succ, lsum_add n]; omega
theorem lsum_mul : ∀ (n : Nat) (k : Int) (g : Nat → Int), lsum n (fun t => k * g t) = k * lsum n g
  | 0, k, g => by simp [lsum]
  | n + 1, k, g => by rw [lsum_succ, lsum_succ, lsum_mul n, Int.mul_add]
theorem lsum_congr : ∀ (n : Nat) {g h : Nat → Int}, (∀ t, t < n → g t = h t) → lsum n g = lsum n h
  | 0, g, h, e => rfl
  | n + 1, g, h, e => by rw [lsum_succ, lsum_succ, lsum_congr n (fun t ht => e t (by omega)), e n (by omega)]
theorem lsum_zero (n : Nat) : lsum n (fun _ => 0) = 0 := by
  induction n with
  | zero => rfl
  | succ n ih => rw [lsum_succ, ih]; rfl
theorem lsum_one : ∀ (n x : Nat) (g : Nat → Int), x < n → lsum n (fun t => if x = t then g t else 0) = g x
  | 0, x, g, h => by omega
  | n + 1, x, g, h => by
    rw [lsum_succ]
    rcases Nat.lt_or_ge x n with h1 | h1
    · rw [lsum_one n x g h1, if_neg (by omega)]; omega
    · have : x = n := by omega
      subst this
      rw [if_pos rfl, lsum_congr x (h := fun _ => 0) (fun t ht => if_neg (by omega)), lsum_zero]; omega
theorem lsum_bound : ∀ (n : Nat) {g : Nat → Int} {b : Int}, (∀ t, t < n → -b ≤ g t ∧ g t ≤ b) → -(n * b) ≤ lsum n g ∧ lsum n g ≤ n * b
  | 0, g, b, h => by simp [lsum]
  | n + 1, g, b, h => by
    have h1 := lsum_bound n (fun t ht => h t (by omega))
    have h2 := h n (by omega)
    rw [lsum_succ]
    have e : ((n + 1 : Nat) : Int) * b = n * b + b := by rw [Int.natCast_add, Int.add_mul]; simp
    rw [e]; omega

/-- a table's value at a point, folded and as a sum -/
def pA : (Nat → Int) → List Int → Int
  | f, [] => f 0
  | f, r :: rs => pA (fun t => f (2 * t) * (8 - r) + f (2 * t + 1) * r) rs
def pW : Nat → List Int → Int
  | _, [] => 1
  | i, r :: rs => (bif i.testBit 0 then r else 8 - r) * pW (i / 2) rs
theorem lsum_two : ∀ (m : Nat) (g : Nat → Int), lsum (2 * m) g = lsum m (fun t => g (2 * t) + g (2 * t + 1))
  | 0, g => rfl
  | m + 1, g => by
    rw [show 2 * (m + 1) = 2 * m + 1 + 1 by omega, lsum_succ, lsum_succ, lsum_two m, lsum_succ]; omega
theorem pA_sum : ∀ (rs : List Int) (f : Nat → Int), pA f rs = lsum (2 ^ rs.length) (fun i => f i * pW i rs)
  | [], f => by simp [pA, lsum, pW, List.range_succ]
  | r :: rs, f => by
    rw [pA, pA_sum rs, List.length_cons, Nat.pow_succ, Nat.mul_comm, lsum_two]
    refine lsum_congr _ (fun t _ => ?_)
    have e1 : (2 * t).testBit 0 = false := by simp
    have e2 : (2 * t + 1).testBit 0 = true := by simp
    have e3 : 2 * t / 2 = t := by omega
    have e4 : (2 * t + 1) / 2 = t := by omega
    simp only [pW, e1, e2, e3, e4, cond_true, cond_false]
    rw [Int.add_mul, Int.mul_assoc, Int.mul_assoc]
theorem pmod_mul {a b c d : Int} (h1 : a % 7 = b % 7) (h2 : c % 7 = d % 7) : a * c % 7 = b * d % 7 := by
  rw [Int.mul_emod a c, Int.mul_emod b d, h1, h2]
theorem pmod_add {a b c d : Int} (h1 : a % 7 = b % 7) (h2 : c % 7 = d % 7) : (a + c) % 7 = (b + d) % 7 := by omega
theorem pA_mod : ∀ (rs : List Int) (f g : Nat → Int), (∀ i, i < 2 ^ rs.length → f i % 7 = g i % 7) → pA f rs % 7 = pA g rs % 7
  | [], f, g, h => h 0 (by simp)
  | r :: rs, f, g, h => by
    rw [pA, pA]
    refine pA_mod rs _ _ (fun i hi => ?_)
    have hp : 2 ^ (r :: rs).length = 2 * 2 ^ rs.length := by rw [List.length_cons, Nat.pow_succ, Nat.mul_comm]
    exact pmod_add (pmod_mul (h (2 * i) (by omega)) rfl) (pmod_mul (h (2 * i + 1) (by omega)) rfl)
theorem p7_get {l : List Int} (h : p7 l) {i : Nat} (hi : i < l.length) : l[i]? = some (l.getD i 0) ∧ 0 ≤ l.getD i 0 ∧ l.getD i 0 < 7 := by
  have e : l.getD i 0 = l[i] := by rw [List.getD_eq_getElem?_getD, List.getElem?_eq_getElem hi]; rfl
  rw [e]
  exact ⟨List.getElem?_eq_getElem hi, h _ (List.getElem_mem hi)⟩
theorem ptmod {a : Int} (h : 0 ≤ a) : Int.tmod a 7 = a % 7 := Int.tmod_eq_emod_of_nonneg h
theorem p_small {a b : Int} (ha : 0 ≤ a ∧ a < 7) (hb : 0 ≤ b ∧ b ≤ 8) : 0 ≤ a * b ∧ a * b ≤ 48 := by
  refine ⟨Int.mul_nonneg ha.1 hb.1, ?_⟩
  have := Int.mul_le_mul (show a ≤ 6 by omega) hb.2 hb.1 (by omega)
  omega
def pLine (x y r : Int) : Int := (x * (8 - r) + y * r) % 7
theorem p_line {x y r : Int} (hx : 0 ≤ x ∧ x < 7) (hy : 0 ≤ y ∧ y < 7) (hr : 0 ≤ r ∧ r < 7) : proof_line [x, y] r = some (pLine x y r) := by
  unfold proof_line
  have h1 := p_small hx (show 0 ≤ 8 - r ∧ 8 - r ≤ 8 by omega)
  have h2 := p_small hy (show 0 ≤ r ∧ r ≤ 8 by omega)
  have e0 : idx [x, y] 0 = some x := rfl
  have e1 : idx [x, y] 1 = some y := rfl
  rw [e0, bind_some', e1, bind_some', w64_id (n := 8 - r) (by omega) (by omega), w64_id (n := x * (8 - r)) (by omega) (by omega), w64_id (n := y * r) (by omega) (by omega), w64_id (by omega) (by omega), ptmod (by omega)]
  rfl
theorem p_fold1 {l : List Int} {m : Nat} (hl : l.length = 2 * m) (hm : m ≤ 8) (h7 : p7 l) {r : Int} (hr : 0 ≤ r ∧ r < 7) (i : Int) (fuel : Nat) (hf : 20 < fuel) :
    ∃ l', proof_fold_b10 fuel i r l = some (.next l') ∧ l'.length = m ∧ p7 l' ∧ ∀ t, t < m → l'.getD t 0 = pLine (l.getD (2 * t) 0) (l.getD (2 * t + 1) 0) r := by
  obtain ⟨y, h1, h2⟩ := iter_inv (f := proof_fold_b7 l r) (fun s => ∃ t : Nat, s.1 = ((2 * t : Nat) : Int) ∧ t ≤ m ∧ s.2.length = t ∧ ∀ u, u < t → s.2[u]? = some (pLine (l.getD (2 * u) 0) (l.getD (2 * u + 1) 0) r)) (fun s => (2 * m : Nat) - s.1.toNat)
    (fun y => y.length = m ∧ ∀ u, u < m → y[u]? = some (pLine (l.getD (2 * u) 0) (l.getD (2 * u + 1) 0) r)) (fun s hs => by
      obtain ⟨x, out⟩ := s
      obtain ⟨t, rfl, ht, hlen, hv⟩ := hs
      dsimp only at hlen hv
      by_cases hlt : t < m
      · obtain ⟨a1, a2⟩ := p7_get h7 (show 2 * t < l.length by omega)
        obtain ⟨b1, b2⟩ := p7_get h7 (show 2 * t + 1 < l.length by omega)
        have w1 : w64 (((2 * t : Nat) : Int) + 1) = ((2 * t + 1 : Nat) : Int) := by rw [w64_id (by omega) (by omega)]; omega
        have w2 : w64 (((2 * t : Nat) : Int) + 2) = ((2 * (t + 1) : Nat) : Int) := by rw [w64_id (by omega) (by omega)]; omega
        refine ⟨.next (((2 * (t + 1) : Nat) : Int), out ++ [pLine (l.getD (2 * t) 0) (l.getD (2 * t + 1) 0) r]), ?_, ⟨t + 1, rfl, by omega, by simp [hlen], fun u hu => ?_⟩, by dsimp only; omega⟩
        · unfold proof_fold_b7
          dsimp only
          rw [decide_eq_true (by omega), cond_true, idx_nat, a1, bind_some', w1, idx_nat, b1, bind_some', p_line a2 b2 hr, bind_some', ck_ok (by omega), bind_some', w2]
        · rcases Nat.lt_or_ge u t with h | h
          · rw [List.getElem?_append_left (by omega)]; exact hv u h
          · have : u = t := by omega
            subst this
            rw [List.getElem?_append_right (by omega), hlen]; simp
      · have : t = m := by omega
        subst this
        refine ⟨.done out, ?_, hlen, hv⟩
        unfold proof_fold_b7
        dsimp only
        rw [decide_eq_false (by omega), cond_false]) fuel ((0 : Int), []) (by dsimp only; omega) ⟨0, rfl, by omega, rfl, fun u hu => by omega⟩
  refine ⟨y, ?_, h2.1, fun v hv => ?_, fun t ht => ?_⟩
  · unfold proof_fold_b10
    rw [h1, bind_some']
  · obtain ⟨j, hj, rfl⟩ := List.getElem_of_mem hv
    have := h2.2 j (by omega)
    rw [List.getElem?_eq_getElem hj] at this
    have := Option.some.inj this
    rw [this]
    unfold pLine; omega
  · rw [List.getD_eq_getElem?_getD, h2.2 t ht]; rfl
theorem p_fold {k : Nat} : ∀ (rs : List Int) (l : List Int) (i : Int) (fuel : Nat), 20 < fuel → l.length = 2 ^ (rs.length + k) → l.length ≤ 16 → p7 l → p7 rs →
    ∃ l', forL (proof_fold_b10 fuel) (fun x => x) rs i l = some l' ∧ l'.length = 2 ^ k ∧ p7 l' ∧ (∀ ss : List Int, ss.length = k → pA (fun t => l'.getD t 0) ss % 7 = pA (fun t => l.getD t 0) (rs ++ ss) % 7)
  | [], l, i, fuel, hf, hl, h16, h7, hr => ⟨l, rfl, by simpa using hl, h7, fun ss _ => rfl⟩
  | r :: rs, l, i, fuel, hf, hl, h16, h7, hr => by
    have hp : l.length = 2 * 2 ^ (rs.length + k) := by rw [hl, List.length_cons, show rs.length + 1 + k = rs.length + k + 1 by omega, Nat.pow_succ, Nat.mul_comm]
    obtain ⟨l1, q1, q2, q3, q4⟩ := p_fold1 hp (by omega) h7 (hr r (by simp)) i fuel hf
    obtain ⟨l2, r1, r2, r3, r4⟩ := p_fold rs l1 (i + 1) fuel hf q2 (by omega) q3 (fun v hv => hr v (by simp [hv]))
    refine ⟨l2, by simp only [forL, q1]; exact r1, r2, r3, fun ss hs => ?_⟩
    rw [r4 ss hs]
    show _ = pA _ (rs ++ ss) % 7
    refine pA_mod (rs ++ ss) _ _ (fun t ht => ?_)
    rw [List.length_append, hs] at ht
    dsimp only
    rw [q4 t (by omega)]
    unfold pLine; omega
/-- the sum, as the reference reckons it -/
def pG (rs : List Int) (i : Nat) (j : Nat) (x : Int) : Int := x * (bif i.testBit j then rs.getD j 0 else 8 - rs.getD j 0) % 7
theorem pG_fold : ∀ (rs : List Int) (i : Nat) (x : Int), (List.range rs.length).foldl (fun x j => pG rs i j x) x % 7 = x * pW i rs % 7
  | [], i, x => by simp [pW]
  | r :: rs, i, x => by
    rw [List.length_cons, List.range_succ_eq_map, List.foldl_cons, List.foldl_map]
    have : (fun (y : Int) (j : Nat) => pG (r :: rs) i (j + 1) y) = fun y j => pG rs (i / 2) j y := by
      funext y j
      simp [pG, Nat.testBit_succ]
    rw [this, pG_fold rs (i / 2)]
    simp only [pG, pW, List.getD_cons_zero]
    rw [Int.mul_emod, Int.emod_emod_of_dvd _ (Int.dvd_refl 7), ← Int.mul_emod, Int.mul_assoc]
theorem p_term {rs : List Int} {k i : Nat} {v : Int} (hk : k ≤ 4) (hr : rs.length = k) (h7 : p7 rs) (hi : i < 16) (hv : 0 ≤ v ∧ v < 7) :
    ∃ y, forI 0 (k : Int) (ref_At_b25 rs (i : Int)) (fun x => x) v = some y ∧ 0 ≤ y ∧ y < 7 ∧ y % 7 = v * pW i rs % 7 := by
  obtain ⟨y, h1, h2⟩ := forI_inv (body := ref_At_b25 rs (i : Int)) (fin := fun x => x) (lo := 0) (hi := (k : Int)) (x := v) (fun j x => (0 ≤ x ∧ x < 7) ∧ x = (List.range j.toNat).foldl (fun x j => pG rs i j x) v) (fun y => (0 ≤ y ∧ y < 7) ∧ y = (List.range k).foldl (fun x j => pG rs i j x) v) (by omega) (by omega) ⟨hv, rfl⟩
    (fun j x j0 j1 hx => by
      obtain ⟨n, rfl⟩ := Int.eq_ofNat_of_zero_le j0
      rw [Int.toNat_natCast] at hx
      obtain ⟨g1, g2⟩ := p7_get h7 (show n < rs.length by omega)
      have ht : ((n : Int) + 1).toNat = n + 1 := by omega
      have hs1 := p_small hx.1 (show 0 ≤ rs.getD n 0 ∧ rs.getD n 0 ≤ 8 by omega)
      have hs2 := p_small hx.1 (show 0 ≤ 8 - rs.getD n 0 ∧ 8 - rs.getD n 0 ≤ 8 by omega)
      refine ⟨.next (pG rs i n x), ?_, ?_⟩
      · unfold ref_At_b25 ref_At_g23
        rw [bit_eq (by omega) (by omega), bind_some', idx_nat, g1]
        unfold pG
        cases i.testBit n with
        | true => simp only [cond_true, Option.bind_some]; rw [w64_id (by omega) (by omega), ptmod (by omega)]
        | false => simp only [cond_false, Option.bind_some]; rw [w64_id (n := 8 - rs.getD n 0) (by omega) (by omega), w64_id (by omega) (by omega), ptmod (by omega)]
      · refine ⟨by unfold pG; omega, ?_⟩
        rw [ht, List.range_succ, List.foldl_append, ← hx.2]; rfl)
    (fun j x j0 j1 j2 hx => by
      have : j = k := by omega
      subst this
      rw [Int.toNat_natCast] at hx
      exact hx)
  refine ⟨y, h1, h2.1.1, h2.1.2, ?_⟩
  rw [h2.2, ← hr, pG_fold]
theorem p_at {l rs : List Int} {k : Nat} (hk : k ≤ 4) (hl : l.length = 2 ^ k) (hr : rs.length = k) (h7 : p7 l) (h7r : p7 rs) : ∃ y, ref_At (k : Int) l rs = some y ∧ 0 ≤ y ∧ y < 7 ∧ y % 7 = pA (fun t => l.getD t 0) rs % 7 := by
  have h16 : l.length ≤ 16 := by rw [hl]; exact Nat.pow_le_pow_right (n := 2) (by omega) hk
  obtain ⟨y, h1, h2⟩ := forL_inv (body := ref_At_b28 (k : Int) rs) (fin := fun x => x) (l := l) (x := (0 : Int)) (fun n x => (0 ≤ x ∧ x ≤ 6 * n) ∧ x % 7 = lsum n (fun i => l.getD i 0 * pW i rs) % 7) (fun y => (0 ≤ y ∧ y ≤ 96) ∧ y % 7 = lsum l.length (fun i => l.getD i 0 * pW i rs) % 7) ⟨by omega, rfl⟩
    (fun n a x hn hx => by
      have hnl := (List.getElem?_eq_some_iff.1 hn).1
      obtain ⟨g1, g2⟩ := p7_get h7 hnl
      rw [g1] at hn
      obtain rfl := Option.some.inj hn
      obtain ⟨y, e1, e2, e3, e4⟩ := p_term (i := n) hk hr h7r (by omega) g2
      refine ⟨.next (x + y), ?_, by omega, ?_⟩
      · unfold ref_At_b28
        rw [e1, bind_some', w64_id (by omega) (by omega)]
      · rw [lsum_succ]; exact pmod_add hx.2 e4) (fun x hx => ⟨by omega, hx.2⟩)
  refine ⟨y % 7, ?_, by omega, by omega, ?_⟩
  · unfold ref_At
    rw [h1, bind_some', ptmod (by omega)]
  · rw [pA_sum, hr, ← hl]; omega

theorem pb_end {k : Nat} {l rs : List Int} (hk : k ≤ 4) (hl : l.length = 2 ^ k) (hn : rs.length = k) (h7 : p7 l) (h7r : p7 rs) {fuel : Nat} (hf : 20 < fuel) :
    ∃ y l', proof_fold fuel l rs = some l' ∧ idx l' 0 = some y ∧ ref_At (k : Int) l rs = some y := by
  obtain ⟨l', q1, q2, q3, q4⟩ := p_fold (k := 0) rs l 0 fuel hf (by rw [hl, hn]; rfl) (by rw [hl]; exact Nat.pow_le_pow_right (n := 2) (by omega) hk) h7 h7r
  obtain ⟨y, r1, r2, r3, r4⟩ := p_at hk hl hn h7 h7r
  have hq := q4 [] rfl
  rw [List.append_nil] at hq
  obtain ⟨g1, g2⟩ := p7_get q3 (show 0 < l'.length by rw [q2]; decide)
  have e2 : l'.getD 0 0 = y := by
    have : pA (fun t => l'.getD t 0) [] = l'.getD 0 0 := rfl
    rw [this] at hq
    omega
  refine ⟨y, l', ?_, ?_, r1⟩
  · unfold proof_fold; rw [q1]; rfl
  · have := idx_nat (xs := l') (n := 0)
    rw [g1, e2] at this; exact this
def sb (v : List Int) : Bool := pbad (v.getD 0 0) || pbad (v.getD 1 0)
def two (s : List (List Int)) : Prop := ∀ v ∈ s, v.length = 2
theorem sb_two {v : List Int} (h : v.length = 2) : ∃ x y, v = [x, y] := by
  match v, h with
  | [x, y], _ => exact ⟨x, y, rfl⟩
theorem sb_bad (x : Int) : proof_bad x = some (pbad x) := by unfold proof_bad pbad; rfl
theorem sb_any {s : List (List Int)} (h : two s) : slices_ContainsFunc_L2int2int_with_proof_saidWrong_1 s = some (s.any sb) := by
  unfold slices_ContainsFunc_L2int2int_with_proof_saidWrong_1 slices_IndexFunc_L2int2int_with_proof_saidWrong_1
  rcases forL_at (body := slices_IndexFunc_L2int2int_with_proof_saidWrong_1_b1) (fin := fun _ => (Esc.brk () : Esc Int Unit)) (p := sb) (g := fun j => Esc.ret j) (l := s)
    (fun i a ha => by
      obtain ⟨x, y, rfl⟩ := sb_two (h a ha)
      unfold slices_IndexFunc_L2int2int_with_proof_saidWrong_1_b1 proof_saidWrong_1 proof_saidWrong_1_g1 sb
      have e0 : idx [x, y] 0 = some x := rfl
      have e1 : idx [x, y] 1 = some y := rfl
      simp only [e0, e1, bind_some', sb_bad, List.getD_cons_zero, List.getD_cons_succ]
      cases pbad x <;> cases pbad y <;> rfl) (i := 0) with ⟨h1, h2⟩ | ⟨h1, j, h2, h3, h4⟩
  · rw [h2, h1]; rfl
  · rw [h4, h1]; simp [h2]
def ssc (a0 : Int) (l : List Int) (t : Int) (s : List (List Int)) : Int :=
  bif psc a0 l != 0 then psc a0 l else bif pbad t || s.any sb then 4 else bif (s.length : Int) != a0 then 3 else 0
theorem ss_wrong (a0 : Int) (l : List Int) (t : Int) {s : List (List Int)} (h : two s) : proof_saidWrong a0 l t s = some (ssc a0 l t s) := by
  unfold proof_saidWrong ssc
  rw [pv_wrong, bind_some', sb_bad, bind_some', sb_any h]
  cases (psc a0 l != 0) <;> cases pbad t <;> cases s.any sb <;> cases ((s.length : Int) != a0) <;> rfl
theorem ss_check (a0 : Int) (l : List Int) (t : Int) {s : List (List Int)} (h : two s) : ref_SaidCheck a0 l t s = some (ssc a0 l t s) := by
  unfold ref_SaidCheck ssc
  rw [pv_check, bind_some', pv_inside, bind_some']
  rw [forL_ex (p := sb) (y := Esc.ret 4) (fun i a ha => by
    obtain ⟨x, y, rfl⟩ := sb_two (h a ha)
    unfold ref_SaidCheck_b1 sb
    have e0 : idx [x, y] 0 = some x := rfl
    have e1 : idx [x, y] 1 = some y := rfl
    simp only [e0, e1, bind_some', pv_inside, List.getD_cons_zero, List.getD_cons_succ, List.any_cons, List.any_nil, Bool.or_false]
    cases pbad x <;> cases pbad y <;> rfl)]
  simp only [List.any_cons, List.any_nil, Bool.or_false]
  cases (psc a0 l != 0) <;> cases pbad t <;> cases s.any sb <;> cases ((s.length : Int) != a0) <;> rfl
theorem ss_valid {a0 : Int} {l : List Int} {t : Int} {s : List (List Int)} (h : ssc a0 l t s = 0) : ∃ k : Nat, 1 ≤ k ∧ k ≤ 4 ∧ a0 = (k : Int) ∧ l.length = 2 ^ k ∧ p7 l ∧ s.length = k := by
  unfold ssc at h
  cases h1 : (psc a0 l != 0) with
  | true => rw [h1, cond_true] at h; rw [h] at h1; cases h1
  | false =>
    rw [h1] at h
    obtain ⟨k, a, b, c, d, e⟩ := pv_valid (a0 := a0) (l := l) (by simpa using h1)
    refine ⟨k, a, b, c, d, e, ?_⟩
    cases h2 : (pbad t || s.any sb) with
    | true => rw [h2] at h; cases h
    | false =>
      rw [h2] at h
      cases h3 : ((s.length : Int) != a0) with
      | true => rw [h3] at h; cases h
      | false => simp at h3; omega
/-- whether it is believed, both ways -/
theorem pb_both {k : Nat} {l dice : List Int} {s : List (List Int)} (hk : k ≤ 4) (hl : l.length = 2 ^ k) (h7 : p7 l) (hs : s.length = k) (h2 : two s) (t : Int) (hd : dice.length = k) (hd7 : p7 dice) {fuel : Nat} (hf : 20 < fuel) :
    ∃ b, proof_check fuel l t s dice = some b ∧ ref_Believed (k : Int) l t s dice = some b := by
  obtain ⟨y, l', e1, e2, e3⟩ := pb_end hk hl hd h7 hd7 hf
  unfold proof_check ref_Believed
  have hfo : forI (0 : Int) (k : Int) (ref_Believed_b1 s dice) (fun x28 => (Esc.brk x28 : Esc Bool Int)) t = forL (fun i _ x => ref_Believed_b1 s dice i x) (fun x28 => (Esc.brk x28 : Esc Bool Int)) s 0 t := by
    have := forI_forL (body := ref_Believed_b1 s dice) (fin := fun x28 => (Esc.brk x28 : Esc Bool Int)) (x := t) (l := s) (by omega)
    rw [hs] at this; exact this
  obtain ⟨z, g1, g2, _⟩ := forL_eq (body := proof_check_b1 dice) (body' := fun i _ x => ref_Believed_b1 s dice i x) (fin := fun x28 => (Esc.brk x28 : Esc Bool Int)) (l := s) (x := t) (Inv := fun _ _ => True) (Post := fun _ => True) trivial (by
    intro n v x hv _
    have hn := (List.getElem?_eq_some_iff.1 hv).1
    obtain ⟨p, q, rfl⟩ := sb_two (h2 v (List.mem_of_getElem? hv))
    have e0 : idx [p, q] 0 = some p := rfl
    have e1 : idx [p, q] 1 = some q := rfl
    unfold proof_check_b1 ref_Believed_b1 proof_line ref_Line
    simp only [idx_nat, hv, List.getElem?_eq_getElem (show n < dice.length by omega), bind_some', e0, e1]
    cases ((Int.tmod (w64 (p + q)) (7 : Int)) != x) <;> exact ⟨_, rfl, rfl, trivial⟩) (fun _ _ => trivial)
  rw [hfo, g1, g2]
  cases z with
  | ret b => exact ⟨b, rfl, rfl⟩
  | brk x => exact ⟨x == y, by simp only [bind_some', e1, e2], by simp only [bind_some', e3]⟩

/-- the digits of a number, the least first -/
def dgs (b n d : Nat) : List Int := (List.range n).map fun j => ((d / b ^ j % b : Nat) : Int)
@[simp] theorem dgs_len (b n d : Nat) : (dgs b n d).length = n := by simp [dgs]
theorem dgs_cons (b n d : Nat) : dgs b (n + 1) d = ((d % b : Nat) : Int) :: dgs b n (d / b) := by
  unfold dgs
  rw [List.range_succ_eq_map, List.map_cons, List.map_map, Nat.pow_zero, Nat.div_one]
  congr 1
  apply List.map_congr_left
  intro j _
  simp only [Function.comp]
  rw [Nat.pow_succ, Nat.mul_comm, Nat.div_div_eq_div_mul]
theorem dgs_snoc (b n d : Nat) : dgs b (n + 1) d = dgs b n d ++ [((d / b ^ n % b : Nat) : Int)] := by
  unfold dgs
  rw [List.range_succ, List.map_append]; rfl
theorem dgs_mem {b n d : Nat} (hb : 0 < b) {v : Int} (h : v ∈ dgs b n d) : 0 ≤ v ∧ v < b := by
  unfold dgs at h
  obtain ⟨j, _, rfl⟩ := List.mem_map.1 h
  have := Nat.mod_lt (d / b ^ j) hb
  omega
theorem dgs_zero (b n : Nat) : dgs b n 0 = List.replicate n 0 := by
  unfold dgs
  rw [List.eq_replicate_iff]
  refine ⟨by simp, fun v hv => ?_⟩
  obtain ⟨j, _, rfl⟩ := List.mem_map.1 hv
  simp
theorem dice_eq {b n d : Nat} (hb : 0 < b) (hn : n ≤ 1000) (hd : d ≤ 9223372036854775807) : ref_Dice (n : Int) (b : Int) (d : Int) = some (dgs b n d) := by
  unfold ref_Dice
  obtain ⟨y, h1, h2⟩ := forI_inv (body := ref_Dice_b1 (b : Int)) (fin := fun x9 => x9.2) (lo := 0) (hi := (n : Int)) (x := ((d : Int), [])) (fun i x => x = (((d / b ^ i.toNat : Nat) : Int), dgs b i.toNat d)) (fun y => y = dgs b n d) (by omega) (by omega) (by simp [dgs])
    (fun i x h0 hi hx => by
      obtain ⟨j, rfl⟩ := Int.eq_ofNat_of_zero_le h0
      rw [Int.toNat_natCast] at hx
      subst hx
      have hle : d / b ^ j ≤ d := Nat.div_le_self _ _
      have hle2 : d / b ^ j / b ≤ d := Nat.le_trans (Nat.div_le_self _ _) hle
      have hw : w64 ((d / b ^ j / b : Nat) : Int) = ((d / b ^ j / b : Nat) : Int) := by
        generalize d / b ^ j / b = q at *
        exact w64_id (by omega) (by omega)
      have e1 : Int.tdiv ((d / b ^ j : Nat) : Int) (b : Int) = ((d / b ^ j / b : Nat) : Int) := rfl
      have e2 : Int.tmod ((d / b ^ j : Nat) : Int) (b : Int) = ((d / b ^ j % b : Nat) : Int) := rfl
      unfold ref_Dice_b1
      dsimp only
      have hck : ck ((List.length (dgs b j d) : Int) + 1 ≤ 4294967296) = some () := ck_ok (by rw [dgs_len]; omega)
      rw [ck_ok (by omega), bind_some', hck, bind_some', e1, e2, hw]
      refine ⟨_, rfl, ?_⟩
      have ht : ((j : Int) + 1).toNat = j + 1 := by omega
      rw [ht, dgs_snoc, Nat.pow_succ, ← Nat.div_div_eq_div_mul])
    (fun i x h0 h1 h2 hx => by
      have : i.toNat = n := by omega
      rw [hx, this])
  rw [h1, h2]; rfl
theorem power_eq {x n : Nat} (hn : n ≤ 1000) (h : x ^ n ≤ 9223372036854775807) (hx : 0 < x) : ref_Power (x : Int) (n : Int) = some ((x ^ n : Nat) : Int) := by
  unfold ref_Power
  obtain ⟨y, h1, h2⟩ := forI_inv (body := ref_Power_b1 (x : Int)) (fin := fun x => x) (lo := 0) (hi := (n : Int)) (x := (1 : Int)) (fun i y => y = ((x ^ i.toNat : Nat) : Int)) (fun y => y = ((x ^ n : Nat) : Int)) (by omega) (by omega) (by simp)
    (fun i y h0 hi hy => by
      obtain ⟨j, rfl⟩ := Int.eq_ofNat_of_zero_le h0
      rw [Int.toNat_natCast] at hy
      subst hy
      have ht : ((j : Int) + 1).toNat = j + 1 := by omega
      have hle : x ^ (j + 1) ≤ x ^ n := Nat.pow_le_pow_right hx (by omega)
      have e : ((x ^ j : Nat) : Int) * (x : Int) = ((x ^ (j + 1) : Nat) : Int) := by rw [Nat.pow_succ, Int.natCast_mul]
      unfold ref_Power_b1
      rw [e, w64_id (by omega) (by omega)]
      exact ⟨_, rfl, by rw [ht]⟩)
    (fun i y h0 h1 h2 hy => by
      have : i.toNat = n := by omega
      rw [hy, this])
  rw [h1, h2]; rfl
theorem iter_seq {X Y : Type} {f : X → Option (Flow X Y)} {s : Nat → X} {y : Y} {n : Nat} (hs : ∀ j, j < n → f (s j) = some (.next (s (j + 1)))) (hf : f (s n) = some (.done y)) : ∀ (k j fuel : Nat), j + k = n → k < fuel → iter f fuel (s j) = some y
  | k, j, 0, _, h => by omega
  | 0, j, fuel + 1, h, _ => by
    have : j = n := by omega
    subst this
    simp only [iter, hf]
  | k + 1, j, fuel + 1, h, hk => by
    simp only [iter, hs j (by omega)]
    exact iter_seq hs hf k (j + 1) fuel (by omega) (by omega)

theorem pf_set {pre : List Int} {a b : Int} {l : List Int} {n : Nat} (h : pre.length = n) : List.set (pre ++ a :: l) n b = pre ++ b :: l := by
  rw [List.set_append_right _ _ (by omega), h, Nat.sub_self]; rfl
theorem pf_get {pre : List Int} {a : Int} {l : List Int} {n : Nat} (h : pre.length = n) : (pre ++ a :: l)[n]? = some a := by
  rw [List.getElem?_append_right (by omega), h, Nat.sub_self]; rfl
/-- the next dice -/
theorem pf_next {n : Nat} (hn : n ≤ 4) : ∀ (m i e fuel : Nat) (pre : List Int), pre.length = i → i + m = n → m < fuel → e < 7 ^ m →
    ∃ (j : Nat) (v : List Int), iter (proof_Fooled_b18 (n : Int)) fuel ((i : Int), pre ++ dgs 7 m e) = some ((j : Int), v) ∧
      ((e + 1 < 7 ^ m ∧ j < n ∧ ∃ q, v[j]? = some q ∧ List.set v j (q + 1) = pre ++ dgs 7 m (e + 1) ∧ 0 ≤ q ∧ q < 6) ∨ (e + 1 = 7 ^ m ∧ j = n))
  | m, i, e, 0, pre, _, _, hf, _ => by omega
  | 0, i, e, fuel + 1, pre, hp, hi, hf, he => by
    refine ⟨i, pre ++ dgs 7 0 e, ?_, .inr ⟨by simp at he ⊢; omega, by omega⟩⟩
    have : proof_Fooled_b18 (n : Int) ((i : Int), pre ++ dgs 7 0 e) = some (.done ((i : Int), pre ++ dgs 7 0 e)) := by
      unfold proof_Fooled_b18
      rw [decide_eq_false (by dsimp only; omega)]; rfl
    simp only [iter, this]
  | m + 1, i, e, fuel + 1, pre, hp, hi, hf, he => by
    have hlt : decide ((i : Int) < (n : Int)) = true := decide_eq_true (by omega)
    have hx : idx (pre ++ dgs 7 (m + 1) e) (i : Int) = some ((e % 7 : Nat) : Int) := by
      rw [dgs_cons, idx_nat, pf_get hp]
    by_cases h6 : e % 7 = 6
    · have hstep : proof_Fooled_b18 (n : Int) ((i : Int), pre ++ dgs 7 (m + 1) e) = some (.next (((i + 1 : Nat) : Int), (pre ++ [0]) ++ dgs 7 m (e / 7))) := by
        unfold proof_Fooled_b18
        dsimp only
        rw [hlt, cond_true, hx, bind_some', bind_some', h6]
        have e6 : ((((6 : Nat) : Int)) == (6 : Int)) = true := rfl
        rw [e6, cond_true, bind_some', w64_id (by omega) (by omega), Int.toNat_natCast, dgs_cons, pf_set hp]
        simp only [List.append_assoc, List.singleton_append]; rfl
      obtain ⟨j, v, h1, h2⟩ := pf_next hn m (i + 1) (e / 7) fuel (pre ++ [0]) (by simp [hp]) (by omega) (by omega) (by rw [Nat.pow_succ] at he; omega)
      refine ⟨j, v, by simp only [iter, hstep]; exact h1, ?_⟩
      have e1 : (e + 1) / 7 = e / 7 + 1 := by omega
      have e2 : (e + 1) % 7 = 0 := by omega
      rcases h2 with ⟨a, b, q, c, d, f, g⟩ | ⟨a, b⟩
      · refine .inl ⟨by rw [Nat.pow_succ]; omega, b, q, c, ?_, f, g⟩
        rw [d, dgs_cons, e1, e2]; simp
      · exact .inr ⟨by rw [Nat.pow_succ, ← a]; omega, b⟩
    · have hstep : proof_Fooled_b18 (n : Int) ((i : Int), pre ++ dgs 7 (m + 1) e) = some (.done ((i : Int), pre ++ dgs 7 (m + 1) e)) := by
        unfold proof_Fooled_b18
        dsimp only
        rw [hlt, cond_true, hx, bind_some', bind_some']
        have e6 : (((e % 7 : Nat) : Int) == (6 : Int)) = false := by simp; omega
        rw [e6]; rfl
      refine ⟨i, pre ++ dgs 7 (m + 1) e, by simp only [iter, hstep], .inl ⟨?_, by omega, ((e % 7 : Nat) : Int), ?_, ?_, by omega, by omega⟩⟩
      · rw [Nat.pow_succ] at he ⊢
        have := Nat.div_add_mod e 7
        generalize 7 ^ m = p at *
        omega
      · rw [dgs_cons, pf_get hp]
      · have e1 : (e + 1) / 7 = e / 7 := by omega
        have e2 : (e + 1) % 7 = e % 7 + 1 := by omega
        rw [dgs_cons, pf_set hp, dgs_cons, e1, e2]; rfl
theorem pf_p7 (n d : Nat) : p7 (dgs 7 n d) := fun v hv => dgs_mem (b := 7) (by omega) hv
theorem pf_pow {n : Nat} (h : n ≤ 4) : 7 ^ n ≤ 2401 := by
  have := Nat.pow_le_pow_right (n := 7) (by omega) h
  simpa using this
theorem ProofFools_true (a0 : Int) (a1 : List Int) (a2 : Int) (a3 : List (List Int)) (f0 : Fits (.int .i64) a0) (f1 : Fits (.slice (.int .i64)) a1) (f2 : Fits (.int .i64) a2) (f3 : Fits (.slice (.arr 2 (.int .i64))) a3) : ∃ fuel, law_ProofFools fuel a0 a1 a2 a3 = some true := by
  refine ⟨3000, ?_⟩
  have h2 : two a3 := fun v hv => (Fits.mem f3 hv).1
  unfold law_ProofFools proof_Fooled
  rw [ss_wrong a0 a1 a2 h2, ss_check a0 a1 a2 h2]
  simp only [bind_some']
  by_cases hz : ssc a0 a1 a2 a3 = 0
  · obtain ⟨k, hk1, hk, rfl, hl, h7, hs⟩ := ss_valid hz
    have hpw := pf_pow hk
    rw [hz, ck_ok (show 0 ≤ (k : Int) ∧ True ∧ (k : Int) ≤ 4294967296 from ⟨by omega, trivial, by omega⟩)]
    simp only [bne_self_eq_false, cond_false, bind_some', Int.toNat_natCast]
    let bel : Nat → Bool := fun d => (proof_check 3000 a1 a2 a3 (dgs 7 k d)).getD false
    have hbel : ∀ d, proof_check 3000 a1 a2 a3 (dgs 7 k d) = some (bel d) ∧ ref_Believed (k : Int) a1 a2 a3 (dgs 7 k d) = some (bel d) := by
      intro d
      obtain ⟨b, r1, r2⟩ := pb_both hk hl h7 hs h2 a2 (dgs_len 7 k d) (pf_p7 k d) (fuel := 3000) (by omega)
      have : bel d = b := by show (proof_check 3000 a1 a2 a3 (dgs 7 k d)).getD false = b; rw [r1]; rfl
      rw [this]; exact ⟨r1, r2⟩
    have hcnt : ∀ d, (((List.range d).countP bel : Nat) : Int) ≤ d := fun d => by
      have := List.countP_le_length (p := bel) (l := List.range d)
      simp at this; omega
    have hsucc : ∀ d, d < 3000 → (bif bel d then some (w64 ((((List.range d).countP bel : Nat) : Int) + 1)) else some (((List.range d).countP bel : Nat) : Int)) = some (((List.range (d + 1)).countP bel : Nat) : Int) := by
      intro d hd
      have := hcnt d
      rw [List.range_succ, List.countP_append]
      cases hb : bel d with
      | true => rw [cond_true, w64_id (by omega) (by omega)]; simp [hb]
      | false => simp [hb]
    have hpos : 0 < 7 ^ k := Nat.pow_pos (by omega)
    have hround : ∀ d, d < 7 ^ k → proof_Fooled_b22 (k : Int) a1 a2 a3 3000 ((((List.range d).countP bel : Nat) : Int), dgs 7 k d) =
        some (if d + 1 < 7 ^ k then .next ((((List.range (d + 1)).countP bel : Nat) : Int), dgs 7 k (d + 1)) else .done ((((List.range (d + 1)).countP bel : Nat) : Int), 0)) := by
      intro d hd
      obtain ⟨j, v, h1, h2⟩ := pf_next hk k 0 d 3000 [] rfl (by omega) (by omega) hd
      rw [List.nil_append] at h1
      have h1 : iter (proof_Fooled_b18 (k : Int)) 3000 ((0 : Int), dgs 7 k d) = some ((j : Int), v) := h1
      unfold proof_Fooled_b22
      dsimp only
      rw [(hbel d).1, bind_some', hsucc d (by omega), bind_some', h1, bind_some']
      dsimp only
      rcases h2 with ⟨a, b, q, c, e, f, g⟩ | ⟨a, b⟩
      · have hj : ((j : Int) == (k : Int)) = false := by simp; omega
        rw [hj, cond_false, idx_nat, c, bind_some', w64_id (by omega) (by omega), Int.toNat_natCast, e, if_pos a]; rfl
      · have hj : ((j : Int) == (k : Int)) = true := by simp; omega
        rw [hj, cond_true, if_neg (by omega)]
    have p1 : iter (proof_Fooled_b22 (k : Int) a1 a2 a3 3000) 3000 ((0 : Int), List.replicate k (0 : Int)) = some ((((List.range (7 ^ k)).countP bel : Nat) : Int), 0) := by
      have := iter_seq (f := proof_Fooled_b22 (k : Int) a1 a2 a3 3000) (s := fun d => ((((List.range d).countP bel : Nat) : Int), dgs 7 k d)) (n := 7 ^ k - 1) (y := ((((List.range (7 ^ k)).countP bel : Nat) : Int), (0 : Int)))
        (fun d hd => by rw [hround d (by omega), if_pos (by omega)]) (by rw [hround _ (by omega), if_neg (by omega), show 7 ^ k - 1 + 1 = 7 ^ k by omega]) (7 ^ k - 1) 0 3000 (by omega) (by omega)
      rw [← dgs_zero 7 k]
      exact this
    have p2 : iter (law_ProofFools_b4 (k : Int) a1 a2 a3) 3000 ((0 : Int), (0 : Int)) = some (((List.range (7 ^ k)).countP bel : Nat) : Int) := by
      have hp : ref_Power (7 : Int) (k : Int) = some ((7 ^ k : Nat) : Int) := power_eq (x := 7) (by omega) (by omega) (by omega)
      refine iter_seq (f := law_ProofFools_b4 (k : Int) a1 a2 a3) (s := fun d => ((((List.range d).countP bel : Nat) : Int), (d : Int))) (n := 7 ^ k) (y := (((List.range (7 ^ k)).countP bel : Nat) : Int)) (fun d hd => ?_) ?_ (7 ^ k) 0 3000 (by omega) (by omega)
      · unfold law_ProofFools_b4
        dsimp only
        have hdice : ref_Dice (k : Int) (7 : Int) (d : Int) = some (dgs 7 k d) := dice_eq (b := 7) (by omega) (by omega) (by omega)
        rw [hp, bind_some', decide_eq_true (by omega), cond_true, hdice, bind_some', (hbel d).2, bind_some', hsucc d (by omega), bind_some', w64_id (by omega) (by omega)]; rfl
      · unfold law_ProofFools_b4
        dsimp only
        rw [hp, bind_some', decide_eq_false (by omega), cond_false]
    rw [p1, p2]
    simp
  · have e1 : (ssc a0 a1 a2 a3 != 0) = true := by simp [hz]
    rw [e1]
    simp [e1]

end Go.Proofs.Ytbicjcdenfcojaa.proofFools
namespace Go.Proofs.Ytbicjcdenfcojaa.proofFools
open Go.ChangeShapes Go.WideShapes Go.ChangeAt Go.RowKit
open Go.ChangeMaps (open_string shut_string)
theorem own : ownKnob Try.prog.godebug = none := by kernel_rfl
theorem laidOut : laidOutB Try.prog = true := by kernel_rfl
theorem lifted (os : Os) (started : os.Started) (H : Type) (enc : TypeId × Value → H) :
    ReturnsInHanded {} Try.checked os 4 .any (Rows.proofFoolsSpec.pre6 enc Try.prog Try.f4 Rows.proofFoolsRow.domain false) (Rows.proofFoolsSpec.post enc Try.prog Try.f4 false true false false) := by
  refine returnsInHanded_of_change (C := Try.checked) own started (by kernel_rfl) Try.func4
    (ChangeSpec.witness6 (enc := enc) (C := Try.checked) false ⟨#[], #[.int .i64 0, .slice none 0 0, .int .i64 0, .slice none 0 0], []⟩ 8 (by kernel_rfl) (by kernel_rfl) (by kernel_rfl) (by kernel_rfl)) ?_
  intro W base args ds gs before hval0 hW hcnd _
  have hval : ∀ (j : Nat) t v, Try.f4.params[j]? = some t → args[j]? = some v → Value.okWide Try.prog W .any base t v := hval0
  have hW' := hW
  obtain ⟨p, q, hA0, hV, rfl, hfz, hnd⟩ := hW
  have hA : DataW.TrodAll enc Try.prog W 0 (fun _ => true) true Try.f4.params.toList args.toList ds p := hA0
  rw [Try.params4] at hA hval
  obtain ⟨v0, vs0, d0, ds0, p0, q0, hargs, rfl, rfl, h0, r0⟩ := trodAll_cons hA
  obtain ⟨v1, vs1, d1, ds1, p1, q1, rfl, rfl, rfl, h1, r1⟩ := trodAll_cons r0
  obtain ⟨v2, vs2, d2, ds2, p2, q2, rfl, rfl, rfl, h2, r2⟩ := trodAll_cons r1
  obtain ⟨v3, vs3, d3, ds3, p3, q3, rfl, rfl, rfl, h3, r3⟩ := trodAll_cons r2
  obtain ⟨rfl, rfl, rfl⟩ := trodAll_nil r3
  obtain rfl : args = #[v0, v1, v2, v3] := by cases args; simp_all
  obtain ⟨rfl, rfl⟩ := trodVars_none hV
  obtain ⟨x0, f0, k0⟩ := Go.Sl.read_arg (u := (.int .i64)) (by kernel_rfl) (by kernel_rfl) (hval 0 3 v0 rfl rfl) h0
  have lt0 : ∀ x ∈ p0, x.block < W.heap.size := by obtain ⟨m, hm⟩ := h0; exact DataW.trod_lt m _ _ _ hm
  obtain ⟨x1, f1, k1⟩ := Go.Sl.read_arg (u := (.slice (.int .i64))) (by kernel_rfl) (by kernel_rfl) (hval 1 22 v1 rfl rfl) h1
  have lt1 : ∀ x ∈ p1, x.block < W.heap.size := by obtain ⟨m, hm⟩ := h1; exact DataW.trod_lt m _ _ _ hm
  obtain ⟨x2, f2, k2⟩ := Go.Sl.read_arg (u := (.int .i64)) (by kernel_rfl) (by kernel_rfl) (hval 2 3 v2 rfl rfl) h2
  have lt2 : ∀ x ∈ p2, x.block < W.heap.size := by obtain ⟨m, hm⟩ := h2; exact DataW.trod_lt m _ _ _ hm
  obtain ⟨x3, f3, k3⟩ := Go.Sl.read_arg (u := (.slice (.arr 2 (.int .i64)))) (by kernel_rfl) (by kernel_rfl) (hval 3 23 v3 rfl rfl) h3
  have lt3 : ∀ x ∈ p3, x.block < W.heap.size := by obtain ⟨m, hm⟩ := h3; exact DataW.trod_lt m _ _ _ hm
  clear hA0 hval0
  obtain ⟨fuel, hm⟩ := ProofFools_true x0 x1 x2 x3 f0 f1 f2 f3
  refine (Go.Sl.law_of (vs := [v0, v1, v2, v3]) (law_ProofFools_ok hm) rfl (.cons (k0 _ _) (.cons (k1 _ _) (.cons (k2 _ _) (.cons (k3 _ _) .nil))))).mono fun e W' ⟨he, bel⟩ => ?_
  subst he
  exact ⟨_, rfl, _, _, _, [], _, [], hW', trodAll_mk1 (shut_bool Try.underlying4 _), (trodAll_cons_mk (Below.trod laidOut (by kernel_rfl) (of_decide_eq_true (by kernel_rfl)) h0 bel lt0) (trodAll_cons_mk (Below.trod laidOut (by kernel_rfl) (of_decide_eq_true (by kernel_rfl)) h1 bel lt1) (trodAll_cons_mk (Below.trod laidOut (by kernel_rfl) (of_decide_eq_true (by kernel_rfl)) h2 bel lt2) (trodAll_cons_mk (Below.trod laidOut (by kernel_rfl) (of_decide_eq_true (by kernel_rfl)) h3 bel lt3) trodAll_mk0)))), rfl, bel.frame _, fun h => by cases h⟩
theorem proved : Rows.ProofFoolsSaid :=
  OpenClaim.holds_of_wide 4 Try.f4 rfl rfl rfl rfl rfl rfl rfl ⟨rfl, rfl, rfl, rfl, rfl⟩ rfl rfl rfl rfl rfl (by kernel_rfl) Try.func4 (by kernel_rfl)
    (of_decide_eq_true (by kernel_rfl)) (by unfold Func.isWrapper; first | (rw [if_pos (by decide +kernel)]; kernel_rfl) | (rw [if_neg (by decide +kernel)]; exact ⟨rfl, rfl⟩))
    (fun os started H enc _ => lifted os started H enc)
#print axioms proved
end Go.Proofs.Ytbicjcdenfcojaa.proofFools
