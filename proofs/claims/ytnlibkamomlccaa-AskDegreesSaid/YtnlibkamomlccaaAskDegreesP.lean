/- For any table ask.Degree returns the specified results: AskDegrees returns true and changes nothing; no conditions. -/
import Derived.Test.YtnlibkamomlccaaRows
import Derived.WalkKit
import Derived.ProofKit
import Derived.OpenShut
import Derived.ShutString
import Derived.ChangeOld
import Derived.Below
import Derived.Test.YtnlibkamomlccaaAskDegreesM
set_option linter.all false
set_option maxRecDepth 100000
namespace Go.Proofs.Ytnlibkamomlccaa.askDegrees
open Go Go.Sl

theorem within_eq (a b c : Int) : ref_Within a b c = some (decide (a ≤ b ∧ b ≤ c)) := by
  unfold ref_Within
  rw [Bool.decide_and]

theorem inside1 (n v : Int) : ref_Inside n [v] = some (decide (0 ≤ v ∧ v < n)) := by
  unfold ref_Inside
  rw [forL_ex (p := fun v => decide (v < 0) || decide (v ≥ n)) (y := Esc.ret false) (fun i a _ => by unfold ref_Inside_b1; cases (decide (a < 0) || decide (a ≥ n)) <;> rfl)]
  by_cases h : 0 ≤ v ∧ v < n
  · have : (decide (v < 0) || decide (v ≥ n)) = false := by simp only [Bool.or_eq_false_iff, decide_eq_false_iff_not]; omega
    simp [this, h]
  · have : (decide (v < 0) || decide (v ≥ n)) = true := by simp only [Bool.or_eq_true, decide_eq_true_eq]; omega
    simp [this, h]

def tbc (a0 : Int) (f : List Bool) (x : Int) : Int :=
  if ¬ (0 ≤ a0 ∧ a0 ≤ 4) then 1 else if f.length ≠ 2 ^ a0.toNat then 3 else if ¬ (0 ≤ x ∧ x < f.length) then 4 else 0
theorem tb_shl {k : Nat} (h : k ≤ 4) : bShl .i64 1 (k : Int) = ((2 ^ k : Nat) : Int) := bShl_one (by omega)
theorem tb_len {f : List Bool} {k : Nat} (h : k ≤ 4) : ((f.length : Int) != bShl .i64 1 (k : Int)) = !decide (f.length = 2 ^ k) := by
  rw [tb_shl h, bne_dec, not_dec]
  exact decide_eq_decide.2 (by omega)
theorem tb_ref (a0 : Int) (f : List Bool) (x : Int) : ref_TableCheck a0 f x = some (tbc a0 f x) := by
  unfold ref_TableCheck tbc
  rw [within_eq, inside1]
  by_cases h : 0 ≤ a0 ∧ a0 ≤ 4
  · obtain ⟨k, rfl⟩ := Int.eq_ofNat_of_zero_le h.1
    rw [wrap_u64 (n := (k : Int)) (by omega) (by omega), ck_ok (by omega), tb_len (by omega), decide_eq_true h, if_neg (by omega), Int.toNat_natCast]
    by_cases hl : f.length = 2 ^ k
    · by_cases hx : 0 ≤ x ∧ x < (f.length : Int)
      · rw [if_neg (by omega), if_neg (by omega), decide_eq_true hl, decide_eq_true hx]; rfl
      · rw [if_neg (by omega), if_pos hx]; rw [decide_eq_false hx, decide_eq_true hl]; rfl
    · rw [if_pos hl, decide_eq_false hl]; rfl
  · rw [if_pos h, decide_eq_false h]; rfl
theorem tb_valid {a0 : Int} {f : List Bool} {x : Int} (h : tbc a0 f x = 0) : ∃ k : Nat, k ≤ 4 ∧ a0 = (k : Int) ∧ f.length = 2 ^ k ∧ 0 ≤ x ∧ x < (f.length : Int) := by
  unfold tbc at h
  split at h
  · omega
  · split at h
    · omega
    · split at h
      · omega
      · rename_i h1 h2 h3
        refine ⟨a0.toNat, by omega, by omega, by omega, by omega, by omega⟩
theorem tb_16 {k n : Nat} (h : k ≤ 4) (hn : n < 2 ^ k) : n < 16 := Nat.lt_of_lt_of_le hn (Nat.pow_le_pow_right (by omega) h)

theorem tb_ask (a0 : Int) (f : List Bool) (x : Int) : ask_wrong a0 f x = some (tbc a0 f x) := by
  unfold ask_wrong tbc
  by_cases h : 0 ≤ a0 ∧ a0 ≤ 4
  · have c : ((decide (a0 < (0 : Int))) || (decide (a0 > (4 : Int)))) = false := by simp only [Bool.or_eq_false_iff, decide_eq_false_iff_not]; omega
    obtain ⟨k, rfl⟩ := Int.eq_ofNat_of_zero_le h.1
    rw [c, ck_ok (by omega), tb_len (by omega), tb_shl (by omega), if_neg (by omega), Int.toNat_natCast]
    by_cases hl : f.length = 2 ^ k
    · rw [if_neg (by omega), decide_eq_true hl]
      by_cases hx : 0 ≤ x ∧ x < (f.length : Int)
      · rw [if_neg (by omega), decide_eq_false (by omega), decide_eq_false (by omega)]; rfl
      · rw [if_pos hx]
        by_cases h0 : x < 0
        · rw [decide_eq_true h0]; rfl
        · rw [decide_eq_false h0, decide_eq_true (by omega)]; rfl
    · rw [if_pos hl, decide_eq_false hl]; rfl
  · have c : ((decide (a0 < (0 : Int))) || (decide (a0 > (4 : Int)))) = true := by simp only [Bool.or_eq_true, decide_eq_true_eq]; omega
    rw [c, if_pos h]; rfl

theorem bit_eq {w i : Nat} (hw : w < 2 ^ 63) (hi : i < 63) : ref_Bit (w : Int) (i : Int) = some (w.testBit i) := by
  unfold ref_Bit
  have c : (decide ((i : Int) ≥ 0) && decide ((i : Int) < 63)) = true := by simp; omega
  have e : IntKind.wrap .u64 (i : Int) = (i : Int) := wrap_u64 (by omega) (by omega)
  rw [c, e, ck_ok (by omega)]
  simp only [cond_true, Option.bind_some, bit_mask hw hi]

theorem size_eq {w : Nat} (hw : w < 2 ^ 63) : ref_Size (w : Int) = some ((pc w : Nat) : Int) := by
  unfold ref_Size
  have := forI_count (body := ref_Size_b4 (w : Int)) (fin := fun x => x) (p := w.testBit) (n := 63) (by omega) (by
    intro j x hj
    unfold ref_Size_b4
    rw [bit_eq hw hj]
    cases w.testBit j <;> rfl)
  simp only [Int.cast_ofNat_Int] at this
  rw [this]; rfl

theorem ones_eq : ∀ w : Nat, w < 64 → math_bits_OnesCount (w : Int) = some ((pc w : Nat) : Int) := by
  decide +kernel

/-- sums over the first numbers -/
def lsum (n : Nat) (g : Nat → Int) : Int := (List.range n).foldl (fun a t => a + g t) 0
theorem lsum_succ (n : Nat) (g : Nat → Int) : lsum (n + 1) g = lsum n g + g n := by
  unfold lsum; rw [List.range_succ, List.foldl_append]; rfl
theorem lsum_sub : ∀ (n : Nat) (g h : Nat → Int), lsum n (fun t => g t - h t) = lsum n g - lsum n h
  | 0, g, h => by simp [lsum]
  | n + 1, g, h => by rw [lsum_succ, lsum_succ, lsum_succ, lsum_sub n]; omega
theorem lsum_add : ∀ (n : Nat) (g h : Nat → Int), lsum n (fun t => g t + h t) = lsum n g + lsum n h
  | 0, g, h => by simp [lsum]
  | n + 1, g, h => by rw [lsum_succ, lsum_succ, lsum_succ, lsum_add n]; omega
theorem lsum_mul : ∀ (n : Nat) (k : Int) (g : Nat → Int), lsum n (fun t => k * g t) = k * lsum n g
  | 0, k, g => by simp [lsum]
  | n + 1, k, g => by rw [lsum_succ, lsum_succ, lsum_mul n, Int.mul_add]
theorem lsum_congr : ∀ (n : Nat) {g h : Nat → Int}, (∀ t, t < n → g t = h t) → lsum n g = lsum n h
  | 0, g, h, e => rfl
  | n + 1, g, h, e => by rw [lsum_succ, lsum_succ, lsum_congr n (fun t ht => e t (by omega)), e n (by omega)]
theorem lsum_zero (n : Nat) : lsum n (fun _ => 0) = 0 := by
  induction n with
  | zero => rfl
  | succ n ih => rw [lsum_succ, ih]; rfl
theorem lsum_one : ∀ (n x : Nat) (g : Nat → Int), x < n → lsum n (fun t => if x = t then g t else 0) = g x
  | 0, x, g, h => by omega
  | n + 1, x, g, h => by
    rw [lsum_succ]
    rcases Nat.lt_or_ge x n with h1 | h1
    · rw [lsum_one n x g h1, if_neg (by omega)]; omega
    · have : x = n := by omega
      subst this
      rw [if_pos rfl, lsum_congr x (h := fun _ => 0) (fun t ht => if_neg (by omega)), lsum_zero]; omega
theorem lsum_bound : ∀ (n : Nat) {g : Nat → Int} {b : Int}, (∀ t, t < n → -b ≤ g t ∧ g t ≤ b) → -(n * b) ≤ lsum n g ∧ lsum n g ≤ n * b
  | 0, g, b, h => by simp [lsum]
  | n + 1, g, b, h => by
    have h1 := lsum_bound n (fun t ht => h t (by omega))
    have h2 := h n (by omega)
    rw [lsum_succ]
    have e : ((n + 1 : Nat) : Int) * b = n * b + b := by rw [Int.natCast_add, Int.add_mul]; simp
    rw [e]; omega

/-- what stands at a place behind so many bits -/
def adS (F : Nat → Int) : Nat → Nat → Int
  | 0, x => F x
  | i + 1, x => if x.testBit i then adS F i x - adS F i (x ^^^ 2 ^ i) else adS F i x
def adC : Nat → Nat → Nat → Int
  | 0, x, t => if x = t then 1 else 0
  | i + 1, x, t => if x.testBit i then adC i x t - adC i (x ^^^ 2 ^ i) t else adC i x t
def adR (s t : Nat) : Int := if t ||| s = s then (if (pc s + pc t) % 2 = 0 then 1 else -1) else 0
theorem ad_tab : ∀ n : Nat, n ≤ 4 → ∀ s : Nat, s < 2 ^ n → ∀ t : Nat, t < 2 ^ n → adC n s t = adR s t := by
  decide +kernel
theorem ad_xor : ∀ n : Nat, n ≤ 4 → ∀ x : Nat, x < 2 ^ n → ∀ i : Nat, i < n → x ^^^ 2 ^ i < 2 ^ n := by
  intro n hn x hx i hi
  exact Nat.xor_lt_two_pow hx (Nat.pow_lt_pow_right (by omega) hi)
theorem ad_bit : ∀ x : Nat, x < 16 → ∀ i : Nat, i < 4 → (x.testBit i = true → x ^^^ 2 ^ i < x ∧ (x ^^^ 2 ^ i).testBit i = false) := by
  decide +kernel
theorem ad_lin (F : Nat → Int) {n : Nat} (hn : n ≤ 4) : ∀ (i : Nat), i ≤ n → ∀ x, x < 2 ^ n → adS F i x = lsum (2 ^ n) (fun t => adC i x t * F t)
  | 0, hi, x, hx => by
    show F x = _
    rw [← lsum_one (2 ^ n) x F hx]
    refine lsum_congr _ (fun t _ => ?_)
    show (if x = t then F t else 0) = (if x = t then (1 : Int) else 0) * F t
    split <;> simp
  | i + 1, hi, x, hx => by
    have h1 := ad_lin F hn i (by omega) x hx
    have h2 := ad_lin F hn i (by omega) (x ^^^ 2 ^ i) (ad_xor n hn x hx i (by omega))
    show (if x.testBit i then adS F i x - adS F i (x ^^^ 2 ^ i) else adS F i x) = _
    cases hb : x.testBit i with
    | true =>
      rw [if_pos rfl, h1, h2, ← lsum_sub]
      refine lsum_congr _ (fun t _ => ?_)
      show adC i x t * F t - adC i (x ^^^ 2 ^ i) t * F t = (if x.testBit i then adC i x t - adC i (x ^^^ 2 ^ i) t else adC i x t) * F t
      rw [hb, if_pos rfl, Int.sub_mul]
    | false =>
      rw [if_neg (by simp), h1]
      refine lsum_congr _ (fun t _ => ?_)
      show adC i x t * F t = (if x.testBit i then adC i x t - adC i (x ^^^ 2 ^ i) t else adC i x t) * F t
      rw [hb, if_neg (by simp)]
theorem ad_bound (F : Nat → Int) (hF : ∀ x, 0 ≤ F x ∧ F x ≤ 1) : ∀ (i x : Nat), -(2 ^ i : Nat) ≤ adS F i x ∧ adS F i x ≤ (2 ^ i : Nat)
  | 0, x => by have := hF x; show -((1 : Nat) : Int) ≤ F x ∧ F x ≤ ((1 : Nat) : Int); omega
  | i + 1, x => by
    have h1 := ad_bound F hF i x
    have h2 := ad_bound F hF i (x ^^^ 2 ^ i)
    show _ ≤ (if x.testBit i then adS F i x - adS F i (x ^^^ 2 ^ i) else adS F i x) ∧ (if x.testBit i then adS F i x - adS F i (x ^^^ 2 ^ i) else adS F i x) ≤ _
    rw [Nat.pow_succ]
    split <;> omega
theorem ad_list {l : List Int} {n : Nat} (S : Nat → Int) (h : l.length = n ∧ ∀ j, j < n → l[j]? = some (S j)) {j : Nat} (hj : j < n) : idx l (j : Int) = some (S j) := by
  rw [idx_nat]; exact h.2 j hj
theorem AskDegrees_true (a0 : Int) (a1 : List Bool) (f0 : Fits (.int .i64) a0) (f1 : Fits (.slice .bool) a1) : law_AskDegrees a0 a1 = some true := by
  unfold law_AskDegrees ask_Degree
  rw [tb_ref, tb_ask]
  simp only [Option.bind_some]
  by_cases hz : tbc a0 a1 0 = 0
  · obtain ⟨n, hn, rfl, hl, _, _⟩ := tb_valid hz
    have h16 : 2 ^ n ≤ 16 := Nat.pow_le_pow_right (n := 2) (by omega) hn
    rw [hz]
    let F : Nat → Int := fun x => if a1.getD x false then 1 else 0
    have hF : ∀ x, 0 ≤ F x ∧ F x ≤ 1 := by intro x; show 0 ≤ (if a1.getD x false then (1 : Int) else 0) ∧ (if a1.getD x false then (1 : Int) else 0) ≤ 1; split <;> omega
    have hck : ck (0 ≤ (List.length a1 : Int) ∧ (List.length a1 : Int) = (List.length a1 : Int) ∧ (List.length a1 : Int) ≤ 4294967296) = some () := ck_ok (by omega)
    -- the numbers laid
    obtain ⟨c0, e0, hc0⟩ := forL_inv (body := ask_Degree_b5) (fin := fun x => x) (l := a1) (x := List.replicate (Int.toNat (a1.length : Int)) 0) (fun m x => x.length = 2 ^ n ∧ ∀ j, j < 2 ^ n → x[j]? = some (if j < m then F j else 0)) (fun x => x.length = 2 ^ n ∧ ∀ j, j < 2 ^ n → x[j]? = some (F j))
      ⟨by rw [List.length_replicate, Int.toNat_natCast, hl], fun j hj => by rw [if_neg (by omega), Int.toNat_natCast, hl]; simp [hj]⟩
      (by
        rintro m b x hb ⟨hx, hv⟩
        have hm := (List.getElem?_eq_some_iff.1 hb).1
        have hFm : F m = if b then 1 else 0 := by
          show (if a1.getD m false then (1 : Int) else 0) = _
          rw [List.getD_eq_getElem?_getD, hb]; rfl
        have hold : idx x (m : Int) = some 0 := by rw [idx_nat, hv m (by omega), if_neg (by omega)]
        cases b with
        | true =>
          refine ⟨.next (x.set m 1), by unfold ask_Degree_b5; rw [hold]; rfl, by simpa using hx, fun j hj => ?_⟩
          by_cases hjm : j = m
          · subst hjm
            rw [List.getElem?_set_self (by omega), if_pos (by omega), hFm]; rfl
          · rw [List.getElem?_set_ne (by omega), hv j hj]
            by_cases h : j < m
            · rw [if_pos h, if_pos (by omega)]
            · rw [if_neg h, if_neg (by omega)]
        | false =>
          refine ⟨.next x, rfl, hx, fun j hj => ?_⟩
          rw [hv j hj]
          by_cases hjm : j = m
          · subst hjm
            rw [if_neg (by omega), if_pos (by omega), hFm]; rfl
          · by_cases h : j < m
            · rw [if_pos h, if_pos (by omega)]
            · rw [if_neg h, if_neg (by omega)])
      (by
        rintro x ⟨hx, hv⟩
        exact ⟨hx, fun j hj => by rw [hv j hj, if_pos (by omega)]⟩)
    -- bit by bit
    obtain ⟨c1, e1, hc1⟩ := forI_inv (body := ask_Degree_b35) (fin := fun x => x) (lo := 0) (hi := (n : Int)) (x := c0) (fun i x => 0 ≤ i ∧ x.length = 2 ^ n ∧ ∀ j, j < 2 ^ n → x[j]? = some (adS F i.toNat j)) (fun x => x.length = 2 ^ n ∧ ∀ j, j < 2 ^ n → x[j]? = some (adS F n j)) (by omega) (by omega) ⟨by omega, hc0⟩
      (by
        rintro i x h0 h1 ⟨_, hx, hv⟩
        obtain ⟨i, rfl⟩ := Int.eq_ofNat_of_zero_le h0
        simp only [Int.toNat_natCast] at hv
        obtain ⟨y, ey, hy⟩ := forL_inv (body := ask_Degree_b32 (i : Int)) (fin := fun x => x) (l := x) (x := x) (fun m z => z.length = 2 ^ n ∧ ∀ j, j < 2 ^ n → z[j]? = some (if j < m then adS F (i + 1) j else adS F i j)) (fun z => z.length = 2 ^ n ∧ ∀ j, j < 2 ^ n → z[j]? = some (adS F (i + 1) j))
          ⟨hx, fun j hj => by rw [if_neg (by omega)]; exact hv j hj⟩
          (by
            rintro m v z hm ⟨hz2, hzv⟩
            have hml := (List.getElem?_eq_some_iff.1 hm).1
            have hb2 : (bAnd .i64 (bShr .i64 (m : Int) (i : Int)) 1 == 1) = m.testBit i := bit_shift (by omega) (by omega)
            have hp : 2 ^ i < 2 ^ 63 := Nat.pow_lt_pow_right (by omega) (by omega)
            have zm : idx z (m : Int) = some (adS F i m) := by rw [idx_nat, hzv m (by omega), if_neg (by omega)]
            unfold ask_Degree_b32 ask_Degree_g30
            rw [ck_ok (by omega), hb2]
            have hS : adS F (i + 1) m = if m.testBit i then adS F i m - adS F i (m ^^^ 2 ^ i) else adS F i m := rfl
            cases hb : m.testBit i with
            | true =>
              obtain ⟨x1, x2⟩ := ad_bit m (by omega) i (by omega) hb
              have hq : adS F (i + 1) (m ^^^ 2 ^ i) = adS F i (m ^^^ 2 ^ i) := by
                show (if (m ^^^ 2 ^ i).testBit i then _ else _) = _
                rw [x2, if_neg (by simp)]
              have zq : idx z (((m ^^^ 2 ^ i : Nat)) : Int) = some (adS F i (m ^^^ 2 ^ i)) := by rw [idx_nat, hzv _ (by omega), if_pos x1, hq]
              have B1 := ad_bound F hF i m
              have B2 := ad_bound F hF i (m ^^^ 2 ^ i)
              have hpi : 2 ^ i ≤ 16 := Nat.le_trans (Nat.pow_le_pow_right (n := 2) (by omega) (by omega)) h16
              have ew : w64 (adS F i m - adS F i (m ^^^ 2 ^ i)) = adS F i m - adS F i (m ^^^ 2 ^ i) := w64_id (by omega) (by omega)
              rw [bShl_one (by omega), bXor_nat (by omega) hp, zm, zq]
              simp only [Option.bind_some, cond_true, ew]
              refine ⟨_, rfl, by simpa using hz2, fun j hj => ?_⟩
              by_cases hjm : j = m
              · subst hjm
                rw [Int.toNat_natCast, List.getElem?_set_self (by omega), if_pos (by omega), hS, hb, if_pos rfl]
              · rw [Int.toNat_natCast, List.getElem?_set_ne (by omega), hzv j hj]
                by_cases h : j < m
                · rw [if_pos h, if_pos (by omega)]
                · rw [if_neg h, if_neg (by omega)]
            | false =>
              simp only [Option.bind_some, cond_false]
              refine ⟨_, rfl, hz2, fun j hj => ?_⟩
              rw [hzv j hj]
              by_cases hjm : j = m
              · subst hjm
                rw [if_neg (by omega), if_pos (by omega), hS, hb, if_neg (by simp)]
              · by_cases h : j < m
                · rw [if_pos h, if_pos (by omega)]
                · rw [if_neg h, if_neg (by omega)])
          (by
            rintro z ⟨hz2, hzv⟩
            exact ⟨hz2, fun j hj => by rw [hzv j hj, if_pos (by omega)]⟩)
        refine ⟨.next y, ?_, by omega, hy.1, ?_⟩
        · unfold ask_Degree_b35
          rw [ey]; rfl
        · have : ((i : Int) + 1).toNat = i + 1 := by omega
          rw [this]; exact hy.2)
      (by
        rintro i x h0 h1 hh ⟨_, hx, hv⟩
        have : i.toNat = n := by omega
        rw [this] at hv
        exact ⟨hx, hv⟩)
    -- the greatest
    have hsum : ∀ s : Nat, s < 2 ^ n → forL (ref_Degree_b172 (s : Int)) (fun x1494 => x1494) a1 0 0 = some (adS F n s) := by
      intro s hs
      rw [ad_lin F hn n (by omega) s hs]
      obtain ⟨y, hy, rfl⟩ := forL_inv (body := ref_Degree_b172 (s : Int)) (fin := fun x => x) (l := a1) (x := 0) (fun m x => x = lsum m (fun t => adC n s t * F t)) (fun y => y = lsum (2 ^ n) (fun t => adC n s t * F t)) rfl
        (by
          rintro m b x hb rfl
          have hm := (List.getElem?_eq_some_iff.1 hb).1
          have hFm : F m = if b then 1 else 0 := by
            show (if a1.getD m false then (1 : Int) else 0) = _
            rw [List.getD_eq_getElem?_getD, hb]; rfl
          have hor : ((m ||| s : Nat) : Int) = bOr .i64 (m : Int) (s : Int) := (bOr_nat (by omega) (by omega)).symm
          have B := lsum_bound m (g := fun t => adC n s t * F t) (b := 1) (fun t ht => by
            show -1 ≤ adC n s t * F t ∧ adC n s t * F t ≤ 1
            rw [ad_tab n hn s hs t (by omega)]
            have := hF t
            have hF2 : F t = 0 ∨ F t = 1 := by omega
            unfold adR
            rcases hF2 with h | h <;> rw [h] <;> (repeat' split) <;> simp)
          refine ⟨.next (lsum (m + 1) (fun t => adC n s t * F t)), ?_, rfl⟩
          rw [lsum_succ, ad_tab n hn s hs m (by omega), hFm]
          generalize lsum m (fun t => adC n s t * F t) = acc at *
          have w1 : w64 (acc + 1) = acc + 1 := w64_id (by omega) (by omega)
          have w2 : w64 (acc - 1) = acc - 1 := w64_id (by omega) (by omega)
          unfold ref_Degree_b172 ref_Degree_g170 adR
          rw [← hor, bne_dec]
          by_cases hsub : m ||| s = s
          · rw [decide_eq_false (by omega), if_pos hsub]
            have pcb : ∀ q : Nat, q < 16 → pc q ≤ 4 := by decide +kernel
            have hps := pcb s (by omega)
            have hpm := pcb m (by omega)
            have w3 : w64 (((pc s : Nat) : Int) - ((pc m : Nat) : Int)) = ((pc s : Nat) : Int) - ((pc m : Nat) : Int) := w64_id (by omega) (by omega)
            have hpar : (Int.tmod (((pc s : Nat) : Int) - ((pc m : Nat) : Int)) 2 == 0) = decide ((pc s + pc m) % 2 = 0) := by
              rw [beq_dec]
              refine decide_eq_decide.2 ?_
              have hlt : ∀ a : Nat, a ≤ 4 → ∀ b : Nat, b ≤ 4 → (Int.tmod ((a : Int) - (b : Int)) 2 = 0 ↔ (a + b) % 2 = 0) := by decide
              exact hlt _ hps _ hpm
            cases b with
            | false =>
              simp
            | true =>
              simp only [cond_false, Option.bind_some, Bool.not_true, size_eq (w := s) (by omega), size_eq (w := m) (by omega), w3, hpar, w1, w2, if_true]
              by_cases h : (pc s + pc m) % 2 = 0
              · rw [decide_eq_true h, if_pos h]; rfl
              · rw [decide_eq_false h, if_neg h]; rfl
          · rw [decide_eq_true (by omega), if_neg hsub]
            simp)
        (by rintro x rfl; rw [hl])
      exact hy
    obtain ⟨y, y', h1, h2, rfl⟩ := forL_rel (body := ask_Degree_b43) (body' := ref_Degree_b178 a1) (fin := fun x => x) (fin' := fun x => x) (l := c1) (l' := a1) (x := 0) (x' := 0) (fun _ x x' => x = x') (fun y y' => y = y') (by rw [hc1.1, hl]) rfl
      (by
        rintro s v b x _ hv hb rfl
        have hs := (List.getElem?_eq_some_iff.1 hb).1
        have hv2 : v = adS F n s := by have := hc1.2 s (by omega); rw [hv] at this; exact Option.some.inj this
        subst hv2
        have key : ask_Degree_b43 (s : Int) (adS F n s) x = some (.next (if adS F n s ≠ 0 then imax x (pc s) else x)) := by
          unfold ask_Degree_b43
          by_cases h : adS F n s = 0
          · rw [if_neg (by simp [h])]; simp [h]
          · have : (adS F n s != 0) = true := by simp [h]
            rw [this, wrap_u64 (by omega) (by omega), ones_eq s (by omega), if_pos h]; rfl
        have key2 : ref_Degree_b178 a1 (s : Int) b x = some (.next (if adS F n s ≠ 0 then imax x (pc s) else x)) := by
          unfold ref_Degree_b178 ref_Degree_g176
          rw [hsum s (by omega)]
          simp only [Option.bind_some]
          by_cases h : adS F n s = 0
          · simp [h]
          · have : (adS F n s != 0) = true := by simp [h]
            rw [this, if_pos h, size_eq (by omega)]
            simp only [cond_true, Option.bind_some]
            unfold imax
            by_cases hc : ((pc s : Nat) : Int) > x
            · rw [decide_eq_true hc, if_pos hc]; rfl
            · rw [decide_eq_false hc, if_neg hc]; rfl
        exact ⟨_, _, key, key2, rfl⟩)
      (by rintro x _ rfl; rfl)
    unfold ref_Degree
    have hck2 : ck ((a1.length : Int) ≤ 4294967296) = some () := ck_ok (by omega)
    simp only [hck, e0, e1, h1, h2, Option.bind_some]
    simp [hck2]
  · have e0 : (tbc a0 a1 0 != 0) = true := by simp [hz]
    simp [e0]

end Go.Proofs.Ytnlibkamomlccaa.askDegrees
namespace Go.Proofs.Ytnlibkamomlccaa.askDegrees
open Go.ChangeShapes Go.WideShapes Go.ChangeAt Go.RowKit
open Go.ChangeMaps (open_string shut_string)
theorem own : ownKnob Try.prog.godebug = none := by kernel_rfl
theorem laidOut : laidOutB Try.prog = true := by kernel_rfl
theorem lifted (os : Os) (started : os.Started) (H : Type) (enc : TypeId × Value → H) :
    ReturnsInHanded {} Try.checked os 10 .any (Rows.askDegreesSpec.pre6 enc Try.prog Try.f10 Rows.askDegreesRow.domain false) (Rows.askDegreesSpec.post enc Try.prog Try.f10 false true false false) := by
  refine returnsInHanded_of_change (C := Try.checked) own started (by kernel_rfl) Try.func10
    (ChangeSpec.witness6 (enc := enc) (C := Try.checked) false ⟨#[], #[.int .i64 0, .slice none 0 0], []⟩ 8 (by kernel_rfl) (by kernel_rfl) (by kernel_rfl) (by kernel_rfl)) ?_
  intro W base args ds gs before hval0 hW hcnd _
  have hval : ∀ (j : Nat) t v, Try.f10.params[j]? = some t → args[j]? = some v → Value.okWide Try.prog W .any base t v := hval0
  have hW' := hW
  obtain ⟨p, q, hA0, hV, rfl, hfz, hnd⟩ := hW
  have hA : DataW.TrodAll enc Try.prog W 0 (fun _ => true) true Try.f10.params.toList args.toList ds p := hA0
  rw [Try.params10] at hA hval
  obtain ⟨v0, vs0, d0, ds0, p0, q0, hargs, rfl, rfl, h0, r0⟩ := trodAll_cons hA
  obtain ⟨v1, vs1, d1, ds1, p1, q1, rfl, rfl, rfl, h1, r1⟩ := trodAll_cons r0
  obtain ⟨rfl, rfl, rfl⟩ := trodAll_nil r1
  obtain rfl : args = #[v0, v1] := by cases args; simp_all
  obtain ⟨rfl, rfl⟩ := trodVars_none hV
  obtain ⟨x0, f0, k0⟩ := Go.Sl.read_arg (u := (.int .i64)) (by kernel_rfl) (by kernel_rfl) (hval 0 3 v0 rfl rfl) h0
  have lt0 : ∀ x ∈ p0, x.block < W.heap.size := by obtain ⟨m, hm⟩ := h0; exact DataW.trod_lt m _ _ _ hm
  obtain ⟨x1, f1, k1⟩ := Go.Sl.read_arg (u := (.slice .bool)) (by kernel_rfl) (by kernel_rfl) (hval 1 30 v1 rfl rfl) h1
  have lt1 : ∀ x ∈ p1, x.block < W.heap.size := by obtain ⟨m, hm⟩ := h1; exact DataW.trod_lt m _ _ _ hm
  clear hA0 hval0
  have hm := AskDegrees_true x0 x1 f0 f1
  refine (Go.Sl.law_of (vs := [v0, v1]) (law_AskDegrees_ok hm) rfl (.cons (k0 _ _) (.cons (k1 _ _) .nil))).mono fun e W' ⟨he, bel⟩ => ?_
  subst he
  exact ⟨_, rfl, _, _, _, [], _, [], hW', trodAll_mk1 (shut_bool Try.underlying4 _), (trodAll_cons_mk (Below.trod laidOut (by kernel_rfl) (of_decide_eq_true (by kernel_rfl)) h0 bel lt0) (trodAll_cons_mk (Below.trod laidOut (by kernel_rfl) (of_decide_eq_true (by kernel_rfl)) h1 bel lt1) trodAll_mk0)), rfl, bel.frame _, fun h => by cases h⟩
theorem proved : Rows.AskDegreesSaid :=
  OpenClaim.holds_of_wide 10 Try.f10 rfl rfl rfl rfl rfl rfl rfl ⟨rfl, rfl, rfl, rfl, rfl⟩ rfl rfl rfl rfl rfl (by kernel_rfl) Try.func10 (by kernel_rfl)
    (of_decide_eq_true (by kernel_rfl)) (by unfold Func.isWrapper; first | (rw [if_pos (by decide +kernel)]; kernel_rfl) | (rw [if_neg (by decide +kernel)]; exact ⟨rfl, rfl⟩))
    (fun os started H enc _ => lifted os started H enc)
#print axioms proved
end Go.Proofs.Ytnlibkamomlccaa.askDegrees
