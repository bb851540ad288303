/- For any rule and row cell.Many returns the specified results: CellManies returns true and changes nothing; no conditions. -/
import Derived.Test.YtpkbglckacoccaaRows
import Derived.WalkKit
import Derived.ProofKit
import Derived.OpenShut
import Derived.ShutString
import Derived.ChangeOld
import Derived.Below
import Derived.Test.YtpkbglckacoccaaCellManiesM
set_option linter.all false
set_option maxRecDepth 100000
namespace Go.Proofs.Ytpkbglckacoccaa.cellManies
open Go Go.Sl

theorem bit_eq {w i : Nat} (hw : w < 2 ^ 63) (hi : i < 63) : ref_Bit (w : Int) (i : Int) = some (w.testBit i) := by
  unfold ref_Bit
  have c : (decide ((i : Int) ≥ 0) && decide ((i : Int) < 63)) = true := by simp; omega
  have e : IntKind.wrap .u64 (i : Int) = (i : Int) := wrap_u64 (by omega) (by omega)
  rw [c, e, ck_ok (by omega)]
  simp only [cond_true, Option.bind_some, bit_mask hw hi]

theorem within_eq (a b c : Int) : ref_Within a b c = some (decide (a ≤ b ∧ b ≤ c)) := by
  unfold ref_Within
  rw [Bool.decide_and]

def csNum (a b c : Bool) : Nat := 4 * a.toNat + 2 * b.toNat + c.toNat
theorem cs_truth {r : Nat} (hr : r ≤ 255) (a b c : Bool) : ref_Truth (r : Int) a b c = some (r.testBit (csNum a b c)) := by
  have key : ∀ k : Nat, k < 8 → ref_Bit (r : Int) (k : Int) = some (r.testBit k) := fun k hk => bit_eq (by omega) (by omega)
  have k0 := key 0 (by omega)
  have k1 := key 1 (by omega)
  have k2 := key 2 (by omega)
  have k3 := key 3 (by omega)
  have k4 := key 4 (by omega)
  have k5 := key 5 (by omega)
  have k6 := key 6 (by omega)
  have k7 := key 7 (by omega)
  have w1 : w64 (4 + 2) = 6 := by decide
  have w2 : w64 (0 + 2) = 2 := by decide
  have w3 : w64 (6 + 1) = 7 := by decide
  have w4 : w64 (4 + 1) = 5 := by decide
  have w5 : w64 (2 + 1) = 3 := by decide
  have w6 : w64 (0 + 1) = 1 := by decide
  simp only [Int.natCast_zero, Int.natCast_one, Int.cast_ofNat_Int] at k0 k1 k2 k3 k4 k5 k6 k7
  unfold ref_Truth
  cases a <;> cases b <;> cases c <;> simp only [cond_true, cond_false, Option.bind_some, w1, w2, w3, w4, w5, w6, k0, k1, k2, k3, k4, k5, k6, k7] <;> rfl
theorem cs_bit (b : Bool) : cell_bit b = some ((b.toNat : Nat) : Int) := by cases b <;> rfl

theorem iter_seq {X Y : Type} {f : X → Option (Flow X Y)} {s : Nat → X} {y : Y} {n : Nat} (hs : ∀ j, j < n → f (s j) = some (.next (s (j + 1)))) (hf : f (s n) = some (.done y)) : ∀ (k j fuel : Nat), j + k = n → k < fuel → iter f fuel (s j) = some y
  | k, j, 0, _, h => by omega
  | 0, j, fuel + 1, h, _ => by
    have : j = n := by omega
    subst this
    simp only [iter, hf]
  | k + 1, j, fuel + 1, h, hk => by
    simp only [iter, hs j (by omega)]
    exact iter_seq hs hf k (j + 1) fuel (by omega) (by omega)

theorem forI_2 {X Y : Type} {body : Int → X → Option (Flow X Y)} {fin : X → Y} {x x1 x2 : X} (h0 : body 0 x = some (.next x1)) (h1 : body 1 x1 = some (.next x2)) : forI 0 2 body fin x = some (fin x2) := by
  unfold forI
  rw [if_pos (by omega), show ((2 : Int) - 0).toNat = 2 from rfl]
  simp only [loopI, h0, show (0 : Int) + 1 = 1 from rfl, h1]
theorem forI_4 {X Y : Type} {body : Int → X → Option (Flow X Y)} {fin : X → Y} {x x1 x2 x3 x4 : X} (h0 : body 0 x = some (.next x1)) (h1 : body 1 x1 = some (.next x2)) (h2 : body 2 x2 = some (.next x3)) (h3 : body 3 x3 = some (.next x4)) : forI 0 4 body fin x = some (fin x4) := by
  unfold forI
  rw [if_pos (by omega), show ((4 : Int) - 0).toNat = 4 from rfl]
  simp only [loopI, h0, show (0 : Int) + 1 = 1 from rfl, h1, show (1 : Int) + 1 = 2 from rfl, h2, show (2 : Int) + 1 = 3 from rfl, h3]
def cI (b : Bool) (x : Int) : Int := bif b then x else 0
theorem cI_b (b : Bool) {x : Int} (h : 0 ≤ x) : 0 ≤ cI b x ∧ cI b x ≤ x := by cases b <;> simp [cI, h]
theorem cm_bit {r : Nat} (hr : r ≤ 255) (v : Bool) (k : Nat) (hk : k < 8) : (bAnd .i64 (bShr .i64 (r : Int) (k : Int)) (1 : Int) == ((v.toNat : Nat) : Int)) = (r.testBit k == v) := by
  have h := bit_shift (w := r) (i := k) (by omega) (by omega)
  have h2 := bShr_nat64 (a := r) (i := k) (by omega)
  rw [h2] at h ⊢
  have h3 := bAnd_nat (a := r / 2 ^ k) (b := 1) (by have := Nat.div_le_self r (2 ^ k); omega) (by omega)
  have h3 : bAnd .i64 ((r / 2 ^ k : Nat) : Int) (1 : Int) = ((r / 2 ^ k &&& 1 : Nat) : Int) := h3
  rw [h3] at h ⊢
  rw [Nat.and_one_is_mod] at h ⊢
  have hm := Nat.mod_lt (r / 2 ^ k) (show 0 < 2 by omega)
  generalize (r / 2 ^ k) % 2 = z at *
  rw [← h]
  cases v
  · rw [Bool.eq_iff_iff]; simp; omega
  · rw [Bool.eq_iff_iff]; simp
theorem cm_step {r : Nat} (hr : r ≤ 255) (v : Bool) {p b : Nat} {P B : Int} (hP : P = (p : Int)) (hB : B = (b : Int)) (hp : p < 4) (hb : b < 2) (xp : Int) (y : List Int) (z : Int) (hz : y[(2 * p + b) % 4]? = some z) (z0 : 0 ≤ z ∧ z ≤ 1000000) (x0 : 0 ≤ xp ∧ xp ≤ 1000000) :
    cell_Many_b85 (r : Int) v P xp B y = some (.next (y.set ((2 * p + b) % 4) (z + cI (r.testBit (2 * p + b) == v) xp))) := by
  subst hP hB
  have hw : w64 ((w64 ((2 : Int) * (p : Int))) + (b : Int)) = ((2 * p + b : Nat) : Int) := by rw [w64_id (n := 2 * (p : Int)) (by omega) (by omega), w64_id (by omega) (by omega)]; omega
  have hand : bAnd .i64 ((2 * p + b : Nat) : Int) (3 : Int) = (((2 * p + b) % 4 : Nat) : Int) := by
    have h3 := bAnd_nat (a := 2 * p + b) (b := 3) (by omega) (by omega)
    have h3 : bAnd .i64 ((2 * p + b : Nat) : Int) (3 : Int) = ((2 * p + b &&& 3 : Nat) : Int) := h3
    rw [h3]
    have : (2 * p + b) &&& 3 = (2 * p + b) % 4 := Nat.and_two_pow_sub_one_eq_mod (2 * p + b) 2
    rw [this]
  have hlt : (2 * p + b) % 4 < 4 := Nat.mod_lt _ (by omega)
  have hck1 : ck (0 ≤ ((2 * p + b : Nat) : Int)) = some () := ck_ok (by omega)
  have hck2 : ck (0 ≤ (((2 * p + b) % 4 : Nat) : Int) ∧ (((2 * p + b) % 4 : Nat) : Int) < 4) = some () := ck_ok (by omega)
  unfold cell_Many_b85 cell_Many_g83
  rw [hw, hand, hck1, hck2, cs_bit, bind_some', bind_some', bind_some', cm_bit hr v _ (by omega), idx_nat, hz, bind_some', Int.toNat_natCast, w64_id (by omega) (by omega)]
  cases hc : (r.testBit (2 * p + b) == v) with
  | true => simp [cI]
  | false =>
    have e : y.set ((2 * p + b) % 4) z = y := by
      apply List.ext_getElem?
      intro i
      rw [List.getElem?_set]
      by_cases h : (2 * p + b) % 4 = i
      · subst h
        have hl := (List.getElem?_eq_some_iff.1 hz).1
        rw [if_pos rfl, if_pos hl, hz]
      · rw [if_neg h]
    simp [cI, e]
theorem cm_round {r : Nat} (hr : r ≤ 255) (v : Bool) (i : Int) {x0 x1 x2 x3 : Int} (h0 : 0 ≤ x0 ∧ x0 ≤ 100000) (h1 : 0 ≤ x1 ∧ x1 ≤ 100000) (h2 : 0 ≤ x2 ∧ x2 ≤ 100000) (h3 : 0 ≤ x3 ∧ x3 ≤ 100000) :
    cell_Many_b91 (r : Int) i v [x0, x1, x2, x3] = some (.next [cI (r.testBit 0 == v) x0 + cI (r.testBit 4 == v) x2, cI (r.testBit 1 == v) x0 + cI (r.testBit 5 == v) x2, cI (r.testBit 2 == v) x1 + cI (r.testBit 6 == v) x3, cI (r.testBit 3 == v) x1 + cI (r.testBit 7 == v) x3]) := by
  have c0 := cI_b (r.testBit 0 == v) h0.1
  have c1 := cI_b (r.testBit 1 == v) h0.1
  have c2 := cI_b (r.testBit 2 == v) h1.1
  have c3 := cI_b (r.testBit 3 == v) h1.1
  unfold cell_Many_b91
  rw [forI_4 (x1 := [cI (r.testBit 0 == v) x0, cI (r.testBit 1 == v) x0, 0, 0]) (x2 := [cI (r.testBit 0 == v) x0, cI (r.testBit 1 == v) x0, cI (r.testBit 2 == v) x1, cI (r.testBit 3 == v) x1])
    (x3 := [cI (r.testBit 0 == v) x0 + cI (r.testBit 4 == v) x2, cI (r.testBit 1 == v) x0 + cI (r.testBit 5 == v) x2, cI (r.testBit 2 == v) x1, cI (r.testBit 3 == v) x1])
    (x4 := [cI (r.testBit 0 == v) x0 + cI (r.testBit 4 == v) x2, cI (r.testBit 1 == v) x0 + cI (r.testBit 5 == v) x2, cI (r.testBit 2 == v) x1 + cI (r.testBit 6 == v) x3, cI (r.testBit 3 == v) x1 + cI (r.testBit 7 == v) x3])]
  · rfl
  · unfold cell_Many_b88
    rw [show idx [x0, x1, x2, x3] 0 = some x0 from rfl, bind_some', forI_2 (cm_step hr v (P := 0) (B := 0) (p := 0) (b := 0) rfl rfl (by omega) (by omega) x0 _ 0 rfl (by omega) (by omega)) (cm_step hr v (P := 0) (B := 1) (p := 0) (b := 1) rfl rfl (by omega) (by omega) x0 _ 0 rfl (by omega) (by omega))]
    simp
  · unfold cell_Many_b88
    rw [show idx [x0, x1, x2, x3] 1 = some x1 from rfl, bind_some', forI_2 (cm_step hr v (P := 1) (B := 0) (p := 1) (b := 0) rfl rfl (by omega) (by omega) x1 _ 0 rfl (by omega) (by omega)) (cm_step hr v (P := 1) (B := 1) (p := 1) (b := 1) rfl rfl (by omega) (by omega) x1 _ 0 rfl (by omega) (by omega))]
    simp
  · unfold cell_Many_b88
    rw [show idx [x0, x1, x2, x3] 2 = some x2 from rfl, bind_some', forI_2 (cm_step hr v (P := 2) (B := 0) (p := 2) (b := 0) rfl rfl (by omega) (by omega) x2 _ (cI (r.testBit 0 == v) x0) rfl (by omega) (by omega)) (cm_step hr v (P := 2) (B := 1) (p := 2) (b := 1) rfl rfl (by omega) (by omega) x2 _ (cI (r.testBit 1 == v) x0) rfl (by omega) (by omega))]
    simp
  · unfold cell_Many_b88
    rw [show idx [x0, x1, x2, x3] 3 = some x3 from rfl, bind_some', forI_2 (cm_step hr v (P := 3) (B := 0) (p := 3) (b := 0) rfl rfl (by omega) (by omega) x3 _ (cI (r.testBit 2 == v) x1) rfl (by omega) (by omega)) (cm_step hr v (P := 3) (B := 1) (p := 3) (b := 1) rfl rfl (by omega) (by omega) x3 _ (cI (r.testBit 3 == v) x1) rfl (by omega) (by omega))]
    simp
/-- the words that lead to the row, so far -/
def okw (r : Nat) (l : List Bool) (w : Nat) : Nat → Bool
  | 0 => true
  | i + 1 => okw r l w i && (r.testBit (csNum (w.testBit i) (w.testBit (i + 1)) (w.testBit (i + 2))) == l.getD i false)
theorem okw_add (r : Nat) (l : List Bool) {w k : Nat} : ∀ i, i + 2 ≤ k → okw r l (2 ^ k + w) i = okw r l w i
  | 0, _ => rfl
  | i + 1, h => by
    simp only [okw]
    rw [okw_add r l i (by omega), Nat.testBit_two_pow_add_gt (by omega), Nat.testBit_two_pow_add_gt (by omega), Nat.testBit_two_pow_add_gt (by omega)]
def cnt (r : Nat) (l : List Bool) (i : Nat) (a b : Bool) : Nat := (List.range (2 ^ (i + 2))).countP fun w => okw r l w i && (w.testBit i == a && w.testBit (i + 1) == b)
theorem countP_cut {α : Type} (p f : α → Bool) : ∀ l : List α, l.countP p = l.countP (fun x => p x && f x) + l.countP (fun x => p x && !f x)
  | [] => rfl
  | x :: l => by
    rw [List.countP_cons, List.countP_cons, List.countP_cons, countP_cut p f l]
    cases hp : p x <;> cases hf : f x <;> simp <;> omega
theorem countP_same {α : Type} {p q : α → Bool} : ∀ {l : List α}, (∀ x ∈ l, p x = q x) → l.countP p = l.countP q
  | [], _ => rfl
  | x :: l, h => by rw [List.countP_cons, List.countP_cons, countP_same (fun y hy => h y (by simp [hy])), h x (by simp)]
theorem countP_none {α : Type} {p : α → Bool} {l : List α} (h : ∀ x ∈ l, p x = false) : l.countP p = 0 := by
  rw [countP_same (q := fun _ => false) h]; simp
theorem countP_two (k : Nat) (p : Nat → Bool) : (List.range (2 ^ (k + 1))).countP p = (List.range (2 ^ k)).countP p + (List.range (2 ^ k)).countP (fun w => p (2 ^ k + w)) := by
  rw [Nat.pow_succ, Nat.mul_two, List.range_add, List.countP_append, List.countP_map]; rfl
theorem cnt_succ (r : Nat) (l : List Bool) (i : Nat) (s b : Bool) :
    cnt r l (i + 1) s b = (bif r.testBit (csNum false s b) == l.getD i false then cnt r l i false s else 0) + (bif r.testBit (csNum true s b) == l.getD i false then cnt r l i true s else 0) := by
  have key : cnt r l (i + 1) s b = (List.range (2 ^ (i + 2))).countP (fun w => (okw r l w i && (r.testBit (csNum (w.testBit i) (w.testBit (i + 1)) b) == l.getD i false)) && (w.testBit (i + 1) == s)) := by
    unfold cnt
    rw [show i + 1 + 2 = (i + 2) + 1 by omega, countP_two]
    have lo : ∀ w ∈ List.range (2 ^ (i + 2)), w.testBit (i + 2) = false := fun w hw => Nat.testBit_lt_two_pow (List.mem_range.1 hw)
    cases b with
    | false =>
      rw [countP_none (p := fun w => okw r l (2 ^ (i + 2) + w) (i + 1) && ((2 ^ (i + 2) + w).testBit (i + 1) == s && (2 ^ (i + 2) + w).testBit (i + 1 + 1) == false)) (fun w hw => by
        have h1 : (2 ^ (i + 2) + w).testBit (i + 2) = true := by rw [Nat.testBit_two_pow_add_eq, lo w hw]; rfl
        rw [show i + 1 + 1 = i + 2 by omega, h1]; simp), Nat.add_zero]
      refine countP_same (fun w hw => ?_)
      rw [show i + 1 + 1 = i + 2 by omega, lo w hw]
      simp only [okw, lo w hw]
      simp
    | true =>
      rw [countP_none (p := fun w => okw r l w (i + 1) && (w.testBit (i + 1) == s && w.testBit (i + 1 + 1) == true)) (fun w hw => by
        rw [show i + 1 + 1 = i + 2 by omega, lo w hw]; simp), Nat.zero_add]
      refine countP_same (fun w hw => ?_)
      have h1 : (2 ^ (i + 2) + w).testBit (i + 2) = true := by rw [Nat.testBit_two_pow_add_eq, lo w hw]; rfl
      have h2 : (2 ^ (i + 2) + w).testBit (i + 1) = w.testBit (i + 1) := Nat.testBit_two_pow_add_gt (by omega) w
      have h3 : (2 ^ (i + 2) + w).testBit i = w.testBit i := Nat.testBit_two_pow_add_gt (by omega) w
      simp only [okw]
      rw [show i + 1 + 1 = i + 2 by omega, h1, h2, h3, okw_add r l i (by omega)]
      simp
  rw [key, countP_cut _ (fun w => !w.testBit i)]
  congr 1
  · have : (List.range (2 ^ (i + 2))).countP (fun w => ((okw r l w i && (r.testBit (csNum (w.testBit i) (w.testBit (i + 1)) b) == l.getD i false)) && (w.testBit (i + 1) == s)) && !w.testBit i) = (List.range (2 ^ (i + 2))).countP (fun w => (okw r l w i && (w.testBit i == false && w.testBit (i + 1) == s)) && (r.testBit (csNum false s b) == l.getD i false)) := countP_same (fun w _ => by
      cases h1 : w.testBit i <;> cases h2 : w.testBit (i + 1) <;> cases s <;> cases okw r l w i <;> simp)
    rw [this]
    cases (r.testBit (csNum false s b) == l.getD i false)
    · simp
    · simp [cnt]
  · have : (List.range (2 ^ (i + 2))).countP (fun w => ((okw r l w i && (r.testBit (csNum (w.testBit i) (w.testBit (i + 1)) b) == l.getD i false)) && (w.testBit (i + 1) == s)) && !!w.testBit i) = (List.range (2 ^ (i + 2))).countP (fun w => (okw r l w i && (w.testBit i == true && w.testBit (i + 1) == s)) && (r.testBit (csNum true s b) == l.getD i false)) := countP_same (fun w _ => by
      cases h1 : w.testBit i <;> cases h2 : w.testBit (i + 1) <;> cases s <;> cases okw r l w i <;> simp)
    rw [this]
    cases (r.testBit (csNum true s b) == l.getD i false)
    · simp
    · simp [cnt]
theorem cnt_all (r : Nat) (l : List Bool) (i : Nat) : (List.range (2 ^ (i + 2))).countP (fun w => okw r l w i) = cnt r l i false false + cnt r l i false true + cnt r l i true false + cnt r l i true true := by
  rw [countP_cut _ (fun w => !w.testBit i), countP_cut _ (fun w => !w.testBit (i + 1)), countP_cut (fun w => okw r l w i && !!w.testBit i) (fun w => !w.testBit (i + 1))]
  unfold cnt
  rw [← Nat.add_assoc]
  congr 1
  · congr 1
    · congr 1
      · exact countP_same (fun w _ => by cases w.testBit i <;> cases w.testBit (i + 1) <;> simp)
      · exact countP_same (fun w _ => by cases w.testBit i <;> cases w.testBit (i + 1) <;> simp)
    · exact countP_same (fun w _ => by cases w.testBit i <;> cases w.testBit (i + 1) <;> simp)
  · exact countP_same (fun w _ => by cases w.testBit i <;> cases w.testBit (i + 1) <;> simp)
theorem cnt_le (r : Nat) (l : List Bool) (i : Nat) (a b : Bool) : cnt r l i a b ≤ 2 ^ (i + 2) := by
  have := List.countP_le_length (p := fun w => okw r l w i && (w.testBit i == a && w.testBit (i + 1) == b)) (l := List.range (2 ^ (i + 2)))
  rw [List.length_range] at this
  exact this
theorem cI_cast (c : Bool) (n : Nat) : cI c (n : Int) = ((bif c then n else 0 : Nat) : Int) := by cases c <;> rfl
theorem cm_many {r : Nat} (hr : r ≤ 255) {l : List Bool} (hl : l.length ≤ 12) : cell_Many (r : Int) l = some ((((List.range (2 ^ (l.length + 2))).countP (fun w => okw r l w l.length) : Nat) : Int), 0) := by
  have hpow : ∀ i, i ≤ 12 → 2 ^ (i + 2) ≤ 16384 := fun i hi => by
    have := Nat.pow_le_pow_right (n := 2) (by omega) (show i + 2 ≤ 14 by omega)
    simpa using this
  unfold cell_Many cell_wrong
  have c1 : ((decide ((r : Int) < (0 : Int))) || (decide ((r : Int) > (255 : Int)))) = false := by simp only [Bool.or_eq_false_iff, decide_eq_false_iff_not]; omega
  rw [c1, bind_some', cond_false, decide_eq_false (by omega), cond_false]
  obtain ⟨y, h1, h2⟩ := forL_inv (body := cell_Many_b91 (r : Int)) (fin := fun x536 => x536) (l := l) (x := [(1 : Int), 1, 1, 1])
    (fun i x => x = [((cnt r l i false false : Nat) : Int), ((cnt r l i false true : Nat) : Int), ((cnt r l i true false : Nat) : Int), ((cnt r l i true true : Nat) : Int)])
    (fun y => y = [((cnt r l l.length false false : Nat) : Int), ((cnt r l l.length false true : Nat) : Int), ((cnt r l l.length true false : Nat) : Int), ((cnt r l l.length true true : Nat) : Int)]) (by
      have e1 : cnt r l 0 false false = 1 := by unfold cnt okw; decide
      have e2 : cnt r l 0 false true = 1 := by unfold cnt okw; decide
      have e3 : cnt r l 0 true false = 1 := by unfold cnt okw; decide
      have e4 : cnt r l 0 true true = 1 := by unfold cnt okw; decide
      rw [e1, e2, e3, e4]; rfl)
    (by
      rintro i v x hv rfl
      have hlt := (List.getElem?_eq_some_iff.1 hv).1
      have hp := hpow i (by omega)
      have b1 := cnt_le r l i false false
      have b2 := cnt_le r l i false true
      have b3 := cnt_le r l i true false
      have b4 := cnt_le r l i true true
      have hd : l.getD i false = v := by rw [List.getD_eq_getElem?_getD, hv]; rfl
      refine ⟨_, cm_round hr v (i : Int) (by omega) (by omega) (by omega) (by omega), ?_⟩
      dsimp only
      rw [cnt_succ, cnt_succ, cnt_succ, cnt_succ, hd]
      simp only [cI_cast, Int.natCast_add]
      rfl)
    (by rintro x rfl; rfl)
  have hp := hpow l.length hl
  have b1 := cnt_le r l l.length false false
  have b2 := cnt_le r l l.length false true
  have b3 := cnt_le r l l.length true false
  have b4 := cnt_le r l l.length true true
  rw [h1, h2, cnt_all, bind_some']
  generalize cnt r l l.length false false = z0 at *
  generalize cnt r l l.length false true = z1 at *
  generalize cnt r l l.length true false = z2 at *
  generalize cnt r l l.length true true = z3 at *
  show some (w64 (w64 (w64 ((z0 : Int) + (z1 : Int)) + (z2 : Int)) + (z3 : Int)), (0 : Int)) = _
  rw [w64_id (n := (z0 : Int) + (z1 : Int)) (by omega) (by omega), w64_id (n := (z0 : Int) + (z1 : Int) + (z2 : Int)) (by omega) (by omega), w64_id (by omega) (by omega)]
  simp only [Int.natCast_add]
theorem cm_aheads {r : Nat} (hr : r ≤ 255) {l : List Bool} (hl : l.length ≤ 12) : ref_Aheads 20000 (r : Int) l = some (((List.range (2 ^ (l.length + 2))).countP (fun w => okw r l w l.length) : Nat) : Int) := by
  have hp : 2 ^ (l.length + 2) ≤ 16384 := by
    have := Nat.pow_le_pow_right (n := 2) (by omega) (show l.length + 2 ≤ 14 by omega)
    simpa using this
  have hw0 : w64 ((List.length l : Int) + (2 : Int)) = ((l.length + 2 : Nat) : Int) := by rw [w64_id (by omega) (by omega)]; rfl
  have hw : IntKind.wrap .u64 ((l.length + 2 : Nat) : Int) = ((l.length + 2 : Nat) : Int) := wrap_u64 (by omega) (by omega)
  have hck : ck (0 ≤ ((l.length + 2 : Nat) : Int)) = some () := ck_ok (by omega)
  have hone : ∀ (w : Nat) (c : Int), w < 2 ^ (l.length + 2) → forL (ref_Aheads_b27 (r : Int) (c, (w : Int))) (fun x415 => x415) l 0 true = some (okw r l w l.length) := by
    intro w c hwl
    obtain ⟨y, h1, h2⟩ := forL_inv (body := ref_Aheads_b27 (r : Int) (c, (w : Int))) (fin := fun x415 => x415) (l := l) (x := true) (fun i x => x = okw r l w i) (fun y => y = okw r l w l.length) rfl
      (by
        rintro i v x hv rfl
        have hlt := (List.getElem?_eq_some_iff.1 hv).1
        have hd : l.getD i false = v := by rw [List.getD_eq_getElem?_getD, hv]; rfl
        have e1 : w64 ((i : Int) + 1) = ((i + 1 : Nat) : Int) := by rw [w64_id (by omega) (by omega)]; rfl
        have e2 : w64 ((i : Int) + 2) = ((i + 2 : Nat) : Int) := by rw [w64_id (by omega) (by omega)]; rfl
        unfold ref_Aheads_b27
        dsimp only
        rw [e1, e2, bit_eq (by omega) (by omega), bit_eq (by omega) (by omega), bit_eq (by omega) (by omega), bind_some', bind_some', bind_some', cs_truth hr, bind_some']
        cases ho : okw r l w i with
        | true => exact ⟨_, rfl, by simp only [okw, ho, hd, Bool.true_and]⟩
        | false => exact ⟨_, rfl, by simp only [okw, ho, Bool.false_and]⟩)
      (by rintro x rfl; rfl)
    rw [h1, h2]
  have hb : ∀ j, j < 2 ^ (l.length + 2) → ref_Aheads_b31 (r : Int) l ((((List.range j).countP (fun w => okw r l w l.length) : Nat) : Int), (j : Int)) = some (.next ((((List.range (j + 1)).countP (fun w => okw r l w l.length) : Nat) : Int), ((j + 1 : Nat) : Int))) := by
    intro j hj
    have hcp : (List.range j).countP (fun w => okw r l w l.length) ≤ j := by
      have := List.countP_le_length (p := fun w => okw r l w l.length) (l := List.range j)
      simpa using this
    unfold ref_Aheads_b31
    dsimp only
    rw [hw0, hw, hck, bind_some', bShl_one (by omega), decide_eq_true (by omega), cond_true, hone j _ hj, bind_some', w64_id (by omega) (by omega), w64_id (by omega) (by omega), List.range_succ, List.countP_append]
    cases hs : okw r l j l.length <;> simp [hs]
  have := iter_seq (f := ref_Aheads_b31 (r : Int) l) (s := fun j => ((((List.range j).countP (fun w => okw r l w l.length) : Nat) : Int), (j : Int))) (n := 2 ^ (l.length + 2)) hb (y := (((List.range (2 ^ (l.length + 2))).countP (fun w => okw r l w l.length) : Nat) : Int)) (by
    unfold ref_Aheads_b31
    dsimp only
    rw [hw0, hw, hck, bind_some', bShl_one (by omega), decide_eq_false (by omega)]
    rfl) (2 ^ (l.length + 2)) 0 20000 (by omega) (by omega)
  have this : iter (ref_Aheads_b31 (r : Int) l) 20000 ((0 : Int), (0 : Int)) = _ := this
  unfold ref_Aheads
  rw [this]; rfl
theorem CellManies_true (a0 : Int) (a1 : List Bool) (f0 : Fits (.int .i64) a0) (f1 : Fits (.slice .bool) a1) : ∃ fuel, law_CellManies fuel a0 a1 = some true := by
  refine ⟨20000, ?_⟩
  unfold law_CellManies law_ruleCode
  rw [within_eq, bind_some']
  by_cases h : 0 ≤ a0 ∧ a0 ≤ 255
  · obtain ⟨r, rfl⟩ := Int.eq_ofNat_of_zero_le h.1
    have hr : r ≤ 255 := by omega
    by_cases hl : a1.length ≤ 12
    · rw [cm_many hr hl, decide_eq_true h, decide_eq_false (by omega), cm_aheads hr hl]
      simp
    · unfold cell_Many cell_wrong
      have c1 : ((decide ((r : Int) < (0 : Int))) || (decide ((r : Int) > (255 : Int)))) = false := by simp only [Bool.or_eq_false_iff, decide_eq_false_iff_not]; omega
      rw [c1, decide_eq_true h, decide_eq_true (by omega)]
      rfl
  · unfold cell_Many cell_wrong
    have c1 : ((decide (a0 < (0 : Int))) || (decide (a0 > (255 : Int)))) = true := by simp only [Bool.or_eq_true, decide_eq_true_eq]; omega
    rw [c1, decide_eq_false h]
    rfl

end Go.Proofs.Ytpkbglckacoccaa.cellManies
namespace Go.Proofs.Ytpkbglckacoccaa.cellManies
open Go.ChangeShapes Go.WideShapes Go.ChangeAt Go.RowKit
open Go.ChangeMaps (open_string shut_string)
theorem own : ownKnob Try.prog.godebug = none := by kernel_rfl
theorem laidOut : laidOutB Try.prog = true := by kernel_rfl
theorem lifted (os : Os) (started : os.Started) (H : Type) (enc : TypeId × Value → H) :
    ReturnsInHanded {} Try.checked os 3 .any (Rows.cellManiesSpec.pre6 enc Try.prog Try.f3 Rows.cellManiesRow.domain false) (Rows.cellManiesSpec.post enc Try.prog Try.f3 false true false false) := by
  refine returnsInHanded_of_change (C := Try.checked) own started (by kernel_rfl) Try.func3
    (ChangeSpec.witness6 (enc := enc) (C := Try.checked) false ⟨#[], #[.int .i64 0, .slice none 0 0], []⟩ 8 (by kernel_rfl) (by kernel_rfl) (by kernel_rfl) (by kernel_rfl)) ?_
  intro W base args ds gs before hval0 hW hcnd _
  have hval : ∀ (j : Nat) t v, Try.f3.params[j]? = some t → args[j]? = some v → Value.okWide Try.prog W .any base t v := hval0
  have hW' := hW
  obtain ⟨p, q, hA0, hV, rfl, hfz, hnd⟩ := hW
  have hA : DataW.TrodAll enc Try.prog W 0 (fun _ => true) true Try.f3.params.toList args.toList ds p := hA0
  rw [Try.params3] at hA hval
  obtain ⟨v0, vs0, d0, ds0, p0, q0, hargs, rfl, rfl, h0, r0⟩ := trodAll_cons hA
  obtain ⟨v1, vs1, d1, ds1, p1, q1, rfl, rfl, rfl, h1, r1⟩ := trodAll_cons r0
  obtain ⟨rfl, rfl, rfl⟩ := trodAll_nil r1
  obtain rfl : args = #[v0, v1] := by cases args; simp_all
  obtain ⟨rfl, rfl⟩ := trodVars_none hV
  obtain ⟨x0, f0, k0⟩ := Go.Sl.read_arg (u := (.int .i64)) (by kernel_rfl) (by kernel_rfl) (hval 0 3 v0 rfl rfl) h0
  have lt0 : ∀ x ∈ p0, x.block < W.heap.size := by obtain ⟨m, hm⟩ := h0; exact DataW.trod_lt m _ _ _ hm
  obtain ⟨x1, f1, k1⟩ := Go.Sl.read_arg (u := (.slice .bool)) (by kernel_rfl) (by kernel_rfl) (hval 1 22 v1 rfl rfl) h1
  have lt1 : ∀ x ∈ p1, x.block < W.heap.size := by obtain ⟨m, hm⟩ := h1; exact DataW.trod_lt m _ _ _ hm
  clear hA0 hval0
  obtain ⟨fuel, hm⟩ := CellManies_true x0 x1 f0 f1
  refine (Go.Sl.law_of (vs := [v0, v1]) (law_CellManies_ok hm) rfl (.cons (k0 _ _) (.cons (k1 _ _) .nil))).mono fun e W' ⟨he, bel⟩ => ?_
  subst he
  exact ⟨_, rfl, _, _, _, [], _, [], hW', trodAll_mk1 (shut_bool Try.underlying4 _), (trodAll_cons_mk (Below.trod laidOut (by kernel_rfl) (of_decide_eq_true (by kernel_rfl)) h0 bel lt0) (trodAll_cons_mk (Below.trod laidOut (by kernel_rfl) (of_decide_eq_true (by kernel_rfl)) h1 bel lt1) trodAll_mk0)), rfl, bel.frame _, fun h => by cases h⟩
theorem proved : Rows.CellManiesSaid :=
  OpenClaim.holds_of_wide 3 Try.f3 rfl rfl rfl rfl rfl rfl rfl ⟨rfl, rfl, rfl, rfl, rfl⟩ rfl rfl rfl rfl rfl (by kernel_rfl) Try.func3 (by kernel_rfl)
    (of_decide_eq_true (by kernel_rfl)) (by unfold Func.isWrapper; first | (rw [if_pos (by decide +kernel)]; kernel_rfl) | (rw [if_neg (by decide +kernel)]; exact ⟨rfl, rfl⟩))
    (fun os started H enc _ => lifted os started H enc)
#print axioms proved
end Go.Proofs.Ytpkbglckacoccaa.cellManies
