/- PairsWays holds for every input: no conditions. -/
import Derived.Test.YtjghcbdfpcpahaaRows
import Derived.WalkKit
import Derived.ProofKit
import Derived.OpenShut
import Derived.ShutString
import Derived.ChangeOld
import Derived.Below
import Derived.Test.YtjghcbdfpcpahaaPairsWaysM
set_option linter.all false
set_option maxRecDepth 100000
namespace Go.Proofs.Ytjghcbdfpcpahaa.pairsWays
open Go Go.Sl
theorem within_eq (a b c : Int) : ref_Within a b c = some (decide (a ≤ b ∧ b ≤ c)) := by
  unfold ref_Within
  rw [Bool.decide_and]

theorem cc_grow {n : Nat} (h : n ≤ 4294967296) : slices_Grow_Lintint (n : Int) = some [] := by
  unfold slices_Grow_Lintint
  rw [decide_eq_false (by omega), cond_false, Int.sub_zero, w64_id (by omega) (by omega)]
  by_cases h0 : (n : Int) > 0
  · rw [decide_eq_true h0, cond_true, ck_ok (show 0 ≤ (n : Int) ∧ (n : Int) ≤ 4294967296 by omega)]; rfl
  · rw [decide_eq_false h0]; rfl
theorem flat_take {α : Type} {l : List (List α)} {n : Nat} {v : List α} (h : l[n]? = some v) : (l.take (n + 1)).flatten = (l.take n).flatten ++ v := by
  rw [List.take_add_one, h]; simp
theorem flat_le {α : Type} (l : List (List α)) (n : Nat) : (l.take n).flatten.length ≤ l.flatten.length := by
  have : l = l.take n ++ l.drop n := (List.take_append_drop n l).symm
  conv => rhs; rw [this, List.flatten_append, List.length_append]
  omega
theorem cc_concat {l : List (List Int)} (h : l.flatten.length ≤ 1000000) : slices_Concat_Lintint l = some l.flatten := by
  unfold slices_Concat_Lintint
  obtain ⟨y, h1, h2⟩ := forL_inv (body := slices_Concat_Lintint_b7) (fin := fun x => x) (l := l) (x := (0 : Int)) (fun n x => x = (((l.take n).flatten.length : Nat) : Int)) (fun y => y = ((l.flatten.length : Nat) : Int)) (by simp)
    (fun n v x hv hx => by
      subst hx
      have hle := flat_le l (n + 1)
      have he := flat_take hv
      rw [he, List.length_append] at hle
      unfold slices_Concat_Lintint_b7
      rw [w64_id (by omega) (by omega), decide_eq_false (by omega), cond_false]
      exact ⟨_, rfl, by rw [he, List.length_append]; omega⟩)
    (fun x hx => by rw [hx, List.take_length])
  rw [h1, bind_some', h2, cc_grow (by omega), bind_some']
  obtain ⟨z, h3, h4⟩ := forL_inv (body := slices_Concat_Lintint_b10) (fin := fun x => x) (l := l) (x := ([] : List Int)) (fun n x => x = (l.take n).flatten) (fun y => y = l.flatten) (by simp)
    (fun n v x hv hx => by
      subst hx
      have hle := flat_le l (n + 1)
      have he := flat_take hv
      rw [he, List.length_append] at hle
      have hck : ck ((List.length (l.take n).flatten : Int) + (List.length v : Int) ≤ 4294967296) = some () := ck_ok (by omega)
      unfold slices_Concat_Lintint_b10
      rw [hck, bind_some']
      exact ⟨_, rfl, he.symm⟩)
    (fun x hx => by rw [hx, List.take_length])
  rw [h3, bind_some', h4]

theorem ones_eq : ∀ w : Nat, w < 64 → math_bits_OnesCount (w : Int) = some ((pc w : Nat) : Int) := by
  decide +kernel

def psum (g : Nat → Int) : Nat → Int
  | 0 => 0
  | m + 1 => psum g m + g m
theorem psum_congr {g h : Nat → Int} : ∀ {m : Nat}, (∀ j, j < m → g j = h j) → psum g m = psum h m
  | 0, _ => rfl
  | m + 1, e => by rw [psum, psum, psum_congr (fun j hj => e j (by omega)), e m (by omega)]
theorem psum_succ (g : Nat → Int) : ∀ m, psum g (m + 1) = g 0 + psum (fun j => g (j + 1)) m
  | 0 => by simp [psum]
  | m + 1 => by
    have := psum_succ g m
    rw [psum, this, psum]; omega
theorem psum_two (g : Nat → Int) : ∀ m, psum g (2 * m) = psum (fun j => g (2 * j) + g (2 * j + 1)) m
  | 0 => rfl
  | m + 1 => by
    have := psum_two g m
    rw [show 2 * (m + 1) = 2 * m + 1 + 1 by omega, psum, psum, this, psum]; omega
theorem psum_add (g h : Nat → Int) : ∀ m, psum (fun j => g j + h j) m = psum g m + psum h m
  | 0 => rfl
  | m + 1 => by rw [psum, psum, psum, psum_add g h m]; omega
theorem psum_neg (g : Nat → Int) : ∀ m, psum (fun j => - g j) m = - psum g m
  | 0 => rfl
  | m + 1 => by rw [psum, psum, psum_neg g m]; omega
theorem psum_zero : ∀ m, psum (fun _ => 0) m = 0
  | 0 => rfl
  | m + 1 => by rw [psum, psum_zero m]; rfl
/-- over all sets, with signs -/
def Alt : Nat → (List Bool → Int) → Int
  | 0, F => F []
  | n + 1, F => Alt n (fun S => F (true :: S)) - Alt n (fun S => F (false :: S))
theorem Alt.congr : ∀ {n : Nat} {F G : List Bool → Int}, (∀ S, S.length = n → F S = G S) → Alt n F = Alt n G
  | 0, F, G, h => h [] rfl
  | n + 1, F, G, h => by
    unfold Alt
    rw [Alt.congr (fun S hS => h (true :: S) (by simp [hS])), Alt.congr (fun S hS => h (false :: S) (by simp [hS]))]
theorem Alt.add : ∀ (n : Nat) (F G : List Bool → Int), Alt n (fun S => F S + G S) = Alt n F + Alt n G
  | 0, F, G => rfl
  | n + 1, F, G => by
    unfold Alt
    rw [Alt.add n, Alt.add n]; omega
theorem Alt.smul : ∀ (n : Nat) (c : Int) (F : List Bool → Int), Alt n (fun S => c * F S) = c * Alt n F
  | 0, c, F => rfl
  | n + 1, c, F => by
    unfold Alt
    rw [Alt.smul n, Alt.smul n, Int.mul_sub]
theorem Alt.zero : ∀ (n : Nat), Alt n (fun _ => 0) = 0
  | 0 => rfl
  | n + 1 => by unfold Alt; rw [Alt.zero n]; rfl
theorem Alt.one : ∀ (n : Nat), Alt (n + 1) (fun _ => 1) = 0 := by
  intro n
  show Alt n (fun _ => 1) - Alt n (fun _ => 1) = 0
  omega
theorem Alt.succ (n : Nat) (F : List Bool → Int) : Alt (n + 1) F = Alt n (fun S => F (true :: S)) - Alt n (fun S => F (false :: S)) := rfl
theorem alt_psum (n : Nat) (c : Nat → Int) (h : Nat → List Bool → Int) (F : List Bool → Int) : ∀ m, Alt n (fun S => psum (fun j => c j * h j S) m * F S) = psum (fun j => c j * Alt n (fun S => h j S * F S)) m
  | 0 => by
    simp only [psum, Int.zero_mul]; exact Alt.zero n
  | m + 1 => by
    have ih := alt_psum n c h F m
    simp only [psum]
    rw [← ih, ← Alt.smul, ← Alt.add]
    apply Alt.congr
    intro S _
    rw [Int.add_mul, Int.mul_assoc]
def sel (j : Nat) (S : List Bool) : Int := if S.getD j false then 1 else 0
def insF : Nat → List Bool → List Bool
  | 0, S => false :: S
  | j + 1, [] => [false]
  | j + 1, b :: S => b :: insF j S
theorem alt_sel : ∀ (j n : Nat) (F : List Bool → Int), j ≤ n → Alt (n + 1) (fun S => sel j S * F S) = Alt (n + 1) F + Alt n (fun S => F (insF j S))
  | 0, n, F, _ => by
    rw [Alt.succ n (fun S => sel 0 S * F S), Alt.succ n F]
    have e1 : Alt n (fun S => sel 0 (true :: S) * F (true :: S)) = Alt n (fun S => F (true :: S)) := Alt.congr (fun S _ => by simp [sel])
    have e2 : Alt n (fun S => sel 0 (false :: S) * F (false :: S)) = 0 := by
      rw [← Alt.zero n]; exact Alt.congr (fun S _ => by simp [sel])
    rw [e1, e2]
    have e3 : Alt n (fun S => F (insF 0 S)) = Alt n (fun S => F (false :: S)) := Alt.congr (fun S _ => rfl)
    rw [e3]; omega
  | j + 1, 0, F, h => by omega
  | j + 1, n + 1, F, h => by
    have i1 := alt_sel j n (fun S => F (true :: S)) (by omega)
    have i2 := alt_sel j n (fun S => F (false :: S)) (by omega)
    have l1 : Alt (n + 1 + 1) (fun S => sel (j + 1) S * F S) = Alt (n + 1) (fun S => sel j S * F (true :: S)) - Alt (n + 1) (fun S => sel j S * F (false :: S)) := by
      rw [Alt]
      rfl
    have l2 : Alt (n + 1 + 1) F = Alt (n + 1) (fun S => F (true :: S)) - Alt (n + 1) (fun S => F (false :: S)) := rfl
    have l3 : Alt (n + 1) (fun S => F (insF (j + 1) S)) = Alt n (fun S => F (true :: insF j S)) - Alt n (fun S => F (false :: insF j S)) := rfl
    rw [l1, i1, i2, l2, l3]; omega
def rsL : List Int → List Bool → Int
  | a :: r, b :: S => (if b then a else 0) + rsL r S
  | _, _ => 0
theorem rs_psum : ∀ (r : List Int) (S : List Bool), S.length = r.length → rsL r S = psum (fun j => r.getD j 0 * sel j S) r.length
  | [], S, _ => by simp [rsL, psum]
  | a :: r, [], h => by simp at h
  | a :: r, b :: S, h => by
    have ih := rs_psum r S (by simpa using h)
    rw [List.length_cons, psum_succ, rsL, ih]
    congr 1
    cases b <;> simp [sel]
theorem rs_ins : ∀ (j : Nat) (r : List Int) (S : List Bool), j < r.length → S.length + 1 = r.length → rsL r (insF j S) = rsL (r.eraseIdx j) S
  | 0, a :: r, S, _, _ => by simp [insF, rsL]
  | j + 1, a :: r, [], h, h2 => by simp at h2 h; subst h2; simp at h
  | j + 1, a :: r, b :: S, h, h2 => by
    have ih := rs_ins j r S (by simpa using h) (by simpa using h2)
    simp only [insF, rsL, List.eraseIdx_cons_succ, ih]
  | j, [], S, h, _ => by simp at h
def Prd : List (List Int) → List Bool → Int
  | [], _ => 1
  | r :: rows, S => rsL r S * Prd rows S
theorem prd_ins (j n : Nat) (hj : j ≤ n) : ∀ (rows : List (List Int)) (S : List Bool), (∀ r ∈ rows, r.length = n + 1) → S.length = n → Prd rows (insF j S) = Prd (rows.map (·.eraseIdx j)) S
  | [], S, _, _ => rfl
  | r :: rows, S, h, hS => by
    have hr := h r (by simp)
    simp only [Prd, List.map_cons]
    rw [rs_ins j r S (by omega) (by omega), prd_ins j n hj rows S (fun r hr => h r (by simp [hr])) hS]
theorem alt_row (n : Nat) (r : List Int) (hr : r.length = n) (F : List Bool → Int) : Alt n (fun S => rsL r S * F S) = psum (fun j => r.getD j 0 * Alt n (fun S => sel j S * F S)) n := by
  rw [← alt_psum n (fun j => r.getD j 0) sel F n]
  apply Alt.congr
  intro S hS
  rw [rs_psum r S (by omega), hr]
theorem alt_zero : ∀ (rows : List (List Int)) (n : Nat), (∀ r ∈ rows, r.length = n) → rows.length < n → Alt n (Prd rows) = 0
  | [], n + 1, _, _ => Alt.one n
  | [], 0, _, h => by simp at h
  | r :: rows, 0, _, h => by simp at h
  | r :: rows, n + 1, hr, h => by
    simp only [List.length_cons] at h
    have e : Alt (n + 1) (Prd (r :: rows)) = Alt (n + 1) (fun S => rsL r S * Prd rows S) := rfl
    rw [e, alt_row (n + 1) r (hr r (by simp)), ← psum_zero (n + 1)]
    apply psum_congr
    intro j hj
    rw [alt_sel j n (Prd rows) (by omega), alt_zero rows (n + 1) (fun r h => hr r (by simp [h])) (by omega)]
    have e2 : Alt n (fun S => Prd rows (insF j S)) = Alt n (Prd (rows.map (·.eraseIdx j))) := Alt.congr (fun S hS => prd_ins j n (by omega) rows S (fun r h => hr r (by simp [h])) hS)
    rw [e2, alt_zero (rows.map (·.eraseIdx j)) n (by
      intro r h
      obtain ⟨q, hq, rfl⟩ := List.mem_map.1 h
      rw [List.length_eraseIdx, if_pos (by rw [hr q (by simp [hq])]; omega), hr q (by simp [hq])]; rfl) (by rw [List.length_map]; omega)]
    simp
termination_by rows => rows.length
/-- along the first row -/
def Lap : Nat → List (List Int) → Int
  | 0, _ => 1
  | n + 1, rows => psum (fun j => (rows.headD []).getD j 0 * Lap n (rows.tail.map (·.eraseIdx j))) (n + 1)
theorem alt_lap : ∀ (n : Nat) (rows : List (List Int)), rows.length = n → (∀ r ∈ rows, r.length = n) → Alt n (Prd rows) = Lap n rows
  | 0, [], _, _ => rfl
  | 0, r :: rows, h, _ => by simp at h
  | n + 1, [], h, _ => by simp at h
  | n + 1, r :: rows, h, hr => by
    simp only [List.length_cons] at h
    have e : Alt (n + 1) (Prd (r :: rows)) = Alt (n + 1) (fun S => rsL r S * Prd rows S) := rfl
    rw [e, alt_row (n + 1) r (hr r (by simp)), Lap]
    apply psum_congr
    intro j hj
    rw [alt_sel j n (Prd rows) (by omega), alt_zero rows (n + 1) (fun r h => hr r (by simp [h])) (by omega)]
    have e2 : Alt n (fun S => Prd rows (insF j S)) = Alt n (Prd (rows.map (·.eraseIdx j))) := Alt.congr (fun S hS => prd_ins j n (by omega) rows S (fun r h => hr r (by simp [h])) hS)
    rw [e2, alt_lap n (rows.map (·.eraseIdx j)) (by simpa using h) (by
      intro r h
      obtain ⟨q, hq, rfl⟩ := List.mem_map.1 h
      rw [List.length_eraseIdx, if_pos (by rw [hr q (by simp [hq])]; omega), hr q (by simp [hq])]; rfl)]
    simp
/-- words as sets, and their signs -/
def bits : Nat → Nat → List Bool
  | 0, _ => []
  | n + 1, w => (w % 2 == 1) :: bits n (w / 2)
def sg : Nat → Nat → Int
  | 0, _ => 1
  | n + 1, w => (if w % 2 = 1 then 1 else -1) * sg n (w / 2)
theorem psum_alt : ∀ (n : Nat) (F : List Bool → Int), psum (fun w => sg n w * F (bits n w)) (2 ^ n) = Alt n F
  | 0, F => by simp [psum, sg, bits, Alt]
  | n + 1, F => by
    rw [Nat.pow_succ, Nat.mul_comm, psum_two]
    unfold Alt
    rw [← psum_alt n (fun S => F (true :: S)), ← psum_alt n (fun S => F (false :: S))]
    have : ∀ a b : Int, a - b = a + -b := fun a b => by omega
    rw [this, ← psum_neg, ← psum_add]
    apply psum_congr
    intro w _
    have a1 : (2 * w) % 2 = 0 := by omega
    have a2 : (2 * w + 1) % 2 = 1 := by omega
    have a3 : (2 * w) / 2 = w := by omega
    have a4 : (2 * w + 1) / 2 = w := by omega
    simp only [sg, bits, a1, a2, a3, a4]
    simp [Int.neg_mul]
    omega
theorem bit_at : ∀ w : Nat, w < 64 → ∀ j : Nat, j < 6 → (bAnd .i64 (bShr .i64 (w : Int) (j : Int)) (1 : Int) == (1 : Int)) = (w / 2 ^ j % 2 == 1) := by decide +kernel
theorem sg_at : ∀ n : Nat, n < 7 → ∀ w : Nat, w < 2 ^ n → (Int.tmod (w64 ((n : Int) - ((pc w : Nat) : Int))) 2 == 1) = (sg n w == -1) ∧ (sg n w = 1 ∨ sg n w = -1) := by decide +kernel
theorem rs_abs : ∀ (r : List Int) (S : List Bool), (∀ v ∈ r, v.natAbs ≤ 20) → (rsL r S).natAbs ≤ 20 * r.length
  | [], S, _ => by simp [rsL]
  | a :: r, [], _ => by simp [rsL]
  | a :: r, b :: S, h => by
    have ih := rs_abs r S (fun v hv => h v (by simp [hv]))
    have ha := h a (by simp)
    simp only [rsL, List.length_cons]
    cases b
    · simp; omega
    · simp; omega
theorem rs_loop (w : Nat) (hw : w < 64) : ∀ (r : List Int) (j : Nat) (x : Int), j + r.length ≤ 6 → (∀ v ∈ r, v.natAbs ≤ 20) → x.natAbs ≤ 20 * j → forL (pairs_Ways_b161 (w : Int)) (fun x => x) r (j : Int) x = some (x + rsL r (bits r.length (w / 2 ^ j)))
  | [], j, x, _, _, _ => by simp [forL, rsL]
  | v :: r, j, x, hj, hv, hx => by
    simp only [List.length_cons] at hj
    have h0 := hv v (by simp)
    have hck : ck (0 ≤ (j : Int)) = some () := ck_ok (by omega)
    have hs : pairs_Ways_b161 (w : Int) (j : Int) v x = some (.next (x + (if (w / 2 ^ j % 2 == 1) then v else 0))) := by
      unfold pairs_Ways_b161
      rw [hck, bind_some', bit_at w hw j (by omega)]
      cases (w / 2 ^ j % 2 == 1) with
      | true => rw [cond_true, w64_id (by omega) (by omega)]; rfl
      | false => simp
    simp only [forL, hs]
    have ih := rs_loop w hw r (j + 1) (x + (if (w / 2 ^ j % 2 == 1) then v else 0)) (by omega) (fun v h => hv v (by simp [h])) (by split <;> omega)
    have hc : (((j + 1 : Nat)) : Int) = (j : Int) + 1 := by omega
    rw [hc] at ih
    rw [ih]
    simp only [List.length_cons, bits, rsL]
    rw [Nat.div_div_eq_div_mul, ← Nat.pow_succ, Nat.succ_eq_add_one]
    congr 1
    omega
theorem prd_snoc (r : List Int) (S : List Bool) : ∀ rows : List (List Int), Prd (rows ++ [r]) S = Prd rows S * rsL r S
  | [] => by simp [Prd]
  | a :: rows => by simp only [List.cons_append, Prd, prd_snoc r S rows, Int.mul_assoc]
theorem prd_abs (S : List Bool) : ∀ rows : List (List Int), (∀ r ∈ rows, (rsL r S).natAbs ≤ 120) → (Prd rows S).natAbs ≤ 120 ^ rows.length
  | [], _ => by simp [Prd]
  | r :: rows, h => by
    have ih := prd_abs S rows (fun r hr => h r (by simp [hr]))
    have hr := h r (by simp)
    simp only [Prd, List.length_cons, Nat.pow_succ, Int.natAbs_mul]
    rw [Nat.mul_comm (120 ^ rows.length)]
    exact Nat.mul_le_mul hr ih
structure SqOk (n : Nat) (rows : List (List Int)) : Prop where
  len : rows.length = n
  row : ∀ r ∈ rows, r.length = n
  val : ∀ r ∈ rows, ∀ v ∈ r, v.natAbs ≤ 20
theorem pow120 {k : Nat} (h : k ≤ 6) : 120 ^ k ≤ 2985984000000 := Nat.pow_le_pow_right (n := 120) (by decide) h
theorem prd_loop {n : Nat} (hn : n ≤ 6) {rows : List (List Int)} (h : SqOk n rows) {w : Nat} (hw : w < 64) : forL (pairs_Ways_b164 (w : Int)) (fun x => x) rows 0 (1 : Int) = some (Prd rows (bits n w)) := by
  have hrs : ∀ r ∈ rows, (rsL r (bits n w)).natAbs ≤ 120 := fun r hr => by
    have := rs_abs r (bits n w) (h.val r hr)
    have := h.row r hr
    omega
  obtain ⟨y, h1, rfl⟩ := forL_inv (body := pairs_Ways_b164 (w : Int)) (fin := fun x => x) (l := rows) (x := (1 : Int)) (fun k x => x = Prd (rows.take k) (bits n w)) (fun y => y = Prd rows (bits n w)) (by simp [Prd])
    (by
      rintro k r x hr rfl
      have hk := (List.getElem?_eq_some_iff.1 hr).1
      have hm := List.mem_of_getElem? hr
      have ih := rs_loop w hw r 0 0 (by have := h.row r hm; omega) (h.val r hm) (by simp)
      rw [Nat.pow_zero, Nat.div_one, h.row r hm, Int.zero_add, Int.natCast_zero] at ih
      have hp := prd_abs (bits n w) (rows.take k) (fun r hr => hrs r (List.mem_of_mem_take hr))
      have hp2 := prd_abs (bits n w) (rows.take (k + 1)) (fun r hr => hrs r (List.mem_of_mem_take hr))
      have e : Prd (rows.take (k + 1)) (bits n w) = Prd (rows.take k) (bits n w) * rsL r (bits n w) := by
        rw [List.take_add_one, hr]; exact prd_snoc _ _ _
      have hlen : (rows.take (k + 1)).length ≤ 6 := by rw [List.length_take]; have := h.len; omega
      have hb := Nat.le_trans hp2 (pow120 hlen)
      unfold pairs_Ways_b164
      rw [ih, bind_some', ← e, w64_id (by omega) (by omega)]
      exact ⟨_, rfl, rfl⟩)
    (by rintro x rfl; simp)
  exact h1
theorem ways_p {n : Nat} (hn : n ≤ 6) {rows : List (List Int)} (h : SqOk n rows) : forI (0 : Int) ((2 ^ n : Nat) : Int) (pairs_Ways_b169 rows) (fun x => x) (0 : Int) = some (Lap n rows) := by
  have h64 : 2 ^ n ≤ 64 := Nat.pow_le_pow_right (n := 2) (by decide) hn
  rw [← alt_lap n rows h.len h.row, ← psum_alt]
  obtain ⟨y, h1, h2⟩ := forI_inv (body := pairs_Ways_b169 rows) (fin := fun x => x) (lo := 0) (hi := ((2 ^ n : Nat) : Int)) (x := (0 : Int))
    (fun i x => x = psum (fun w => sg n w * Prd rows (bits n w)) i.toNat ∧ x.natAbs ≤ i.toNat * 2985984000000) (fun y => y = psum (fun w => sg n w * Prd rows (bits n w)) (2 ^ n)) (by omega) (by omega) ⟨by simp [psum], by simp⟩
    (by
      rintro i x h0 hi ⟨hx, hb⟩
      obtain ⟨w, rfl⟩ := Int.eq_ofNat_of_zero_le h0
      have hw : w < 2 ^ n := by omega
      have hrs : ∀ r ∈ rows, (rsL r (bits n w)).natAbs ≤ 120 := fun r hr => by
        have := rs_abs r (bits n w) (h.val r hr)
        have := h.row r hr
        omega
      have hp := Nat.le_trans (prd_abs (bits n w) rows hrs) (pow120 (by have := h.len; omega))
      obtain ⟨s1, s2⟩ := sg_at n (by omega) w hw
      have hg : pairs_Ways_g167 rows (w : Int) (Prd rows (bits n w)) = some (sg n w * Prd rows (bits n w)) := by
        unfold pairs_Ways_g167
        have hwu : IntKind.wrap .u64 (w : Int) = (w : Int) := wrap_u64 (by omega) (by omega)
        rw [hwu, ones_eq w (by omega), bind_some', h.len, s1]
        rcases s2 with e | e
        · rw [e, show ((1 : Int) == -1) = false from rfl, cond_false, Int.one_mul]
        · rw [e, show ((-1 : Int) == -1) = true from rfl, cond_true, w64_id (by omega) (by omega)]
          congr 1; omega
      have hs : (sg n w * Prd rows (bits n w)).natAbs = (Prd rows (bits n w)).natAbs := by
        rcases s2 with e | e
        · rw [e, Int.one_mul]
        · rw [e]; omega
      unfold pairs_Ways_b169
      rw [prd_loop hn h (by omega), bind_some', hg, bind_some']
      rw [Int.toNat_natCast] at hx hb
      have hb2 : w * 2985984000000 ≤ 64 * 2985984000000 := Nat.mul_le_mul_right _ (by omega)
      have ht : ((w : Int) + 1).toNat = w + 1 := by omega
      have e9 : psum (fun w => sg n w * Prd rows (bits n w)) (w + 1) = x + sg n w * Prd rows (bits n w) := by rw [psum, hx]
      refine ⟨.next (x + sg n w * Prd rows (bits n w)), ?_, ?_⟩
      · generalize sg n w * Prd rows (bits n w) = z at *
        rw [w64_id (by omega) (by omega)]
      · simp only
        rw [ht]
        refine ⟨e9.symm, ?_⟩
        generalize sg n w * Prd rows (bits n w) = z at *
        omega)
    (by
      rintro i x h0 h1 h2 ⟨hx, _⟩
      have hN : 0 < 2 ^ n := Nat.two_pow_pos n
      have : i.toNat = 2 ^ n := by
        generalize 2 ^ n = N at *
        omega
      rw [hx, this])
  rw [h1, h2]
theorem without_eq {n : Nat} (hn : n ≤ 5) {r : List Int} {rows : List (List Int)} (h : SqOk (n + 1) (r :: rows)) {j : Nat} (hj : j ≤ n) : ref_without (r :: rows) (j : Int) = some (rows.map (·.eraseIdx j)) := by
  unfold ref_without
  have hl : rows.length = n := by have := h.len; simpa using this
  have hck : ck (0 ≤ (1 : Int) ∧ (1 : Int) ≤ (List.length (r :: rows) : Int) ∧ (List.length (r :: rows) : Int) ≤ (List.length (r :: rows) : Int)) = some () := ck_ok (by rw [List.length_cons]; omega)
  have es : sub (r :: rows) (1 : Int) (List.length (r :: rows) : Int) = rows := by
    simp only [sub, Int.toNat_natCast, List.length_cons]
    show List.take (rows.length + 1 - 1) rows = rows
    exact List.take_of_length_le (by omega)
  rw [hck, bind_some', es]
  obtain ⟨y, h1, rfl⟩ := forL_inv (body := ref_without_b1 (j : Int)) (fin := fun x => x) (l := rows) (x := ([] : List (List Int))) (fun k x => x = (rows.take k).map (·.eraseIdx j)) (fun y => y = rows.map (·.eraseIdx j)) (by simp)
    (by
      rintro k q x hq rfl
      have hq1 := h.row q (List.mem_cons_of_mem _ (List.mem_of_getElem? hq))
      have e1 : sub q (0 : Int) (j : Int) = q.take j := by simp [sub]
      have e2 : w64 ((j : Int) + 1) = ((j + 1 : Nat) : Int) := by rw [w64_id (by omega) (by omega)]; omega
      have e3 : sub q ((j + 1 : Nat) : Int) (List.length q : Int) = q.drop (j + 1) := by
        simp only [sub, Int.toNat_natCast]
        exact List.take_of_length_le (by simp)
      have c1 : ck (0 ≤ (0 : Int) ∧ (0 : Int) ≤ (j : Int) ∧ (j : Int) ≤ (List.length q : Int)) = some () := ck_ok (by omega)
      have c2 : ck ((0 : Int) + (List.length (q.take j) : Int) ≤ 4294967296) = some () := ck_ok (by rw [List.length_take]; omega)
      have c3 : ck (0 ≤ ((j + 1 : Nat) : Int) ∧ ((j + 1 : Nat) : Int) ≤ (List.length q : Int) ∧ (List.length q : Int) ≤ (List.length q : Int)) = some () := ck_ok (by omega)
      have c4 : ck ((List.length ([] ++ q.take j) : Int) + (List.length (q.drop (j + 1)) : Int) ≤ 4294967296) = some () := ck_ok (by rw [List.nil_append, List.length_take, List.length_drop]; omega)
      have c5 : ck ((List.length ((rows.take k).map (·.eraseIdx j)) : Int) + 1 ≤ 4294967296) = some () := ck_ok (by rw [List.length_map, List.length_take]; omega)
      unfold ref_without_b1
      rw [e1, e2, e3, c1, bind_some', c2, bind_some', c3, bind_some', c4, bind_some', c5, bind_some']
      refine ⟨_, rfl, ?_⟩
      simp only
      rw [List.take_add_one, hq, List.map_append, List.nil_append, ← List.eraseIdx_eq_take_drop_succ]; rfl)
    (by rintro x rfl; simp)
  rw [h1]; rfl
theorem sq_erase {n : Nat} {r : List Int} {rows : List (List Int)} (h : SqOk (n + 1) (r :: rows)) {j : Nat} (hj : j ≤ n) : SqOk n (rows.map (·.eraseIdx j)) := by
  refine ⟨by have := h.len; simpa using this, ?_, ?_⟩
  · intro q0 hq0
    obtain ⟨q, hq, rfl⟩ := List.mem_map.1 hq0
    have := h.row q (List.mem_cons_of_mem _ hq)
    rw [List.length_eraseIdx, if_pos (by omega), this]; rfl
  · intro q0 hq0 v hv
    obtain ⟨q, hq, rfl⟩ := List.mem_map.1 hq0
    exact h.val q (List.mem_cons_of_mem _ hq) v (List.mem_of_mem_eraseIdx hv)
theorem ways_r : ∀ (n fuel : Nat) (rows : List (List Int)), n ≤ 6 → n < fuel → SqOk n rows → ref_Ways fuel rows = some (Lap n rows) ∧ (Lap n rows).natAbs ≤ 120 ^ n
  | 0, fuel, rows, _, hf, h => by
    obtain ⟨fuel, rfl⟩ : ∃ q, fuel = q + 1 := ⟨fuel - 1, by omega⟩
    have : rows = [] := List.eq_nil_of_length_eq_zero h.len
    subst this
    exact ⟨rfl, by simp [Lap]⟩
  | n + 1, fuel, [], _, _, h => by have := h.len; simp at this
  | n + 1, fuel, r :: rows, hn, hf, h => by
    obtain ⟨fuel, rfl⟩ : ∃ q, fuel = q + 1 := ⟨fuel - 1, by omega⟩
    have hl := h.len
    have hr := h.row r (by simp)
    have hp : 120 ^ n ≤ 24883200000 := Nat.pow_le_pow_right (n := 120) (by decide) (show n ≤ 5 by omega)
    have hsub : ∀ j, j ≤ n → ref_Ways fuel (rows.map (·.eraseIdx j)) = some (Lap n (rows.map (·.eraseIdx j))) ∧ (Lap n (rows.map (·.eraseIdx j))).natAbs ≤ 120 ^ n := fun j hj => ways_r n fuel _ (by omega) (by omega) (sq_erase h hj)
    obtain ⟨y, h1, h2, h3⟩ := forL_inv (body := ref_Ways_b1 (r :: rows) (ref_Ways fuel)) (fin := fun x => x) (l := r :: rows) (x := (0 : Int))
      (fun k x => x = psum (fun j => r.getD j 0 * Lap n (rows.map (·.eraseIdx j))) k ∧ x.natAbs ≤ k * (20 * 120 ^ n)) (fun y => y = Lap (n + 1) (r :: rows) ∧ y.natAbs ≤ 120 ^ (n + 1)) ⟨rfl, by simp⟩
      (by
        rintro k q x hq ⟨hx, hb⟩
        have hk := (List.getElem?_eq_some_iff.1 hq).1
        have hkn : k ≤ n := by omega
        obtain ⟨s1, s2⟩ := hsub k hkn
        obtain ⟨v, v1, v2⟩ := idx_get (xs := r) (i := (k : Int)) (by omega) (by omega)
        rw [Int.toNat_natCast] at v2
        have hv : v.natAbs ≤ 20 := h.val r (by simp) v (List.mem_of_getElem? v2)
        have hg : r.getD k 0 = v := by rw [List.getD_eq_getElem?_getD, v2]; rfl
        have hz : (v * Lap n (rows.map (·.eraseIdx k))).natAbs ≤ 20 * 120 ^ n := by rw [Int.natAbs_mul]; exact Nat.mul_le_mul hv s2
        have e9 : psum (fun j => r.getD j 0 * Lap n (rows.map (·.eraseIdx j))) (k + 1) = x + v * Lap n (rows.map (·.eraseIdx k)) := by rw [psum, ← hx, hg]
        have hm : k * (20 * 120 ^ n) ≤ 6 * (20 * 120 ^ n) := Nat.mul_le_mul_right _ (by omega)
        have hm2 : (k + 1) * (20 * 120 ^ n) = k * (20 * 120 ^ n) + 20 * 120 ^ n := by rw [Nat.add_mul, Nat.one_mul]
        have i0 : idx (r :: rows) (0 : Int) = some r := rfl
        unfold ref_Ways_b1
        rw [i0, bind_some', v1, bind_some', without_eq (by omega) h hkn, bind_some', s1, bind_some']
        refine ⟨.next (x + v * Lap n (rows.map (·.eraseIdx k))), ?_, ?_⟩
        · generalize v * Lap n (rows.map (·.eraseIdx k)) = z at *
          rw [w64_id (n := z) (by omega) (by omega), w64_id (by omega) (by omega)]
        · simp only
          refine ⟨e9.symm, ?_⟩
          generalize v * Lap n (rows.map (·.eraseIdx k)) = z at *
          omega)
      (by
        rintro x ⟨hx, hb⟩
        refine ⟨by rw [hx, hl]; rfl, ?_⟩
        rw [hl] at hb
        rw [Nat.pow_succ, Nat.mul_comm]
        have : (n + 1) * (20 * 120 ^ n) ≤ 6 * (20 * 120 ^ n) := Nat.mul_le_mul_right _ (by omega)
        omega)
    have h0 : ((List.length (r :: rows) : Int) == (0 : Int)) = false := by simp; omega
    refine ⟨?_, by rw [← h2]; exact h3⟩
    unfold ref_Ways ref_Ways_step
    rw [h0, cond_false, h1, h2]; rfl
def sqLen (a : List (List Int)) (r : List Int) : Bool := (List.length r : Int) != (List.length a : Int)
def sqBad (v : Int) : Bool := !decide (-20 ≤ v ∧ v ≤ 20)
def sqAll (a : List (List Int)) : Int := if 1 ≤ (a.length : Int) ∧ (a.length : Int) ≤ 6 then (bif a.any (sqLen a) then 3 else bif a.any (·.any sqBad) then 4 else 0) else 1
theorem sq_ref (a : List (List Int)) : ref_SquareCheck a = some (sqAll a) := by
  unfold ref_SquareCheck sqAll
  rw [within_eq, bind_some']
  by_cases h : 1 ≤ (a.length : Int) ∧ (a.length : Int) ≤ 6
  · rw [if_pos h, decide_eq_true h, Bool.not_true, cond_false, forL_ex (p := sqLen a) (y := Esc.ret 3) (fun i r _ => by unfold ref_SquareCheck_b1 sqLen; cases ((List.length r : Int) != (List.length a : Int)) <;> rfl), bind_some',
      forL_ex (p := fun r => r.any sqBad) (y := Esc.ret 4) (fun i r _ => by
        unfold ref_SquareCheck_b15
        rw [forL_ex (p := sqBad) (y := Esc.ret 4) (fun i v _ => by
          unfold ref_SquareCheck_b11 sqBad
          rw [within_eq, bind_some']
          cases !decide (-20 ≤ v ∧ v ≤ 20) <;> rfl), bind_some']
        cases r.any sqBad <;> rfl)]
    cases a.any (sqLen a) <;> cases a.any (·.any sqBad) <;> rfl
  · rw [if_neg h, decide_eq_false h]; rfl
theorem sq_len (a l : List (List Int)) : slices_ContainsFunc_LLintLint_with_pairs_wrong_1 l a = some (l.any (sqLen a)) := by
  unfold slices_ContainsFunc_LLintLint_with_pairs_wrong_1 slices_IndexFunc_LLintLint_with_pairs_wrong_1
  rcases forL_at (body := slices_IndexFunc_LLintLint_with_pairs_wrong_1_b1 a) (fin := fun _ => (Esc.brk () : Esc Int Unit)) (p := sqLen a) (g := fun j => Esc.ret j) (l := l)
    (fun i r _ => by unfold slices_IndexFunc_LLintLint_with_pairs_wrong_1_b1 pairs_wrong_1 sqLen; cases ((List.length r : Int) != (List.length a : Int)) <;> rfl) (i := 0) with ⟨h1, h2⟩ | ⟨h1, j, h2, h3, h4⟩
  · rw [h2, h1]; rfl
  · rw [h4, h1]; simp [h2]
theorem sq_val (l : List Int) : slices_ContainsFunc_Lintint_with_pairs_wrong_2 l = some (l.any sqBad) := by
  unfold slices_ContainsFunc_Lintint_with_pairs_wrong_2 slices_IndexFunc_Lintint_with_pairs_wrong_2
  rcases forL_at (body := slices_IndexFunc_Lintint_with_pairs_wrong_2_b1) (fin := fun _ => (Esc.brk () : Esc Int Unit)) (p := sqBad) (g := fun j => Esc.ret j) (l := l)
    (fun i a _ => by
      unfold slices_IndexFunc_Lintint_with_pairs_wrong_2_b1 pairs_wrong_2 sqBad
      have : (decide (a < (-20 : Int)) || decide (a > (20 : Int))) = !decide (-20 ≤ a ∧ a ≤ 20) := by
        by_cases h : -20 ≤ a ∧ a ≤ 20
        · rw [decide_eq_true h, decide_eq_false (by omega), decide_eq_false (by omega)]; rfl
        · rw [decide_eq_false h]
          simp only [Bool.not_false, Bool.or_eq_true, decide_eq_true_eq]; omega
      rw [this]
      cases !decide (-20 ≤ a ∧ a ≤ 20) <;> rfl) (i := 0) with ⟨h1, h2⟩ | ⟨h1, j, h2, h3, h4⟩
  · rw [h2, h1]; rfl
  · rw [h4, h1]; simp [h2]
theorem flat_len (m : Nat) : ∀ l : List (List Int), (∀ r ∈ l, r.length ≤ m) → l.flatten.length ≤ m * l.length
  | [], _ => by simp
  | r :: l, h => by
    have ih := flat_len m l (fun r hr => h r (by simp [hr]))
    have hr := h r (by simp)
    simp only [List.flatten_cons, List.length_append, List.length_cons, Nat.mul_succ]; omega
theorem sq_wrong (a : List (List Int)) : pairs_wrong a = some (sqAll a) := by
  unfold pairs_wrong sqAll
  by_cases h : 1 ≤ (a.length : Int) ∧ (a.length : Int) ≤ 6
  · have hb : ((decide ((List.length a : Int) < (1 : Int))) || (decide ((List.length a : Int) > (6 : Int)))) = false := by
      simp only [Bool.or_eq_false_iff, decide_eq_false_iff_not]; omega
    rw [if_pos h, hb, cond_false, sq_len, bind_some']
    cases h1 : a.any (sqLen a) with
    | true => rfl
    | false =>
      have hr : ∀ r ∈ a, r.length ≤ 6 := by
        intro r hr
        have := List.any_eq_false.1 h1 r hr
        unfold sqLen at this
        simp at this
        omega
      have := flat_len 6 a hr
      rw [cond_false, cond_false, cc_concat (by omega), bind_some', sq_val, bind_some', List.any_flatten]
      cases a.any (·.any sqBad) <;> rfl
  · have hb : ((decide ((List.length a : Int) < (1 : Int))) || (decide ((List.length a : Int) > (6 : Int)))) = true := by
      simp only [Bool.or_eq_true, decide_eq_true_eq]; omega
    rw [if_neg h, hb]; rfl
theorem sq_ok {a : List (List Int)} (h : sqAll a = 0) : (1 ≤ a.length ∧ a.length ≤ 6) ∧ SqOk a.length a := by
  unfold sqAll at h
  split at h
  · rename_i h1
    cases h2 : a.any (sqLen a) with
    | true => rw [h2] at h; cases h
    | false =>
      cases h3 : a.any (·.any sqBad) with
      | true => rw [h2, h3] at h; cases h
      | false =>
        refine ⟨by omega, rfl, ?_, ?_⟩
        · intro r hr
          have := List.any_eq_false.1 h2 r hr
          unfold sqLen at this
          simp at this
          omega
        · intro r hr v hv
          have h4 := List.any_eq_false.1 h3 r hr
          have h5 := List.any_eq_false.1 (Bool.eq_false_iff.2 h4) v hv
          unfold sqBad at h5
          simp at h5
          omega
  · cases h
theorem PairsWays_true (a0 : List (List Int)) (f0 : Fits (.slice (.slice (.int .i64))) a0) : ∃ fuel, law_PairsWays fuel a0 = some true := by
  refine ⟨7, ?_⟩
  unfold law_PairsWays pairs_Ways
  rw [sq_wrong, sq_ref, bind_some']
  by_cases h : sqAll a0 = 0
  · obtain ⟨h1, hok⟩ := sq_ok h
    have hck : ck (0 ≤ (List.length a0 : Int)) = some () := ck_ok (by omega)
    obtain ⟨w1, _⟩ := ways_r a0.length 7 a0 h1.2 (by omega) hok
    rw [h, show ((0 : Int) != 0) = false from rfl, cond_false, hck, bind_some', bShl_one (by omega), ways_p h1.2 hok, bind_some', bind_some', bind_some', show ((0 : Int) != 0) = false from rfl, cond_false]
    dsimp only
    rw [show ((0 : Int) == 0) = true from rfl, cond_true, w1, bind_some', beq_self_eq_true]; rfl
  · rw [show (sqAll a0 != 0) = true by simp [h], cond_true, bind_some', bind_some', show (sqAll a0 != 0) = true by simp [h], cond_true]
    simp

end Go.Proofs.Ytjghcbdfpcpahaa.pairsWays
namespace Go.Proofs.Ytjghcbdfpcpahaa.pairsWays
open Go.ChangeShapes Go.WideShapes Go.ChangeAt Go.RowKit
open Go.ChangeMaps (open_string shut_string)
theorem own : ownKnob Try.prog.godebug = none := by kernel_rfl
theorem laidOut : laidOutB Try.prog = true := by kernel_rfl
theorem lifted (os : Os) (started : os.Started) (H : Type) (enc : TypeId × Value → H) :
    ReturnsInHanded {} Try.checked os 10 .any (Rows.pairsWaysSpec.pre6 enc Try.prog Try.f10 Rows.pairsWaysRow.domain false) (Rows.pairsWaysSpec.post enc Try.prog Try.f10 false true false false) := by
  refine returnsInHanded_of_change (C := Try.checked) own started (by kernel_rfl) Try.func10
    (ChangeSpec.witness6 (enc := enc) (C := Try.checked) false ⟨#[], #[.slice none 0 0], []⟩ 8 (by kernel_rfl) (by kernel_rfl) (by kernel_rfl) (by kernel_rfl)) ?_
  intro W base args ds gs before hval0 hW hcnd _
  have hval : ∀ (j : Nat) t v, Try.f10.params[j]? = some t → args[j]? = some v → Value.okWide Try.prog W .any base t v := hval0
  have hW' := hW
  obtain ⟨p, q, hA0, hV, rfl, hfz, hnd⟩ := hW
  have hA : DataW.TrodAll enc Try.prog W 0 (fun _ => true) true Try.f10.params.toList args.toList ds p := hA0
  rw [Try.params10] at hA hval
  obtain ⟨v0, vs0, d0, ds0, p0, q0, hargs, rfl, rfl, h0, r0⟩ := trodAll_cons hA
  obtain ⟨rfl, rfl, rfl⟩ := trodAll_nil r0
  obtain rfl : args = #[v0] := by cases args; simp_all
  obtain ⟨rfl, rfl⟩ := trodVars_none hV
  obtain ⟨x0, f0, k0⟩ := Go.Sl.read_arg (u := (.slice (.slice (.int .i64)))) (by kernel_rfl) (by kernel_rfl) (hval 0 46 v0 rfl rfl) h0
  have lt0 : ∀ x ∈ p0, x.block < W.heap.size := by obtain ⟨m, hm⟩ := h0; exact DataW.trod_lt m _ _ _ hm
  clear hA0 hval0
  obtain ⟨fuel, hm⟩ := PairsWays_true x0 f0
  refine (Go.Sl.law_of (vs := [v0]) (law_PairsWays_ok hm) rfl (.cons (k0 _ _) .nil)).mono fun e W' ⟨he, bel⟩ => ?_
  subst he
  exact ⟨_, rfl, _, _, _, [], _, [], hW', trodAll_mk1 (shut_bool Try.underlying4 _), (trodAll_cons_mk (Below.trod laidOut (by kernel_rfl) (of_decide_eq_true (by kernel_rfl)) h0 bel lt0) trodAll_mk0), rfl, bel.frame _, fun h => by cases h⟩
theorem proved : Rows.PairsWaysSaid :=
  OpenClaim.holds_of_wide 10 Try.f10 rfl rfl rfl rfl rfl rfl rfl ⟨rfl, rfl, rfl, rfl, rfl⟩ rfl rfl rfl rfl rfl (by kernel_rfl) Try.func10 (by kernel_rfl)
    (of_decide_eq_true (by kernel_rfl)) (by unfold Func.isWrapper; first | (rw [if_pos (by decide +kernel)]; kernel_rfl) | (rw [if_neg (by decide +kernel)]; exact ⟨rfl, rfl⟩))
    (fun os started H enc _ => lifted os started H enc)
#print axioms proved
end Go.Proofs.Ytjghcbdfpcpahaa.pairsWays
