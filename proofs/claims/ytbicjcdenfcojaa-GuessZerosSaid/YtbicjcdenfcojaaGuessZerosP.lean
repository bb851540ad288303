/- GuessZeros holds for every input: no conditions. -/
import Derived.Test.YtbicjcdenfcojaaRows
import Derived.WalkKit
import Derived.ProofKit
import Derived.OpenShut
import Derived.ShutString
import Derived.ChangeOld
import Derived.Below
import Derived.Test.YtbicjcdenfcojaaGuessZerosM
set_option linter.all false
set_option maxRecDepth 100000
namespace Go.Proofs.Ytbicjcdenfcojaa.guessZeros
open Go Go.Sl
theorem mget_mput {α β : Type} {eq : α → α → Bool} [DecidableEq α] (heq : ∀ a b, eq a b = true ↔ a = b) : ∀ (l : List (α × β)) (x : α) (y : β) (z : α), mGet eq (mPut eq l x y) z = if z = x then some y else mGet eq l z
  | [], x, y, z => by
    by_cases h : z = x
    · simp [mPut, mGet, h, (heq x x).2 rfl]
    · have : eq z x = false := by cases hh : eq z x with | false => rfl | true => exact (h ((heq _ _).1 hh)).elim
      simp [mPut, mGet, h, this]
  | p :: l, x, y, z => by
    have hf : ∀ {a b}, a ≠ b → eq a b = false := by
      intro a b h
      cases hh : eq a b with | false => rfl | true => exact (h ((heq _ _).1 hh)).elim
    by_cases hp : x = p.1
    · have e1 : eq x p.1 = true := (heq _ _).2 hp
      by_cases h : z = x
      · simp [mPut, mGet, e1, h, (heq x x).2 rfl]
      · simp [mPut, mGet, e1, h, hf h, hf (fun e => h (e.trans hp.symm))]
    · have e1 : eq x p.1 = false := hf hp
      by_cases hz : z = p.1
      · have e2 : eq z p.1 = true := (heq _ _).2 hz
        have hzx : z ≠ x := fun e => hp (e ▸ hz)
        simp [mPut, mGet, e1, e2, hzx]
      · simp only [mPut, e1, Bool.false_eq_true, if_false, mGet, hf hz]
        exact mget_mput heq l x y z
theorem deqI {k : IntKind} (a b : Int) : deqT (.int k) a b = true ↔ a = b := by simp [deqT]

theorem mget_none_iff {α β : Type} {eq : α → α → Bool} (heq : ∀ a b, eq a b = true ↔ a = b) : ∀ (l : List (α × β)) (x : α), mGet eq l x = none ↔ x ∉ l.map (·.1)
  | [], x => by simp [mGet]
  | p :: l, x => by
    by_cases h : x = p.1
    · simp [mGet, h, (heq _ _).2 rfl]
    · have : eq x p.1 = false := by cases hh : eq x p.1 with | false => rfl | true => exact (h ((heq _ _).1 hh)).elim
      simp only [mGet, this, Bool.false_eq_true, if_false, List.map_cons, List.mem_cons, not_or]
      rw [mget_none_iff heq l x]
      exact ⟨fun h2 => ⟨h, h2⟩, fun h2 => h2.2⟩
theorem mput_keys {α β : Type} {eq : α → α → Bool} [DecidableEq α] (heq : ∀ a b, eq a b = true ↔ a = b) : ∀ (l : List (α × β)) (x : α) (y : β), (mPut eq l x y).map (·.1) = if x ∈ l.map (·.1) then l.map (·.1) else l.map (·.1) ++ [x]
  | [], x, y => by simp [mPut]
  | p :: l, x, y => by
    by_cases h : x = p.1
    · simp [mPut, h, (heq _ _).2 rfl]
    · have : eq x p.1 = false := by cases hh : eq x p.1 with | false => rfl | true => exact (h ((heq _ _).1 hh)).elim
      simp only [mPut, this, Bool.false_eq_true, if_false, List.map_cons, List.mem_cons, h, false_or]
      rw [mput_keys heq l x y]
      split <;> rfl
theorem mput_nodup {α β : Type} {eq : α → α → Bool} [DecidableEq α] (heq : ∀ a b, eq a b = true ↔ a = b) {l : List (α × β)} (h : (l.map (·.1)).Nodup) (x : α) (y : β) : ((mPut eq l x y).map (·.1)).Nodup := by
  rw [mput_keys heq]
  split
  · exact h
  · rename_i hx
    rw [List.nodup_append]
    refine ⟨h, by simp, ?_⟩
    intro a ha b hb e
    simp at hb
    subst hb; subst e; exact hx ha
theorem mdel_sub {α β : Type} {eq : α → α → Bool} : ∀ (l : List (α × β)) (x : α), (mDel eq l x).Sublist l
  | [], x => by simp [mDel]
  | p :: l, x => by
    unfold mDel
    split
    · exact List.sublist_cons_self _ _
    · exact (mdel_sub l x).cons_cons p
theorem mdel_nodup {α β : Type} {eq : α → α → Bool} {l : List (α × β)} (h : (l.map (·.1)).Nodup) (x : α) : ((mDel eq l x).map (·.1)).Nodup := h.sublist ((mdel_sub l x).map _)
theorem mget_mdel {α β : Type} {eq : α → α → Bool} [DecidableEq α] (heq : ∀ a b, eq a b = true ↔ a = b) : ∀ (l : List (α × β)) (x z : α), (l.map (·.1)).Nodup → mGet eq (mDel eq l x) z = if z = x then none else mGet eq l z
  | [], x, z, _ => by simp [mDel, mGet]
  | p :: l, x, z, hn => by
    have hf : ∀ {a b}, a ≠ b → eq a b = false := by
      intro a b h
      cases hh : eq a b with | false => rfl | true => exact (h ((heq _ _).1 hh)).elim
    simp only [List.map_cons, List.nodup_cons] at hn
    by_cases hx : x = p.1
    · have e1 : eq x p.1 = true := (heq _ _).2 hx
      simp only [mDel, e1, if_true, mGet]
      by_cases hz : z = x
      · rw [if_pos hz]
        exact (mget_none_iff heq l z).2 (by rw [hz, hx]; exact hn.1)
      · rw [if_neg hz, hf (fun e => hz (e.trans hx.symm))]; rfl
    · simp only [mDel, hf hx, Bool.false_eq_true, if_false, mGet]
      by_cases hz : z = p.1
      · rw [(heq _ _).2 hz, if_pos rfl, if_pos rfl, if_neg (fun e => hx (e.symm.trans hz))]
      · rw [hf hz]
        simp only [Bool.false_eq_true, if_false]
        exact mget_mdel heq l x z hn.2

theorem perm_fold {α X : Type} {g : X → α → X} (hc : ∀ x p q, g (g x p) q = g (g x q) p) {l l' : List α} (h : List.Perm l' l) : ∀ x, l'.foldl g x = l.foldl g x := by
  induction h with
  | nil => intro x; rfl
  | cons a _ ih => intro x; exact ih _
  | swap a b l => intro x; simp only [List.foldl_cons]; rw [hc]
  | trans _ _ ih1 ih2 => intro x; rw [ih1, ih2]
theorem rangeM_fold {α X : Type} {b : α → X → Option X} {g : X → α → X} {l : List α} {x : X} (hc : ∀ x p q, g (g x p) q = g (g x q) p) (hb : ∀ l', List.Perm l' l → forR b l' x = some (l'.foldl g x)) : rangeM b l x = some (l.foldl g x) := by
  unfold rangeM
  rw [if_pos]
  · exact hb l (List.Perm.refl l)
  · intro l' hl
    rw [hb l' hl, hb l (List.Perm.refl l), perm_fold hc hl]
theorem forR_all {α X : Type} {b : α → X → Option X} {g : X → α → X} : ∀ (l : List α) (x : X), (∀ p ∈ l, ∀ x, b p x = some (g x p)) → forR b l x = some (l.foldl g x)
  | [], x, _ => rfl
  | a :: l, x, h => by
    rw [forR, h a List.mem_cons_self, Option.bind_some]
    exact forR_all l _ fun p hp => h p (List.mem_cons_of_mem _ hp)
theorem forR_sum {α : Type} {b : α → Int → Option Int} {f : α → Int} : ∀ (l : List α) (x : Int), (∀ p ∈ l, 0 ≤ f p ∧ f p ≤ 6) → 0 ≤ x → x + 6 * l.length ≤ 1000000 → (∀ p ∈ l, ∀ x, 0 ≤ x → x ≤ 1000000 → b p x = some (x + f p)) → forR b l x = some (l.foldl (fun x p => x + f p) x)
  | [], x, _, _, _, _ => rfl
  | a :: l, x, h1, h2, h3, h4 => by
    have ha := h1 a List.mem_cons_self
    simp only [List.length_cons] at h3
    rw [forR, h4 a List.mem_cons_self x h2 (by omega), Option.bind_some]
    exact forR_sum l _ (fun p hp => h1 p (List.mem_cons_of_mem _ hp)) (by omega) (by omega) fun p hp => h4 p (List.mem_cons_of_mem _ hp)
theorem foldl_add {α : Type} (f : α → Int) : ∀ (l : List α) (x : Int), l.foldl (fun x p => x + f p) x = x + (l.map f).sum
  | [], x => by simp
  | a :: l, x => by
    rw [List.foldl_cons, foldl_add f l, List.map_cons, List.sum_cons]; omega
/-- the greatest of some -/
def fmax {α : Type} (c : α → Bool) (f : α → Int) (l : List α) (x : Int) : Int := l.foldl (fun x p => if c p = true ∧ x < f p then f p else x) x
theorem fmax_ge {α : Type} (c : α → Bool) (f : α → Int) : ∀ (l : List α) (x : Int), x ≤ fmax c f l x
  | [], x => by simp [fmax]
  | a :: l, x => by
    have := fmax_ge c f l (if c a = true ∧ x < f a then f a else x)
    simp only [fmax, List.foldl_cons] at this ⊢
    by_cases h : c a = true ∧ x < f a
    · rw [if_pos h] at this ⊢; omega
    · rw [if_neg h] at this ⊢; omega
theorem fmax_le {α : Type} (c : α → Bool) (f : α → Int) : ∀ (l : List α) (x : Int) (p : α), p ∈ l → c p = true → f p ≤ fmax c f l x
  | [], x, p, h, _ => by simp at h
  | a :: l, x, p, h, hc => by
    rcases List.mem_cons.1 h with rfl | h
    · have := fmax_ge c f l (if c p = true ∧ x < f p then f p else x)
      simp only [fmax, List.foldl_cons] at this ⊢
      by_cases hx : x < f p
      · rw [if_pos ⟨hc, hx⟩] at this ⊢; exact this
      · rw [if_neg (fun e => hx e.2)] at this ⊢; omega
    · have := fmax_le c f l (if c a = true ∧ x < f a then f a else x) p h hc
      exact this
theorem fmax_of {α : Type} (c : α → Bool) (f : α → Int) : ∀ (l : List α) (x : Int), fmax c f l x = x ∨ ∃ p ∈ l, c p = true ∧ fmax c f l x = f p
  | [], x => Or.inl rfl
  | a :: l, x => by
    have e : fmax c f (a :: l) x = fmax c f l (if c a = true ∧ x < f a then f a else x) := rfl
    rw [e]
    rcases fmax_of c f l (if c a = true ∧ x < f a then f a else x) with h | ⟨p, hp, hc, h⟩
    · by_cases hx : c a = true ∧ x < f a
      · rw [if_pos hx] at h ⊢; exact Or.inr ⟨a, List.mem_cons_self, hx.1, h⟩
      · rw [if_neg hx] at h ⊢; exact Or.inl h
    · exact Or.inr ⟨p, List.mem_cons_of_mem _ hp, hc, h⟩
theorem fmax_eq {α β : Type} {c : α → Bool} {f : α → Int} {c' : β → Bool} {f' : β → Int} {l : List α} {l' : List β} {x : Int} (h1 : ∀ p ∈ l, c p = true → ∃ q ∈ l', c' q = true ∧ f' q = f p) (h2 : ∀ q ∈ l', c' q = true → ∃ p ∈ l, c p = true ∧ f p = f' q) : fmax c f l x = fmax c' f' l' x := by
  apply Int.le_antisymm
  · rcases fmax_of c f l x with h | ⟨p, hp, hc, h⟩
    · rw [h]; exact fmax_ge _ _ _ _
    · obtain ⟨q, hq, hc', e⟩ := h1 p hp hc
      rw [h, ← e]; exact fmax_le _ _ _ _ _ hq hc'
  · rcases fmax_of c' f' l' x with h | ⟨p, hp, hc, h⟩
    · rw [h]; exact fmax_ge _ _ _ _
    · obtain ⟨q, hq, hc', e⟩ := h2 p hp hc
      rw [h, ← e]; exact fmax_le _ _ _ _ _ hq hc'

/-- the digits of a number, the least first -/
def dgs (b n d : Nat) : List Int := (List.range n).map fun j => ((d / b ^ j % b : Nat) : Int)
@[simp] theorem dgs_len (b n d : Nat) : (dgs b n d).length = n := by simp [dgs]
theorem dgs_cons (b n d : Nat) : dgs b (n + 1) d = ((d % b : Nat) : Int) :: dgs b n (d / b) := by
  unfold dgs
  rw [List.range_succ_eq_map, List.map_cons, List.map_map, Nat.pow_zero, Nat.div_one]
  congr 1
  apply List.map_congr_left
  intro j _
  simp only [Function.comp]
  rw [Nat.pow_succ, Nat.mul_comm, Nat.div_div_eq_div_mul]
theorem dgs_snoc (b n d : Nat) : dgs b (n + 1) d = dgs b n d ++ [((d / b ^ n % b : Nat) : Int)] := by
  unfold dgs
  rw [List.range_succ, List.map_append]; rfl
theorem dgs_mem {b n d : Nat} (hb : 0 < b) {v : Int} (h : v ∈ dgs b n d) : 0 ≤ v ∧ v < b := by
  unfold dgs at h
  obtain ⟨j, _, rfl⟩ := List.mem_map.1 h
  have := Nat.mod_lt (d / b ^ j) hb
  omega
theorem dgs_zero (b n : Nat) : dgs b n 0 = List.replicate n 0 := by
  unfold dgs
  rw [List.eq_replicate_iff]
  refine ⟨by simp, fun v hv => ?_⟩
  obtain ⟨j, _, rfl⟩ := List.mem_map.1 hv
  simp
theorem dice_eq {b n d : Nat} (hb : 0 < b) (hn : n ≤ 1000) (hd : d ≤ 9223372036854775807) : ref_Dice (n : Int) (b : Int) (d : Int) = some (dgs b n d) := by
  unfold ref_Dice
  obtain ⟨y, h1, h2⟩ := forI_inv (body := ref_Dice_b1 (b : Int)) (fin := fun x9 => x9.2) (lo := 0) (hi := (n : Int)) (x := ((d : Int), [])) (fun i x => x = (((d / b ^ i.toNat : Nat) : Int), dgs b i.toNat d)) (fun y => y = dgs b n d) (by omega) (by omega) (by simp [dgs])
    (fun i x h0 hi hx => by
      obtain ⟨j, rfl⟩ := Int.eq_ofNat_of_zero_le h0
      rw [Int.toNat_natCast] at hx
      subst hx
      have hle : d / b ^ j ≤ d := Nat.div_le_self _ _
      have hle2 : d / b ^ j / b ≤ d := Nat.le_trans (Nat.div_le_self _ _) hle
      have hw : w64 ((d / b ^ j / b : Nat) : Int) = ((d / b ^ j / b : Nat) : Int) := by
        generalize d / b ^ j / b = q at *
        exact w64_id (by omega) (by omega)
      have e1 : Int.tdiv ((d / b ^ j : Nat) : Int) (b : Int) = ((d / b ^ j / b : Nat) : Int) := rfl
      have e2 : Int.tmod ((d / b ^ j : Nat) : Int) (b : Int) = ((d / b ^ j % b : Nat) : Int) := rfl
      unfold ref_Dice_b1
      dsimp only
      have hck : ck ((List.length (dgs b j d) : Int) + 1 ≤ 4294967296) = some () := ck_ok (by rw [dgs_len]; omega)
      rw [ck_ok (by omega), bind_some', hck, bind_some', e1, e2, hw]
      refine ⟨_, rfl, ?_⟩
      have ht : ((j : Int) + 1).toNat = j + 1 := by omega
      rw [ht, dgs_snoc, Nat.pow_succ, ← Nat.div_div_eq_div_mul])
    (fun i x h0 h1 h2 hx => by
      have : i.toNat = n := by omega
      rw [hx, this])
  rw [h1, h2]; rfl
theorem power_eq {x n : Nat} (hn : n ≤ 1000) (h : x ^ n ≤ 9223372036854775807) (hx : 0 < x) : ref_Power (x : Int) (n : Int) = some ((x ^ n : Nat) : Int) := by
  unfold ref_Power
  obtain ⟨y, h1, h2⟩ := forI_inv (body := ref_Power_b1 (x : Int)) (fin := fun x => x) (lo := 0) (hi := (n : Int)) (x := (1 : Int)) (fun i y => y = ((x ^ i.toNat : Nat) : Int)) (fun y => y = ((x ^ n : Nat) : Int)) (by omega) (by omega) (by simp)
    (fun i y h0 hi hy => by
      obtain ⟨j, rfl⟩ := Int.eq_ofNat_of_zero_le h0
      rw [Int.toNat_natCast] at hy
      subst hy
      have ht : ((j : Int) + 1).toNat = j + 1 := by omega
      have hle : x ^ (j + 1) ≤ x ^ n := Nat.pow_le_pow_right hx (by omega)
      have e : ((x ^ j : Nat) : Int) * (x : Int) = ((x ^ (j + 1) : Nat) : Int) := by rw [Nat.pow_succ, Int.natCast_mul]
      unfold ref_Power_b1
      rw [e, w64_id (by omega) (by omega)]
      exact ⟨_, rfl, by rw [ht]⟩)
    (fun i y h0 h1 h2 hy => by
      have : i.toNat = n := by omega
      rw [hy, this])
  rw [h1, h2]; rfl
theorem iter_seq {X Y : Type} {f : X → Option (Flow X Y)} {s : Nat → X} {y : Y} {n : Nat} (hs : ∀ j, j < n → f (s j) = some (.next (s (j + 1)))) (hf : f (s n) = some (.done y)) : ∀ (k j fuel : Nat), j + k = n → k < fuel → iter f fuel (s j) = some y
  | k, j, 0, _, h => by omega
  | 0, j, fuel + 1, h, _ => by
    have : j = n := by omega
    subst this
    simp only [iter, hf]
  | k + 1, j, fuel + 1, h, hk => by
    simp only [iter, hs j (by omega)]
    exact iter_seq hs hf k (j + 1) fuel (by omega) (by omega)

theorem inside1 (n v : Int) : ref_Inside n [v] = some (decide (0 ≤ v ∧ v < n)) := by
  unfold ref_Inside
  rw [forL_ex (p := fun v => decide (v < 0) || decide (v ≥ n)) (y := Esc.ret false) (fun i a _ => by unfold ref_Inside_b1; cases (decide (a < 0) || decide (a ≥ n)) <;> rfl)]
  by_cases h : 0 ≤ v ∧ v < n
  · have : (decide (v < 0) || decide (v ≥ n)) = false := by simp only [Bool.or_eq_false_iff, decide_eq_false_iff_not]; omega
    simp [this, h]
  · have : (decide (v < 0) || decide (v ≥ n)) = true := by simp only [Bool.or_eq_true, decide_eq_true_eq]; omega
    simp [this, h]

theorem within_eq (a b c : Int) : ref_Within a b c = some (decide (a ≤ b ∧ b ≤ c)) := by
  unfold ref_Within
  rw [Bool.decide_and]

abbrev Tm : Type := Int × List Int
def red (e : Int) : Int := if e > 6 then e - 6 else e
theorem red_p {e : Int} (h : 0 ≤ e ∧ e ≤ 8) : guess_reduced e = some (red e) := by
  obtain ⟨n, rfl⟩ := Int.eq_ofNat_of_zero_le h.1
  exact (show ∀ n : Nat, n < 9 → guess_reduced (n : Int) = some (red (n : Int)) by
    intro n hn
    unfold guess_reduced red
    have : n ≤ 6 ∨ n = 7 ∨ n = 8 := by omega
    rcases this with h | rfl | rfl
    · rw [decide_eq_false (by omega), if_neg (by omega)]; rfl
    · rfl
    · rfl) n (by omega)
theorem red_r {e : Int} (h : 0 ≤ e ∧ e ≤ 8) (fuel : Nat) : ref_reduced (fuel + 2) e = some (red e) := by
  unfold ref_reduced red
  by_cases h6 : e > 6
  · have h7 : ref_reduced_b1 e = some (.next (e - 6)) := by
      unfold ref_reduced_b1
      rw [decide_eq_true h6, cond_true, w64_id (by omega) (by omega)]
    have h8 : ref_reduced_b1 (e - 6) = some (.done (e - 6)) := by
      unfold ref_reduced_b1
      rw [decide_eq_false (by omega)]; rfl
    simp only [iter, h7, h8, if_pos h6]; rfl
  · have h8 : ref_reduced_b1 e = some (.done e) := by
      unfold ref_reduced_b1
      rw [decide_eq_false (by omega)]; rfl
    simp only [iter, h8, if_neg h6]; rfl
theorem red_lt {e : Int} (h : 0 ≤ e ∧ e ≤ 8) : 0 ≤ red e ∧ red e ≤ 6 := by unfold red; split <;> omega
def key (e : List Int) : List Int := [red (e.getD 0 0), red (e.getD 1 0), red (e.getD 2 0)]
theorem key_get (e : List Int) {i : Nat} (h : i < 3) : (key e).getD i 0 = red (e.getD i 0) := by
  match i, h with
  | 0, _ => rfl
  | 1, _ => rfl
  | 2, _ => rfl
def EOk (n : Nat) (e : List Int) : Prop := e.length = n ∧ ∀ v ∈ e, 0 ≤ v ∧ v ≤ 8
theorem key_fill {n : Nat} (hn : 1 ≤ n ∧ n ≤ 3) {e : List Int} (h : EOk n e) : forL guess_Zeros_b17 (fun x167 => x167) e 0 [(0 : Int), (0 : Int), (0 : Int)] = some (key e) := by
  obtain ⟨h1, h2⟩ := h
  match e, h1, h2 with
  | [], h1, _ => simp at h1; omega
  | [a], _, h2 =>
    have ha := red_p (h2 a (by simp))
    simp only [forL, guess_Zeros_b17, ha, bind_some']
    rfl
  | [a, b], _, h2 =>
    have ha := red_p (h2 a (by simp))
    have hb := red_p (h2 b (by simp))
    simp only [forL, guess_Zeros_b17, ha, hb, bind_some']
    rfl
  | [a, b, c], _, h2 =>
    have ha := red_p (h2 a (by simp))
    have hb := red_p (h2 b (by simp))
    have hc := red_p (h2 c (by simp))
    simp only [forL, guess_Zeros_b17, ha, hb, hc, bind_some']
    rfl
  | a :: b :: c :: d :: r, h1, _ => simp at h1; omega
theorem deqK (a b : List Int) : deqT (.arr 3 tI) a b = true ↔ a = b := by
  constructor
  · intro h; exact eqL_eq (fun a b h => (deqI a b).1 h) h
  · rintro rfl; exact eqL_refl (fun a => (deqI a a).2 rfl) a
/-- a product of powers -/
def mon (k x : List Int) : Nat → Int
  | 0 => 1
  | n + 1 => mon k x n * (x.getD n 0) ^ (k.getD n 0).toNat
theorem fermat : ∀ (v : Nat), v < 7 → ∀ (e : Nat), e < 9 → ((v : Int) ^ e) % 7 = ((v : Int) ^ (red e).toNat) % 7 := by decide
def POk (n : Nat) (x : List Int) : Prop := x.length = n ∧ ∀ v ∈ x, 0 ≤ v ∧ v < 7
theorem getD_mem {x : List Int} {i : Nat} (h : i < x.length) : x.getD i 0 ∈ x := by
  rw [List.getD_eq_getElem?_getD, List.getElem?_eq_getElem h]; exact List.getElem_mem h
theorem mon_red {n : Nat} (hn : n ≤ 3) {x e : List Int} (hx : POk n x) (he : EOk n e) : ∀ j, j ≤ n → mon e x j % 7 = mon (key e) x j % 7
  | 0, _ => rfl
  | j + 1, h => by
    have ih := mon_red hn hx he j (by omega)
    unfold mon
    rw [key_get e (by omega)]
    have h1 := hx.2 _ (getD_mem (x := x) (i := j) (by have := hx.1; omega))
    have h2 := he.2 _ (getD_mem (x := e) (i := j) (by have := he.1; omega))
    generalize x.getD j 0 = v at *
    generalize e.getD j 0 = w at *
    obtain ⟨v, rfl⟩ := Int.eq_ofNat_of_zero_le h1.1
    obtain ⟨w, rfl⟩ := Int.eq_ofNat_of_zero_le h2.1
    rw [Int.mul_emod, ih, Int.toNat_natCast, fermat v (by omega) w (by omega), ← Int.mul_emod]
/-- the power loop -/
theorem pow_loop {b : Int → Int → Option (Flow Int Int)} {v : Int} (hv : 0 ≤ v ∧ v < 7) (hb : ∀ i y, 0 ≤ y → y < 7 → b i y = some (.next (Int.tmod (w64 (y * v)) 7))) {e : Int} (he : 0 ≤ e ∧ e ≤ 8) {y : Int} (hy : 0 ≤ y ∧ y < 7) :
    forI (0 : Int) e b (fun x => x) y = some ((y * v ^ e.toNat) % 7) := by
  obtain ⟨z, h1, rfl⟩ := forI_inv (body := b) (fin := fun x => x) (lo := 0) (hi := e) (x := y) (fun i z => z = (y * v ^ i.toNat) % 7) (fun z => z = (y * v ^ e.toNat) % 7) (by omega) (by omega) (by simp; omega)
    (fun i z h0 hi hz => by
      have hz2 : 0 ≤ z ∧ z < 7 := by rw [hz]; exact ⟨Int.emod_nonneg _ (by decide), Int.emod_lt_of_pos _ (by decide)⟩
      have hm : 0 ≤ z * v ∧ z * v ≤ 36 := by
        refine ⟨Int.mul_nonneg hz2.1 hv.1, ?_⟩
        have := Int.mul_le_mul (a := z) (b := v) (c := 6) (d := 6) (by omega) (by omega) hv.1 (by decide)
        omega
      refine ⟨.next ((z * v) % 7), ?_, ?_⟩
      · rw [hb i z hz2.1 hz2.2, w64_id (by omega) (by omega), Int.tmod_eq_emod_of_nonneg hm.1]
      · have : (i + 1).toNat = i.toNat + 1 := by omega
        simp only
        rw [this, Int.pow_succ, hz, ← Int.mul_assoc, Int.mul_emod, Int.emod_emod_of_dvd _ (by decide), ← Int.mul_emod])
    (fun i z h0 h1 h2 hz => by
      have : i = e := by omega
      rw [hz, this])
  exact h1
/-- one term's value: the program's -/
theorem term_p {n : Nat} (hn : n ≤ 3) {x : List Int} (hx : POk n x) {k : List Int} (hk : k.length = 3 ∧ ∀ v ∈ k, 0 ≤ v ∧ v ≤ 6) {c : Int} (hc : 0 ≤ c ∧ c < 7) : forL (guess_Zeros_b151 (k, c)) (fun x967 => x967) x 0 c = some ((c * mon k x n) % 7) := by
  obtain ⟨y, h1, rfl⟩ := forL_inv (body := guess_Zeros_b151 (k, c)) (fin := fun x => x) (l := x) (x := c) (fun j y => y = (c * mon k x j) % 7) (fun y => y = (c * mon k x n) % 7) (by simp [mon]; omega)
    (by
      intro j v y hv hy
      have hj := (List.getElem?_eq_some_iff.1 hv).1
      have hv7 := hx.2 v (List.mem_of_getElem? hv)
      have hxl := hx.1
      have e1 : idx k (j : Int) = some (k.getD j 0) := by
        obtain ⟨z, hz, hz2⟩ := idx_get (xs := k) (i := (j : Int)) (by omega) (by have := hk.1; omega)
        rw [hz, List.getD_eq_getElem?_getD]
        rw [Int.toNat_natCast] at hz2
        rw [hz2]; rfl
      have hkj := hk.2 _ (getD_mem (x := k) (i := j) (by have := hk.1; omega))
      have hy2 : 0 ≤ y ∧ y < 7 := by rw [hy]; exact ⟨Int.emod_nonneg _ (by decide), Int.emod_lt_of_pos _ (by decide)⟩
      have hck : ck (0 ≤ (j : Int) ∧ (j : Int) < 3) = some () := ck_ok (by omega)
      unfold guess_Zeros_b151
      simp only [hck, bind_some', e1]
      rw [pow_loop (b := guess_Zeros_b148 v) hv7 (fun i y _ _ => rfl) (by omega) hy2]
      refine ⟨_, rfl, ?_⟩
      simp only
      have hvx : x.getD j 0 = v := by rw [List.getD_eq_getElem?_getD, hv]; rfl
      unfold mon
      rw [hvx, hy, ← Int.mul_assoc, Int.mul_emod, Int.emod_emod_of_dvd _ (by decide), ← Int.mul_emod])
    (by intro y hy; rw [hy, hx.1])
  exact h1
/-- one term's value: the document's -/
theorem term_r {n : Nat} (hn : n ≤ 3) {x e : List Int} (hx : POk n x) (he : EOk n e) {c : Int} (hc : 0 ≤ c ∧ c < 7) : forL (ref_Poly_b34 x) (fun x216 => x216) e 0 c = some ((c * mon e x n) % 7) := by
  obtain ⟨y, h1, rfl⟩ := forL_inv (body := ref_Poly_b34 x) (fin := fun x => x) (l := e) (x := c) (fun j y => y = (c * mon e x j) % 7) (fun y => y = (c * mon e x n) % 7) (by simp [mon]; omega)
    (by
      intro j v y hv hy
      have hj := (List.getElem?_eq_some_iff.1 hv).1
      have hv8 := he.2 v (List.mem_of_getElem? hv)
      have hxl := hx.1
      have hel := he.1
      have e1 : idx x (j : Int) = some (x.getD j 0) := by
        obtain ⟨z, hz, hz2⟩ := idx_get (xs := x) (i := (j : Int)) (by omega) (by omega)
        rw [hz, List.getD_eq_getElem?_getD]
        rw [Int.toNat_natCast] at hz2
        rw [hz2]; rfl
      have hx7 := hx.2 _ (getD_mem (x := x) (i := j) (by omega))
      have hy2 : 0 ≤ y ∧ y < 7 := by rw [hy]; exact ⟨Int.emod_nonneg _ (by decide), Int.emod_lt_of_pos _ (by decide)⟩
      unfold ref_Poly_b34
      rw [pow_loop hx7 (fun i y _ _ => by unfold ref_Poly_b31; rw [e1]; rfl) (by omega) hy2]
      refine ⟨_, rfl, ?_⟩
      simp only
      have hvx : e.getD j 0 = v := by rw [List.getD_eq_getElem?_getD, hv]; rfl
      unfold mon
      rw [hvx, hy, ← Int.mul_assoc, Int.mul_emod, Int.emod_emod_of_dvd _ (by decide), ← Int.mul_emod])
    (by intro y hy; rw [hy, he.1])
  exact h1
abbrev Ent : Type := List Int × Int
abbrev eqK : List Int → List Int → Bool := deqT (.arr 3 tI)
def TmOk (n : Nat) (t : Tm) : Prop := (0 ≤ t.1 ∧ t.1 < 7) ∧ EOk n t.2
def VS (x : List Int) (n : Nat) (l : List Ent) : Int := (l.map fun p => p.2 * mon p.1 x n).sum
def TS (x : List Int) (n : Nat) (T : List Tm) : Int := (T.map fun t => t.1 * mon (key t.2) x n).sum
theorem v_put (x : List Int) (n : Nat) (k : List Int) (c : Int) : ∀ l : List Ent, VS x n (mPut eqK l k c) = VS x n l - (mGet eqK l k).getD 0 * mon k x n + c * mon k x n
  | [] => by simp [VS, mPut, mGet]
  | p :: l => by
    by_cases h : k = p.1
    · subst h
      have e : eqK p.1 p.1 = true := (deqK _ _).2 rfl
      simp only [mPut, mGet, e, if_true, VS, List.map_cons, List.sum_cons, Option.getD_some]
      omega
    · have e : eqK k p.1 = false := by cases hh : eqK k p.1 with | false => rfl | true => exact (h ((deqK _ _).1 hh)).elim
      have ih := v_put x n k c l
      simp only [mPut, mGet, e, Bool.false_eq_true, if_false, VS, List.map_cons, List.sum_cons] at ih ⊢
      omega
def SK (T : List Tm) (k : List Int) : Int := ((T.filter fun t => decide (key t.2 = k)).map (·.1)).sum
theorem sk_snoc (T : List Tm) (t : Tm) (k : List Int) : SK (T ++ [t]) k = SK T k + (if key t.2 = k then t.1 else 0) := by
  unfold SK
  rw [List.filter_append, List.map_append, List.sum_append]
  by_cases h : key t.2 = k <;> simp [h]
theorem sk_no {T : List Tm} {k : List Int} (h : k ∉ T.map (fun t => key t.2)) : SK T k = 0 := by
  unfold SK
  rw [List.filter_eq_nil_iff.2]
  · rfl
  · intro t ht
    simp only [decide_eq_true_eq]
    rintro rfl
    exact h (List.mem_map.2 ⟨t, ht, rfl⟩)
theorem mget_mem : ∀ {l : List Ent} {p : Ent}, (l.map (·.1)).Nodup → p ∈ l → mGet eqK l p.1 = some p.2
  | [], p, _, h => by simp at h
  | q :: l, p, hn, h => by
    simp only [List.map_cons, List.nodup_cons] at hn
    rcases List.mem_cons.1 h with rfl | h
    · simp only [mGet]; rw [if_pos ((deqK _ _).2 rfl)]
    · have : p.1 ≠ q.1 := fun e => hn.1 (e ▸ List.mem_map.2 ⟨p, h, rfl⟩)
      have e : eqK p.1 q.1 = false := by cases hh : eqK p.1 q.1 with | false => rfl | true => exact (this ((deqK _ _).1 hh)).elim
      simp only [mGet, e, Bool.false_eq_true, if_false]
      exact mget_mem hn.2 h
theorem mem_mget : ∀ {l : List Ent} {k : List Int} {c : Int}, mGet eqK l k = some c → (k, c) ∈ l
  | [], _, _, h => by simp [mGet] at h
  | q :: l, k, c, h => by
    by_cases hk : k = q.1
    · have e : eqK k q.1 = true := (deqK _ _).2 hk
      simp only [mGet, e, if_true, Option.some.injEq] at h
      rw [hk, ← h]; exact List.mem_cons_self
    · have e : eqK k q.1 = false := by cases hh : eqK k q.1 with | false => rfl | true => exact (hk ((deqK _ _).1 hh)).elim
      simp only [mGet, e, Bool.false_eq_true, if_false] at h
      exact List.mem_cons_of_mem _ (mem_mget h)
structure CfOk (T : List Tm) (l : List Ent) : Prop where
  nd : (l.map (·.1)).Nodup
  get : ∀ k, mGet eqK l k = if k ∈ T.map (fun t => key t.2) then some (SK T k % 7) else none
  val : ∀ x n, VS x n l % 7 = TS x n T % 7
  len : l.length ≤ T.length
theorem mod7_step (A o c m S : Int) (h : A % 7 = S % 7) : (A - o * m + ((o + c) % 7) * m) % 7 = (S + c * m) % 7 := by
  have e : (o + c) % 7 = o + c - 7 * ((o + c) / 7) := by omega
  have : A - o * m + ((o + c) % 7) * m = A + c * m + 7 * (-((o + c) / 7) * m) := by
    rw [e, Int.sub_mul, Int.add_mul, Int.mul_assoc, Int.neg_mul]
    omega
  rw [this]
  generalize -((o + c) / 7) * m = z
  generalize c * m = y
  omega
theorem cf_put {n : Nat} {T : List Tm} {l : List Ent} (h : CfOk T l) {t : Tm} (ht : TmOk n t) : CfOk (T ++ [t]) (mPut eqK l (key t.2) (((mGet eqK l (key t.2)).getD 0 + t.1) % 7)) := by
  refine ⟨mput_nodup deqK h.nd _ _, ?_, ?_, ?_⟩
  · intro k
    rw [mget_mput deqK, sk_snoc]
    by_cases hk : k = key t.2
    · rw [if_pos hk, if_pos (by rw [hk]; simp), if_pos hk.symm, hk, h.get]
      by_cases hm : key t.2 ∈ T.map (fun t => key t.2)
      · rw [if_pos hm]; simp only [Option.getD_some]; congr 1; omega
      · rw [if_neg hm, sk_no hm]; simp
    · have h0 : (if key t.2 = k then t.1 else 0) = 0 := if_neg (fun e => hk e.symm)
      rw [if_neg hk, h.get, h0]
      by_cases hm : k ∈ T.map (fun t => key t.2)
      · rw [if_pos hm, if_pos (by rw [List.map_append]; exact List.mem_append_left _ hm), Int.add_zero]
      · rw [if_neg hm, if_neg (by
          rw [List.map_append, List.mem_append]
          rintro (h | h)
          · exact hm h
          · simp at h; exact hk h)]
  · intro x n
    rw [v_put]
    have : TS x n (T ++ [t]) = TS x n T + t.1 * mon (key t.2) x n := by simp [TS]
    rw [this]
    exact mod7_step _ _ _ _ _ (h.val x n)
  · have : (mPut eqK l (key t.2) (((mGet eqK l (key t.2)).getD 0 + t.1) % 7)).length = ((mPut eqK l (key t.2) (((mGet eqK l (key t.2)).getD 0 + t.1) % 7)).map (·.1)).length := by simp
    rw [this, mput_keys deqK]
    have := h.len
    split <;> simp <;> omega
theorem sum_mod {α : Type} (g : α → Int) : ∀ l : List α, (l.map fun p => g p % 7).sum % 7 = (l.map g).sum % 7
  | [] => rfl
  | a :: l => by
    have := sum_mod g l
    simp only [List.map_cons, List.sum_cons]
    omega
theorem cf_all {n : Nat} (hn : 1 ≤ n ∧ n ≤ 3) {T : List Tm} (hT : ∀ t ∈ T, TmOk n t) : ∃ l, forL guess_Zeros_b20 (fun x146 => x146) T 0 (some [] : Option (List Ent)) = some (some l) ∧ CfOk T l := by
  obtain ⟨y, h1, l, rfl, h2⟩ := forL_inv (body := guess_Zeros_b20) (fin := fun x => x) (l := T) (x := (some [] : Option (List Ent))) (fun j y => ∃ l, y = some l ∧ CfOk (T.take j) l) (fun y => ∃ l, y = some l ∧ CfOk T l)
    ⟨[], rfl, by simp, by intro k; simp [mGet], by intro x n; simp [VS, TS], by simp⟩
    (by
      rintro j t y ht ⟨l, rfl, hl⟩
      have htm := hT t (List.mem_of_getElem? ht)
      have hg := hl.get (key t.2)
      have hold : 0 ≤ (mGet eqK l (key t.2)).getD 0 ∧ (mGet eqK l (key t.2)).getD 0 < 7 := by
        rw [hg]; split
        · simp only [Option.getD_some]; omega
        · simp
      have hck : ck (Option.isSome (some l) = true) = some () := ck_ok rfl
      unfold guess_Zeros_b20
      rw [key_fill hn htm.2, bind_some', hck, bind_some', show Option.getD (some l) ([] : List Ent) = l from rfl]
      refine ⟨_, rfl, mPut eqK l (key t.2) (((mGet eqK l (key t.2)).getD 0 + t.1) % 7), ?_, ?_⟩
      · have := htm.1
        have e9 : Int.tmod (w64 ((mGet eqK l (key t.2)).getD 0 + t.1)) 7 = ((mGet eqK l (key t.2)).getD 0 + t.1) % 7 := by
          generalize (mGet eqK l (key t.2)).getD 0 = o at *
          rw [w64_id (by omega) (by omega), Int.tmod_eq_emod_of_nonneg (by omega)]
        rw [← e9]; rfl
      · have := cf_put hl htm
        rw [List.take_add_one, ht]; exact this)
    (by rintro y ⟨l, rfl, hl⟩; exact ⟨l, rfl, by simpa using hl⟩)
  exact ⟨l, h1, h2⟩
theorem key_ok {n : Nat} (hn : 1 ≤ n ∧ n ≤ 3) {e : List Int} (h : EOk n e) : (key e).length = 3 ∧ ∀ v ∈ key e, 0 ≤ v ∧ v ≤ 6 := by
  refine ⟨rfl, ?_⟩
  have hg : ∀ i, 0 ≤ e.getD i 0 ∧ e.getD i 0 ≤ 8 := by
    intro i
    by_cases hi : i < e.length
    · exact h.2 _ (getD_mem hi)
    · rw [List.getD_eq_getElem?_getD, List.getElem?_eq_none (by omega)]; simp
  intro v hv
  simp only [key, List.mem_cons, List.not_mem_nil, or_false] at hv
  rcases hv with rfl | rfl | rfl <;> exact red_lt (hg _)
theorem ent_ok {n : Nat} (hn : 1 ≤ n ∧ n ≤ 3) {T : List Tm} (hT : ∀ t ∈ T, TmOk n t) {l : List Ent} (h : CfOk T l) {p : Ent} (hp : p ∈ l) : (∃ t ∈ T, key t.2 = p.1) ∧ p.2 = SK T p.1 % 7 ∧ (p.1.length = 3 ∧ ∀ v ∈ p.1, 0 ≤ v ∧ v ≤ 6) := by
  have h1 := mget_mem h.nd hp
  rw [h.get] at h1
  split at h1
  · rename_i hm
    obtain ⟨t, ht, e⟩ := List.mem_map.1 hm
    injection h1 with h1
    exact ⟨⟨t, ht, e⟩, h1.symm, by rw [← e]; exact key_ok hn (hT t ht).2⟩
  · cases h1
def root (T : List Tm) (n : Nat) (x : List Int) : Bool := decide (TS x n T % 7 = 0)
theorem sum_bound {α : Type} (f : α → Int) : ∀ l : List α, (∀ p ∈ l, 0 ≤ f p ∧ f p ≤ 6) → 0 ≤ (l.map f).sum ∧ (l.map f).sum ≤ 6 * l.length
  | [], _ => by simp
  | a :: l, h => by
    have := sum_bound f l fun p hp => h p (List.mem_cons_of_mem _ hp)
    have ha := h a List.mem_cons_self
    simp only [List.map_cons, List.sum_cons, List.length_cons]
    omega
theorem val_p {n : Nat} (hn : 1 ≤ n ∧ n ≤ 3) {T : List Tm} (hT : ∀ t ∈ T, TmOk n t) (hl12 : T.length ≤ 12) {l : List Ent} (h : CfOk T l) {x : List Int} (hx : POk n x) (s : Int × Option (List Ent) × List Int) (hs : s.2.2 = x) :
    ∃ v, rangeM (guess_Zeros_b154 s) l (0 : Int) = some v ∧ (Int.tmod v 7 == 0) = root T n x := by
  have hf : ∀ p ∈ l, 0 ≤ (p.2 * mon p.1 x n) % 7 ∧ (p.2 * mon p.1 x n) % 7 ≤ 6 := by intro p _; omega
  have hb : ∀ p ∈ l, ∀ y : Int, 0 ≤ y → y ≤ 1000000 → guess_Zeros_b154 s p y = some (y + (p.2 * mon p.1 x n) % 7) := by
    intro p hp y h0 h1
    obtain ⟨_, e2, e3⟩ := ent_ok hn hT h hp
    have hfp := hf p hp
    unfold guess_Zeros_b154
    rw [hs, term_p hn.2 hx (k := p.1) (c := p.2) e3 (by rw [e2]; omega), bind_some', w64_id (by omega) (by omega)]
  have hlen := h.len
  refine ⟨_, rangeM_fold (g := fun (x : Int) (p : Ent) => x + (p.2 * mon p.1 _ n) % 7) (by intro x p q; omega) (fun l' hl' => forR_sum l' 0 (fun p hp => hf p (hl'.mem_iff.1 hp)) (by omega) (by have := hl'.length_eq; omega) (fun p hp => hb p (hl'.mem_iff.1 hp))), ?_⟩
  rw [foldl_add (fun p : Ent => (p.2 * mon p.1 x n) % 7)]
  have hsb := sum_bound (fun p : Ent => (p.2 * mon p.1 x n) % 7) l hf
  rw [Int.zero_add, Int.tmod_eq_emod_of_nonneg hsb.1, sum_mod (fun p : Ent => p.2 * mon p.1 x n)]
  have := h.val x n
  unfold VS at this
  rw [this]
  unfold root
  by_cases h : TS x n T % 7 = 0 <;> simp [h]
theorem val_r {n : Nat} (hn : 1 ≤ n ∧ n ≤ 3) {T : List Tm} (hT : ∀ t ∈ T, TmOk n t) (hl12 : T.length ≤ 12) {x : List Int} (hx : POk n x) : ∃ v, ref_Poly T x = some v ∧ (v == 0) = root T n x := by
  unfold ref_Poly
  have hf : ∀ (p : Tm), 0 ≤ (p.1 * mon p.2 x n) % 7 ∧ (p.1 * mon p.2 x n) % 7 ≤ 6 := by intro p; omega
  obtain ⟨y, h1, rfl⟩ := forL_inv (body := ref_Poly_b37 x) (fin := fun x => x) (l := T) (x := (0 : Int)) (fun j y => y = ((T.take j).map fun p => (p.1 * mon p.2 x n) % 7).sum) (fun y => y = (T.map fun p => (p.1 * mon p.2 x n) % 7).sum) (by simp)
    (by
      intro j t y ht hy
      have htm := hT t (List.mem_of_getElem? ht)
      have hj := (List.getElem?_eq_some_iff.1 ht).1
      have hb := sum_bound (fun p : Tm => (p.1 * mon p.2 x n) % 7) (T.take j) (fun p _ => hf p)
      rw [← hy] at hb
      have hlt : (T.take j).length ≤ 12 := by rw [List.length_take]; omega
      have hft := hf t
      unfold ref_Poly_b37
      rw [term_r hn.2 hx htm.2 htm.1, bind_some', w64_id (by omega) (by omega)]
      refine ⟨_, rfl, ?_⟩
      simp only
      rw [List.take_add_one, ht, hy]; simp)
    (by intro y hy; rw [hy]; simp)
  rw [h1, bind_some']
  refine ⟨_, rfl, ?_⟩
  have hb := sum_bound (fun p : Tm => (p.1 * mon p.2 x n) % 7) T (fun p _ => hf p)
  rw [Int.tmod_eq_emod_of_nonneg hb.1, sum_mod (fun p : Tm => p.1 * mon p.2 x n)]
  have : (T.map fun p : Tm => p.1 * mon p.2 x n).sum % 7 = TS x n T % 7 := by
    rw [← sum_mod]
    unfold TS
    rw [← sum_mod (fun t : Tm => t.1 * mon (key t.2) x n)]
    congr 2
    apply List.map_congr_left
    intro t ht
    rw [Int.mul_emod, mon_red hn.2 hx (hT t ht).2 n (by omega), ← Int.mul_emod]
  rw [this]
  unfold root
  by_cases h : TS x n T % 7 = 0 <;> simp [h]
def ksum (k : List Int) : Int := k.getD 0 0 + k.getD 1 0 + k.getD 2 0
theorem deg_p {n : Nat} (hn : 1 ≤ n ∧ n ≤ 3) {T : List Tm} (hT : ∀ t ∈ T, TmOk n t) {l : List Ent} (h : CfOk T l) : rangeM guess_Zeros_b23 l (-1 : Int) = some (fmax (fun p : Ent => p.2 != 0) (fun p => ksum p.1) l (-1)) := by
  refine rangeM_fold (g := fun (x : Int) (p : Ent) => if (p.2 != 0) = true ∧ x < ksum p.1 then ksum p.1 else x) ?_ ?_
  · intro x p q
    by_cases c1 : (p.2 != 0) = true <;> by_cases c2 : (q.2 != 0) = true <;> simp only [c1, c2, true_and, false_and, if_false, Bool.false_eq_true]
    by_cases d1 : x < ksum p.1 <;> by_cases d2 : x < ksum q.1 <;> simp only [d1, d2, if_true, if_false] <;> split <;> (try split) <;> omega
  · intro l' hl'
    refine forR_all l' _ ?_
    intro p hp x
    obtain ⟨_, _, e3⟩ := ent_ok hn hT h (hl'.mem_iff.1 hp)
    obtain ⟨k, c⟩ := p
    simp only at e3
    match k, e3 with
    | [a, b, d], e3 =>
      have ha := e3.2 a (by simp)
      have hb := e3.2 b (by simp)
      have hd := e3.2 d (by simp)
      have i0 : idx [a, b, d] (0 : Int) = some a := rfl
      have i1 : idx [a, b, d] (1 : Int) = some b := rfl
      have i2 : idx [a, b, d] (2 : Int) = some d := rfl
      have hk : ksum [a, b, d] = a + b + d := rfl
      unfold guess_Zeros_b23
      simp only [i0, i1, i2, hk, bind_some']
      rw [w64_id (n := a + b) (by omega) (by omega), w64_id (by omega) (by omega)]
      cases c != 0
      · rfl
      · simp only [cond_true, true_and]; rfl
    | [], e3 => simp at e3
    | [_], e3 => simp at e3
    | [_, _], e3 => simp at e3
    | _ :: _ :: _ :: _ :: _, e3 => simp at e3
theorem same_r {n : Nat} (hn : 1 ≤ n ∧ n ≤ 3) {t t' : Tm} (ht : TmOk n t) (ht' : TmOk n t') (fuel : Nat) : forI (0 : Int) (List.length t.2 : Int) (ref_PolyDegree_b345 (fuel + 2) t t') (fun x3691 => x3691) true = some (decide (key t'.2 = key t.2)) := by
  have hl := ht.2.1
  have hl' := ht'.2.1
  obtain ⟨y, h1, h2⟩ := forI_inv (body := ref_PolyDegree_b345 (fuel + 2) t t') (fin := fun x => x) (lo := 0) (hi := (List.length t.2 : Int)) (x := true)
    (fun i x => x = decide (∀ j : Nat, j < i.toNat → red (t.2.getD j 0) = red (t'.2.getD j 0))) (fun y => y = decide (key t'.2 = key t.2)) (by omega) (by omega) (by simp)
    (fun i x h0 hi hx => by
      obtain ⟨j, rfl⟩ := Int.eq_ofNat_of_zero_le h0
      have hj : j < n := by omega
      have e1 : idx t.2 (j : Int) = some (t.2.getD j 0) := by
        obtain ⟨z, hz, hz2⟩ := idx_get (xs := t.2) (i := (j : Int)) (by omega) (by omega)
        rw [hz, List.getD_eq_getElem?_getD]
        rw [Int.toNat_natCast] at hz2
        rw [hz2]; rfl
      have e2 : idx t'.2 (j : Int) = some (t'.2.getD j 0) := by
        obtain ⟨z, hz, hz2⟩ := idx_get (xs := t'.2) (i := (j : Int)) (by omega) (by omega)
        rw [hz, List.getD_eq_getElem?_getD]
        rw [Int.toNat_natCast] at hz2
        rw [hz2]; rfl
      have r1 := red_r (ht.2.2 _ (getD_mem (x := t.2) (i := j) (by omega))) fuel
      have r2 := red_r (ht'.2.2 _ (getD_mem (x := t'.2) (i := j) (by omega))) fuel
      unfold ref_PolyDegree_b345
      have hs : ((j : Int) + 1).toNat = j + 1 := by omega
      cases x with
      | true =>
        rw [cond_true, e1, bind_some', r1, bind_some', e2, bind_some', r2, bind_some']
        refine ⟨_, rfl, ?_⟩
        simp only
        rw [hs]
        have hx' := of_decide_eq_true hx.symm
        rw [Int.toNat_natCast] at hx'
        by_cases hq : red (t.2.getD j 0) = red (t'.2.getD j 0)
        · have : ∀ k : Nat, k < j + 1 → red (t.2.getD k 0) = red (t'.2.getD k 0) := by
            intro k hk
            rcases Nat.lt_or_ge k j with h | h
            · exact hx' k h
            · rw [show k = j by omega]; exact hq
          rw [decide_eq_true this, hq]; exact beq_self_eq_true _
        · rw [decide_eq_false (fun h => hq (h j (by omega)))]; exact beq_eq_false_iff_ne.2 hq
      | false =>
        refine ⟨_, rfl, ?_⟩
        simp only
        have hx' := of_decide_eq_false hx.symm
        rw [Int.toNat_natCast] at hx'
        rw [hs]
        exact (decide_eq_false (fun h => hx' fun k hk => h k (by omega))).symm)
    (fun i x h0 h1 h2 hx => by
      have : i.toNat = n := by omega
      rw [hx, this]
      refine decide_eq_decide.2 ⟨fun h => ?_, fun h j hj => ?_⟩
      · have hg : ∀ j : Nat, red (t'.2.getD j 0) = red (t.2.getD j 0) := by
          intro j
          by_cases hj : j < n
          · exact (h j hj).symm
          · rw [List.getD_eq_getElem?_getD, List.getD_eq_getElem?_getD, List.getElem?_eq_none (by omega), List.getElem?_eq_none (by omega)]
        simp only [key, hg]
      · have h1 := key_get t.2 (i := j) (by omega)
        have h2 := key_get t'.2 (i := j) (by omega)
        rw [← h1, ← h2, h])
  rw [h1, h2]
theorem sum_r {n : Nat} (hn : 1 ≤ n ∧ n ≤ 3) {e : List Int} (h : EOk n e) (fuel : Nat) : forL (ref_PolyDegree_b353 (fuel + 2)) (fun x3730 => x3730) e 0 (0 : Int) = some (ksum (key e)) := by
  obtain ⟨h1, h2⟩ := h
  match e, h1, h2 with
  | [], h1, _ => simp at h1; omega
  | [a], _, h2 =>
    have ha := red_r (h2 a (by simp)) fuel
    have la := red_lt (h2 a (by simp))
    simp only [forL, ref_PolyDegree_b353, ha, bind_some']
    rw [w64_id (by omega) (by omega)]
    simp [ksum, key, red]
  | [a, b], _, h2 =>
    have ha := red_r (h2 a (by simp)) fuel
    have la := red_lt (h2 a (by simp))
    have hb := red_r (h2 b (by simp)) fuel
    have lb := red_lt (h2 b (by simp))
    simp only [forL, ref_PolyDegree_b353, ha, hb, bind_some']
    rw [w64_id (n := 0 + red a) (by omega) (by omega), w64_id (by omega) (by omega)]
    simp [ksum, key]
    unfold red; simp
  | [a, b, c], _, h2 =>
    have ha := red_r (h2 a (by simp)) fuel
    have la := red_lt (h2 a (by simp))
    have hb := red_r (h2 b (by simp)) fuel
    have lb := red_lt (h2 b (by simp))
    have hc := red_r (h2 c (by simp)) fuel
    have lc := red_lt (h2 c (by simp))
    simp only [forL, ref_PolyDegree_b353, ha, hb, hc, bind_some']
    rw [w64_id (n := 0 + red a) (by omega) (by omega), w64_id (n := 0 + red a + red b) (by omega) (by omega), w64_id (by omega) (by omega)]
    simp [ksum, key]
  | a :: b :: c :: d :: r, h1, _ => simp at h1; omega
theorem sk_take {T : List Tm} {k : List Int} {n : Nat} (hT : ∀ t ∈ T, TmOk n t) (hl : T.length ≤ 12) : 0 ≤ SK T k ∧ SK T k ≤ 72 := by
  unfold SK
  have h := sum_bound (fun t : Tm => t.1) (T.filter fun t => decide (key t.2 = k)) (fun t ht => by have := (hT t ((List.mem_filter.1 ht).1)).1; omega)
  have h2 : (T.filter fun t => decide (key t.2 = k)).length ≤ T.length := List.length_filter_le _ _
  omega
theorem coef_r {n : Nat} (hn : 1 ≤ n ∧ n ≤ 3) {T : List Tm} (hT : ∀ t ∈ T, TmOk n t) (hl : T.length ≤ 12) {t : Tm} (ht : TmOk n t) (fuel : Nat) : forL (ref_PolyDegree_b350 (fuel + 2) t) (fun x3584 => x3584) T 0 (0 : Int) = some (SK T (key t.2)) := by
  obtain ⟨y, h1, rfl⟩ := forL_inv (body := ref_PolyDegree_b350 (fuel + 2) t) (fin := fun x => x) (l := T) (x := (0 : Int)) (fun j y => y = SK (T.take j) (key t.2)) (fun y => y = SK T (key t.2)) (by simp [SK])
    (by
      intro j t' y ht' hy
      have htm := hT t' (List.mem_of_getElem? ht')
      have hb := sk_take (T := T.take j) (k := key t.2) (n := n) (fun t h => hT t (List.mem_of_mem_take h)) (by rw [List.length_take]; omega)
      rw [← hy] at hb
      have hc := htm.1
      unfold ref_PolyDegree_b350 ref_PolyDegree_g348
      rw [same_r hn ht htm, bind_some']
      have hs : SK (T.take (j + 1)) (key t.2) = SK (T.take j) (key t.2) + (if key t'.2 = key t.2 then t'.1 else 0) := by
        rw [List.take_add_one, ht']; exact sk_snoc _ _ _
      by_cases hk : key t'.2 = key t.2
      · rw [decide_eq_true hk, cond_true, bind_some', w64_id (by omega) (by omega)]
        refine ⟨_, rfl, ?_⟩
        simp only
        rw [hs, if_pos hk, hy]
      · rw [decide_eq_false hk, cond_false, bind_some']
        refine ⟨_, rfl, ?_⟩
        simp only
        rw [hs, if_neg hk, hy, Int.add_zero])
    (by intro y hy; rw [hy]; simp)
  exact h1
theorem deg_r {n : Nat} (hn : 1 ≤ n ∧ n ≤ 3) {T : List Tm} (hT : ∀ t ∈ T, TmOk n t) (hl : T.length ≤ 12) (fuel : Nat) : ref_PolyDegree (fuel + 2) T = some (fmax (fun t : Tm => SK T (key t.2) % 7 != 0) (fun t => ksum (key t.2)) T (-1)) := by
  unfold ref_PolyDegree
  obtain ⟨y, h1, rfl⟩ := forL_inv (body := ref_PolyDegree_b358 T (fuel + 2)) (fin := fun x => x) (l := T) (x := (-1 : Int)) (fun j y => y = fmax (fun t : Tm => SK T (key t.2) % 7 != 0) (fun t => ksum (key t.2)) (T.take j) (-1)) (fun y => y = fmax (fun t : Tm => SK T (key t.2) % 7 != 0) (fun t => ksum (key t.2)) T (-1)) (by simp [fmax])
    (by
      intro j t y ht hy
      have htm := hT t (List.mem_of_getElem? ht)
      unfold ref_PolyDegree_b358 ref_PolyDegree_g356
      rw [coef_r hn hT hl htm, bind_some', sum_r hn htm.2, bind_some', Int.tmod_eq_emod_of_nonneg (sk_take hT hl).1]
      have hs : fmax (fun t : Tm => SK T (key t.2) % 7 != 0) (fun t => ksum (key t.2)) (T.take (j + 1)) (-1) = if (SK T (key t.2) % 7 != 0) = true ∧ y < ksum (key t.2) then ksum (key t.2) else y := by
        rw [List.take_add_one, ht, hy]
        simp only [fmax, List.foldl_append]
        rfl
      by_cases hk : (SK T (key t.2) % 7 != 0) = true ∧ y < ksum (key t.2)
      · rw [if_pos hk] at hs
        rw [hk.1, Bool.true_and, show decide (ksum (key t.2) > y) = true from decide_eq_true hk.2, cond_true, bind_some']
        exact ⟨_, rfl, hs.symm⟩
      · rw [if_neg hk] at hs
        have : ((SK T (key t.2) % 7 != 0) && decide (ksum (key t.2) > y)) = false := by
          cases hq : (SK T (key t.2) % 7 != 0) with
          | false => rfl
          | true => rw [Bool.true_and]; exact decide_eq_false (fun h => hk ⟨hq, h⟩)
        rw [this, cond_false, bind_some']
        exact ⟨_, rfl, hs.symm⟩)
    (by intro y hy; rw [hy]; simp)
  rw [h1]; rfl
theorem deg_eq {n : Nat} (hn : 1 ≤ n ∧ n ≤ 3) {T : List Tm} (hT : ∀ t ∈ T, TmOk n t) {l : List Ent} (h : CfOk T l) : fmax (fun p : Ent => p.2 != 0) (fun p => ksum p.1) l (-1) = fmax (fun t : Tm => SK T (key t.2) % 7 != 0) (fun t => ksum (key t.2)) T (-1) := by
  refine fmax_eq ?_ ?_
  · intro p hp hc
    obtain ⟨⟨t, ht, e1⟩, e2, _⟩ := ent_ok hn hT h hp
    refine ⟨t, ht, ?_, by rw [e1]⟩
    rw [e1, ← e2]; exact hc
  · intro t ht hc
    have hg := h.get (key t.2)
    rw [if_pos (List.mem_map.2 ⟨t, ht, rfl⟩)] at hg
    exact ⟨_, mem_mget hg, hc, rfl⟩
def odo : List Int → Option (List Int)
  | [] => none
  | v :: r => if v = 6 then (odo r).map (0 :: ·) else some ((v + 1) :: r)
theorem odo_dgs : ∀ (n d : Nat), d < 7 ^ n → odo (dgs 7 n d) = if d + 1 = 7 ^ n then none else some (dgs 7 n (d + 1))
  | 0, d, h => by
    rw [if_pos (by simp at h ⊢; omega)]; simp [dgs, odo]
  | n + 1, d, h => by
    have hp : 7 ^ (n + 1) = 7 * 7 ^ n := by rw [Nat.pow_succ]; omega
    have hq : d / 7 < 7 ^ n := by omega
    have ih := odo_dgs n (d / 7) hq
    rw [dgs_cons, dgs_cons]
    unfold odo
    by_cases h6 : d % 7 = 6
    · rw [if_pos (by omega), ih]
      by_cases he : d / 7 + 1 = 7 ^ n
      · rw [if_pos he, if_pos (by omega)]; rfl
      · rw [if_neg he, if_neg (by omega)]
        have e1 : (d + 1) % 7 = 0 := by omega
        have e2 : (d + 1) / 7 = d / 7 + 1 := by omega
        rw [e1, e2]; rfl
    · rw [if_neg (by omega), if_neg (by omega)]
      have e1 : (d + 1) % 7 = d % 7 + 1 := by omega
      have e2 : (d + 1) / 7 = d / 7 := by omega
      rw [e1, e2]; rfl
theorem idx_nat' {xs : List Int} {j : Nat} (h : j < xs.length) : idx xs (j : Int) = some (xs.getD j 0) := by
  obtain ⟨z, hz, hz2⟩ := idx_get (xs := xs) (i := (j : Int)) (by omega) (by omega)
  rw [hz, List.getD_eq_getElem?_getD]
  rw [Int.toNat_natCast] at hz2
  rw [hz2]; rfl
theorem od_iter {n : Nat} (hn : n ≤ 3) : ∀ (r p : List Int) (fuel : Nat), r.length < fuel → p.length + r.length = n → (∀ v ∈ r, 0 ≤ v ∧ v < 7) →
    ∃ (j : Nat) (z : List Int), iter (guess_Zeros_b160 (n : Int)) fuel ((p.length : Int), p ++ r) = some ((j : Int), z) ∧ (odo r = none → j = n) ∧ (∀ r', odo r = some r' → j < n ∧ j < z.length ∧ 0 ≤ z.getD j 0 ∧ z.getD j 0 < 7 ∧ z.set j (z.getD j 0 + 1) = p ++ r')
  | [], p, 0, hf, _, _ => by omega
  | [], p, fuel + 1, hf, hl, _ => by
    refine ⟨p.length, p ++ [], ?_, fun _ => by simpa using hl, fun r' h => by simp [odo] at h⟩
    have : guess_Zeros_b160 (n : Int) ((p.length : Int), p ++ []) = some (.done ((p.length : Int), p ++ [])) := by
      unfold guess_Zeros_b160
      simp only
      rw [show decide ((p.length : Int) < (n : Int)) = false from decide_eq_false (by simp at hl; omega)]; rfl
    simp only [iter, this]
  | v :: r, p, 0, hf, _, _ => by omega
  | v :: r, p, fuel + 1, hf, hl, hv => by
    simp only [List.length_cons] at hl hf
    have hi : idx (p ++ v :: r) (p.length : Int) = some v := by
      rw [idx_nat' (by simp), List.getD_eq_getElem?_getD, List.getElem?_append_right (by omega)]; simp
    have hlt : decide ((p.length : Int) < (n : Int)) = true := decide_eq_true (by omega)
    by_cases h6 : v = 6
    · have hs : guess_Zeros_b160 (n : Int) ((p.length : Int), p ++ v :: r) = some (.next (((p ++ [0]).length : Int), (p ++ [0]) ++ r)) := by
        unfold guess_Zeros_b160
        simp only
        rw [hlt, cond_true, hi, bind_some', bind_some', h6, show ((6 : Int) == 6) = true from rfl, cond_true, bind_some', w64_id (by omega) (by omega)]
        simp
      obtain ⟨j, z, h1, h2, h3⟩ := od_iter hn r (p ++ [0]) fuel (by omega) (by simp; omega) (fun w hw => hv w (List.mem_cons_of_mem _ hw))
      refine ⟨j, z, by simp only [iter, hs]; exact h1, fun h => h2 ?_, fun r' h => ?_⟩
      · rw [odo, if_pos h6] at h
        simpa using h
      · rw [odo, if_pos h6] at h
        cases ho : odo r with
        | none => rw [ho] at h; cases h
        | some q =>
          rw [ho] at h
          injection h with h
          obtain ⟨a, b, c, d, e⟩ := h3 q ho
          exact ⟨a, b, c, d, by rw [e, ← h]; simp⟩
    · have hs : guess_Zeros_b160 (n : Int) ((p.length : Int), p ++ v :: r) = some (.done ((p.length : Int), p ++ v :: r)) := by
        unfold guess_Zeros_b160
        simp only
        rw [hlt, cond_true, hi, bind_some', bind_some', show (v == (6 : Int)) = false from beq_eq_false_iff_ne.2 h6, cond_false]
      have hg : (p ++ v :: r).getD p.length 0 = v := by
        rw [List.getD_eq_getElem?_getD, List.getElem?_append_right (by omega)]; simp
      refine ⟨p.length, p ++ v :: r, by simp only [iter, hs], fun h => ?_, fun r' h => ?_⟩
      · rw [odo, if_neg h6] at h; cases h
      · rw [odo, if_neg h6] at h
        injection h with h
        have := hv v List.mem_cons_self
        rw [hg]
        exact ⟨by omega, by simp, by omega, by omega, by rw [← h]; simp⟩
def cnt (T : List Tm) (n j : Nat) : Nat := (List.range j).countP fun i => root T n (dgs 7 n i)
theorem cnt_succ (T : List Tm) (n j : Nat) : cnt T n (j + 1) = cnt T n j + (root T n (dgs 7 n j)).toNat := by
  unfold cnt
  rw [List.range_succ, List.countP_append]
  cases h : root T n (dgs 7 n j) <;> simp [h]
theorem cnt_le (T : List Tm) (n j : Nat) : cnt T n j ≤ j := by
  unfold cnt
  exact Nat.le_trans List.countP_le_length (by simp)
theorem dgs_pok (n d : Nat) : POk n (dgs 7 n d) := ⟨dgs_len 7 n d, fun v hv => by have := dgs_mem (by decide) hv; omega⟩
theorem cnt_int (T : List Tm) (n j : Nat) (hj : j ≤ 1000) : (bif root T n (dgs 7 n j) then some (w64 ((cnt T n j : Int) + 1)) else some (cnt T n j : Int)) = some ((cnt T n (j + 1) : Nat) : Int) := by
  have := cnt_le T n j
  rw [cnt_succ]
  cases root T n (dgs 7 n j) with
  | true => rw [cond_true, w64_id (by omega) (by omega)]; rfl
  | false => rfl
theorem pow7 {n : Nat} (h : n ≤ 3) : 7 ^ n ≤ 343 ∧ 1 ≤ 7 ^ n := ⟨Nat.pow_le_pow_right (n := 7) (by decide) h, Nat.one_le_pow _ _ (by decide)⟩
theorem loop_p {n : Nat} (hn : 1 ≤ n ∧ n ≤ 3) {T : List Tm} (hT : ∀ t ∈ T, TmOk n t) (hl12 : T.length ≤ 12) {l : List Ent} (h : CfOk T l) (d : Int) :
    iter (guess_Zeros_b164 (n : Int) d 400) 400 ((0 : Int), some l, dgs 7 n 0) = some (((cnt T n (7 ^ n) : Nat) : Int), d, (0 : Int)) := by
  have hp := pow7 hn.2
  have hstep : ∀ j : Nat, j < 7 ^ n → guess_Zeros_b164 (n : Int) d 400 (((cnt T n j : Nat) : Int), some l, dgs 7 n j) =
      if j + 1 = 7 ^ n then some (.done (((cnt T n (j + 1) : Nat) : Int), d, (0 : Int))) else some (.next (((cnt T n (j + 1) : Nat) : Int), some l, dgs 7 n (j + 1))) := by
    intro j hj
    obtain ⟨v, hv1, hv2⟩ := val_p hn hT hl12 h (dgs_pok n j) (((cnt T n j : Nat) : Int), some l, dgs 7 n j) rfl
    have hod := odo_dgs n j hj
    obtain ⟨i, z, h1, h2, h3⟩ := od_iter hn.2 (dgs 7 n j) [] 400 (by rw [dgs_len]; omega) (by simp) (dgs_pok n j).2
    have h1' : iter (guess_Zeros_b160 (n : Int)) 400 ((0 : Int), dgs 7 n j) = some ((i : Int), z) := h1
    unfold guess_Zeros_b164
    simp only
    rw [bind_some', hv1, bind_some', hv2, cnt_int T n j (by omega), bind_some', h1', bind_some']
    by_cases he : j + 1 = 7 ^ n
    · rw [if_pos he] at hod ⊢
      rw [show ((i : Int) == (n : Int)) = true by rw [h2 hod]; exact beq_self_eq_true _]; rfl
    · rw [if_neg he] at hod ⊢
      obtain ⟨a, b, c, e, f⟩ := h3 _ hod
      simp only
      rw [show ((i : Int) == (n : Int)) = false from beq_eq_false_iff_ne.2 (by omega), cond_false, idx_nat' b, bind_some', w64_id (by omega) (by omega), Int.toNat_natCast, f]; rfl
  have := iter_seq (f := guess_Zeros_b164 (n : Int) d 400) (s := fun j => (((cnt T n j : Nat) : Int), some l, dgs 7 n j)) (n := 7 ^ n - 1) (y := (((cnt T n (7 ^ n) : Nat) : Int), d, (0 : Int)))
    (fun j hj => by rw [hstep j (by omega), if_neg (by omega)])
    (by rw [hstep _ (by omega), if_pos (by omega), show 7 ^ n - 1 + 1 = 7 ^ n by omega]) (7 ^ n - 1) 0 400 (by omega) (by omega)
  exact this
theorem loop_r {n : Nat} (hn : 1 ≤ n ∧ n ≤ 3) {T : List Tm} (hT : ∀ t ∈ T, TmOk n t) (hl12 : T.length ≤ 12) : iter (law_GuessZeros_b4 (n : Int) T) 400 ((0 : Int), (0 : Int)) = some ((cnt T n (7 ^ n) : Nat) : Int) := by
  have hp := pow7 hn.2
  have hpw := power_eq (x := 7) (n := n) (by omega) (by omega) (by decide)
  have := iter_seq (f := law_GuessZeros_b4 (n : Int) T) (s := fun j => (((cnt T n j : Nat) : Int), ((j : Nat) : Int))) (n := 7 ^ n) (y := ((cnt T n (7 ^ n) : Nat) : Int))
    (fun j hj => by
      have hd := dice_eq (b := 7) (n := n) (d := j) (by decide) (by omega) (by omega)
      obtain ⟨v, hv1, hv2⟩ := val_r hn hT hl12 (dgs_pok n j)
      unfold law_GuessZeros_b4
      simp only
      rw [show ref_Power 7 (n : Int) = some ((7 ^ n : Nat) : Int) from hpw, bind_some', show decide ((j : Int) < ((7 ^ n : Nat) : Int)) = true from decide_eq_true (by omega), cond_true,
        show ref_Dice (n : Int) 7 (j : Int) = some (dgs 7 n j) from hd, bind_some', hv1, bind_some', hv2, cnt_int T n j (by omega), bind_some', w64_id (by omega) (by omega)]
      rfl)
    (by
      unfold law_GuessZeros_b4
      simp only
      rw [show ref_Power 7 (n : Int) = some ((7 ^ n : Nat) : Int) from hpw, bind_some', show decide (((7 ^ n : Nat) : Int) < ((7 ^ n : Nat) : Int)) = false from decide_eq_false (by omega)]; rfl)
    (7 ^ n) 0 400 (by omega) (by omega)
  exact this
def zlen (a0 : Int) (t : Tm) : Bool := (List.length t.2 : Int) != a0
def zbad (t : Tm) : Bool := !decide (0 ≤ t.1 ∧ t.1 < 7) || t.2.any fun v => !decide (0 ≤ v ∧ v ≤ 8)
def zAll (a0 : Int) (T : List Tm) : Int := if (1 ≤ a0 ∧ a0 ≤ 3) ∧ T.length ≤ 12 then (bif T.any (zlen a0) then 3 else bif T.any zbad then 4 else 0) else 1
theorem z_len (a0 : Int) (T : List Tm) : slices_ContainsFunc_LapiTermapiTerm_with_guess_Zeros_1 T a0 = some (T.any (zlen a0)) := by
  unfold slices_ContainsFunc_LapiTermapiTerm_with_guess_Zeros_1 slices_IndexFunc_LapiTermapiTerm_with_guess_Zeros_1
  rcases forL_at (body := slices_IndexFunc_LapiTermapiTerm_with_guess_Zeros_1_b1 a0) (fin := fun _ => (Esc.brk () : Esc Int Unit)) (p := zlen a0) (g := fun j => Esc.ret j) (l := T)
    (fun i a _ => by unfold slices_IndexFunc_LapiTermapiTerm_with_guess_Zeros_1_b1 guess_Zeros_1 zlen; cases ((List.length a.2 : Int) != a0) <;> rfl) (i := 0) with ⟨h1, h2⟩ | ⟨h1, j, h2, h3, h4⟩
  · rw [h2, h1]; rfl
  · rw [h4, h1]; simp [h2]
theorem z_exp (e : List Int) : slices_ContainsFunc_Lintint_with_guess_Zeros_2 e = some (e.any fun v => !decide (0 ≤ v ∧ v ≤ 8)) := by
  unfold slices_ContainsFunc_Lintint_with_guess_Zeros_2 slices_IndexFunc_Lintint_with_guess_Zeros_2
  rcases forL_at (body := slices_IndexFunc_Lintint_with_guess_Zeros_2_b1) (fin := fun _ => (Esc.brk () : Esc Int Unit)) (p := fun v => !decide (0 ≤ v ∧ v ≤ 8)) (g := fun j => Esc.ret j) (l := e)
    (fun i a _ => by
      unfold slices_IndexFunc_Lintint_with_guess_Zeros_2_b1 guess_Zeros_2
      have : (decide (a < (0 : Int)) || decide (a > (8 : Int))) = !decide (0 ≤ a ∧ a ≤ 8) := by
        by_cases h : 0 ≤ a ∧ a ≤ 8
        · rw [decide_eq_true h, decide_eq_false (by omega), decide_eq_false (by omega)]; rfl
        · rw [decide_eq_false h]
          simp only [Bool.not_false, Bool.or_eq_true, decide_eq_true_eq]; omega
      rw [this]
      cases !decide (0 ≤ a ∧ a ≤ 8) <;> rfl) (i := 0) with ⟨h1, h2⟩ | ⟨h1, j, h2, h3, h4⟩
  · rw [h2, h1]; rfl
  · rw [h4, h1]; simp [h2]
theorem z_bad (t : Tm) : guess_Zeros_g5 t = some (zbad t) := by
  unfold guess_Zeros_g5 zbad
  rw [z_exp]
  by_cases h : t.1 < 0
  · rw [decide_eq_true h, show decide (0 ≤ t.1 ∧ t.1 < 7) = false from decide_eq_false (by omega)]; rfl
  · rw [decide_eq_false h]
    by_cases h2 : t.1 ≥ 7
    · rw [decide_eq_true h2, show decide (0 ≤ t.1 ∧ t.1 < 7) = false from decide_eq_false (by omega)]; rfl
    · rw [decide_eq_false h2, show decide (0 ≤ t.1 ∧ t.1 < 7) = true from decide_eq_true (by omega)]; rfl
theorem z_ref (a0 : Int) (T : List Tm) : ref_PolyCheck a0 T = some (zAll a0 T) := by
  unfold ref_PolyCheck zAll
  rw [within_eq, bind_some', forL_ex (p := zlen a0) (y := Esc.ret 3) (fun i a _ => by unfold ref_PolyCheck_b1 zlen; cases ((List.length a.2 : Int) != a0) <;> rfl),
    forL_ex (p := zbad) (y := Esc.ret 4) (fun i a _ => by
      unfold ref_PolyCheck_b15 zbad
      rw [inside1, bind_some', forL_ex (p := fun v => !decide (0 ≤ v ∧ v ≤ 8)) (y := Esc.ret 4) (fun i a _ => by
        unfold ref_PolyCheck_b11
        rw [within_eq, bind_some']
        cases !decide (0 ≤ a ∧ a ≤ 8) <;> rfl), bind_some']
      cases decide (0 ≤ a.1 ∧ a.1 < 7) <;> cases (a.2.any fun v => !decide (0 ≤ v ∧ v ≤ 8)) <;> rfl)]
  by_cases h : (1 ≤ a0 ∧ a0 ≤ 3) ∧ T.length ≤ 12
  · rw [if_pos h, decide_eq_true h.1, show decide ((List.length T : Int) > 12) = false from decide_eq_false (by omega)]
    cases T.any (zlen a0) <;> cases T.any zbad <;> rfl
  · rw [if_neg h]
    have : ((!decide (1 ≤ a0 ∧ a0 ≤ 3)) || decide ((List.length T : Int) > 12)) = true := by
      by_cases h1 : 1 ≤ a0 ∧ a0 ≤ 3
      · rw [decide_eq_true h1, decide_eq_true (by omega)]; rfl
      · rw [decide_eq_false h1]; rfl
    rw [this]; rfl
theorem z_code (a0 : Int) (T : List Tm) (fuel : Nat) (h : zAll a0 T ≠ 0) : guess_Zeros fuel a0 T = some (0, 0, zAll a0 T) := by
  unfold guess_Zeros
  rw [z_len]
  unfold zAll at h ⊢
  by_cases h1 : (1 ≤ a0 ∧ a0 ≤ 3) ∧ T.length ≤ 12
  · rw [if_pos h1] at h ⊢
    have : ((decide (a0 < (1 : Int)) || decide (a0 > (3 : Int))) || decide ((List.length T : Int) > (12 : Int))) = false := by
      simp only [Bool.or_eq_false_iff, decide_eq_false_iff_not]; omega
    rw [this, cond_false, bind_some']
    cases h2 : T.any (zlen a0) with
    | true => rfl
    | false =>
      rw [h2] at h
      rw [cond_false, forL_ex (p := zbad) (y := Esc.ret ((0 : Int), (0 : Int), (4 : Int))) (fun i a _ => by unfold guess_Zeros_b7; rw [z_bad, bind_some']; cases zbad a <;> rfl)]
      cases h3 : T.any zbad with
      | true => rfl
      | false => rw [h3] at h; exact (h rfl).elim
  · rw [if_neg h1]
    have : ((decide (a0 < (1 : Int)) || decide (a0 > (3 : Int))) || decide ((List.length T : Int) > (12 : Int))) = true := by
      simp only [Bool.or_eq_true, decide_eq_true_eq]; omega
    rw [this]; rfl
theorem z_ok {a0 : Int} {T : List Tm} (h : zAll a0 T = 0) : ∃ n : Nat, a0 = (n : Int) ∧ (1 ≤ n ∧ n ≤ 3) ∧ T.length ≤ 12 ∧ T.any (zlen a0) = false ∧ T.any zbad = false ∧ ∀ t ∈ T, TmOk n t := by
  unfold zAll at h
  split at h
  · rename_i h1
    obtain ⟨n, rfl⟩ := Int.eq_ofNat_of_zero_le (a := a0) (by omega)
    cases h2 : T.any (zlen (n : Int)) with
    | true => rw [h2] at h; cases h
    | false =>
      cases h3 : T.any zbad with
      | true => rw [h2, h3] at h; cases h
      | false =>
        refine ⟨n, rfl, by omega, h1.2, rfl, rfl, fun t ht => ?_⟩
        have a := List.any_eq_false.1 h2 t ht
        have b := List.any_eq_false.1 h3 t ht
        unfold zlen at a
        unfold zbad at b
        simp only [bne_iff_ne, ne_eq, Decidable.not_not] at a
        simp only [Bool.or_eq_true, not_or, Bool.not_eq_true', decide_eq_false_iff_not, Decidable.not_not, Bool.not_eq_true] at b
        refine ⟨b.1, by omega, fun v hv => ?_⟩
        have := List.any_eq_false.1 b.2 v hv
        simpa using this
  · cases h
theorem GuessZeros_true (a0 : Int) (a1 : List (Int × List Int)) (f0 : Fits (.int .i64) a0) (f1 : Fits (.slice (.pair (.int .i64) (.slice (.int .i64)))) a1) : ∃ fuel, law_GuessZeros fuel a0 a1 = some true := by
  refine ⟨400, ?_⟩
  unfold law_GuessZeros
  rw [z_ref]
  by_cases h : zAll a0 a1 = 0
  · obtain ⟨n, rfl, hn, hl, h2, h3, hT⟩ := z_ok h
    obtain ⟨l, hf, hc⟩ := cf_all hn hT
    have hz : guess_Zeros 400 (n : Int) a1 = some (((cnt a1 n (7 ^ n) : Nat) : Int), fmax (fun p : Ent => p.2 != 0) (fun p => ksum p.1) l (-1), 0) := by
      unfold guess_Zeros
      rw [z_len]
      have : ((decide ((n : Int) < (1 : Int)) || decide ((n : Int) > (3 : Int))) || decide ((List.length a1 : Int) > (12 : Int))) = false := by
        simp only [Bool.or_eq_false_iff, decide_eq_false_iff_not]; omega
      have hck : ck (0 ≤ (n : Int) ∧ (n : Int) = (n : Int) ∧ (n : Int) ≤ 4294967296) = some () := ck_ok (by omega)
      rw [this, cond_false, bind_some', h2, cond_false, forL_ex (p := zbad) (y := Esc.ret ((0 : Int), (0 : Int), (4 : Int))) (fun i a _ => by unfold guess_Zeros_b7; rw [z_bad, bind_some']; cases zbad a <;> rfl),
        h3, cond_false, bind_some']
      dsimp only
      rw [hf, bind_some', bind_some', deg_p hn hT hc, bind_some', hck, bind_some', Int.toNat_natCast, ← dgs_zero 7 n, loop_p hn hT hl hc, bind_some']
    rw [hz, bind_some', bind_some', h, show ((0 : Int) != 0) = false from rfl, cond_false, loop_r hn hT hl, bind_some']
    simp only
    rw [show ((0 : Int) == 0) = true from rfl, Bool.true_and, beq_self_eq_true, cond_true, deg_r hn hT hl 398, bind_some', deg_eq hn hT hc, beq_self_eq_true]; rfl
  · rw [z_code a0 a1 400 h, bind_some', bind_some', bif_t (by simp [h])]
    simp

end Go.Proofs.Ytbicjcdenfcojaa.guessZeros
namespace Go.Proofs.Ytbicjcdenfcojaa.guessZeros
open Go.ChangeShapes Go.WideShapes Go.ChangeAt Go.RowKit
open Go.ChangeMaps (open_string shut_string)
theorem own : ownKnob Try.prog.godebug = none := by kernel_rfl
theorem laidOut : laidOutB Try.prog = true := by kernel_rfl
theorem lifted (os : Os) (started : os.Started) (H : Type) (enc : TypeId × Value → H) :
    ReturnsInHanded {} Try.checked os 6 .any (Rows.guessZerosSpec.pre6 enc Try.prog Try.f6 Rows.guessZerosRow.domain false) (Rows.guessZerosSpec.post enc Try.prog Try.f6 false true false false) := by
  refine returnsInHanded_of_change (C := Try.checked) own started (by kernel_rfl) Try.func6
    (ChangeSpec.witness6 (enc := enc) (C := Try.checked) false ⟨#[], #[.int .i64 0, .slice none 0 0], []⟩ 8 (by kernel_rfl) (by kernel_rfl) (by kernel_rfl) (by kernel_rfl)) ?_
  intro W base args ds gs before hval0 hW hcnd _
  have hval : ∀ (j : Nat) t v, Try.f6.params[j]? = some t → args[j]? = some v → Value.okWide Try.prog W .any base t v := hval0
  have hW' := hW
  obtain ⟨p, q, hA0, hV, rfl, hfz, hnd⟩ := hW
  have hA : DataW.TrodAll enc Try.prog W 0 (fun _ => true) true Try.f6.params.toList args.toList ds p := hA0
  rw [Try.params6] at hA hval
  obtain ⟨v0, vs0, d0, ds0, p0, q0, hargs, rfl, rfl, h0, r0⟩ := trodAll_cons hA
  obtain ⟨v1, vs1, d1, ds1, p1, q1, rfl, rfl, rfl, h1, r1⟩ := trodAll_cons r0
  obtain ⟨rfl, rfl, rfl⟩ := trodAll_nil r1
  obtain rfl : args = #[v0, v1] := by cases args; simp_all
  obtain ⟨rfl, rfl⟩ := trodVars_none hV
  obtain ⟨x0, f0, k0⟩ := Go.Sl.read_arg (u := (.int .i64)) (by kernel_rfl) (by kernel_rfl) (hval 0 3 v0 rfl rfl) h0
  have lt0 : ∀ x ∈ p0, x.block < W.heap.size := by obtain ⟨m, hm⟩ := h0; exact DataW.trod_lt m _ _ _ hm
  obtain ⟨x1, f1, k1⟩ := Go.Sl.read_arg (u := (.slice (.pair (.int .i64) (.slice (.int .i64))))) (by kernel_rfl) (by kernel_rfl) (hval 1 42 v1 rfl rfl) h1
  have lt1 : ∀ x ∈ p1, x.block < W.heap.size := by obtain ⟨m, hm⟩ := h1; exact DataW.trod_lt m _ _ _ hm
  clear hA0 hval0
  obtain ⟨fuel, hm⟩ := GuessZeros_true x0 x1 f0 f1
  refine (Go.Sl.law_of (vs := [v0, v1]) (law_GuessZeros_ok hm) rfl (.cons (k0 _ _) (.cons (k1 _ _) .nil))).mono fun e W' ⟨he, bel⟩ => ?_
  subst he
  exact ⟨_, rfl, _, _, _, [], _, [], hW', trodAll_mk1 (shut_bool Try.underlying4 _), (trodAll_cons_mk (Below.trod laidOut (by kernel_rfl) (of_decide_eq_true (by kernel_rfl)) h0 bel lt0) (trodAll_cons_mk (Below.trod laidOut (by kernel_rfl) (of_decide_eq_true (by kernel_rfl)) h1 bel lt1) trodAll_mk0)), rfl, bel.frame _, fun h => by cases h⟩
theorem proved : Rows.GuessZerosSaid :=
  OpenClaim.holds_of_wide 6 Try.f6 rfl rfl rfl rfl rfl rfl rfl ⟨rfl, rfl, rfl, rfl, rfl⟩ rfl rfl rfl rfl rfl (by kernel_rfl) Try.func6 (by kernel_rfl)
    (of_decide_eq_true (by kernel_rfl)) (by unfold Func.isWrapper; first | (rw [if_pos (by decide +kernel)]; kernel_rfl) | (rw [if_neg (by decide +kernel)]; exact ⟨rfl, rfl⟩))
    (fun os started H enc _ => lifted os started H enc)
#print axioms proved
end Go.Proofs.Ytbicjcdenfcojaa.guessZeros
