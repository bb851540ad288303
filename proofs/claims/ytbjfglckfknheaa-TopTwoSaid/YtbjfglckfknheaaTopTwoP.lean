/- For any orders of one counter and a small count: the counter machine and its two-counter machine end alike, TopTwo returns true and changes nothing; no conditions. -/
import Derived.Test.YtbjfglckfknheaaRows
import Derived.WalkKit
import Derived.ProofKit
import Derived.OpenShut
import Derived.ShutString
import Derived.ChangeOld
import Derived.Below
import Derived.Test.YtbjfglckfknheaaTopTwoM2
set_option linter.all false
set_option maxRecDepth 100000
namespace Go.Proofs.Ytbjfglckfknheaa.topTwo
open Go Go.Sl

abbrev Od : Type := Int × Int × Int × Int
abbrev Ps : Type := Nat × Nat × Nat
/-- one step of a machine with two counters -/
def go (F : List Od) (s : Ps) : Option Ps :=
  match F[s.1]? with
  | none => none
  | some o =>
    if o.1 = 1 then (if o.2.1 = 0 then some (o.2.2.1.toNat, s.2.1 + 1, s.2.2) else some (o.2.2.1.toNat, s.2.1, s.2.2 + 1))
    else if o.2.1 = 0 then (if s.2.1 = 0 then some (o.2.2.2.toNat, s.2) else some (o.2.2.1.toNat, s.2.1 - 1, s.2.2))
    else (if s.2.2 = 0 then some (o.2.2.2.toNat, s.2) else some (o.2.2.1.toNat, s.2.1, s.2.2 - 1))
/-- steps, none of which ends where the run is to stop -/
def Runs (F : List Od) (stop : Ps → Prop) : Nat → Ps → Ps → Prop
  | 0, s, s' => s = s'
  | n + 1, s, s' => ∃ m, go F s = some m ∧ ¬ stop m ∧ Runs F stop n m s'
theorem Runs.trans {F : List Od} {stop : Ps → Prop} : ∀ {n m : Nat} {a b c : Ps}, Runs F stop n a b → Runs F stop m b c → Runs F stop (n + m) a c
  | 0, m, a, b, c, h, h' => by
    obtain rfl : a = b := h
    rw [Nat.zero_add]; exact h'
  | n + 1, m, a, b, c, ⟨x, h1, h2, h3⟩, h' => by
    rw [show n + 1 + m = n + m + 1 by omega]
    exact ⟨x, h1, h2, Runs.trans h3 h'⟩
theorem go_inc0 {F : List Od} {p c0 c1 : Nat} {a b : Int} (h : F[p]? = some (1, 0, a, b)) : go F (p, c0, c1) = some (a.toNat, c0 + 1, c1) := by unfold go; rw [h]; rfl
theorem go_inc1 {F : List Od} {p c0 c1 : Nat} {a b : Int} (h : F[p]? = some (1, 1, a, b)) : go F (p, c0, c1) = some (a.toNat, c0, c1 + 1) := by unfold go; rw [h]; rfl
theorem go_dec0 {F : List Od} {p c0 c1 : Nat} {a b : Int} (h : F[p]? = some (2, 0, a, b)) : go F (p, c0 + 1, c1) = some (a.toNat, c0, c1) := by unfold go; rw [h]; rfl
theorem go_zero0 {F : List Od} {p c1 : Nat} {a b : Int} (h : F[p]? = some (2, 0, a, b)) : go F (p, 0, c1) = some (b.toNat, 0, c1) := by unfold go; rw [h]; rfl
theorem go_dec1 {F : List Od} {p c0 c1 : Nat} {a b : Int} (h : F[p]? = some (2, 1, a, b)) : go F (p, c0, c1 + 1) = some (a.toNat, c0, c1) := by unfold go; rw [h]; rfl
theorem go_zero1 {F : List Od} {p c0 : Nat} {a b : Int} (h : F[p]? = some (2, 1, a, b)) : go F (p, c0, 0) = some (b.toNat, c0, 0) := by unfold go; rw [h]; rfl
/-- a chain of steps up of the first counter, or of the second -/
theorem chain0 {F : List Od} {stop : Ps → Prop} {z : Nat} : ∀ (n a c0 c1 : Nat), (∀ i, i < n + 1 → ∃ b : Int, F[a + i]? = some (1, 0, ((if i = n then z else a + i + 1 : Nat) : Int), b)) → (∀ i c, a < i → i ≤ a + n → ¬ stop (i, c, c1)) → ¬ stop (z, c0 + n + 1, c1) → Runs F stop (n + 1) (a, c0, c1) (z, c0 + n + 1, c1)
  | 0, a, c0, c1, h, _, h2 => by
    obtain ⟨b, hb⟩ := h 0 (by omega)
    exact ⟨_, go_inc0 hb, by simpa using h2, by simp [Runs]⟩
  | n + 1, a, c0, c1, h, h1, h2 => by
    obtain ⟨b, hb⟩ := h 0 (by omega)
    rw [if_neg (by omega)] at hb
    have ih := chain0 n (a + 1) (c0 + 1) c1 (fun i hi => by
      obtain ⟨b, hb⟩ := h (i + 1) (by omega)
      refine ⟨b, ?_⟩
      rw [show a + 1 + i = a + (i + 1) by omega, hb]
      by_cases e : i = n
      · rw [if_pos (by omega), if_pos e]
      · rw [if_neg (by omega), if_neg e]) (fun i c hi hi2 => h1 i c (by omega) (by omega)) (by rw [show c0 + 1 + n + 1 = c0 + (n + 1) + 1 by omega]; exact h2)
    rw [show c0 + 1 + n + 1 = c0 + (n + 1) + 1 by omega] at ih
    exact ⟨_, go_inc0 hb, by rw [Int.toNat_natCast]; exact h1 _ _ (by omega) (by omega), by rw [Int.toNat_natCast]; exact ih⟩
theorem chain1 {F : List Od} {stop : Ps → Prop} {z : Nat} : ∀ (n a c0 c1 : Nat), (∀ i, i < n + 1 → ∃ b : Int, F[a + i]? = some (1, 1, ((if i = n then z else a + i + 1 : Nat) : Int), b)) → (∀ s : Ps, 0 < s.2.2 → ¬ stop s) → Runs F stop (n + 1) (a, c0, c1) (z, c0, c1 + n + 1)
  | 0, a, c0, c1, h, h2 => by
    obtain ⟨b, hb⟩ := h 0 (by omega)
    exact ⟨_, go_inc1 hb, h2 _ (by simp), by simp [Runs]⟩
  | n + 1, a, c0, c1, h, h2 => by
    obtain ⟨b, hb⟩ := h 0 (by omega)
    rw [if_neg (by omega)] at hb
    have ih := chain1 n (a + 1) c0 (c1 + 1) (fun i hi => by
      obtain ⟨b, hb⟩ := h (i + 1) (by omega)
      refine ⟨b, ?_⟩
      rw [show a + 1 + i = a + (i + 1) by omega, hb]
      by_cases e : i = n
      · rw [if_pos (by omega), if_pos e]
      · rw [if_neg (by omega), if_neg e]) h2
    rw [show c1 + 1 + n + 1 = c1 + (n + 1) + 1 by omega] at ih
    exact ⟨_, go_inc1 hb, h2 _ (by simp), by rw [Int.toNat_natCast]; exact ih⟩
/-- the second counter back into the first -/
theorem back_run {F : List Od} {stop : Ps → Prop} {B : Nat} {X y : Int} (h0 : F[B]? = some (2, 1, ((B + 1 : Nat) : Int), X)) (h1 : F[B + 1]? = some (1, 0, (B : Int), y)) (hs : ∀ c c', ¬ stop (B, c, c')) (hs1 : ∀ c c', ¬ stop (B + 1, c, c')) :
    ∀ c1 c0, Runs F stop (2 * c1) (B, c0, c1) (B, c0 + c1, 0)
  | 0, c0 => rfl
  | c1 + 1, c0 => by
    have ih := back_run h0 h1 hs hs1 c1 (c0 + 1)
    rw [show 2 * (c1 + 1) = 2 * c1 + 1 + 1 by omega]
    refine ⟨_, go_dec1 h0, by rw [Int.toNat_natCast]; exact hs1 _ _, _, by rw [Int.toNat_natCast]; exact go_inc0 h1, by rw [Int.toNat_natCast]; exact hs _ _, ?_⟩
    rw [Int.toNat_natCast, show c0 + (c1 + 1) = c0 + 1 + c1 by omega]; exact ih
/-- times p: the second counter takes p for each of the first -/
theorem more_run {F : List Od} {stop : Ps → Prop} {a q : Nat} {B : Int} (h0 : F[a]? = some (2, 0, ((a + 1 : Nat) : Int), B)) (h1 : ∀ i, i < q + 1 → ∃ b : Int, F[a + 1 + i]? = some (1, 1, ((if i = q then a else a + 1 + i + 1 : Nat) : Int), b)) (hs : ∀ s : Ps, 0 < s.2.2 → ¬ stop s) (hs1 : ∀ c c', ¬ stop (a + 1, c, c')) :
    ∀ c0 c1, Runs F stop (c0 * (q + 2)) (a, c0, c1) (a, 0, c1 + c0 * (q + 1))
  | 0, c1 => by rw [Nat.zero_mul, Nat.zero_mul]; rfl
  | c0 + 1, c1 => by
    have ih := more_run h0 h1 hs hs1 c0 (c1 + (q + 1))
    have hc := chain1 (F := F) (stop := stop) (z := a) q (a + 1) c0 c1 h1 hs
    have e : (c0 + 1) * (q + 2) = (q + 1) + c0 * (q + 2) + 1 := by rw [Nat.add_mul]; omega
    rw [e]
    refine ⟨_, go_dec0 h0, by rw [Int.toNat_natCast]; exact hs1 _ _, ?_⟩
    rw [Int.toNat_natCast]
    have := Runs.trans hc ih
    rw [show c1 + (c0 + 1) * (q + 1) = c1 + (q + 1) + c0 * (q + 1) by rw [Nat.add_mul]; omega]
    exact this
/-- p for each of the second counter, back into the first -/
theorem rest_run {F : List Od} {stop : Ps → Prop} {D q : Nat} {Y : Int} (h0 : F[D]? = some (2, 1, ((D + 1 : Nat) : Int), Y)) (h1 : ∀ i, i < q + 1 → ∃ b : Int, F[D + 1 + i]? = some (1, 0, ((if i = q then D else D + 1 + i + 1 : Nat) : Int), b)) (hs : ∀ i c c', D ≤ i → i ≤ D + 1 + q → ¬ stop (i, c, c')) :
    ∀ c1 c0, Runs F stop (c1 * (q + 2)) (D, c0, c1) (D, c0 + c1 * (q + 1), 0)
  | 0, c0 => by rw [Nat.zero_mul, Nat.zero_mul]; rfl
  | c1 + 1, c0 => by
    have ih := rest_run h0 h1 hs c1 (c0 + (q + 1))
    have hc := chain0 (F := F) (stop := stop) (z := D) q (D + 1) c0 c1 h1 (fun i c h2 h3 => hs i _ _ (by omega) (by omega)) (hs D _ _ (by omega) (by omega))
    have e : (c1 + 1) * (q + 2) = (q + 1) + c1 * (q + 2) + 1 := by rw [Nat.add_mul]; omega
    rw [e]
    refine ⟨_, go_dec1 h0, by rw [Int.toNat_natCast]; exact hs _ _ _ (by omega) (by omega), ?_⟩
    rw [Int.toNat_natCast]
    have := Runs.trans hc ih
    rw [show c0 + (c1 + 1) * (q + 1) = c0 + (q + 1) + c1 * (q + 1) by rw [Nat.add_mul]; omega]
    exact this
/-- some taken off the first counter, step by step -/
theorem take_run {F : List Od} {stop : Ps → Prop} {a p : Nat} (h0 : ∀ i, i < p → ∃ b : Int, F[a + i]? = some (2, 0, ((a + i + 1 : Nat) : Int), b)) (hs : ∀ i c c', a < i → i ≤ a + p → ¬ stop (i, c, c')) :
    ∀ n j c0 c1, j + n ≤ p → Runs F stop n (a + j, c0 + n, c1) (a + j + n, c0, c1)
  | 0, j, c0, c1, _ => rfl
  | n + 1, j, c0, c1, h => by
    obtain ⟨b, hb⟩ := h0 j (by omega)
    have ih := take_run h0 hs n (j + 1) c0 c1 (by omega)
    refine ⟨_, go_dec0 (c0 := c0 + n) hb, by rw [Int.toNat_natCast]; exact hs _ _ _ (by omega) (by omega), ?_⟩
    rw [Int.toNat_natCast]
    have e : a + (j + 1) + n = a + j + (n + 1) := by omega
    rw [e] at ih
    exact ih
/-- p by p off the first counter -/
theorem less_run {F : List Od} {stop : Ps → Prop} {a q : Nat} {y : Int} (h0 : ∀ i, i < q + 1 → ∃ b : Int, F[a + i]? = some (2, 0, ((a + i + 1 : Nat) : Int), b)) (h1 : F[a + (q + 1)]? = some (1, 1, (a : Int), y)) (hs : ∀ i c c', a < i → i ≤ a + (q + 1) → ¬ stop (i, c, c')) (hs1 : ∀ s : Ps, 0 < s.2.2 → ¬ stop s) :
    ∀ k c0 c1, Runs F stop (k * (q + 2)) (a, c0 + k * (q + 1), c1) (a, c0, c1 + k)
  | 0, c0, c1 => by rw [Nat.zero_mul, Nat.zero_mul]; rfl
  | k + 1, c0, c1 => by
    have ih := less_run h0 h1 hs hs1 k c0 (c1 + 1)
    have ht := take_run h0 hs (q + 1) 0 (c0 + k * (q + 1)) c1 (by omega)
    have hstep : Runs F stop 1 (a + (q + 1), c0 + k * (q + 1), c1) (a, c0 + k * (q + 1), c1 + 1) := ⟨_, go_inc1 h1, hs1 _ (by simp), by rw [Int.toNat_natCast]; rfl⟩
    have e : (k + 1) * (q + 2) = (q + 1) + 1 + k * (q + 2) := by rw [Nat.add_mul]; omega
    have e2 : c0 + (k + 1) * (q + 1) = c0 + k * (q + 1) + (q + 1) := by rw [Nat.add_mul]; omega
    rw [e, e2, show c1 + (k + 1) = c1 + 1 + k by omega]
    have ht' : Runs F stop (q + 1) (a, c0 + k * (q + 1) + (q + 1), c1) (a + (q + 1), c0 + k * (q + 1), c1) := ht
    exact Runs.trans (Runs.trans ht' hstep) ih
/-- a block that multiplies, at a; out at X -/
structure MoreB (F : List Od) (a q X : Nat) : Prop where
  h0 : F[a]? = some (2, 0, ((a + 1 : Nat) : Int), ((a + q + 2 : Nat) : Int))
  h1 : ∀ i, i < q + 1 → ∃ b : Int, F[a + 1 + i]? = some (1, 1, ((if i = q then a else a + 1 + i + 1 : Nat) : Int), b)
  h2 : F[a + q + 2]? = some (2, 1, ((a + q + 2 + 1 : Nat) : Int), (X : Int))
  h3 : ∃ y : Int, F[a + q + 2 + 1]? = some (1, 0, ((a + q + 2 : Nat) : Int), y)
/-- a block that divides, at a; out at X, or at Y with nothing done; rests go by R -/
structure LessB (F : List Od) (a q X Y : Nat) (R : Nat → Nat) : Prop where
  h0 : F[a]? = some (2, 0, ((a + 1 : Nat) : Int), ((a + q + 2 : Nat) : Int))
  h1 : ∀ i, 0 < i → i < q + 1 → F[a + i]? = some (2, 0, ((a + i + 1 : Nat) : Int), ((R i : Nat) : Int))
  h2 : ∃ y : Int, F[a + (q + 1)]? = some (1, 1, (a : Int), y)
  h3 : F[a + q + 2]? = some (2, 1, ((a + q + 2 + 1 : Nat) : Int), (X : Int))
  h4 : ∃ y : Int, F[a + q + 2 + 1]? = some (1, 0, ((a + q + 2 : Nat) : Int), y)
  h5 : F[a + q + 4]? = some (2, 1, ((a + q + 4 + 1 : Nat) : Int), (Y : Int))
  h6 : ∀ i, i < q + 1 → ∃ b : Int, F[a + q + 4 + 1 + i]? = some (1, 0, ((if i = q then a + q + 4 else a + q + 4 + 1 + i + 1 : Nat) : Int), b)
  h7 : ∀ i, 0 < i → i < q + 1 → ∀ j, j < i → ∃ b : Int, F[R i + j]? = some (1, 0, ((if j + 1 = i then a + q + 4 else R i + j + 1 : Nat) : Int), b)
theorem more_all {F : List Od} {stop : Ps → Prop} {a q X : Nat} (h : MoreB F a q X) (hs : ∀ s : Ps, 0 < s.2.2 → ¬ stop s) (hi : ∀ i c c', a < i → i ≤ a + q + 3 → ¬ stop (i, c, c')) (c0 : Nat) :
    ∃ n s, Runs F stop n (a, c0, 0) s ∧ go F s = some (X, c0 * (q + 1), 0) ∧ n ≤ c0 * (q + 2) + 1 + 2 * (c0 * (q + 1)) := by
  obtain ⟨y, h3⟩ := h.h3
  have r1 := more_run h.h0 h.h1 hs (fun c c' => hi _ c c' (by omega) (by omega)) c0 0
  rw [Nat.zero_add] at r1
  have r2 : Runs F stop 1 (a, 0, c0 * (q + 1)) (a + q + 2, 0, c0 * (q + 1)) := ⟨_, go_zero0 h.h0, by rw [Int.toNat_natCast]; exact hi _ _ _ (by omega) (by omega), by rw [Int.toNat_natCast]; rfl⟩
  have r3 := back_run h.h2 h3 (fun c c' => hi _ c c' (by omega) (by omega)) (fun c c' => hi _ c c' (by omega) (by omega)) (c0 * (q + 1)) 0
  rw [Nat.zero_add] at r3
  exact ⟨_, _, Runs.trans (Runs.trans r1 r2) r3, by rw [go_zero1 h.h2, Int.toNat_natCast], Nat.le_refl _⟩
theorem less_yes {F : List Od} {stop : Ps → Prop} {a q X Y : Nat} {R : Nat → Nat} (h : LessB F a q X Y R) (hs : ∀ s : Ps, 0 < s.2.2 → ¬ stop s) (hi : ∀ i c c', a < i → i ≤ a + q + 3 → ¬ stop (i, c, c')) (k : Nat) :
    ∃ n s, Runs F stop n (a, k * (q + 1), 0) s ∧ go F s = some (X, k, 0) ∧ n ≤ k * (q + 2) + 1 + 2 * k := by
  obtain ⟨y2, h2⟩ := h.h2
  obtain ⟨y4, h4⟩ := h.h4
  have hd : ∀ i, i < q + 1 → ∃ b : Int, F[a + i]? = some (2, 0, ((a + i + 1 : Nat) : Int), b) := by
    intro i hi
    by_cases e : i = 0
    · subst e; exact ⟨_, h.h0⟩
    · exact ⟨_, h.h1 i (by omega) hi⟩
  have r1 := less_run hd h2 (fun i c c' g1 g2 => hi i c c' g1 (by omega)) hs k 0 0
  rw [Nat.zero_add, Nat.zero_add] at r1
  have r2 : Runs F stop 1 (a, 0, k) (a + q + 2, 0, k) := ⟨_, go_zero0 h.h0, by rw [Int.toNat_natCast]; exact hi _ _ _ (by omega) (by omega), by rw [Int.toNat_natCast]; rfl⟩
  have r3 := back_run h.h3 h4 (fun c c' => hi _ c c' (by omega) (by omega)) (fun c c' => hi _ c c' (by omega) (by omega)) k 0
  rw [Nat.zero_add] at r3
  exact ⟨_, _, Runs.trans (Runs.trans r1 r2) r3, by rw [go_zero1 h.h3, Int.toNat_natCast], Nat.le_refl _⟩
theorem less_no {F : List Od} {stop : Ps → Prop} {a q X Y : Nat} {R : Nat → Nat} (h : LessB F a q X Y R) (hs : ∀ s : Ps, 0 < s.2.2 → ¬ stop s) (hi : ∀ i c c', a < i → i ≤ a + q + 5 + q → ¬ stop (i, c, c')) (hR : ∀ i j c c', 0 < i → i < q + 1 → j < i → ¬ stop (R i + j, c, c')) {k m : Nat} (hm : 0 < m) (hmq : m < q + 1) :
    ∃ n s, Runs F stop n (a, m + k * (q + 1), 0) s ∧ go F s = some (Y, m + k * (q + 1), 0) ∧ n ≤ k * (q + 2) + m + 1 + m + k * (q + 2) := by
  obtain ⟨y2, h2⟩ := h.h2
  have hd : ∀ i, i < q + 1 → ∃ b : Int, F[a + i]? = some (2, 0, ((a + i + 1 : Nat) : Int), b) := by
    intro i hi
    by_cases e : i = 0
    · subst e; exact ⟨_, h.h0⟩
    · exact ⟨_, h.h1 i (by omega) hi⟩
  have r1 := less_run hd h2 (fun i c c' g1 g2 => hi i c c' g1 (by omega)) hs k m 0
  rw [Nat.zero_add] at r1
  have r2 := take_run (p := q + 1) hd (fun i c c' g1 g2 => hi i c c' g1 (by omega)) m 0 0 k (by omega)
  rw [Nat.zero_add, Nat.add_zero] at r2
  have r3 : Runs F stop 1 (a + m, 0, k) (R m, 0, k) := ⟨_, go_zero0 (h.h1 m hm hmq), by rw [Int.toNat_natCast]; exact hR m 0 _ _ hm hmq hm, by rw [Int.toNat_natCast]; rfl⟩
  obtain ⟨m', rfl⟩ : ∃ m', m = m' + 1 := ⟨m - 1, by omega⟩
  have r4 := chain0 (F := F) (stop := stop) (z := a + q + 4) m' (R (m' + 1)) 0 k (fun i hi => by
    obtain ⟨b, hb⟩ := h.h7 (m' + 1) hm hmq i hi
    refine ⟨b, ?_⟩
    rw [hb]
    by_cases e : i = m'
    · rw [if_pos (by omega), if_pos e]
    · rw [if_neg (by omega), if_neg e]) (fun i c g1 g2 => by
      have := hR (m' + 1) (i - R (m' + 1)) c k hm hmq (by omega)
      rwa [show R (m' + 1) + (i - R (m' + 1)) = i by omega] at this) (hi _ _ _ (by omega) (by omega))
  rw [Nat.zero_add] at r4
  have r5 := rest_run h.h5 h.h6 (fun i c c' g1 g2 => hi i c c' (by omega) (by omega)) k (m' + 1)
  exact ⟨_, _, Runs.trans (Runs.trans (Runs.trans (Runs.trans r1 r2) r3) r4) r5, by rw [go_zero1 h.h5, Int.toNat_natCast], by omega⟩

def oc (a0 n : Int) (v : Int × Int × Int × Int) : Option Int :=
  if v.1 ≠ 1 ∧ v.1 ≠ 2 then some 6 else if ¬ (0 ≤ v.2.1 ∧ v.2.1 < a0) then some 2
  else if ¬ (0 ≤ v.2.2.1 ∧ v.2.2.1 < n) ∨ v.1 = 2 ∧ ¬ (0 ≤ v.2.2.2 ∧ v.2.2.2 < n) then some 3 else none
theorem oc_inside (n v : Int) : ref_Inside n [v] = some (decide (0 ≤ v ∧ v < n)) := by
  unfold ref_Inside
  rw [forL_ex (p := fun v => decide (v < 0) || decide (v ≥ n)) (y := Esc.ret false) (fun i a _ => by unfold ref_Inside_b1; cases (decide (a < 0) || decide (a ≥ n)) <;> rfl)]
  by_cases h : 0 ≤ v ∧ v < n
  · have : (decide (v < 0) || decide (v ≥ n)) = false := by simp only [Bool.or_eq_false_iff, decide_eq_false_iff_not]; omega
    simp [this, h]
  · have : (decide (v < 0) || decide (v ≥ n)) = true := by simp only [Bool.or_eq_true, decide_eq_true_eq]; omega
    simp [this, h]
theorem oc_ref_body (a0 : Int) (l : List (Int × Int × Int × Int)) (h : l.length ≤ 1000000) (i : Int) (v : Int × Int × Int × Int) :
    ref_OrdersCheck_b10 a0 l i v () = some (said Esc.ret (oc a0 (l.length + 1) v)) := by
  have hw : w64 ((l.length : Int) + 1) = (l.length : Int) + 1 := w64_id (by omega) (by omega)
  unfold ref_OrdersCheck_b10 ref_OrdersCheck_g7 oc said
  rw [hw, oc_inside, oc_inside, oc_inside]
  by_cases h1 : v.1 = 1
  · by_cases h2 : 0 ≤ v.2.1 ∧ v.2.1 < a0 <;> by_cases h3 : 0 ≤ v.2.2.1 ∧ v.2.2.1 < (l.length : Int) + 1 <;> simp [h1, h2, h3]
  · by_cases h4 : v.1 = 2
    · by_cases h2 : 0 ≤ v.2.1 ∧ v.2.1 < a0 <;> by_cases h3 : 0 ≤ v.2.2.1 ∧ v.2.2.1 < (l.length : Int) + 1 <;> by_cases h5 : 0 ≤ v.2.2.2 ∧ v.2.2.2 < (l.length : Int) + 1 <;> simp [h2, h3, h4, h5]
    · simp [h1, h4, bne_dec]
theorem oc_ref (a0 : Int) (l : List (Int × Int × Int × Int)) (h : l.length ≤ 1000000) : ref_OrdersCheck a0 l = some ((l.findSome? (oc a0 (l.length + 1))).getD 0) := by
  unfold ref_OrdersCheck
  rw [forL_find (f := oc a0 (l.length + 1)) (g := Esc.ret) (fun i a _ => oc_ref_body a0 l h i a)]
  cases l.findSome? (oc a0 (l.length + 1)) <;> rfl
theorem oc_ok {a0 : Int} {l : List (Int × Int × Int × Int)} (h : (l.findSome? (oc a0 (l.length + 1))).getD 0 = 0) : ∀ v ∈ l, (v.1 = 1 ∨ v.1 = 2) ∧ (0 ≤ v.2.1 ∧ v.2.1 < a0) ∧ (0 ≤ v.2.2.1 ∧ v.2.2.1 ≤ l.length) ∧ (v.1 = 2 → 0 ≤ v.2.2.2 ∧ v.2.2.2 ≤ l.length) := by
  cases hf : l.findSome? (oc a0 (l.length + 1)) with
  | some e =>
    rw [hf] at h
    obtain ⟨v, _, hv⟩ := List.exists_of_findSome?_eq_some hf
    unfold oc at hv
    have he : e = 0 := h
    subst he
    repeat' split at hv
    all_goals simp at hv
  | none =>
    rw [List.findSome?_eq_none_iff] at hf
    intro v hv
    have := hf v hv
    unfold oc at this
    split at this
    · simp at this
    · split at this
      · simp at this
      · split at this
        · simp at this
        · rename_i h1 h2 h3
          refine ⟨by omega, by omega, by omega, fun h4 => by omega⟩
theorem oc_within (a b c : Int) : ref_Within a b c = some (decide (a ≤ b ∧ b ≤ c)) := by
  unfold ref_Within
  rw [Bool.decide_and]
theorem oc_count_body (a0 : Int) (l : List (Int × Int × Int × Int)) (h : l.length ≤ 12) : count_Check_b13 a0 l = ref_OrdersCheck_b10 a0 l := by
  funext i v x
  have hw : w64 ((l.length : Int) + 1) = (l.length : Int) + 1 := w64_id (by omega) (by omega)
  have ht : ∀ u : Int, count_Check_1 u l = some (decide (0 ≤ u ∧ u < (l.length : Int) + 1)) := by
    intro u
    unfold count_Check_1
    congr 1
    rw [← Bool.decide_and]
    exact decide_eq_decide.2 (by omega)
  unfold count_Check_b13 ref_OrdersCheck_b10 count_Check_g9 ref_OrdersCheck_g7
  rw [hw, oc_inside, oc_inside, oc_inside, ht, ht]
  have e : (bif decide (v.2.1 < (0 : Int)) then (some true) else (some (decide (v.2.1 ≥ a0)))) = some (!decide (0 ≤ v.2.1 ∧ v.2.1 < a0)) := by
    by_cases h1 : v.2.1 < 0
    · simp [h1]
    · by_cases h2 : v.2.1 < a0
      · simp [h1, h2, Int.not_lt.1 h1]
      · simp [h1, h2]; omega
  rw [e]
  rfl
def ocAll (a0 : Int) (l : List (Int × Int × Int × Int)) : Int :=
  if (1 ≤ a0 ∧ a0 ≤ 4) ∧ 1 ≤ (l.length : Int) ∧ (l.length : Int) ≤ 12 then (l.findSome? (oc a0 (l.length + 1))).getD 0 else 1
theorem oc_countcheck (a0 : Int) (l : List (Int × Int × Int × Int)) : ref_CountCheck a0 l = some (ocAll a0 l) := by
  unfold ref_CountCheck ref_CountCheck_g1 ocAll
  rw [oc_within, oc_within]
  by_cases h1 : 1 ≤ a0 ∧ a0 ≤ 4
  · by_cases h2 : 1 ≤ (l.length : Int) ∧ (l.length : Int) ≤ 12
    · rw [oc_ref a0 l (by omega), if_pos ⟨h1, h2⟩, decide_eq_true h1, decide_eq_true h2]; rfl
    · rw [if_neg (fun h => h2 h.2), decide_eq_true h1, decide_eq_false h2]; rfl
  · rw [if_neg (fun h => h1 h.1), decide_eq_false h1]; rfl
theorem oc_check (a0 : Int) (l : List (Int × Int × Int × Int)) : count_Check a0 l = some (ocAll a0 l) := by
  rw [← oc_countcheck]
  unfold count_Check
  by_cases h : (1 ≤ a0 ∧ a0 ≤ 4) ∧ 1 ≤ (l.length : Int) ∧ (l.length : Int) ≤ 12
  · have hb : ((((decide (a0 < (1 : Int))) || (decide (a0 > (4 : Int)))) || (decide ((List.length l : Int) < (1 : Int)))) || (decide ((List.length l : Int) > (12 : Int)))) = false := by
      simp only [Bool.or_eq_false_iff, decide_eq_false_iff_not]; omega
    rw [bif_f hb, oc_count_body a0 l (by omega), oc_countcheck]
    unfold ocAll
    rw [if_pos h, ← oc_ref a0 l (by omega)]
    rfl
  · have hb : ((((decide (a0 < (1 : Int))) || (decide (a0 > (4 : Int)))) || (decide ((List.length l : Int) < (1 : Int)))) || (decide ((List.length l : Int) > (12 : Int)))) = true := by
      simp only [Bool.or_eq_true, decide_eq_true_eq]; omega
    rw [bif_t hb, oc_countcheck]
    unfold ocAll
    rw [if_neg h]
theorem oc_valid {a0 : Int} {l : List (Int × Int × Int × Int)} (h : ocAll a0 l = 0) : ((1 ≤ a0 ∧ a0 ≤ 4) ∧ 1 ≤ (l.length : Int) ∧ (l.length : Int) ≤ 12) ∧
    ∀ v ∈ l, (v.1 = 1 ∨ v.1 = 2) ∧ (0 ≤ v.2.1 ∧ v.2.1 < a0) ∧ (0 ≤ v.2.2.1 ∧ v.2.2.1 ≤ l.length) ∧ (v.1 = 2 → 0 ≤ v.2.2.2 ∧ v.2.2.2 ≤ l.length) := by
  unfold ocAll at h
  split at h
  · rename_i hc
    exact ⟨hc, oc_ok h⟩
  · omega

def ord (k r : Int) (a b : Nat) : Od := (k, r, (a : Int), (b : Int))
def up (k r : Int) (a n : Nat) : List Od := (List.range n).map fun i => ord k r (a + i + 1) 0
theorem up_len (k r : Int) (a n : Nat) : (up k r a n).length = n := by simp [up]
theorem up_succ (k r : Int) (a n : Nat) : up k r a (n + 1) = up k r a n ++ [ord k r (a + n + 1) 0] := by simp [up, List.range_succ]
theorem put_eq (k r : Int) {L : List Od} (h : L.length < 1000000) : two_maker_put_i3 k r L = some ((L.length : Int), L ++ [ord k r (L.length + 1) 0]) := by
  have hck : ck ((List.length L : Int) + 1 ≤ 4294967296) = some () := ck_ok (by omega)
  have e1 : w64 ((List.length L : Int) + 1) = ((L.length + 1 : Nat) : Int) := by rw [w64_id (by omega) (by omega)]; omega
  unfold two_maker_put_i3
  rw [hck, bind_some', e1]
  have e2 : w64 ((List.length (L ++ [(k, r, ((L.length + 1 : Nat) : Int), (0 : Int))]) : Int) - 1) = (L.length : Int) := by
    rw [List.length_append, List.length_singleton, w64_id (by omega) (by omega)]; omega
  rw [e2]; rfl
theorem puts_eq {body : Int → List Od → Option (Flow (List Od) (List Od))} {k r : Int} (hb : ∀ i x, x.length < 1000000 → body i x = some (.next (x ++ [ord k r (x.length + 1) 0]))) {L : List Od} {n : Nat} (h : L.length + n < 1000000) : forI (0 : Int) (n : Int) body (fun x => x) L = some (L ++ up k r L.length n) := by
  obtain ⟨y, h1, rfl⟩ := forI_inv (body := body) (fin := fun x => x) (lo := 0) (hi := (n : Int)) (x := L) (fun i x => x = L ++ up k r L.length i.toNat) (fun y => y = L ++ up k r L.length n) (by omega) (by omega) (by simp [up])
    (by
      rintro i x h0 hi rfl
      obtain ⟨j, rfl⟩ := Int.eq_ofNat_of_zero_le h0
      rw [Int.toNat_natCast]
      have hl : (L ++ up k r L.length j).length = L.length + j := by rw [List.length_append, up_len]
      refine ⟨_, hb _ _ (by omega), ?_⟩
      have ht : ((j : Int) + 1).toNat = j + 1 := by omega
      simp only
      rw [ht, up_succ, hl, List.append_assoc])
    (by
      rintro i x h0 h1 h2 rfl
      have : i.toNat = n := by omega
      rw [this])
  exact h1
theorem mid_get {A B : List Od} {x : Od} {i : Int} (h : i = (A.length : Int)) : idx (A ++ x :: B) i = some x := by
  subst h
  unfold idx
  rw [if_pos (by omega), Int.toNat_natCast, List.getElem?_append_right (Nat.le_refl _)]; simp
theorem mid_set {A B : List Od} {x y : Od} {i : Int} (h : i = (A.length : Int)) : List.set (A ++ x :: B) (Int.toNat i) y = A ++ y :: B := by
  subst h
  rw [Int.toNat_natCast, List.set_append_right _ _ (Nat.le_refl _)]; simp
theorem back_eq {L : List Od} (h : L.length < 900000) : two_maker_back_i2 L = some ((L.length : Int), L ++ [ord 2 1 (L.length + 1) 0, ord 1 0 L.length 0]) := by
  unfold two_maker_back_i2
  rw [put_eq 2 1 (by omega), bind_some']
  simp only
  rw [put_eq 1 0 (by rw [List.length_append, List.length_singleton]; omega), bind_some']
  simp only
  have hm : idx (L ++ [ord 2 1 (L.length + 1) 0] ++ [ord 1 0 ((L ++ [ord 2 1 (L.length + 1) 0]).length + 1) 0]) ((L ++ [ord 2 1 (L.length + 1) 0]).length : Int) = some (ord 1 0 ((L ++ [ord 2 1 (L.length + 1) 0]).length + 1) 0) := mid_get rfl
  rw [hm, bind_some']
  have hs : List.set (L ++ [ord 2 1 (L.length + 1) 0] ++ [ord 1 0 ((L ++ [ord 2 1 (L.length + 1) 0]).length + 1) 0]) (Int.toNat ((L ++ [ord 2 1 (L.length + 1) 0]).length : Int)) (ord 1 0 L.length 0) = L ++ [ord 2 1 (L.length + 1) 0] ++ [ord 1 0 L.length 0] := mid_set rfl
  have e : ((1 : Int), (0 : Int), (L.length : Int), (0 : Int)) = ord 1 0 L.length 0 := rfl
  simp only [ord] at hs ⊢
  rw [hs]; simp
def moreL (a q : Nat) : List Od := ord 2 0 (a + 1) (a + q + 2) :: (up 1 1 (a + 1) q ++ [ord 1 1 a 0, ord 2 1 (a + q + 3) 0, ord 1 0 (a + q + 2) 0])
theorem more_eq {L : List Od} {q : Nat} (h : L.length + q < 800000) : two_maker_more_i3 ((q + 1 : Nat) : Int) L = some ([((L.length + q + 2 : Nat) : Int)], L ++ moreL L.length q) := by
  unfold two_maker_more_i3
  rw [put_eq 2 0 (by omega), bind_some']
  simp only
  have hl1 : (L ++ [ord 2 0 (L.length + 1) 0]).length = L.length + 1 := by simp
  rw [puts_eq (k := 1) (r := 1) (n := q + 1) (L := L ++ [ord 2 0 (L.length + 1) 0]) (fun i x hx => by unfold two_maker_more_i3_b1; rw [put_eq 1 1 hx]; rfl) (by omega), bind_some', hl1, up_succ]
  have hl2 : (L ++ [ord 2 0 (L.length + 1) 0] ++ (up 1 1 (L.length + 1) q ++ [ord 1 1 (L.length + 1 + q + 1) 0])).length = L.length + q + 2 := by simp [up_len]; omega
  rw [hl2]
  have hi : w64 (((L.length + q + 2 : Nat) : Int) - 1) = ((L.length + q + 1 : Nat) : Int) := by rw [w64_id (by omega) (by omega)]; omega
  rw [hi]
  have es : L ++ [ord 2 0 (L.length + 1) 0] ++ (up 1 1 (L.length + 1) q ++ [ord 1 1 (L.length + 1 + q + 1) 0]) = (L ++ ord 2 0 (L.length + 1) 0 :: up 1 1 (L.length + 1) q) ++ ord 1 1 (L.length + 1 + q + 1) 0 :: [] := by simp
  rw [es]
  have hlA : (L ++ ord 2 0 (L.length + 1) 0 :: up 1 1 (L.length + 1) q).length = L.length + q + 1 := by simp [up_len]; omega
  have hg : idx ((L ++ ord 2 0 (L.length + 1) 0 :: up 1 1 (L.length + 1) q) ++ ord 1 1 (L.length + 1 + q + 1) 0 :: []) ((L.length + q + 1 : Nat) : Int) = some (ord 1 1 (L.length + 1 + q + 1) 0) := mid_get (by rw [hlA])
  rw [hg, bind_some']
  have hs : ∀ y, List.set ((L ++ ord 2 0 (L.length + 1) 0 :: up 1 1 (L.length + 1) q) ++ ord 1 1 (L.length + 1 + q + 1) 0 :: []) (Int.toNat ((L.length + q + 1 : Nat) : Int)) y = (L ++ ord 2 0 (L.length + 1) 0 :: up 1 1 (L.length + 1) q) ++ y :: [] := fun y => mid_set (by rw [hlA])
  rw [hs]
  have es2 : ∀ y, (L ++ ord 2 0 (L.length + 1) 0 :: up 1 1 (L.length + 1) q) ++ y :: [] = L ++ ord 2 0 (L.length + 1) 0 :: (up 1 1 (L.length + 1) q ++ [y]) := fun y => by simp
  rw [es2]
  have hg2 : ∀ B, idx (L ++ ord 2 0 (L.length + 1) 0 :: B) (L.length : Int) = some (ord 2 0 (L.length + 1) 0) := fun B => mid_get rfl
  rw [hg2, bind_some']
  have hs2 : ∀ B y, List.set (L ++ ord 2 0 (L.length + 1) 0 :: B) (Int.toNat (L.length : Int)) y = L ++ y :: B := fun B y => mid_set rfl
  rw [hs2]
  have hl3 : ∀ x : Od, (L ++ ord 2 0 (L.length + 1) 0 :: (up 1 1 (L.length + 1) q ++ [x])).length = L.length + q + 2 := fun x => by simp [up_len]; omega
  have hl4 : ∀ x y : Od, (L ++ y :: (up 1 1 (L.length + 1) q ++ [x])).length = L.length + q + 2 := fun x y => by simp [up_len]; omega
  rw [hl3, back_eq (by rw [hl4]; omega), bind_some', hl4]
  simp [moreL, ord]
  omega
def RR (s : Nat) : Nat → Nat
  | 0 => s
  | i + 1 => RR s i + i
def headL (a q i : Nat) : List Od := (List.range (q + 1)).map fun j => ord 2 0 (a + j + 1) (if j = 0 then a + q + 2 else if j < i then RR (a + 2 * q + 6) j else 0)
def midL (a q : Nat) : List Od := [ord 1 1 a 0, ord 2 1 (a + q + 3) 0, ord 1 0 (a + q + 2) 0, ord 2 1 (a + q + 5) 0] ++ (up 1 0 (a + q + 5) q ++ [ord 1 0 (a + q + 4) 0])
def chainL (a q j : Nat) : List Od := up 1 0 (RR (a + 2 * q + 6) j) (j - 1) ++ [ord 1 0 (a + q + 4) 0]
def tailL (a q : Nat) : Nat → List Od
  | 0 => []
  | i + 1 => tailL a q i ++ (if i = 0 then [] else chainL a q i)
theorem head_len (a q i : Nat) : (headL a q i).length = q + 1 := by simp [headL]
theorem mid_len (a q : Nat) : (midL a q).length = q + 5 := by simp [midL, up_len]
theorem tail_len (a q : Nat) : ∀ i, a + 2 * q + 6 + (tailL a q i).length = RR (a + 2 * q + 6) i
  | 0 => by simp [tailL, RR]
  | i + 1 => by
    have ih := tail_len a q i
    unfold tailL RR
    by_cases e : i = 0
    · subst e; simp; exact ih
    · rw [if_neg e, List.length_append]
      have : (chainL a q i).length = i := by simp [chainL, up_len]; omega
      omega
theorem rr_le (s : Nat) : ∀ i, RR s i ≤ s + i * i
  | 0 => by simp [RR]
  | i + 1 => by
    have ih := rr_le s i
    have : (i + 1) * (i + 1) = i * i + i + i + 1 := by rw [Nat.add_mul, Nat.mul_add]; omega
    unfold RR; omega
theorem head_set (a q j : Nat) (hj : 0 < j) (hq : j < q + 1) : (headL a q j).set j (ord 2 0 (a + j + 1) (RR (a + 2 * q + 6) j)) = headL a q (j + 1) := by
  apply List.ext_getElem?
  intro k
  by_cases e : k = j
  · subst e
    rw [List.getElem?_set_self (by rw [head_len]; omega)]
    unfold headL
    rw [List.getElem?_map, List.getElem?_range hq]
    simp only [Option.map_some]
    rw [if_neg (by omega), if_pos (by omega)]
  · rw [List.getElem?_set_ne (fun h => e h.symm)]
    unfold headL
    rw [List.getElem?_map, List.getElem?_map]
    by_cases hk : k < q + 1
    · rw [List.getElem?_range hk]
      simp only [Option.map_some]
      by_cases h0 : k = 0
      · rw [if_pos h0, if_pos h0]
      · rw [if_neg h0, if_neg h0]
        by_cases h1 : k < j
        · rw [if_pos h1, if_pos (by omega)]
        · rw [if_neg h1, if_neg (by omega)]
    · rw [List.getElem?_eq_none (by simp; omega)]; rfl
theorem head_at (a q j : Nat) (hj : 0 < j) (hq : j < q + 1) : (headL a q j)[j]? = some (ord 2 0 (a + j + 1) 0) := by
  unfold headL
  rw [List.getElem?_map, List.getElem?_range hq]
  simp only [Option.map_some]
  rw [if_neg (by omega), if_neg (by omega)]
theorem less_step {L : List Od} {q : Nat} (h : L.length + q < 700000) (hq : q ≤ 6) {v18 : List Int × List Od} {r30 : Int × List Od} (hv : ∀ j, j < q + 1 → v18.1[j]? = some ((L.length + j : Nat) : Int)) (hr : r30.2.length = L.length + q + 4) {j : Nat} (hj : 0 < j) (hjq : j < q + 1) :
    two_maker_less_i2_b16 v18 r30 (j : Int) (L ++ (headL L.length q j ++ (midL L.length q ++ tailL L.length q j))) = some (.next (L ++ (headL L.length q (j + 1) ++ (midL L.length q ++ tailL L.length q (j + 1))))) := by
  have hlen : (L ++ (headL L.length q j ++ (midL L.length q ++ tailL L.length q j))).length = RR (L.length + 2 * q + 6) j := by
    have := tail_len L.length q j
    rw [List.length_append, List.length_append, List.length_append, head_len, mid_len]; omega
  have hrr := rr_le (L.length + 2 * q + 6) j
  have hjj : j * j ≤ 6 * 6 := Nat.mul_le_mul (by omega) (by omega)
  unfold two_maker_less_i2_b16
  have i1 : idx v18.1 (j : Int) = some ((L.length + j : Nat) : Int) := by
    have hvj := hv j hjq
    obtain ⟨y, g1, g2⟩ := idx_get (xs := v18.1) (i := (j : Int)) (by omega) (by have := (List.getElem?_eq_some_iff.1 hvj).1; omega)
    rw [Int.toNat_natCast, hvj] at g2
    rw [g1, ← g2]
  have hge : (L ++ (headL L.length q j ++ (midL L.length q ++ tailL L.length q j)))[L.length + j]? = some (ord 2 0 (L.length + j + 1) 0) := by
    rw [List.getElem?_append_right (by omega), show L.length + j - L.length = j by omega, List.getElem?_append_left (by rw [head_len]; omega)]
    exact head_at _ _ _ hj hjq
  have i2 : idx (L ++ (headL L.length q j ++ (midL L.length q ++ tailL L.length q j))) ((L.length + j : Nat) : Int) = some (ord 2 0 (L.length + j + 1) 0) := by
    obtain ⟨y, g1, g2⟩ := idx_get (xs := L ++ (headL L.length q j ++ (midL L.length q ++ tailL L.length q j))) (i := ((L.length + j : Nat) : Int)) (by omega) (by have := (List.getElem?_eq_some_iff.1 hge).1; omega)
    rw [Int.toNat_natCast, hge] at g2
    rw [g1, ← g2]
  rw [i1, bind_some', i2, bind_some', hlen]
  have hset : List.set (L ++ (headL L.length q j ++ (midL L.length q ++ tailL L.length q j))) (Int.toNat ((L.length + j : Nat) : Int)) (ord 2 0 (L.length + j + 1) (RR (L.length + 2 * q + 6) j)) = L ++ (headL L.length q (j + 1) ++ (midL L.length q ++ tailL L.length q j)) := by
    rw [Int.toNat_natCast, List.set_append_right _ _ (by omega), show L.length + j - L.length = j by omega, List.set_append_left _ _ (by rw [head_len]; omega), head_set _ _ _ hj hjq]
  have e0 : (((ord 2 0 (L.length + j + 1) 0).1, (ord 2 0 (L.length + j + 1) 0).2.1, (ord 2 0 (L.length + j + 1) 0).2.2.1, ((RR (L.length + 2 * q + 6) j : Nat) : Int)) : Od) = ord 2 0 (L.length + j + 1) (RR (L.length + 2 * q + 6) j) := rfl
  rw [e0, hset]
  have hlen2 : (L ++ (headL L.length q (j + 1) ++ (midL L.length q ++ tailL L.length q j))).length = RR (L.length + 2 * q + 6) j := by
    have := tail_len L.length q j
    rw [List.length_append, List.length_append, List.length_append, head_len, mid_len]; omega
  generalize hX : L ++ (headL L.length q (j + 1) ++ (midL L.length q ++ tailL L.length q j)) = X at *
  rw [puts_eq (k := 1) (r := 0) (n := j) (L := X) (fun i x hx => by unfold two_maker_less_i2_b13; rw [put_eq 1 0 hx]; rfl) (by omega), bind_some']
  obtain ⟨j', rfl⟩ : ∃ j', j = j' + 1 := ⟨j - 1, by omega⟩
  rw [up_succ, hlen2]
  have hl3 : ∀ x : Od, (X ++ (up 1 0 (RR (L.length + 2 * q + 6) (j' + 1)) j' ++ [x])).length = RR (L.length + 2 * q + 6) (j' + 1) + j' + 1 := fun x => by simp [up_len, hlen2]; omega
  rw [hl3]
  have hi : w64 (((RR (L.length + 2 * q + 6) (j' + 1) + j' + 1 : Nat) : Int) - 1) = ((RR (L.length + 2 * q + 6) (j' + 1) + j' : Nat) : Int) := by rw [w64_id (by omega) (by omega)]; omega
  have es : ∀ x : Od, X ++ (up 1 0 (RR (L.length + 2 * q + 6) (j' + 1)) j' ++ [x]) = (X ++ up 1 0 (RR (L.length + 2 * q + 6) (j' + 1)) j') ++ x :: [] := fun x => by simp
  have hlA : (X ++ up 1 0 (RR (L.length + 2 * q + 6) (j' + 1)) j').length = RR (L.length + 2 * q + 6) (j' + 1) + j' := by simp [up_len, hlen2]
  rw [hi, es, mid_get (by rw [hlA]), bind_some', mid_set (by rw [hlA]), hr]
  congr 2
  rw [← hX]
  have ht : tailL L.length q (j' + 1 + 1) = tailL L.length q (j' + 1) ++ chainL L.length q (j' + 1) := by
    rw [tailL, if_neg (by omega)]
  rw [ht]
  simp [chainL, ord]
theorem up_cons (k r : Int) (a n : Nat) : up k r a (n + 1) = ord k r (a + 1) 0 :: up k r (a + 1) n := by
  unfold up
  rw [List.range_succ_eq_map, List.map_cons, List.map_map]
  congr 1
  apply List.map_congr_left
  intro i _
  simp only [Function.comp]
  congr 1; omega
theorem head_one (a q : Nat) : headL a q 1 = ord 2 0 (a + 1) (a + q + 2) :: up 2 0 (a + 1) q := by
  unfold headL up
  rw [List.range_succ_eq_map, List.map_cons, List.map_map]
  congr 1
  apply List.map_congr_left
  intro i _
  simp only [Function.comp]
  rw [if_neg (by omega), if_neg (by omega)]
  congr 1; omega
def lessL (a q : Nat) : List Od := headL a q (q + 1) ++ (midL a q ++ tailL a q (q + 1))
theorem ord_next (k r : Int) (a b x : Nat) : (((ord k r a b).1, (ord k r a b).2.1, (x : Int), (ord k r a b).2.2.2) : Od) = ord k r x b := rfl
theorem ord_else (k r : Int) (a b x : Nat) : (((ord k r a b).1, (ord k r a b).2.1, (ord k r a b).2.2.1, (x : Int)) : Od) = ord k r a x := rfl
theorem less_eq {L : List Od} {q : Nat} (h : L.length + q < 600000) (hq : q ≤ 6) : two_maker_less_i2 ((q + 1 : Nat) : Int) L = some ([((L.length + q + 2 : Nat) : Int)], [((L.length + q + 4 : Nat) : Int)], L ++ lessL L.length q) := by
  unfold two_maker_less_i2
  have hv : forI (0 : Int) ((q + 1 : Nat) : Int) two_maker_less_i2_b1 (fun x11 => (x11.1, x11.2)) ([], L) = some ((List.range (q + 1)).map (fun j => ((L.length + j : Nat) : Int)), L ++ up 2 0 L.length (q + 1)) := by
    obtain ⟨y, h1, rfl⟩ := forI_inv (body := two_maker_less_i2_b1) (fin := fun x11 => (x11.1, x11.2)) (lo := 0) (hi := ((q + 1 : Nat) : Int)) (x := (([] : List Int), L)) (fun i x => x = ((List.range i.toNat).map (fun j => ((L.length + j : Nat) : Int)), L ++ up 2 0 L.length i.toNat))
      (fun y => y = ((List.range (q + 1)).map (fun j => ((L.length + j : Nat) : Int)), L ++ up 2 0 L.length (q + 1))) (by omega) (by omega) (by simp [up])
      (by
        rintro i x h0 hi rfl
        obtain ⟨j, rfl⟩ := Int.eq_ofNat_of_zero_le h0
        rw [Int.toNat_natCast]
        have hl : (L ++ up 2 0 L.length j).length = L.length + j := by rw [List.length_append, up_len]
        have hck : ck ((List.length ((List.range j).map (fun j => ((L.length + j : Nat) : Int))) : Int) + 1 ≤ 4294967296) = some () := ck_ok (by simp; omega)
        unfold two_maker_less_i2_b1
        simp only
        rw [put_eq 2 0 (by omega), bind_some', hck, bind_some']
        refine ⟨_, rfl, ?_⟩
        have ht : ((j : Int) + 1).toNat = j + 1 := by omega
        simp only
        rw [ht, up_succ, hl, List.range_succ]
        simp)
      (by
        rintro i x h0 h1 h2 rfl
        have : i.toNat = q + 1 := by omega
        rw [this])
    exact h1
  rw [hv, bind_some']
  simp only
  have hl1 : (L ++ up 2 0 L.length (q + 1)).length = L.length + q + 1 := by rw [List.length_append, up_len]; omega
  rw [put_eq 1 1 (by omega), bind_some']
  simp only
  rw [mid_get rfl, bind_some', mid_set rfl]
  have i0 : idx ((List.range (q + 1)).map (fun j => ((L.length + j : Nat) : Int))) 0 = some (L.length : Int) := by
    rw [List.range_succ_eq_map]; rfl
  rw [i0, bind_some', up_cons]
  have es : ∀ x : Od, L ++ ord 2 0 (L.length + 1) 0 :: up 2 0 (L.length + 1) q ++ [x] = L ++ ord 2 0 (L.length + 1) 0 :: (up 2 0 (L.length + 1) q ++ [x]) := fun x => by simp
  rw [es, mid_get rfl, bind_some', mid_set rfl]
  have hl2 : ∀ x y : Od, (L ++ y :: (up 2 0 (L.length + 1) q ++ [x])).length = L.length + q + 2 := fun x y => by simp [up_len]; omega
  rw [hl2, back_eq (by rw [hl2]; omega), bind_some', hl2]
  simp only
  have hl3 : ∀ x y : Od, (L ++ y :: (up 2 0 (L.length + 1) q ++ [x]) ++ [ord 2 1 (L.length + q + 2 + 1) 0, ord 1 0 (L.length + q + 2) 0]).length = L.length + q + 4 := fun x y => by rw [List.length_append, hl2]; rfl
  rw [put_eq 2 1 (by rw [hl3]; omega), bind_some']
  simp only
  rw [hl3]
  have hl4 : ∀ x y : Od, (L ++ y :: (up 2 0 (L.length + 1) q ++ [x]) ++ [ord 2 1 (L.length + q + 2 + 1) 0, ord 1 0 (L.length + q + 2) 0] ++ [ord 2 1 (L.length + q + 4 + 1) 0]).length = L.length + q + 5 := fun x y => by rw [List.length_append, hl3]; rfl
  rw [puts_eq (k := 1) (r := 0) (n := q + 1) (fun i x hx => by unfold two_maker_less_i2_b4; rw [put_eq 1 0 hx]; rfl) (by rw [hl4]; omega), bind_some', hl4, up_succ]
  simp only [ord_next, ord_else]
  obtain ⟨Y, hX⟩ : ∃ Y, Y = L ++ ord 2 0 (L.length + 1) (L.length + q + 2) :: (up 2 0 (L.length + 1) q ++ [ord 1 1 L.length 0]) ++ [ord 2 1 (L.length + q + 2 + 1) 0, ord 1 0 (L.length + q + 2) 0] := ⟨_, rfl⟩
  have hY : Y.length = L.length + q + 4 := by rw [hX]; exact hl3 _ _
  rw [← hX]
  have hl6 : ∀ x : Od, (Y ++ [ord 2 1 (L.length + q + 4 + 1) 0] ++ (up 1 0 (L.length + q + 5) q ++ [x])).length = L.length + 2 * q + 6 := fun x => by simp [up_len, hY]; omega
  rw [hl6]
  have hi : w64 (((L.length + 2 * q + 6 : Nat) : Int) - 1) = ((L.length + 2 * q + 5 : Nat) : Int) := by rw [w64_id (by omega) (by omega)]; omega
  have es3 : ∀ x : Od, Y ++ [ord 2 1 (L.length + q + 4 + 1) 0] ++ (up 1 0 (L.length + q + 5) q ++ [x]) = (Y ++ [ord 2 1 (L.length + q + 4 + 1) 0] ++ up 1 0 (L.length + q + 5) q) ++ x :: [] := fun x => by simp
  have hlA : (Y ++ [ord 2 1 (L.length + q + 4 + 1) 0] ++ up 1 0 (L.length + q + 5) q).length = L.length + 2 * q + 5 := by simp [up_len, hY]; omega
  rw [hi, es3, mid_get (by rw [hlA]), bind_some', mid_set (by rw [hlA])]
  simp only [ord_next, ord_else]
  have hstart : (Y ++ [ord 2 1 (L.length + q + 4 + 1) 0] ++ up 1 0 (L.length + q + 5) q) ++ ord 1 0 (L.length + q + 4) 0 :: [] = L ++ (headL L.length q 1 ++ (midL L.length q ++ tailL L.length q 1)) := by
    rw [hX, head_one, midL, tailL, tailL]
    simp
  rw [hstart]
  obtain ⟨y, h1, rfl⟩ := forI_inv (body := two_maker_less_i2_b16 ((List.range (q + 1)).map (fun j => ((L.length + j : Nat) : Int)), L ++ ord 2 0 (L.length + 1) 0 :: up 2 0 (L.length + 1) q) (((L.length + q + 2 : Nat) : Int), Y)) (fin := fun x => x) (lo := 1) (hi := ((q + 1 : Nat) : Int)) (x := L ++ (headL L.length q 1 ++ (midL L.length q ++ tailL L.length q 1)))
    (fun i x => x = L ++ (headL L.length q i.toNat ++ (midL L.length q ++ tailL L.length q i.toNat))) (fun y => y = L ++ lessL L.length q) (by omega) (by omega) rfl
    (by
      rintro i x h0 hi rfl
      obtain ⟨j, rfl⟩ := Int.eq_ofNat_of_zero_le (a := i) (by omega)
      rw [Int.toNat_natCast]
      rw [less_step (by omega) hq (fun j hj => by simp [hj]) hY (by omega) (by omega)]
      refine ⟨_, rfl, ?_⟩
      have ht : ((j : Int) + 1).toNat = j + 1 := by omega
      simp only
      rw [ht])
    (by
      rintro i x h0 h1 h2 rfl
      have : i.toNat = q + 1 := by omega
      rw [this]; rfl)
  rw [h1]; rfl
theorem up_at {k r : Int} {a n i : Nat} (h : i < n) : (up k r a n)[i]? = some (ord k r (a + i + 1) 0) := by
  unfold up
  rw [List.getElem?_map, List.getElem?_range h]; rfl
theorem up_app {k r : Int} {a n : Nat} {B : List Od} {i : Nat} (h : i < n) : (up k r a n ++ B)[i]? = some (ord k r (a + i + 1) 0) := by
  rw [List.getElem?_append_left (by rw [up_len]; exact h), up_at h]
theorem up_off {k r : Int} {a n : Nat} {B : List Od} {i : Nat} : (up k r a n ++ B)[n + i]? = B[i]? := by
  rw [List.getElem?_append_right (by rw [up_len]; omega), up_len, Nat.add_sub_cancel_left]
theorem more_len (a q : Nat) : (moreL a q).length = q + 4 := by simp [moreL, up_len]
/-- the block stands in F, with its way out set -/
theorem more_block {F : List Od} {a q X : Nat} (hF : ∀ i, i < q + 4 → F[a + i]? = if i = q + 2 then some (ord 2 1 (a + q + 3) X) else (moreL a q)[i]?) : MoreB F a q X := by
  refine ⟨?_, ?_, ?_, ?_⟩
  · have := hF 0 (by omega)
    rw [if_neg (by omega)] at this
    exact this
  · intro i hi
    have := hF (1 + i) (by omega)
    rw [if_neg (by omega)] at this
    rw [show a + 1 + i = a + (1 + i) by omega, this]
    by_cases e : i = q
    · refine ⟨0, ?_⟩
      rw [if_pos e, e]
      have : (moreL a q)[1 + q]? = some (ord 1 1 a 0) := by
        rw [Nat.add_comm]
        show (up 1 1 (a + 1) q ++ [ord 1 1 a 0, ord 2 1 (a + q + 3) 0, ord 1 0 (a + q + 2) 0])[q + 0]? = _
        rw [up_off]; rfl
      rw [this]; rfl
    · refine ⟨0, ?_⟩
      rw [if_neg e]
      have : (moreL a q)[1 + i]? = some (ord 1 1 (a + 1 + i + 1) 0) := by
        rw [Nat.add_comm]
        exact up_app (by omega)
      rw [this, show a + 1 + i + 1 = a + (1 + i) + 1 by omega]; rfl
  · have := hF (q + 2) (by omega)
    rw [if_pos rfl] at this
    exact this
  · have := hF (q + 3) (by omega)
    rw [if_neg (by omega)] at this
    refine ⟨0, ?_⟩
    rw [show a + q + 2 + 1 = a + (q + 3) by omega, this]
    show (up 1 1 (a + 1) q ++ [ord 1 1 a 0, ord 2 1 (a + q + 3) 0, ord 1 0 (a + q + 2) 0])[q + 2]? = _
    rw [up_off]; rfl
theorem chain_len (a q : Nat) {j : Nat} (h : 0 < j) : (chainL a q j).length = j := by simp [chainL, up_len]; omega
theorem tail_at (a q : Nat) : ∀ (n i j : Nat), 0 < i → i < n → j < i → (tailL a q n)[RR (a + 2 * q + 6) i - (a + 2 * q + 6) + j]? = (chainL a q i)[j]?
  | 0, i, j, _, h, _ => by omega
  | n + 1, i, j, h0, h, hj => by
    have hl := tail_len a q n
    unfold tailL
    by_cases e : i = n
    · subst e
      rw [if_neg (by omega), List.getElem?_append_right (by omega)]
      congr 1; omega
    · have ih := tail_at a q n i j h0 (by omega) hj
      have hlt : RR (a + 2 * q + 6) i - (a + 2 * q + 6) + j < (tailL a q n).length := by
        by_cases hq : RR (a + 2 * q + 6) i - (a + 2 * q + 6) + j < (tailL a q n).length
        · exact hq
        · rw [List.getElem?_eq_none (by omega)] at ih
          have := (List.getElem?_eq_none_iff.1 ih.symm)
          rw [chain_len a q h0] at this
          omega
      rw [List.getElem?_append_left hlt, ih]
theorem less_len (a q : Nat) : a + (lessL a q).length = RR (a + 2 * q + 6) (q + 1) := by
  have := tail_len a q (q + 1)
  simp only [lessL, List.length_append, head_len, mid_len]; omega
theorem rr_ge (s : Nat) : ∀ i, s ≤ RR s i
  | 0 => Nat.le_refl _
  | i + 1 => by have := rr_ge s i; unfold RR; omega
theorem rr_mono (s : Nat) {i j : Nat} (h : i ≤ j) : RR s i ≤ RR s j := by
  induction j with
  | zero => have : i = 0 := by omega
            subst this; exact Nat.le_refl _
  | succ j ih =>
    by_cases e : i = j + 1
    · rw [e]; exact Nat.le_refl _
    · have := ih (by omega)
      have e2 : RR s (j + 1) = RR s j + j := rfl
      omega
theorem less_block {F : List Od} {a q X Y : Nat} (hF : ∀ i, i < (lessL a q).length → F[a + i]? = if i = q + 2 then some (ord 2 1 (a + q + 3) X) else if i = q + 4 then some (ord 2 1 (a + q + 5) Y) else (lessL a q)[i]?) : LessB F a q X Y (RR (a + 2 * q + 6)) := by
  have hlen := less_len a q
  have hge := rr_ge (a + 2 * q + 6) (q + 1)
  have hhead : ∀ i, i < q + 1 → (lessL a q)[i]? = some (ord 2 0 (a + i + 1) (if i = 0 then a + q + 2 else if i < q + 1 then RR (a + 2 * q + 6) i else 0)) := by
    intro i hi
    unfold lessL
    rw [List.getElem?_append_left (by rw [head_len]; exact hi)]
    unfold headL
    rw [List.getElem?_map, List.getElem?_range hi]; rfl
  have hmid : ∀ i, i < q + 5 → (lessL a q)[q + 1 + i]? = (midL a q)[i]? := by
    intro i hi
    unfold lessL
    rw [List.getElem?_append_right (by rw [head_len]; omega), head_len, Nat.add_sub_cancel_left, List.getElem?_append_left (by rw [mid_len]; exact hi)]
  have htail : ∀ i, (lessL a q)[2 * q + 6 + i]? = (tailL a q (q + 1))[i]? := by
    intro i
    unfold lessL
    rw [List.getElem?_append_right (by rw [head_len]; omega), head_len, List.getElem?_append_right (by rw [mid_len]; omega), mid_len]
    congr 1; omega
  refine ⟨?_, ?_, ?_, ?_, ?_, ?_, ?_, ?_⟩
  · have := hF 0 (by omega)
    rw [if_neg (by omega), if_neg (by omega), hhead 0 (by omega), if_pos rfl] at this
    exact this
  · intro i h0 hi
    have := hF i (by omega)
    rw [if_neg (by omega), if_neg (by omega), hhead i hi, if_neg (by omega), if_pos hi] at this
    exact this
  · have := hF (q + 1) (by omega)
    rw [if_neg (by omega), if_neg (by omega)] at this
    exact ⟨0, by rw [this]; exact hmid 0 (by omega)⟩
  · have := hF (q + 2) (by omega)
    rw [if_pos rfl] at this
    exact this
  · have := hF (q + 3) (by omega)
    rw [if_neg (by omega), if_neg (by omega)] at this
    exact ⟨0, by rw [show a + q + 2 + 1 = a + (q + 3) by omega, this]; exact hmid 2 (by omega)⟩
  · have := hF (q + 4) (by omega)
    rw [if_neg (by omega), if_pos rfl] at this
    exact this
  · intro i hi
    have := hF (q + 5 + i) (by omega)
    rw [if_neg (by omega), if_neg (by omega), show q + 5 + i = q + 1 + (4 + i) by omega, hmid (4 + i) (by omega)] at this
    refine ⟨0, ?_⟩
    rw [show a + q + 4 + 1 + i = a + (q + 1 + (4 + i)) by omega, this]
    have e : (midL a q)[4 + i]? = (up 1 0 (a + q + 5) q ++ [ord 1 0 (a + q + 4) 0])[i]? := by
      unfold midL
      rw [List.getElem?_append_right (by simp)]
      congr 1
      simp
    rw [e]
    by_cases h : i = q
    · rw [if_pos h, h]
      show (up 1 0 (a + q + 5) q ++ [ord 1 0 (a + q + 4) 0])[q + 0]? = _
      rw [up_off]; rfl
    · rw [if_neg h, up_app (by omega), show a + q + 5 + i + 1 = a + (q + 1 + (4 + i)) + 1 by omega]; rfl
  · intro i h0 hi j hj
    have hgi := rr_ge (a + 2 * q + 6) i
    have hmi := rr_mono (a + 2 * q + 6) (i := i + 1) (j := q + 1) (by omega)
    have e1 : RR (a + 2 * q + 6) (i + 1) = RR (a + 2 * q + 6) i + i := rfl
    have := hF (2 * q + 6 + (RR (a + 2 * q + 6) i - (a + 2 * q + 6) + j)) (by omega)
    rw [if_neg (by omega), if_neg (by omega), htail, tail_at a q (q + 1) i j h0 hi hj] at this
    refine ⟨0, ?_⟩
    rw [show RR (a + 2 * q + 6) i + j = a + (2 * q + 6 + (RR (a + 2 * q + 6) i - (a + 2 * q + 6) + j)) by omega, this]
    unfold chainL
    by_cases h : j + 1 = i
    · rw [if_pos h]
      have := up_off (k := 1) (r := 0) (a := RR (a + 2 * q + 6) i) (n := i - 1) (B := [ord 1 0 (a + q + 4) 0]) (i := 0)
      rw [show j = i - 1 + 0 by omega, this]; rfl
    · rw [if_neg h, up_app (by omega)]
      congr 2
      congr 1
      omega
/-- a place's order, its way out set if the map has the place -/
def fixd (at_ : List Int) (on : List (Int × Int)) (i : Nat) (v : Od) : Od :=
  match on.find? (fun p => p.1 == (i : Int)) with
  | some p => (v.1, v.2.1, v.2.2.1, at_.getD p.2.toNat 0)
  | none => v
theorem patch_all (v717 : List Int × Option (List (Int × Int)) × List Od) : ∀ (on : List (Int × Int)) (L : List Od), (on.map (·.1)).Nodup → (∀ p ∈ on, (0 ≤ p.1 ∧ p.1 < (L.length : Int)) ∧ 0 ≤ p.2 ∧ p.2 < ((v717.1 ++ [(List.length v717.2.2 : Int)]).length : Int)) →
    ∃ F, forR (two_Build_b91 v717) on L = some F ∧ F.length = L.length ∧ ∀ i v, L[i]? = some v → F[i]? = some (fixd (v717.1 ++ [(List.length v717.2.2 : Int)]) on i v)
  | [], L, _, _ => ⟨L, rfl, rfl, fun i v h => by rw [h]; rfl⟩
  | p :: on, L, hn, h => by
    obtain ⟨h1, h2, h3⟩ := h p (by simp)
    simp only [List.map_cons, List.nodup_cons] at hn
    obtain ⟨t, t1, t2⟩ := idx_get (xs := v717.1 ++ [(List.length v717.2.2 : Int)]) (i := p.2) h2 h3
    obtain ⟨o, o1, o2⟩ := idx_get (xs := L) (i := p.1) h1.1 h1.2
    have hs : two_Build_b91 v717 p L = some (List.set L (Int.toNat p.1) (o.1, o.2.1, o.2.2.1, t)) := by
      unfold two_Build_b91
      rw [t1, bind_some', o1, bind_some']
    obtain ⟨F, f1, f2, f3⟩ := patch_all v717 on (List.set L (Int.toNat p.1) (o.1, o.2.1, o.2.2.1, t)) hn.2 (fun q hq => by rw [List.length_set]; exact h q (List.mem_cons_of_mem _ hq))
    refine ⟨F, by rw [forR, hs, bind_some']; exact f1, by rw [f2, List.length_set], fun i v hv => ?_⟩
    by_cases e : p.1 = (i : Int)
    · have hi : p.1.toNat = i := by omega
      rw [hi] at o2 f3
      have hov : o = v := by rw [hv] at o2; injection o2 with o2; exact o2.symm
      subst hov
      have := f3 i _ (by rw [List.getElem?_set_self (List.getElem?_eq_some_iff.1 hv).1])
      rw [this]
      have hno : on.find? (fun q => q.1 == (i : Int)) = none := by
        rw [List.find?_eq_none]
        intro q hq hqe
        rw [beq_iff_eq] at hqe
        exact hn.1 (List.mem_map.2 ⟨q, hq, by rw [hqe, e]⟩)
      have hyes : (p :: on).find? (fun q => q.1 == (i : Int)) = some p := by
        rw [List.find?_cons_of_pos (by simp [e])]
      unfold fixd
      rw [hno, hyes]
      simp only
      rw [List.getD_eq_getElem?_getD, t2]; rfl
    · have hi : p.1.toNat ≠ i := by omega
      have := f3 i v (by rw [List.getElem?_set_ne hi]; exact hv)
      rw [this]
      have hyes : (p :: on).find? (fun q => q.1 == (i : Int)) = on.find? (fun q => q.1 == (i : Int)) := by
        rw [List.find?_cons_of_neg (by simp [e])]
      unfold fixd
      rw [hyes]
theorem find_perm {l l' : List (Int × Int)} (h : List.Perm l' l) (hn : (l.map (·.1)).Nodup) (i : Int) : l'.find? (fun p => p.1 == i) = l.find? (fun p => p.1 == i) := by
  have uniq : ∀ {m : List (Int × Int)}, (m.map (·.1)).Nodup → ∀ p ∈ m, ∀ q ∈ m, p.1 = q.1 → p = q := by
    intro m
    induction m with
    | nil => intro _ p hp; simp at hp
    | cons a m ih =>
      intro hn p hp q hq e
      simp only [List.map_cons, List.nodup_cons] at hn
      rcases List.mem_cons.1 hp with e1 | hp1
      · rcases List.mem_cons.1 hq with e2 | hq1
        · rw [e1, e2]
        · exact (hn.1 (List.mem_map.2 ⟨q, hq1, by rw [← e, e1]⟩)).elim
      · rcases List.mem_cons.1 hq with e2 | hq1
        · exact (hn.1 (List.mem_map.2 ⟨p, hp1, by rw [e, e2]⟩)).elim
        · exact ih hn.2 p hp1 q hq1 e
  cases h1 : l'.find? (fun p => p.1 == i) with
  | none =>
    symm
    rw [List.find?_eq_none] at h1 ⊢
    intro p hp
    exact h1 p (h.mem_iff.2 hp)
  | some p =>
    have p1 := List.find?_some h1
    have p2 := h.mem_iff.1 (List.mem_of_find?_eq_some h1)
    cases h2 : l.find? (fun p => p.1 == i) with
    | none =>
      rw [List.find?_eq_none] at h2
      exact (h2 p p2 p1).elim
    | some q =>
      have q1 := List.find?_some h2
      have q2 := List.mem_of_find?_eq_some h2
      rw [beq_iff_eq] at p1 q1
      rw [uniq hn p p2 q q2 (by rw [p1, q1])]
theorem patch_range (v717 : List Int × Option (List (Int × Int)) × List Od) {on : List (Int × Int)} {L : List Od} (hn : (on.map (·.1)).Nodup) (h : ∀ p ∈ on, (0 ≤ p.1 ∧ p.1 < (L.length : Int)) ∧ 0 ≤ p.2 ∧ p.2 < ((v717.1 ++ [(List.length v717.2.2 : Int)]).length : Int)) :
    ∃ F, rangeM (two_Build_b91 v717) on L = some F ∧ F.length = L.length ∧ ∀ i v, L[i]? = some v → F[i]? = some (fixd (v717.1 ++ [(List.length v717.2.2 : Int)]) on i v) := by
  obtain ⟨F, f1, f2, f3⟩ := patch_all v717 on L hn h
  refine ⟨F, ?_, f2, f3⟩
  unfold rangeM
  rw [if_pos, f1]
  intro l' hl
  have hn' : (l'.map (·.1)).Nodup := (hl.map _).nodup_iff.2 hn
  obtain ⟨F', g1, g2, g3⟩ := patch_all v717 l' L hn' (fun p hp => h p (hl.mem_iff.1 hp))
  rw [g1, f1]
  congr 1
  apply List.ext_getElem?
  intro i
  cases hv : L[i]? with
  | none =>
    rw [List.getElem?_eq_none (by have := List.getElem?_eq_none_iff.1 hv; omega), List.getElem?_eq_none (by have := List.getElem?_eq_none_iff.1 hv; omega)]
  | some v =>
    rw [g3 i v hv, f3 i v hv]
    unfold fixd
    rw [find_perm hl hn]
def qOf (o : Od) : Nat := [1, 2, 4, 6].getD o.2.1.toNat 0
def blkL (a : Nat) (o : Od) : List Od := if o.1 = 1 then moreL a (qOf o) else lessL a (qOf o)
def blkOn (a : Nat) (o : Od) : List (Int × Int) :=
  if o.1 = 1 then [(((a + qOf o + 2 : Nat) : Int), o.2.2.1)] else [(((a + qOf o + 2 : Nat) : Int), o.2.2.1), (((a + qOf o + 4 : Nat) : Int), o.2.2.2)]
def bL : Nat → List Od → List Od
  | _, [] => []
  | a, o :: l => blkL a o ++ bL (a + (blkL a o).length) l
def bA : Nat → List Od → List Nat
  | _, [] => []
  | a, o :: l => a :: bA (a + (blkL a o).length) l
def bO : Nat → List Od → List (Int × Int)
  | _, [] => []
  | a, o :: l => blkOn a o ++ bO (a + (blkL a o).length) l
theorem q_le (o : Od) : qOf o ≤ 6 := by
  unfold qOf
  generalize o.2.1.toNat = n
  rcases n with _ | _ | _ | _ | n <;> simp
theorem blk_len (a : Nat) (o : Od) : qOf o + 4 ≤ (blkL a o).length ∧ (o.1 ≠ 1 → 2 * qOf o + 6 ≤ (blkL a o).length) ∧ (blkL a o).length ≤ 80 := by
  have hq := q_le o
  unfold blkL
  by_cases h : o.1 = 1
  · rw [if_pos h, more_len]
    exact ⟨Nat.le_refl _, fun e => (e h).elim, by omega⟩
  · rw [if_neg h]
    have h1 := less_len a (qOf o)
    have h2 := rr_ge (a + 2 * qOf o + 6) (qOf o + 1)
    have h3 := rr_le (a + 2 * qOf o + 6) (qOf o + 1)
    have h4 : (qOf o + 1) * (qOf o + 1) ≤ 7 * 7 := Nat.mul_le_mul (by omega) (by omega)
    exact ⟨by omega, fun _ => by omega, by omega⟩
theorem bL_len : ∀ (l : List Od) (s : Nat), (bL s l).length ≤ 80 * l.length
  | [], s => by simp [bL]
  | o :: l, s => by
    have := bL_len l (s + (blkL s o).length)
    have h := (blk_len s o).2.2
    simp only [bL, List.length_append, List.length_cons]; omega
theorem bA_len : ∀ (l : List Od) (s : Nat), (bA s l).length = l.length
  | [], s => rfl
  | o :: l, s => by simp [bA, bA_len l]
def okS (o : Od) : Prop := (o.1 = 1 ∨ o.1 = 2) ∧ 0 ≤ o.2.1 ∧ o.2.1 < 4
theorem prime_q {o : Od} (h : okS o) : two_prime o.2.1 = some ((qOf o + 1 : Nat) : Int) := by
  obtain ⟨_, h0, h1⟩ := h
  have : o.2.1 = 0 ∨ o.2.1 = 1 ∨ o.2.1 = 2 ∨ o.2.1 = 3 := by omega
  unfold two_prime qOf
  rcases this with h | h | h | h <;> rw [h] <;> rfl
theorem deq_tI {a b : Int} (h : a ≠ b) : deqT tI a b = false := by
  cases hh : deqT tI a b with
  | false => rfl
  | true => simp [deqT] at hh; exact (h hh).elim
theorem build_step {o : Od} (ho : okS o) (i : Int) {A : List Int} {O : List (Int × Int)} {L : List Od} (hA : A.length ≤ 1000) (hL : L.length ≤ 500000) (hO : ∀ p ∈ O, p.1 < (L.length : Int)) :
    two_Build_b88 i o (A, some O, L) = some (.next (A ++ [(L.length : Int)], some (O ++ blkOn L.length o), L ++ blkL L.length o)) := by
  have hq := q_le o
  unfold two_Build_b88 two_Build_g86
  simp only
  rw [ck_ok (by omega), bind_some', prime_q ho, bind_some']
  have new1 : ∀ p ∈ O, deqT tI ((L.length + qOf o + 2 : Nat) : Int) p.1 = false := fun p hp => deq_tI (by have := hO p hp; omega)
  by_cases h : o.1 = 1
  · rw [show (o.1 == (1 : Int)) = true by simp [h], cond_true, more_eq (by omega), bind_some']
    simp only [forL]
    unfold two_Build_b77 blkOn blkL
    rw [if_pos h, if_pos h]
    simp only [Option.isSome_some, ck_true, bind_some', Option.map_some]
    rw [mPut_none new1]
  · rw [show (o.1 == (1 : Int)) = false by simp [h], cond_false, less_eq (by omega) hq, bind_some']
    simp only [forL]
    unfold two_Build_b80 two_Build_b83 blkOn blkL
    rw [if_neg h, if_neg h]
    simp only [Option.isSome_some, ck_true, bind_some', Option.map_some]
    rw [mPut_none new1, mPut_none (fun p hp => by
      rcases List.mem_append.1 hp with hp | hp
      · exact deq_tI (by have := hO p hp; omega)
      · obtain rfl : p = (((L.length + qOf o + 2 : Nat) : Int), o.2.2.1) := by simpa using hp
        exact deq_tI (by simp only; omega))]
    simp
theorem blkOn_keys {a : Nat} {o : Od} : ∀ p ∈ blkOn a o, ((a : Int) ≤ p.1 ∧ p.1 < ((a + (blkL a o).length : Nat) : Int)) ∧ (p.2 = o.2.2.1 ∨ (o.1 ≠ 1 ∧ p.2 = o.2.2.2)) := by
  intro p hp
  obtain ⟨h1, h2, _⟩ := blk_len a o
  unfold blkOn at hp
  split at hp
  · obtain rfl : p = _ := by simpa using hp
    exact ⟨⟨by simp only; omega, by simp only; omega⟩, .inl rfl⟩
  · rename_i h
    have h2 := h2 h
    simp only [List.mem_cons, List.not_mem_nil, or_false] at hp
    rcases hp with rfl | rfl
    · exact ⟨⟨by simp only; omega, by simp only; omega⟩, .inl rfl⟩
    · exact ⟨⟨by simp only; omega, by simp only; omega⟩, .inr ⟨h, rfl⟩⟩
theorem forL_next {α X Y : Type} {body : Int → α → X → Option (Flow X Y)} {fin : X → Y} {a : α} {l : List α} {i : Int} {x x' : X} (h : body i a x = some (.next x')) : forL body fin (a :: l) i x = forL body fin l (i + 1) x' := by
  simp only [forL, h]
theorem build_loop (r : List Od) : ∀ (i : Int) (A : List Int) (O : List (Int × Int)) (L : List Od), (∀ o ∈ r, okS o) → A.length + r.length ≤ 1000 → L.length + 80 * r.length ≤ 5000 → (∀ p ∈ O, p.1 < (L.length : Int)) →
    forL two_Build_b88 (fun x478 => (x478.1, x478.2.1, x478.2.2)) r i (A, some O, L) = some (A ++ (bA L.length r).map (fun (n : Nat) => (n : Int)), some (O ++ bO L.length r), L ++ bL L.length r) := by
  induction r with
  | nil => intro i A O L _ _ _ _; simp [forL, bA, bO, bL]
  | cons o r ih =>
    intro i A O L ho hA hL hO
    simp only [List.length_cons] at hA hL
    have hb := (blk_len L.length o).2.2
    rw [forL_next (build_step (ho o (by simp)) i (by omega) (by omega) hO)]
    have h2 : (L ++ blkL L.length o).length + 80 * r.length ≤ 5000 := by rw [List.length_append]; omega
    have h3 : (A ++ [(L.length : Int)]).length + r.length ≤ 1000 := by rw [List.length_append]; simp only [List.length_cons, List.length_nil]; omega
    have h4 : ∀ p ∈ O ++ blkOn L.length o, p.1 < ((L ++ blkL L.length o).length : Int) := by
      intro p hp
      rw [List.length_append]
      rcases List.mem_append.1 hp with hp | hp
      · have := hO p hp; omega
      · exact (blkOn_keys p hp).1.2
    rw [ih (i + 1) _ _ _ (fun o' h => ho o' (by simp [h])) h3 h2 h4]
    simp [bA, bO, bL, List.length_append]
theorem bO_keys : ∀ (l : List Od) (s : Nat), ∀ p ∈ bO s l, ((s : Int) ≤ p.1 ∧ p.1 < ((s + (bL s l).length : Nat) : Int)) ∧ ∃ o ∈ l, (p.2 = o.2.2.1 ∨ (o.1 ≠ 1 ∧ p.2 = o.2.2.2))
  | [], s, p, hp => by simp [bO] at hp
  | o :: l, s, p, hp => by
    simp only [bO] at hp
    simp only [bL, List.length_append]
    rcases List.mem_append.1 hp with hp | hp
    · have := blkOn_keys p hp
      exact ⟨⟨this.1.1, by omega⟩, o, by simp, this.2⟩
    · obtain ⟨⟨h1, h2⟩, o', ho', h3⟩ := bO_keys l _ p hp
      exact ⟨⟨by omega, by omega⟩, o', by simp [ho'], h3⟩
theorem bO_nodup : ∀ (l : List Od) (s : Nat), ((bO s l).map (·.1)).Nodup
  | [], s => by simp [bO]
  | o :: l, s => by
    simp only [bO, List.map_append]
    rw [List.nodup_append]
    refine ⟨?_, bO_nodup l _, ?_⟩
    · unfold blkOn
      split
      · simp
      · simp only [List.map_cons, List.map_nil, List.nodup_cons, List.mem_cons, List.not_mem_nil, or_false, not_false_eq_true, List.nodup_nil, and_true]
        omega
    · intro x hx y hy
      obtain ⟨p, hp, rfl⟩ := List.mem_map.1 hx
      obtain ⟨p', hp', rfl⟩ := List.mem_map.1 hy
      have h1 := (blkOn_keys p hp).1.2
      have h2 := (bO_keys l _ p' hp').1.1
      omega
theorem blk_at : ∀ (l : List Od) (s n : Nat) (o : Od), l[n]? = some o → ∃ a, (bA s l)[n]? = some a ∧ s ≤ a ∧ a + (blkL a o).length ≤ s + (bL s l).length ∧
    (∀ i, i < (blkL a o).length → (bL s l)[a - s + i]? = (blkL a o)[i]? ∧ (bO s l).find? (fun p => p.1 == ((a + i : Nat) : Int)) = (blkOn a o).find? (fun p => p.1 == ((a + i : Nat) : Int))) ∧
    (bA s l ++ [s + (bL s l).length])[n + 1]? = some (a + (blkL a o).length)
  | [], s, n, o, h => by simp at h
  | o' :: l, s, 0, o, h => by
    obtain rfl : o' = o := by simpa using h
    refine ⟨s, rfl, Nat.le_refl _, by simp only [bL, List.length_append]; omega, fun i hi => ⟨?_, ?_⟩, ?_⟩
    · rw [Nat.sub_self, Nat.zero_add]
      simp only [bL]
      rw [List.getElem?_append_left hi]
    · simp only [bO]
      rw [List.find?_append]
      have : (bO (s + (blkL s o').length) l).find? (fun p => p.1 == ((s + i : Nat) : Int)) = none := by
        rw [List.find?_eq_none]
        intro p hp he
        have := (bO_keys l _ p hp).1.1
        rw [beq_iff_eq] at he
        omega
      rw [this, Option.or_none]
    · cases l with
      | nil => simp [bA, bL]
      | cons x l => simp [bA, bL]
  | o' :: l, s, n + 1, o, h => by
    obtain ⟨a, h1, h2, h3, h4, h5⟩ := blk_at l (s + (blkL s o').length) n o (by simpa using h)
    refine ⟨a, by simpa [bA] using h1, by omega, by simp only [bL, List.length_append]; omega, fun i hi => ⟨?_, ?_⟩, ?_⟩
    · simp only [bL]
      rw [List.getElem?_append_right (by omega), show a - s + i - (blkL s o').length = a - (s + (blkL s o').length) + i by omega]
      exact (h4 i hi).1
    · simp only [bO]
      rw [List.find?_append]
      have : (blkOn s o').find? (fun p => p.1 == ((a + i : Nat) : Int)) = none := by
        rw [List.find?_eq_none]
        intro p hp he
        have := (blkOn_keys p hp).1.2
        rw [beq_iff_eq] at he
        omega
      rw [this, Option.none_or]
      exact (h4 i hi).2
    · simp only [bA, bL, List.length_append, List.cons_append, List.getElem?_cons_succ]
      rw [← Nat.add_assoc]
      exact h5
theorem bA_ge : ∀ (l : List Od) (s : Nat), ∀ x ∈ bA s l ++ [s + (bL s l).length], s ≤ x ∧ x ≤ s + (bL s l).length
  | [], s, x, hx => by simp [bA, bL] at hx; subst hx; simp [bL]
  | o :: l, s, x, hx => by
    simp only [bA, bL, List.length_append, List.cons_append] at hx ⊢
    rw [← Nat.add_assoc] at hx
    rcases List.mem_cons.1 hx with rfl | hx
    · omega
    · have := bA_ge l _ x hx
      omega
theorem bA_lt : ∀ (l : List Od) (s : Nat), (bA s l ++ [s + (bL s l).length]).Pairwise (· < ·)
  | [], s => by simp [bA]
  | o :: l, s => by
    simp only [bA, bL, List.length_append, List.cons_append]
    rw [← Nat.add_assoc]
    refine List.Pairwise.cons (fun x hx => ?_) (bA_lt l _)
    have := (bA_ge l _ x hx).1
    have := (blk_len s o).1
    omega
/-- no begin within a block -/
theorem gap_of {A : List Nat} (h : A.Pairwise (· < ·)) {n a b : Nat} (ha : A[n]? = some a) (hb : A[n + 1]? = some b) {i : Nat} (h1 : a < i) (h2 : i < b) : i ∉ A := by
  intro hm
  obtain ⟨m, hm⟩ := List.getElem?_of_mem hm
  have lt : ∀ {m m' x y : Nat}, A[m]? = some x → A[m']? = some y → m < m' → x < y := by
    intro m m' x y hx hy hl
    obtain ⟨l1, rfl⟩ := List.getElem?_eq_some_iff.1 hx
    obtain ⟨l2, rfl⟩ := List.getElem?_eq_some_iff.1 hy
    exact List.pairwise_iff_getElem.1 h m m' l1 l2 hl
  rcases Nat.lt_trichotomy m n with e | e | e
  · have := lt hm ha e; omega
  · subst e; rw [hm] at ha; injection ha with ha; omega
  · rcases Nat.lt_trichotomy m (n + 1) with e2 | e2 | e2
    · omega
    · subst e2; rw [hm] at hb; injection hb with hb; omega
    · have := lt hb hm e2; omega
def okO (T : Nat) (o : Od) : Prop := (o.1 = 1 ∨ o.1 = 2) ∧ (o.2.1 = 0 ∨ o.2.1 = 1) ∧ (0 ≤ o.2.2.1 ∧ o.2.2.1 ≤ (T : Int)) ∧ 0 ≤ o.2.2.2 ∧ o.2.2.2 ≤ (T : Int)
theorem ok_ord {T : Nat} {k r : Int} {a b : Nat} (hk : k = 1 ∨ k = 2) (hr : r = 0 ∨ r = 1) (ha : a ≤ T) (hb : b ≤ T) : okO T (ord k r a b) := ⟨hk, hr, ⟨by simp only [ord]; omega, by simp only [ord]; omega⟩, by simp only [ord]; omega, by simp only [ord]; omega⟩
theorem ok_up {T : Nat} {k r : Int} {a n : Nat} (hk : k = 1 ∨ k = 2) (hr : r = 0 ∨ r = 1) (ha : a + n ≤ T) : ∀ o ∈ up k r a n, okO T o := by
  intro o ho
  unfold up at ho
  obtain ⟨i, hi, rfl⟩ := List.mem_map.1 ho
  have := List.mem_range.1 hi
  exact ok_ord hk hr (by omega) (by omega)
theorem ok_more {T a q : Nat} (h : a + q + 4 ≤ T) : ∀ o ∈ moreL a q, okO T o := by
  intro o ho
  unfold moreL at ho
  rcases List.mem_cons.1 ho with rfl | ho
  · exact ok_ord (by simp) (by simp) (by omega) (by omega)
  rcases List.mem_append.1 ho with ho | ho
  · exact ok_up (by simp) (by simp) (by omega) o ho
  · simp only [List.mem_cons, List.not_mem_nil, or_false] at ho
    rcases ho with rfl | rfl | rfl
    · exact ok_ord (by simp) (by simp) (by omega) (by omega)
    · exact ok_ord (by simp) (by simp) (by omega) (by omega)
    · exact ok_ord (by simp) (by simp) (by omega) (by omega)
theorem ok_tail {T a q : Nat} : ∀ n, RR (a + 2 * q + 6) n ≤ T → ∀ o ∈ tailL a q n, okO T o
  | 0, _, o, ho => by simp [tailL] at ho
  | n + 1, h, o, ho => by
    have e : RR (a + 2 * q + 6) (n + 1) = RR (a + 2 * q + 6) n + n := rfl
    have hg := rr_ge (a + 2 * q + 6) n
    unfold tailL at ho
    rcases List.mem_append.1 ho with ho | ho
    · exact ok_tail n (by omega) o ho
    · split at ho
      · simp at ho
      · unfold chainL at ho
        rcases List.mem_append.1 ho with ho | ho
        · exact ok_up (by simp) (by simp) (by omega) o ho
        · obtain rfl : o = _ := by simpa using ho
          exact ok_ord (by simp) (by simp) (by omega) (by omega)
theorem ok_less {T a q : Nat} (h : RR (a + 2 * q + 6) (q + 1) ≤ T) : ∀ o ∈ lessL a q, okO T o := by
  intro o ho
  have hg := rr_ge (a + 2 * q + 6) (q + 1)
  unfold lessL at ho
  rcases List.mem_append.1 ho with ho | ho
  · unfold headL at ho
    obtain ⟨i, hi, rfl⟩ := List.mem_map.1 ho
    have hi := List.mem_range.1 hi
    have := rr_mono (a + 2 * q + 6) (i := i) (j := q + 1) (by omega)
    refine ok_ord (by simp) (by simp) (by omega) ?_
    split
    · omega
    · first | omega | (split <;> omega)
  rcases List.mem_append.1 ho with ho | ho
  · unfold midL at ho
    rcases List.mem_append.1 ho with ho | ho
    · simp only [List.mem_cons, List.not_mem_nil, or_false] at ho
      rcases ho with rfl | rfl | rfl | rfl
      · exact ok_ord (by simp) (by simp) (by omega) (by omega)
      · exact ok_ord (by simp) (by simp) (by omega) (by omega)
      · exact ok_ord (by simp) (by simp) (by omega) (by omega)
      · exact ok_ord (by simp) (by simp) (by omega) (by omega)
    · rcases List.mem_append.1 ho with ho | ho
      · exact ok_up (by simp) (by simp) (by omega) o ho
      · obtain rfl : o = _ := by simpa using ho
        exact ok_ord (by simp) (by simp) (by omega) (by omega)
  · exact ok_tail (q + 1) h o ho
theorem ok_blk {T a : Nat} {o : Od} (h : a + (blkL a o).length ≤ T) : ∀ x ∈ blkL a o, okO T x := by
  unfold blkL at h ⊢
  split
  · rename_i e
    rw [if_pos e, more_len] at h
    exact ok_more (by omega)
  · rename_i e
    rw [if_neg e, less_len] at h
    exact ok_less h
theorem ok_bL {T : Nat} : ∀ (l : List Od) (s : Nat), s + (bL s l).length ≤ T → ∀ x ∈ bL s l, okO T x
  | [], s, _, x, hx => by simp [bL] at hx
  | o :: l, s, h, x, hx => by
    simp only [bL, List.length_append] at h hx
    rcases List.mem_append.1 hx with hx | hx
    · exact ok_blk (by omega) x hx
    · exact ok_bL l _ (by omega) x hx
/-- what two.Build gives: the orders F, and where each one begins (A) -/
structure Built (l F : List Od) (A : List Nat) : Prop where
  lenA : A.length = l.length + 1
  inc : A.Pairwise (· < ·)
  last : A[l.length]? = some F.length
  le : ∀ x ∈ A, x ≤ F.length
  small : F.length ≤ 1000
  ok : ∀ o ∈ F, okO F.length o
  blk : ∀ (n : Nat) (o : Od), l[n]? = some o → ∃ a b, A[n]? = some a ∧ A[n + 1]? = some b ∧
    ((o.1 = 1 ∧ a + qOf o + 4 ≤ b ∧ MoreB F a (qOf o) (A.getD o.2.2.1.toNat 0)) ∨ (o.1 ≠ 1 ∧ a + 2 * qOf o + 6 ≤ b ∧ LessB F a (qOf o) (A.getD o.2.2.1.toNat 0) (A.getD o.2.2.2.toNat 0) (RR (a + 2 * qOf o + 6)) ∧
      ∀ i j, 0 < i → i < qOf o + 1 → j < i → a < RR (a + 2 * qOf o + 6) i + j ∧ RR (a + 2 * qOf o + 6) i + j < b))
theorem built_of {l : List Od} (hl : l.length ≤ 12) (hok : ∀ o ∈ l, okS o ∧ (0 ≤ o.2.2.1 ∧ o.2.2.1 ≤ (l.length : Int)) ∧ (o.1 = 2 → 0 ≤ o.2.2.2 ∧ o.2.2.2 ≤ (l.length : Int))) :
    ∃ F A, Built l F A ∧ ∀ a0, count_Check a0 l = some 0 → two_Build a0 l = some (F, A.map (fun (n : Nat) => (n : Int)), 0) := by
  have hlen := bL_len l 0
  have hA : (bA 0 l ++ [(bL 0 l).length]) = bA 0 l ++ [0 + (bL 0 l).length] := by rw [Nat.zero_add]
  have hAlen : (bA 0 l ++ [(bL 0 l).length]).length = l.length + 1 := by simp [bA_len]
  have hmap : (bA 0 l).map (fun (n : Nat) => (n : Int)) ++ [((bL 0 l).length : Int)] = (bA 0 l ++ [(bL 0 l).length]).map (fun (n : Nat) => (n : Int)) := by simp
  obtain ⟨F, f1, f2, f3⟩ := patch_range ((bA 0 l).map (fun (n : Nat) => (n : Int)), some (bO 0 l), bL 0 l) (on := bO 0 l) (L := bL 0 l) (bO_nodup l 0) (by
    intro p hp
    obtain ⟨⟨h1, h2⟩, o, ho, h3⟩ := bO_keys l 0 p hp
    obtain ⟨⟨k1, _⟩, k2, k3⟩ := hok o ho
    refine ⟨⟨by omega, by omega⟩, ?_⟩
    simp only [List.length_append, List.length_map, bA_len, List.length_cons, List.length_nil]
    rcases h3 with h3 | ⟨h3, h4⟩
    · omega
    · have := k3 (by omega)
      omega)
  simp only at f3
  rw [hmap] at f3
  generalize hAe : bA 0 l ++ [(bL 0 l).length] = A at f3 hAlen hA
  have hAge : ∀ x ∈ A, x ≤ F.length := by
    intro x hx
    rw [hA] at hx
    have := (bA_ge l 0 x hx).2
    omega
  have hget : ∀ k : Nat, ((A.map (fun (n : Nat) => (n : Int))).getD k 0) = ((A.getD k 0 : Nat) : Int) := by
    intro k
    rw [List.getD_eq_getElem?_getD, List.getD_eq_getElem?_getD, List.getElem?_map]
    cases A[k]? <;> rfl
  have hgle : ∀ k : Nat, A.getD k 0 ≤ F.length := by
    intro k
    rw [List.getD_eq_getElem?_getD]
    cases hk : A[k]? with
    | none => simp
    | some x => exact hAge x (List.mem_of_getElem? hk)
  refine ⟨F, A, ⟨hAlen, by rw [hA]; exact bA_lt l 0, ?_, hAge, by omega, ?_, ?_⟩, ?_⟩
  · rw [← hAe, List.getElem?_append_right (by rw [bA_len]; exact Nat.le_refl _), bA_len, Nat.sub_self, f2]; rfl
  · intro o ho
    obtain ⟨i, hi⟩ := List.getElem?_of_mem ho
    have hil := (List.getElem?_eq_some_iff.1 hi).1
    have hv : (bL 0 l)[i]? = some (bL 0 l)[i] := List.getElem?_eq_getElem (by omega)
    have hq := f3 i _ hv
    rw [hi] at hq
    injection hq with hq
    have hk := ok_bL (T := F.length) l 0 (by omega) _ (List.mem_of_getElem? hv)
    rw [hq]
    unfold fixd
    split
    · rename_i p _
      rw [hget]
      obtain ⟨k1, k2, k3, k4⟩ := hk
      have := hgle p.2.toNat
      exact ⟨k1, k2, k3, by simp only; omega, by simp only; omega⟩
    · exact hk
  · intro n o hn
    obtain ⟨a, h1, h2, h3, h4, h5⟩ := blk_at l 0 n o hn
    rw [← hA] at h5
    have hnl := (List.getElem?_eq_some_iff.1 hn).1
    have h1' : A[n]? = some a := by rw [hA, List.getElem?_append_left (by rw [bA_len]; exact hnl)]; exact h1
    refine ⟨a, _, h1', h5, ?_⟩
    have hF : ∀ i, i < (blkL a o).length → F[a + i]? = ((blkL a o)[i]?).map fun v => (match (blkOn a o).find? (fun p => p.1 == ((a + i : Nat) : Int)) with | some p => (v.1, v.2.1, v.2.2.1, ((A.getD p.2.toNat 0 : Nat) : Int)) | none => v) := by
      intro i hi
      obtain ⟨g1, g2⟩ := h4 i hi
      rw [Nat.sub_zero] at g1
      have hv : (blkL a o)[i]? = some (blkL a o)[i] := List.getElem?_eq_getElem hi
      rw [hv] at g1
      rw [f3 (a + i) _ g1, hv, Option.map_some]
      unfold fixd
      rw [g2]
      congr 1
      cases (blkOn a o).find? (fun p => p.1 == ((a + i : Nat) : Int)) with
      | none => rfl
      | some p => simp only; rw [hget]
    by_cases e : o.1 = 1
    · have hb : blkL a o = moreL a (qOf o) := by unfold blkL; rw [if_pos e]
      have ho : blkOn a o = [(((a + qOf o + 2 : Nat) : Int), o.2.2.1)] := by unfold blkOn; rw [if_pos e]
      rw [hb, more_len] at h5 h3
      rw [hb, more_len]
      refine .inl ⟨e, by omega, more_block fun i hi => ?_⟩
      rw [hF i (by rw [hb, more_len]; exact hi), ho, hb]
      by_cases e2 : i = qOf o + 2
      · rw [if_pos e2, e2]
        have : (moreL a (qOf o))[qOf o + 2]? = some (ord 2 1 (a + qOf o + 3) 0) := by
          show (up 1 1 (a + 1) (qOf o) ++ [ord 1 1 a 0, ord 2 1 (a + qOf o + 3) 0, ord 1 0 (a + qOf o + 2) 0])[qOf o + 1]? = _
          rw [up_off]; rfl
        rw [this, List.find?_cons_of_pos (by simp; omega)]
        rfl
      · rw [if_neg e2, List.find?_cons_of_neg (by simp; omega), List.find?_nil]
        cases (moreL a (qOf o))[i]? <;> rfl
    · have hb : blkL a o = lessL a (qOf o) := by unfold blkL; rw [if_neg e]
      have ho : blkOn a o = [(((a + qOf o + 2 : Nat) : Int), o.2.2.1), (((a + qOf o + 4 : Nat) : Int), o.2.2.2)] := by unfold blkOn; rw [if_neg e]
      have hl1 := less_len a (qOf o)
      have hg := rr_ge (a + 2 * qOf o + 6) (qOf o + 1)
      rw [hb] at h5 h3
      rw [hb]
      refine .inr ⟨e, by omega, less_block fun i hi => ?_, fun i j hi0 hi hj => ?_⟩
      · rw [hF i (by rw [hb]; exact hi), ho, hb]
        have hmid : ∀ i, i < qOf o + 5 → (lessL a (qOf o))[qOf o + 1 + i]? = (midL a (qOf o))[i]? := by
          intro i hi
          unfold lessL
          rw [List.getElem?_append_right (by rw [head_len]; omega), head_len, Nat.add_sub_cancel_left, List.getElem?_append_left (by rw [mid_len]; exact hi)]
        by_cases e2 : i = qOf o + 2
        · rw [if_pos e2, e2, hmid 1 (by omega), List.find?_cons_of_pos (by simp; omega)]
          rfl
        · rw [if_neg e2]
          by_cases e3 : i = qOf o + 4
          · rw [if_pos e3, e3, hmid 3 (by omega), List.find?_cons_of_neg (by simp; omega), List.find?_cons_of_pos (by simp; omega)]
            rfl
          · rw [if_neg e3, List.find?_cons_of_neg (by simp; omega), List.find?_cons_of_neg (by simp; omega), List.find?_nil]
            cases (lessL a (qOf o))[i]? <;> rfl
      · have g1 := rr_ge (a + 2 * qOf o + 6) i
        have g2 := rr_mono (a + 2 * qOf o + 6) (i := i + 1) (j := qOf o + 1) (by omega)
        have e1 : RR (a + 2 * qOf o + 6) (i + 1) = RR (a + 2 * qOf o + 6) i + i := rfl
        exact ⟨by omega, by omega⟩
  · intro a0 hc
    unfold two_Build
    rw [hc, bind_some', show ((0 : Int) != 0) = false from rfl, cond_false]
    have := build_loop l 0 [] [] [] (fun o ho => (hok o ho).1) (by simp; omega) (by simp; omega) (by simp)
    simp only [List.nil_append, List.length_nil] at this
    rw [this, bind_some']
    simp only
    rw [ck_ok (by rw [List.length_map, bA_len]; omega), bind_some', bind_some', f1, bind_some', hmap, hAe]

def pkP (i : Nat) : Nat := [2, 3, 5, 7].getD i 0
def pkN : Nat → List Nat → Nat
  | _, [] => 1
  | i, x :: l => pkP i ^ x * pkN (i + 1) l
def pkI (l : List Int) : Nat := pkN 0 (l.map Int.toNat)
theorem pk_in {i v x : Nat} (hi : i < 4) (hv : v ≤ 3) (hx : x ≤ 1000000000) : forI (0 : Int) (v : Int) (ref_Packed_b7 (i : Int)) (fun x56 => x56) (x : Int) = some ((x * pkP i ^ v : Nat) : Int) := by
  have hp : ∃ p, p ≤ 7 ∧ pkP i = p ∧ idx [(2 : Int), 3, 5, 7] (i : Int) = some (p : Int) := by
    have : i = 0 ∨ i = 1 ∨ i = 2 ∨ i = 3 := by omega
    rcases this with rfl | rfl | rfl | rfl
    · exact ⟨2, by omega, rfl, rfl⟩
    · exact ⟨3, by omega, rfl, rfl⟩
    · exact ⟨5, by omega, rfl, rfl⟩
    · exact ⟨7, by omega, rfl, rfl⟩
  obtain ⟨p, hp7, hp, hidx⟩ := hp
  rw [hp]
  have hb : ∀ (j : Int) (y : Nat), y ≤ 100000000000 → ref_Packed_b7 (i : Int) j (y : Int) = some (.next ((y * p : Nat) : Int)) := by
    intro j y hy
    have h7 : y * p ≤ y * 7 := Nat.mul_le_mul_left _ hp7
    unfold ref_Packed_b7
    have e : w64 ((y : Int) * (p : Int)) = ((y * p : Nat) : Int) := by rw [← Int.natCast_mul, w64_id (by omega) (by omega)]
    rw [hidx, bind_some', e]
  have h1 : x * p ≤ x * 7 := Nat.mul_le_mul_left _ hp7
  have h2 : x * p * p ≤ x * p * 7 := Nat.mul_le_mul_left _ hp7
  unfold forI
  rw [if_pos ⟨by omega, by omega⟩]
  have : v = 0 ∨ v = 1 ∨ v = 2 ∨ v = 3 := by omega
  rcases this with rfl | rfl | rfl | rfl
  · simp [loopI]
  · show loopI (ref_Packed_b7 (i : Int)) (fun x56 => x56) 1 0 (x : Int) = _
    simp only [loopI, hb 0 x (by omega), Nat.pow_succ, Nat.pow_zero, Nat.one_mul]
  · show loopI (ref_Packed_b7 (i : Int)) (fun x56 => x56) 2 0 (x : Int) = _
    simp only [loopI, hb 0 x (by omega), hb (0 + 1) (x * p) (by omega), Nat.pow_succ, Nat.pow_zero, Nat.one_mul, Nat.mul_assoc]
  · show loopI (ref_Packed_b7 (i : Int)) (fun x56 => x56) 3 0 (x : Int) = _
    simp only [loopI, hb 0 x (by omega), hb (0 + 1) (x * p) (by omega), hb (0 + 1 + 1) (x * p * p) (by omega)]
    simp [Nat.pow_succ, Nat.mul_assoc]
theorem pk_out (l : List Int) : ∀ (i x : Nat), i + l.length ≤ 4 → (∀ v ∈ l, 0 ≤ v ∧ v ≤ 3) → x ≤ 343 ^ i → forL ref_Packed_b10 (fun x42 => x42) l (i : Int) (x : Int) = some ((x * pkN i (l.map Int.toNat) : Nat) : Int) := by
  induction l with
  | nil => intro i x _ _ _; simp [forL, pkN]
  | cons v l ih =>
    intro i x hi hv hx
    simp only [List.length_cons] at hi
    obtain ⟨v0, v3⟩ := hv v (by simp)
    obtain ⟨n, rfl⟩ := Int.eq_ofNat_of_zero_le v0
    have hx2 : (343 : Nat) ^ i ≤ 343 ^ 3 := Nat.pow_le_pow_right (by omega) (by omega)
    have e := pk_in (i := i) (v := n) (x := x) (by omega) (by omega) (by omega)
    have hb : ref_Packed_b10 (i : Int) (n : Int) (x : Int) = some (.next ((x * pkP i ^ n : Nat) : Int)) := by unfold ref_Packed_b10; rw [e]; rfl
    have hp : pkP i ^ n ≤ 343 := by
      have h1 : pkP i ≤ 7 := by
        have : i = 0 ∨ i = 1 ∨ i = 2 ∨ i = 3 := by omega
        rcases this with rfl | rfl | rfl | rfl <;> decide
      have h2 : pkP i ^ n ≤ 7 ^ n := Nat.pow_le_pow_left h1 n
      have h3 : (7 : Nat) ^ n ≤ 7 ^ 3 := Nat.pow_le_pow_right (by omega) (by omega)
      omega
    have ih := ih (i + 1) (x * pkP i ^ n) (by omega) (fun w hw => hv w (by simp [hw])) (by rw [Nat.pow_succ]; exact Nat.mul_le_mul hx hp)
    simp only [forL, hb]
    rw [show ((i : Int) + 1) = ((i + 1 : Nat) : Int) by omega, ih]
    simp [pkN, Nat.mul_assoc]
theorem pk_ref {l : List Int} (hl : l.length ≤ 4) (h : ∀ v ∈ l, 0 ≤ v ∧ v ≤ 3) : ref_Packed l = some (pkI l : Int) := by
  unfold ref_Packed
  have := pk_out l 0 1 (by omega) h (by simp)
  rw [Nat.one_mul] at this
  rw [show (0 : Int) = ((0 : Nat) : Int) from rfl, show (1 : Int) = ((1 : Nat) : Int) from rfl, this]; rfl
theorem pk_set {l : List Int} {i : Nat} {v b : Int} (h : ∀ x ∈ l, 0 ≤ x ∧ x ≤ b) (hv : 0 ≤ v ∧ v ≤ b) : ∀ x ∈ l.set i v, 0 ≤ x ∧ x ≤ b := by
  intro x hx
  rcases List.mem_or_eq_of_mem_set hx with hx | rfl
  · exact h x hx
  · exact hv
def vecs : Nat → List (List Nat)
  | 0 => [[]]
  | n + 1 => (vecs n).flatMap fun v => [0 :: v, 1 :: v, 2 :: v]
theorem mem_vecs : ∀ l : List Nat, (∀ x ∈ l, x ≤ 2) → l ∈ vecs l.length
  | [], _ => by simp [vecs]
  | x :: l, h => by
    have ih := mem_vecs l (fun y hy => h y (by simp [hy]))
    have hx := h x (by simp)
    simp only [List.length_cons, vecs, List.mem_flatMap]
    refine ⟨l, ih, ?_⟩
    have : x = 0 ∨ x = 1 ∨ x = 2 := by omega
    rcases this with rfl | rfl | rfl <;> simp
def pkGood (ns : List Nat) : Bool :=
  decide (1 ≤ pkN 0 ns) && decide (pkN 0 ns ≤ 44100) && (List.range ns.length).all fun c =>
    decide (pkN 0 (ns.set c (ns.getD c 0 + 1)) = pkN 0 ns * pkP c) && (decide (ns.getD c 0 ≠ 0) || decide (pkN 0 ns % pkP c ≠ 0)) && (decide (ns.getD c 0 = 0) || decide (pkN 0 ns = pkN 0 (ns.set c (ns.getD c 0 - 1)) * pkP c))
theorem pk_tab : ([1, 2, 3, 4].all fun n => (vecs n).all pkGood) = true := by decide +kernel
theorem pk_facts {l : List Int} (h1 : 1 ≤ l.length) (h4 : l.length ≤ 4) (h : ∀ v ∈ l, 0 ≤ v ∧ v ≤ 2) : 1 ≤ pkI l ∧ pkI l ≤ 44100 ∧ ∀ c, c < l.length →
    pkI (l.set c (l.getD c 0 + 1)) = pkI l * pkP c ∧ (l.getD c 0 = 0 → pkI l % pkP c ≠ 0) ∧ (0 < l.getD c 0 → pkI l = pkI (l.set c (l.getD c 0 - 1)) * pkP c) := by
  have hm := mem_vecs (l.map Int.toNat) (fun x hx => by
    obtain ⟨v, hv, rfl⟩ := List.mem_map.1 hx
    have := h v hv
    omega)
  rw [List.length_map] at hm
  have ht := List.all_eq_true.1 pk_tab l.length (by
    have : l.length = 1 ∨ l.length = 2 ∨ l.length = 3 ∨ l.length = 4 := by omega
    rcases this with e | e | e | e <;> rw [e] <;> simp)
  have hg := List.all_eq_true.1 ht _ hm
  unfold pkGood at hg
  simp only [Bool.and_eq_true, decide_eq_true_eq, List.all_eq_true, List.mem_range, Bool.or_eq_true] at hg
  obtain ⟨⟨g1, g2⟩, g3⟩ := hg
  refine ⟨g1, g2, fun c hc => ?_⟩
  obtain ⟨⟨q1, q2⟩, q3⟩ := g3 c (by rw [List.length_map]; exact hc)
  have hx : l[c]? = some l[c] := List.getElem?_eq_getElem hc
  have hb := h _ (List.mem_of_getElem? hx)
  have e1 : l.getD c 0 = l[c] := by rw [List.getD_eq_getElem?_getD, hx]; rfl
  have e2 : (l.map Int.toNat).getD c 0 = l[c].toNat := by rw [List.getD_eq_getElem?_getD, List.getElem?_map, hx]; rfl
  rw [e2] at q1 q2 q3
  rw [e1]
  generalize l[c] = x at *
  refine ⟨?_, fun e => ?_, fun e => ?_⟩
  · show pkN 0 ((l.set c (x + 1)).map Int.toNat) = _
    rw [List.map_set, show (x + 1).toNat = x.toNat + 1 by omega]; exact q1
  · rcases q2 with q2 | q2
    · omega
    · exact q2
  · rcases q3 with q3 | q3
    · omega
    · show pkN 0 (l.map Int.toNat) = pkN 0 ((l.set c (x - 1)).map Int.toNat) * pkP c
      rw [List.map_set, show (x - 1).toNat = x.toNat - 1 by omega]; exact q3

def cs (s : Ps) : List Int := [(s.2.1 : Int), (s.2.2 : Int)]
theorem go_ref {F : List Od} (hF : ∀ o ∈ F, okO F.length o) {s s' : Ps} (h : go F s = some s') (hb : s.2.1 ≤ 20000000 ∧ s.2.2 ≤ 20000000) {d : Nat} (hd : d < 3000000) :
    ref_Counted_b1 F 3000000 ((s.1 : Int), (d : Int), cs s) = some (.next ((s'.1 : Int), ((d + 1 : Nat) : Int), cs s')) ∧ s'.2.1 ≤ s.2.1 + 1 ∧ s'.2.2 ≤ s.2.2 + 1 := by
  unfold go at h
  cases ho : F[s.1]? with
  | none => rw [ho] at h; cases h
  | some o =>
    rw [ho] at h
    have hl := (List.getElem?_eq_some_iff.1 ho).1
    have hy : idx F (s.1 : Int) = some o := by rw [idx_nat, ho]
    obtain ⟨k, r, a, b⟩ := o
    obtain ⟨h1, h2, ⟨h3, _⟩, h4, _⟩ := hF _ (List.mem_of_getElem? ho)
    simp only at h h1 h2 h3 h4
    obtain ⟨p, c0, c1⟩ := s
    simp only at h hb hl hy ⊢
    have i0 : idx (cs (p, c0, c1)) 0 = some (c0 : Int) := rfl
    have i1 : idx (cs (p, c0, c1)) 1 = some (c1 : Int) := rfl
    have hc : ((decide ((d : Int) < 3000000)) && (decide ((p : Int) < (List.length F : Int)))) = true := by simp only [Bool.and_eq_true, decide_eq_true_eq]; omega
    have hw : w64 ((d : Int) + 1) = ((d + 1 : Nat) : Int) := by rw [w64_id (by omega) (by omega)]; omega
    unfold ref_Counted_b1
    simp only
    rw [hc, cond_true, hy, bind_some', hw]
    simp only
    rcases h1 with rfl | rfl
    · rw [if_pos rfl] at h
      rcases h2 with rfl | rfl
      · rw [if_pos rfl] at h
        injection h with h
        subst h
        simp only
        rw [show ((1 : Int) == 1) = true from rfl, cond_true, i0, bind_some', w64_id (by omega) (by omega), Int.toNat_of_nonneg h3]
        exact ⟨by simp [cs], by omega, by omega⟩
      · rw [if_neg (by decide)] at h
        injection h with h
        subst h
        simp only
        rw [show ((1 : Int) == 1) = true from rfl, cond_true, i1, bind_some', w64_id (by omega) (by omega), Int.toNat_of_nonneg h3]
        exact ⟨by simp [cs], by omega, by omega⟩
    · rw [if_neg (by decide)] at h
      rcases h2 with rfl | rfl
      · rw [if_pos rfl] at h
        by_cases e : c0 = 0
        · subst e
          rw [if_pos rfl] at h
          injection h with h
          subst h
          simp only
          rw [show ((2 : Int) == 1) = false from rfl, cond_false, i0, bind_some', Int.toNat_of_nonneg h4]
          exact ⟨rfl, by omega, by omega⟩
        · rw [if_neg e] at h
          injection h with h
          subst h
          simp only
          rw [show ((2 : Int) == 1) = false from rfl, cond_false, i0, bind_some', show decide ((c0 : Int) > 0) = true from decide_eq_true (by omega), cond_true, w64_id (by omega) (by omega), Int.toNat_of_nonneg h3]
          refine ⟨?_, by omega, by omega⟩
          simp [cs]; omega
      · rw [if_neg (by decide)] at h
        by_cases e : c1 = 0
        · subst e
          rw [if_pos rfl] at h
          injection h with h
          subst h
          simp only
          rw [show ((2 : Int) == 1) = false from rfl, cond_false, i1, bind_some', Int.toNat_of_nonneg h4]
          exact ⟨rfl, by omega, by omega⟩
        · rw [if_neg e] at h
          injection h with h
          subst h
          simp only
          rw [show ((2 : Int) == 1) = false from rfl, cond_false, i1, bind_some', show decide ((c1 : Int) > 0) = true from decide_eq_true (by omega), cond_true, w64_id (by omega) (by omega), Int.toNat_of_nonneg h3]
          refine ⟨?_, by omega, by omega⟩
          simp [cs]; omega
theorem iter_next {X Y : Type} {f : X → Option (Flow X Y)} {n : Nat} {x x' : X} (h : f x = some (.next x')) : iter f (n + 1) x = iter f n x' := by simp only [iter, h]
theorem iter_done {X Y : Type} {f : X → Option (Flow X Y)} {n : Nat} {x : X} {y : Y} (h : f x = some (.done y)) : iter f (n + 1) x = some y := by simp only [iter, h]
theorem ref_runs {F : List Od} (hF : ∀ o ∈ F, okO F.length o) : ∀ (n fuel d : Nat) (s s' : Ps), n < fuel → d + n ≤ 3000000 → Runs F (fun _ => False) n s s' → s'.1 = F.length → s.2.1 ≤ 1000000 + d → s.2.2 ≤ 1000000 + d →
    iter (ref_Counted_b1 F 3000000) fuel ((s.1 : Int), (d : Int), cs s) = some ((F.length : Int), ((d + n : Nat) : Int), cs s') := by
  intro n
  induction n with
  | zero =>
    intro fuel d s s' hn hd hr he h0 h1
    obtain rfl : s = s' := hr
    obtain ⟨f, rfl⟩ : ∃ f, fuel = f + 1 := ⟨fuel - 1, by omega⟩
    refine iter_done ?_
    unfold ref_Counted_b1
    simp only
    have hc : ((decide ((d : Int) < 3000000)) && (decide ((s.1 : Int) < (List.length F : Int)))) = false := by simp only [Bool.and_eq_false_iff, decide_eq_false_iff_not]; omega
    rw [hc, cond_false, he]; rfl
  | succ n ih =>
    intro fuel d s s' hn hd hr he h0 h1
    obtain ⟨f, rfl⟩ : ∃ f, fuel = f + 1 := ⟨fuel - 1, by omega⟩
    obtain ⟨m, m1, _, m3⟩ := hr
    obtain ⟨g1, g2, g3⟩ := go_ref hF m1 ⟨by omega, by omega⟩ (d := d) (by omega)
    rw [iter_next g1, ih f (d + 1) m s' (by omega) (by omega) m3 he (by omega) (by omega), show d + 1 + n = d + (n + 1) by omega]
/-- a step of the machine with one counter -/
def stS (l : List Od) (s : Nat × Nat) : Nat × Nat :=
  match l[s.1]? with
  | none => s
  | some o => if o.1 = 1 then (o.2.2.1.toNat, s.2 + 1) else if s.2 = 0 then (o.2.2.2.toNat, s.2) else (o.2.2.1.toNat, s.2 - 1)
def rnS (l : List Od) : Nat → Nat × Nat → Nat × Nat
  | 0, s => s
  | n + 1, s => rnS l n (stS l s)
theorem rn_succ (l : List Od) : ∀ (n : Nat) (s : Nat × Nat), rnS l (n + 1) s = stS l (rnS l n s)
  | 0, s => rfl
  | n + 1, s => rn_succ l n (stS l s)
theorem rn_stay (l : List Od) {s : Nat × Nat} (h : l[s.1]? = none) : ∀ n, rnS l n s = s
  | 0 => rfl
  | n + 1 => by
    have : stS l s = s := by unfold stS; rw [h]
    show rnS l n (stS l s) = s
    rw [this]; exact rn_stay l h n
def okL (l : List Od) : Prop := ∀ v ∈ l, (v.1 = 1 ∨ v.1 = 2) ∧ v.2.1 = 0 ∧ (0 ≤ v.2.2.1 ∧ v.2.2.1 ≤ (l.length : Int)) ∧ (v.1 = 2 → 0 ≤ v.2.2.2 ∧ v.2.2.2 ≤ (l.length : Int))
theorem st_le {l : List Od} (h : okL l) {s : Nat × Nat} (hs : s.1 ≤ l.length) : (stS l s).1 ≤ l.length ∧ (stS l s).2 ≤ s.2 + 1 := by
  unfold stS
  cases ho : l[s.1]? with
  | none => exact ⟨hs, by simp only; omega⟩
  | some o =>
    obtain ⟨h1, h2, h3, h4⟩ := h o (List.mem_of_getElem? ho)
    simp only
    split
    · exact ⟨by simp only; omega, by simp only; omega⟩
    · have := h4 (by omega)
      split
      · exact ⟨by simp only; omega, by simp only; omega⟩
      · exact ⟨by simp only; omega, by simp only; omega⟩
theorem ref_src {l : List Od} (h : okL l) : ∀ (k fuel d : Nat) (s : Nat × Nat), k < fuel → d + k ≤ 1000 → s.2 ≤ 1000 + d → ∃ d' : Nat, iter (ref_Counted_b1 l ((d + k : Nat) : Int)) fuel ((s.1 : Int), (d : Int), [(s.2 : Int)]) = some (((rnS l k s).1 : Int), (d' : Int), [((rnS l k s).2 : Int)]) := by
  intro k
  induction k with
  | zero =>
    intro fuel d s hf hd hs
    obtain ⟨f, rfl⟩ : ∃ f, fuel = f + 1 := ⟨fuel - 1, by omega⟩
    refine ⟨d, iter_done ?_⟩
    unfold ref_Counted_b1
    simp only
    have hc : ((decide ((d : Int) < ((d + 0 : Nat) : Int))) && (decide ((s.1 : Int) < (List.length l : Int)))) = false := by simp only [Bool.and_eq_false_iff, decide_eq_false_iff_not]; omega
    rw [hc, cond_false]; rfl
  | succ k ih =>
    intro fuel d s hf hd hs
    obtain ⟨f, rfl⟩ : ∃ f, fuel = f + 1 := ⟨fuel - 1, by omega⟩
    cases ho : l[s.1]? with
    | none =>
      refine ⟨d, ?_⟩
      rw [rn_stay l ho]
      refine iter_done ?_
      unfold ref_Counted_b1
      simp only
      have := List.getElem?_eq_none_iff.1 ho
      have hc : ((decide ((d : Int) < ((d + (k + 1) : Nat) : Int))) && (decide ((s.1 : Int) < (List.length l : Int)))) = false := by simp only [Bool.and_eq_false_iff, decide_eq_false_iff_not]; omega
      rw [hc, cond_false]
    | some o =>
      have hl := (List.getElem?_eq_some_iff.1 ho).1
      obtain ⟨h1, h2, h3, h4⟩ := h o (List.mem_of_getElem? ho)
      have hy : idx l (s.1 : Int) = some o := by rw [idx_nat, ho]
      have hc : ((decide ((d : Int) < ((d + (k + 1) : Nat) : Int))) && (decide ((s.1 : Int) < (List.length l : Int)))) = true := by simp only [Bool.and_eq_true, decide_eq_true_eq]; omega
      have hw : w64 ((d : Int) + 1) = ((d + 1 : Nat) : Int) := by rw [w64_id (by omega) (by omega)]; omega
      have i0 : idx [(s.2 : Int)] 0 = some (s.2 : Int) := rfl
      have step : ref_Counted_b1 l ((d + (k + 1) : Nat) : Int) ((s.1 : Int), (d : Int), [(s.2 : Int)]) = some (.next (((stS l s).1 : Int), ((d + 1 : Nat) : Int), [((stS l s).2 : Int)])) := by
        unfold ref_Counted_b1 stS
        simp only [ho]
        rw [hc, cond_true, hy, bind_some', hw, h2, i0]
        rcases h1 with e | e
        · rw [show (o.1 == (1 : Int)) = true by simp [e], cond_true, if_pos e, bind_some', w64_id (by omega) (by omega), Int.toNat_of_nonneg h3.1]
          simp
        · rw [show (o.1 == (1 : Int)) = false by simp [e], cond_false, if_neg (by omega), bind_some']
          by_cases e2 : s.2 = 0
          · rw [if_pos e2, show decide ((s.2 : Int) > 0) = false from decide_eq_false (by omega), cond_false, Int.toNat_of_nonneg (h4 e).1]
          · rw [if_neg e2, show decide ((s.2 : Int) > 0) = true from decide_eq_true (by omega), cond_true, w64_id (by omega) (by omega), Int.toNat_of_nonneg h3.1]
            simp; omega
      obtain ⟨d', hd'⟩ := ih f (d + 1) (stS l s) (by omega) (by omega) (by have := (st_le h (s := s) (by omega)).2; omega)
      rw [show d + 1 + k = d + (k + 1) by omega] at hd'
      exact ⟨d', by rw [iter_next step]; exact hd'⟩
theorem run_same {l : List Od} (h : okL l) {T d a : Int} {y : Nat} : count_Run_b1 l T (a, d, [(y : Int)]) = ref_Counted_b1 l T (a, d, [(y : Int)]) := by
  unfold count_Run_b1 ref_Counted_b1
  simp only
  cases hc : ((decide (d < T)) && (decide (a < (List.length l : Int)))) with
  | false => rfl
  | true =>
    rw [cond_true, cond_true]
    cases ho : idx l a with
    | none => rfl
    | some o =>
      obtain ⟨_, _, hm⟩ := idx_some ho
      obtain ⟨h1, h2, h3, h4⟩ := h o (List.mem_of_getElem? hm)
      have i0 : idx [(y : Int)] 0 = some (y : Int) := rfl
      unfold count_Turn
      rw [bind_some', bind_some', h2, i0]
      rcases h1 with e | e
      · rw [show (o.1 == (1 : Int)) = true by simp [e]]; rfl
      · rw [show (o.1 == (1 : Int)) = false by simp [e], cond_false, cond_false, bind_some', bind_some']
        by_cases e2 : y = 0
        · rw [show decide ((y : Int) > 0) = false from decide_eq_false (by omega), show ((y : Int) == 0) = true by simp [e2]]; rfl
        · rw [show decide ((y : Int) > 0) = true from decide_eq_true (by omega), show ((y : Int) == 0) = false by simp [e2]]; rfl
theorem run_src {l : List Od} (h : okL l) : ∀ (k fuel d : Nat) (s : Nat × Nat), k < fuel → d + k ≤ 1000 → s.1 ≤ l.length → s.2 ≤ 1000 + d → iter (count_Run_b1 l ((d + k : Nat) : Int)) fuel ((s.1 : Int), (d : Int), [(s.2 : Int)]) = iter (ref_Counted_b1 l ((d + k : Nat) : Int)) fuel ((s.1 : Int), (d : Int), [(s.2 : Int)]) := by
  intro k
  induction k with
  | zero =>
    intro fuel d s hf hd hl hs
    obtain ⟨f, rfl⟩ : ∃ f, fuel = f + 1 := ⟨fuel - 1, by omega⟩
    have hc : ((decide ((d : Int) < ((d + 0 : Nat) : Int))) && (decide ((s.1 : Int) < (List.length l : Int)))) = false := by simp only [Bool.and_eq_false_iff, decide_eq_false_iff_not]; omega
    have e2 : ref_Counted_b1 l ((d + 0 : Nat) : Int) ((s.1 : Int), (d : Int), [(s.2 : Int)]) = some (.done ((s.1 : Int), (d : Int), [(s.2 : Int)])) := by
      unfold ref_Counted_b1; simp only; rw [hc]; rfl
    rw [iter_done (f := count_Run_b1 l _) (by rw [run_same h]; exact e2), iter_done e2]
  | succ k ih =>
    intro fuel d s hf hd hl hs
    obtain ⟨f, rfl⟩ : ∃ f, fuel = f + 1 := ⟨fuel - 1, by omega⟩
    cases ho : l[s.1]? with
    | none =>
      have := List.getElem?_eq_none_iff.1 ho
      have hc : ((decide ((d : Int) < ((d + (k + 1) : Nat) : Int))) && (decide ((s.1 : Int) < (List.length l : Int)))) = false := by simp only [Bool.and_eq_false_iff, decide_eq_false_iff_not]; omega
      have e2 : ref_Counted_b1 l ((d + (k + 1) : Nat) : Int) ((s.1 : Int), (d : Int), [(s.2 : Int)]) = some (.done ((s.1 : Int), (d : Int), [(s.2 : Int)])) := by
        unfold ref_Counted_b1; simp only; rw [hc]; rfl
      rw [iter_done (f := count_Run_b1 l _) (by rw [run_same h]; exact e2), iter_done e2]
    | some o =>
      have hl := (List.getElem?_eq_some_iff.1 ho).1
      obtain ⟨h1, h2, h3, h4⟩ := h o (List.mem_of_getElem? ho)
      have hy : idx l (s.1 : Int) = some o := by rw [idx_nat, ho]
      have hc : ((decide ((d : Int) < ((d + (k + 1) : Nat) : Int))) && (decide ((s.1 : Int) < (List.length l : Int)))) = true := by simp only [Bool.and_eq_true, decide_eq_true_eq]; omega
      have hw : w64 ((d : Int) + 1) = ((d + 1 : Nat) : Int) := by rw [w64_id (by omega) (by omega)]; omega
      have i0 : idx [(s.2 : Int)] 0 = some (s.2 : Int) := rfl
      have step : ref_Counted_b1 l ((d + (k + 1) : Nat) : Int) ((s.1 : Int), (d : Int), [(s.2 : Int)]) = some (.next (((stS l s).1 : Int), ((d + 1 : Nat) : Int), [((stS l s).2 : Int)])) := by
        unfold ref_Counted_b1 stS
        simp only [ho]
        rw [hc, cond_true, hy, bind_some', hw, h2, i0]
        rcases h1 with e | e
        · rw [show (o.1 == (1 : Int)) = true by simp [e], cond_true, if_pos e, bind_some', w64_id (by omega) (by omega), Int.toNat_of_nonneg h3.1]
          simp
        · rw [show (o.1 == (1 : Int)) = false by simp [e], cond_false, if_neg (by omega), bind_some']
          by_cases e2 : s.2 = 0
          · rw [if_pos e2, show decide ((s.2 : Int) > 0) = false from decide_eq_false (by omega), cond_false, Int.toNat_of_nonneg (h4 e).1]
          · rw [if_neg e2, show decide ((s.2 : Int) > 0) = true from decide_eq_true (by omega), cond_true, w64_id (by omega) (by omega), Int.toNat_of_nonneg h3.1]
            simp; omega
      have hst := st_le h (s := s) (by omega)
      have := ih f (d + 1) (stS l s) (by omega) (by omega) hst.1 (by omega)
      rw [show d + 1 + k = d + (k + 1) by omega] at this
      rw [iter_next (f := count_Run_b1 l _) (by rw [run_same h]; exact step), iter_next step]; exact this
/-- one order, by the two counters -/
theorem sim_step {l F : List Od} {A : List Nat} (hB : Built l F A) (h : okL l) {s : Nat × Nat} (hs : s.1 < l.length) (h8 : s.2 ≤ 8) : ∃ n, n ≤ 26000 ∧ Runs F (fun _ => False) n (A.getD s.1 0, 2 ^ s.2, 0) (A.getD (stS l s).1 0, 2 ^ (stS l s).2, 0) := by
  have ho : l[s.1]? = some l[s.1] := List.getElem?_eq_getElem hs
  generalize l[s.1] = o at ho
  obtain ⟨h1, h2, h3, h4⟩ := h o (List.mem_of_getElem? ho)
  obtain ⟨a, b, ha, hb, hblk⟩ := hB.blk s.1 o ho
  have hq : qOf o = 1 := by unfold qOf; rw [h2]; rfl
  have hA : A.getD s.1 0 = a := by rw [List.getD_eq_getElem?_getD, ha]; rfl
  have h256 : 2 ^ s.2 ≤ 2 ^ 8 := Nat.pow_le_pow_right (by omega) h8
  have no : ∀ s : Ps, 0 < s.2.2 → ¬ (fun _ : Ps => False) s := fun _ _ h => h
  have no2 : ∀ i c c', a < i → i ≤ a + qOf o + 3 → ¬ (fun _ : Ps => False) (i, c, c') := fun _ _ _ _ _ h => h
  have one : ∀ {n : Nat} {x y z : Ps}, Runs F (fun _ => False) n x y → go F y = some z → Runs F (fun _ => False) (n + 1) x z := fun hr hg => Runs.trans hr ⟨_, hg, fun h => h, rfl⟩
  rw [hA]
  unfold stS
  simp only [ho]
  by_cases e : o.1 = 1
  · rw [if_pos e]
    rcases hblk with ⟨_, _, hM⟩ | ⟨hne, _⟩
    · obtain ⟨n, x, r1, r2, r3⟩ := more_all hM no no2 (2 ^ s.2)
      refine ⟨n + 1, ?_, ?_⟩
      · rw [hq] at r3; omega
      · rw [hq] at r2
        have := one r1 r2
        rw [show (2 ^ s.2) * (1 + 1) = 2 ^ (s.2 + 1) by rw [Nat.pow_succ]] at this
        exact this
    · exact (hne e).elim
  · rw [if_neg e]
    rcases hblk with ⟨he, _⟩ | ⟨_, _, hM, _⟩
    · exact (e he).elim
    · by_cases e2 : s.2 = 0
      · rw [if_pos e2, e2]
        obtain ⟨n, x, r1, r2, r3⟩ := less_no hM no (fun _ _ _ _ _ h => h) (fun _ _ _ _ _ _ _ h => h) (k := 0) (m := 1) (by omega) (by omega)
        rw [Nat.zero_mul, Nat.add_zero] at r1 r2
        rw [hq] at r3
        exact ⟨n + 1, by omega, one r1 r2⟩
      · rw [if_neg e2]
        obtain ⟨n, x, r1, r2, r3⟩ := less_yes hM no no2 (2 ^ (s.2 - 1))
        rw [hq] at r1 r3
        have e3 : 2 ^ (s.2 - 1) * (1 + 1) = 2 ^ s.2 := by
          obtain ⟨m, hm⟩ : ∃ m, s.2 = m + 1 := ⟨s.2 - 1, by omega⟩
          rw [hm, Nat.pow_succ]; rfl
        rw [e3] at r1
        exact ⟨n + 1, by omega, one r1 r2⟩
theorem sim_run {l F : List Od} {A : List Nat} (hB : Built l F A) (h : okL l) {s : Nat × Nat} (hs : s.1 ≤ l.length) : ∀ k, (∀ j, j ≤ k → (rnS l j s).2 ≤ 8) → (rnS l k s).1 ≤ l.length ∧ ∃ n, n ≤ 26000 * k ∧ Runs F (fun _ => False) n (A.getD s.1 0, 2 ^ s.2, 0) (A.getD (rnS l k s).1 0, 2 ^ (rnS l k s).2, 0)
  | 0, _ => ⟨hs, 0, by omega, rfl⟩
  | k + 1, h8 => by
    obtain ⟨i1, n, i2, i3⟩ := sim_run hB h hs k (fun j hj => h8 j (by omega))
    rw [rn_succ]
    refine ⟨(st_le h i1).1, ?_⟩
    by_cases hlt : (rnS l k s).1 < l.length
    · obtain ⟨m, m1, m2⟩ := sim_step hB h hlt (h8 k (by omega))
      exact ⟨n + m, by omega, Runs.trans i3 m2⟩
    · have : stS l (rnS l k s) = rnS l k s := by
        unfold stS
        rw [List.getElem?_eq_none (by omega)]
      rw [this]
      exact ⟨n, by omega, i3⟩
theorem TopTwo_true (a0 : List Od) (a1 : Int) (f0 : Fits (.slice (.pair (.int .i64) (.pair (.int .i64) (.pair (.int .i64) (.int .i64))))) a0) (f1 : Fits (.int .u8) a1) : ∃ fuel, top_TopTwo fuel a0 a1 = some true := by
  obtain ⟨fuel, hfuel⟩ : ∃ f : Nat, 5000000 < f := ⟨5000001, by omega⟩
  refine ⟨fuel, ?_⟩
  by_cases hz : ocAll 1 a0 = 0
  · obtain ⟨_, ⟨c3, c4⟩, hv⟩ := (fun x => ⟨x.1.1, x.1.2, x.2⟩ : _ → _ ∧ _ ∧ _) (oc_valid hz)
    have hok : okL a0 := fun o ho => by
      obtain ⟨k1, k2, k3, k4⟩ := hv o ho
      exact ⟨k1, by omega, k3, k4⟩
    obtain ⟨F, A, hB, hbuild⟩ := built_of (l := a0) (by omega) (fun o ho => by
      obtain ⟨k1, k2, k3, k4⟩ := hv o ho
      exact ⟨⟨k1, k2.1, by omega⟩, k3, k4⟩)
    have hbuild := hbuild 1 (by rw [oc_check, hz])
    have hcc : ref_CountCheck 1 a0 = some 0 := by rw [oc_countcheck, hz]
    have hcp : count_Check 1 a0 = some 0 := by rw [oc_check, hz]
    have hsm := hB.small
    have hu := Fits.u8 f1
    obtain ⟨x, hx, hx4⟩ : ∃ x : Nat, Int.tmod (w64 a1) 4 = (x : Int) ∧ x < 4 := by
      obtain ⟨n, hn⟩ : ∃ n : Nat, a1 = (n : Int) := ⟨a1.toNat, by omega⟩
      subst hn
      refine ⟨n % 4, ?_, Nat.mod_lt _ (by omega)⟩
      rw [w64_id (by omega) (by omega)]
      rfl
    have hrun : ∃ d : Nat, count_Run fuel 1 a0 [(x : Int)] 40 = some ([((rnS a0 40 (0, x)).2 : Int)], ((rnS a0 40 (0, x)).1 : Int), (d : Int), 0) := by
      obtain ⟨d, hd⟩ := ref_src hok 40 fuel 0 (0, x) (by omega) (by omega) (by simp only; omega)
      have hs := run_src hok 40 fuel 0 (0, x) (by omega) (by omega) (by simp) (by simp only; omega)
      rw [hd] at hs
      refine ⟨d, ?_⟩
      unfold count_Run
      have hbad : slices_ContainsFunc_Lintint_with_count_Run_1 [(x : Int)] = some false := by
        unfold slices_ContainsFunc_Lintint_with_count_Run_1 slices_IndexFunc_Lintint_with_count_Run_1
        have : slices_IndexFunc_Lintint_with_count_Run_1_b1 0 (x : Int) () = some (.next ()) := by
          unfold slices_IndexFunc_Lintint_with_count_Run_1_b1 count_Run_1
          rw [bind_some', show ((decide ((x : Int) < 0)) || (decide ((x : Int) > 20))) = false by simp only [Bool.or_eq_false_iff, decide_eq_false_iff_not]; omega]; rfl
        simp only [forL, this]
        rfl
      rw [hcp, bind_some', show ((0 : Int) != 0) = false from rfl, cond_false, show ((List.length [(x : Int)] : Int) != 1) = false from rfl, cond_false, hbad, bind_some', cond_false, show ((decide ((40 : Int) < 0)) || (decide ((40 : Int) > 400))) = false from rfl, cond_false]
      have hcl : slices_Clone_Lintint [(x : Int)] = some [(x : Int)] := by
        unfold slices_Clone_Lintint
        rw [ck_ok (by simp), bind_some']; rfl
      rw [hcl, bind_some']
      have hs' : iter (count_Run_b1 a0 40) fuel (0, 0, [(x : Int)]) = some (((rnS a0 40 (0, x)).1 : Int), (d : Int), [((rnS a0 40 (0, x)).2 : Int)]) := hs
      rw [hs']; rfl
    obtain ⟨d, hrun⟩ := hrun
    have hpack : two_Pack [(x : Int)] = some (((2 ^ x : Nat) : Int), 0) := by
      have : x = 0 ∨ x = 1 ∨ x = 2 ∨ x = 3 := by omega
      rcases this with rfl | rfl | rfl | rfl <;> rfl
    have hpos : 1 ≤ 2 ^ x := Nat.pow_pos (by omega)
    have hord : ref_OrdersCheck 2 F = some 0 := by
      rw [oc_ref 2 F (by omega)]
      have : F.findSome? (oc 2 (F.length + 1)) = none := by
        rw [List.findSome?_eq_none_iff]
        intro o ho
        obtain ⟨h1, h2, ⟨h3, h3'⟩, h4, h4'⟩ := hB.ok o ho
        unfold oc
        rw [if_neg (by omega), if_neg (by omega), if_neg (by omega)]
      rw [this]; rfl
    have hAl := hB.lenA
    have hg1 : top_TopTwo_g1 (F, A.map (fun (n : Nat) => (n : Int)), 0) ([((rnS a0 40 (0, x)).2 : Int)], ((rnS a0 40 (0, x)).1 : Int), (d : Int), 0) (((2 ^ x : Nat) : Int), 0) = some false := by
      unfold top_TopTwo_g1
      simp only
      rw [List.length_map, hAl, hord]
      have e1 : ((((a0.length + 1 : Nat) : Int)) == 0) = false := by simp; omega
      have e2 : decide (((2 ^ x : Nat) : Int) < 1) = false := decide_eq_false (by omega)
      rw [e1, e2]; rfl
    unfold top_TopTwo
    rw [hbuild, hcc, bind_some', bind_some', show ((0 : Int) != 0) = false from rfl, cond_false, hx, hrun, bind_some', hpack, bind_some', hg1, bind_some', cond_false]
    simp only
    by_cases hend : (rnS a0 40 (0, x)).1 < a0.length
    · rw [decide_eq_true (by omega), cond_true]
    · rw [decide_eq_false (by omega), cond_false]
      obtain ⟨y, hy, hpost⟩ := iter_inv (f := top_TopTwo_b2 a0 a1 fuel) (Inv := fun i => ∃ n : Nat, i = (n : Int) ∧ n ≤ 41 ∧ ∀ j, j < n → (rnS a0 j (0, x)).2 ≤ 8) (m := fun i => (41 - i).toNat)
        (Post := fun y => y = .ret true ∨ (y = .brk () ∧ ∀ j, j ≤ 40 → (rnS a0 j (0, x)).2 ≤ 8))
        (by
          rintro _ ⟨n, rfl, hn, hj⟩
          unfold top_TopTwo_b2
          by_cases hn40 : n ≤ 40
          · rw [decide_eq_true (by omega : (n : Int) ≤ 40), cond_true, hx]
            obtain ⟨d, hd⟩ := ref_src hok n fuel 0 (0, x) (by omega) (by omega) (by simp only; omega)
            have hc : ref_Counted fuel a0 [(x : Int)] 0 (n : Int) = some ([((rnS a0 n (0, x)).2 : Int)], ((rnS a0 n (0, x)).1 : Int), (d : Int)) := by
              unfold ref_Counted
              rw [ck_ok (by simp), bind_some']
              have hd' : iter (ref_Counted_b1 a0 (n : Int)) fuel (0, 0, [] ++ [(x : Int)]) = some (((rnS a0 n (0, x)).1 : Int), (d : Int), [((rnS a0 n (0, x)).2 : Int)]) := by
                rw [Nat.zero_add] at hd
                exact hd
              rw [hd']; rfl
            have i0 : idx [((rnS a0 n (0, x)).2 : Int)] 0 = some ((rnS a0 n (0, x)).2 : Int) := rfl
            rw [hc, bind_some', i0, bind_some']
            by_cases h8 : (rnS a0 n (0, x)).2 ≤ 8
            · rw [decide_eq_false (by omega), cond_false]
              have ew : w64 ((n : Int) + 1) = ((n + 1 : Nat) : Int) := by rw [w64_id (by omega) (by omega)]; omega
              refine ⟨_, rfl, ⟨n + 1, ew, by omega, fun j hj2 => ?_⟩, by rw [ew]; omega⟩
              by_cases e : j = n
              · rw [e]; exact h8
              · exact hj j (by omega)
            · rw [decide_eq_true (by omega), cond_true]
              exact ⟨_, rfl, .inl rfl⟩
          · rw [decide_eq_false (by omega), cond_false]
            exact ⟨_, rfl, .inr ⟨rfl, fun j hj2 => hj j (by omega)⟩⟩) fuel 0 (by show (41 - (0 : Int)).toNat < fuel; omega) ⟨0, rfl, by omega, fun j hj => by omega⟩
      rw [hy, bind_some']
      rcases hpost with rfl | ⟨rfl, h8⟩
      · rfl
      · obtain ⟨e1, n, e2, e3⟩ := sim_run hB hok (s := (0, x)) (Nat.zero_le _) 40 h8
        have hat : (rnS a0 40 (0, x)).1 = a0.length := by omega
        have hAend : A.getD (rnS a0 40 (0, x)).1 0 = F.length := by rw [hat, List.getD_eq_getElem?_getD, hB.last]; rfl
        rw [hAend] at e3
        have h0 : A[0]? = some (A.getD 0 0) := by
          rw [List.getD_eq_getElem?_getD, List.getElem?_eq_getElem (by omega)]; rfl
        have hi0 : idx (A.map (fun (n : Nat) => (n : Int))) 0 = some ((A.getD 0 0 : Nat) : Int) := by
          rw [show (0 : Int) = ((0 : Nat) : Int) from rfl, idx_nat, List.getElem?_map, h0]; rfl
        have hlim : 2 ^ x ≤ 2 ^ 3 := Nat.pow_le_pow_right (by omega) (by omega)
        have hr := ref_runs hB.ok n fuel 0 (A.getD 0 0, 2 ^ x, 0) (F.length, 2 ^ (rnS a0 40 (0, x)).2, 0) (by omega) (by omega) e3 rfl (by simp only; omega) (by simp only; omega)
        have hcnt : ref_Counted fuel F [((2 ^ x : Nat) : Int), 0] ((A.getD 0 0 : Nat) : Int) 3000000 = some ([((2 ^ (rnS a0 40 (0, x)).2 : Nat) : Int), 0], (F.length : Int), ((0 + n : Nat) : Int)) := by
          unfold ref_Counted
          rw [ck_ok (by simp), bind_some']
          have hr' : iter (ref_Counted_b1 F 3000000) fuel (((A.getD 0 0 : Nat) : Int), 0, [] ++ [((2 ^ x : Nat) : Int), 0]) = some ((F.length : Int), ((0 + n : Nat) : Int), [((2 ^ (rnS a0 40 (0, x)).2 : Nat) : Int), 0]) := hr
          rw [hr']; rfl
        have hy8 := h8 40 (by omega)
        generalize (rnS a0 40 (0, x)).2 = y at *
        have hpk : ref_Packed [(y : Int)] = some ((2 ^ y : Nat) : Int) := by
          have : y = 0 ∨ y = 1 ∨ y = 2 ∨ y = 3 ∨ y = 4 ∨ y = 5 ∨ y = 6 ∨ y = 7 ∨ y = 8 := by omega
          rcases this with rfl | rfl | rfl | rfl | rfl | rfl | rfl | rfl | rfl <;> rfl
        simp only
        rw [hi0, bind_some', hcnt, bind_some']
        have hg6 : top_TopTwo_g6 (F, A.map (fun (n : Nat) => (n : Int)), 0) ([(y : Int)], ((rnS a0 40 (0, x)).1 : Int), (d : Int), 0) ([((2 ^ y : Nat) : Int), 0], (F.length : Int), ((0 + n : Nat) : Int)) = some true := by
          unfold top_TopTwo_g6
          simp only
          have i0 : idx [((2 ^ y : Nat) : Int), 0] 0 = some ((2 ^ y : Nat) : Int) := rfl
          have i1 : idx [((2 ^ y : Nat) : Int), 0] 1 = some 0 := rfl
          rw [i0, i1, hpk]
          simp
        rw [hg6]; rfl
  · have e1 : two_Build 1 a0 = some ([], [], ocAll 1 a0) := by
      unfold two_Build
      rw [oc_check, bind_some', show (ocAll 1 a0 != 0) = true by simp [hz], cond_true]
    unfold top_TopTwo
    rw [e1, oc_countcheck, bind_some', bind_some', show (ocAll 1 a0 != 0) = true by simp [hz], cond_true]

end Go.Proofs.Ytbjfglckfknheaa.topTwo
namespace Go.Proofs.Ytbjfglckfknheaa.topTwo
open Go.ChangeShapes Go.WideShapes Go.ChangeAt Go.RowKit
open Go.ChangeMaps (open_string shut_string)
theorem own : ownKnob Try.prog.godebug = none := by kernel_rfl
theorem laidOut : laidOutB Try.prog = true := by kernel_rfl
theorem lifted (os : Os) (started : os.Started) (H : Type) (enc : TypeId × Value → H) :
    ReturnsInHanded {} Try.checked os 8 .any (Rows.topTwoSpec.pre6 enc Try.prog Try.f8 Rows.topTwoRow.domain false) (Rows.topTwoSpec.post enc Try.prog Try.f8 false true false false) := by
  refine returnsInHanded_of_change (C := Try.checked) own started (by kernel_rfl) Try.func8
    (ChangeSpec.witness6 (enc := enc) (C := Try.checked) false ⟨#[], #[.slice none 0 0, .int .u8 0], []⟩ 8 (by kernel_rfl) (by kernel_rfl) (by kernel_rfl) (by kernel_rfl)) ?_
  intro W base args ds gs before hval0 hW hcnd _
  have hval : ∀ (j : Nat) t v, Try.f8.params[j]? = some t → args[j]? = some v → Value.okWide Try.prog W .any base t v := hval0
  have hW' := hW
  obtain ⟨p, q, hA0, hV, rfl, hfz, hnd⟩ := hW
  have hA : DataW.TrodAll enc Try.prog W 0 (fun _ => true) true Try.f8.params.toList args.toList ds p := hA0
  rw [Try.params8] at hA hval
  obtain ⟨v0, vs0, d0, ds0, p0, q0, hargs, rfl, rfl, h0, r0⟩ := trodAll_cons hA
  obtain ⟨v1, vs1, d1, ds1, p1, q1, rfl, rfl, rfl, h1, r1⟩ := trodAll_cons r0
  obtain ⟨rfl, rfl, rfl⟩ := trodAll_nil r1
  obtain rfl : args = #[v0, v1] := by cases args; simp_all
  obtain ⟨rfl, rfl⟩ := trodVars_none hV
  obtain ⟨x0, f0, k0⟩ := Go.Sl.read_arg (u := (.slice (.pair (.int .i64) (.pair (.int .i64) (.pair (.int .i64) (.int .i64)))))) (by kernel_rfl) (by kernel_rfl) (hval 0 23 v0 rfl rfl) h0
  have lt0 : ∀ x ∈ p0, x.block < W.heap.size := by obtain ⟨m, hm⟩ := h0; exact DataW.trod_lt m _ _ _ hm
  obtain ⟨x1, f1, k1⟩ := Go.Sl.read_arg (u := (.int .u8)) (by kernel_rfl) (by kernel_rfl) (hval 1 5 v1 rfl rfl) h1
  have lt1 : ∀ x ∈ p1, x.block < W.heap.size := by obtain ⟨m, hm⟩ := h1; exact DataW.trod_lt m _ _ _ hm
  clear hA0 hval0
  obtain ⟨fuel, hm⟩ := TopTwo_true x0 x1 f0 f1
  refine (Go.Sl.law_of (vs := [v0, v1]) (top_TopTwo_ok hm) rfl (.cons (k0 _ _) (.cons (k1 _ _) .nil))).mono fun e W' ⟨he, bel⟩ => ?_
  subst he
  exact ⟨_, rfl, _, _, _, [], _, [], hW', trodAll_mk1 (shut_bool Try.underlying4 _), (trodAll_cons_mk (Below.trod laidOut (by kernel_rfl) (of_decide_eq_true (by kernel_rfl)) h0 bel lt0) (trodAll_cons_mk (Below.trod laidOut (by kernel_rfl) (of_decide_eq_true (by kernel_rfl)) h1 bel lt1) trodAll_mk0)), rfl, bel.frame _, fun h => by cases h⟩
theorem proved : Rows.TopTwoSaid :=
  OpenClaim.holds_of_wide 8 Try.f8 rfl rfl rfl rfl rfl rfl rfl ⟨rfl, rfl, rfl, rfl, rfl⟩ rfl rfl rfl rfl rfl (by kernel_rfl) Try.func8 (by kernel_rfl)
    (of_decide_eq_true (by kernel_rfl)) (by unfold Func.isWrapper; first | (rw [if_pos (by decide +kernel)]; kernel_rfl) | (rw [if_neg (by decide +kernel)]; exact ⟨rfl, rfl⟩))
    (fun os started H enc _ => lifted os started H enc)
#print axioms proved
end Go.Proofs.Ytbjfglckfknheaa.topTwo
