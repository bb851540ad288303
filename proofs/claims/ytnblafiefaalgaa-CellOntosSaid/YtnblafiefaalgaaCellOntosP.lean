/- For any rule cell.Onto and cell.Orphan tell whether each word has one ahead, and, if not, the first of the shortest that has none: no conditions. -/
import Derived.Test.YtnblafiefaalgaaRows
import Derived.WalkKit
import Derived.ProofKit
import Derived.OpenShut
import Derived.ShutString
import Derived.ChangeOld
import Derived.Below
import Derived.Test.YtnblafiefaalgaaCellOntosM
set_option linter.all false
set_option maxRecDepth 100000
namespace Go.Proofs.Ytnblafiefaalgaa.cellOntos
open Go Go.Sl

theorem bit_eq {w i : Nat} (hw : w < 2 ^ 63) (hi : i < 63) : ref_Bit (w : Int) (i : Int) = some (w.testBit i) := by
  unfold ref_Bit
  have c : (decide ((i : Int) ≥ 0) && decide ((i : Int) < 63)) = true := by simp; omega
  have e : IntKind.wrap .u64 (i : Int) = (i : Int) := wrap_u64 (by omega) (by omega)
  rw [c, e, ck_ok (by omega)]
  simp only [cond_true, Option.bind_some, bit_mask hw hi]

theorem within_eq (a b c : Int) : ref_Within a b c = some (decide (a ≤ b ∧ b ≤ c)) := by
  unfold ref_Within
  rw [Bool.decide_and]

theorem tr_bools (a b : List Bool) : ref_Bools a b = some (decide (a = b)) := by
  unfold ref_Bools
  rw [len_ne]
  by_cases h : a.length = b.length
  · rw [forL_eqs (q := b) (fun n x c hc => by
      unfold ref_Bools_b1
      rw [idx_nat, hc, bind_some']
      by_cases hx : x = c
      · subst hx; simp
      · have : (x == c) = false := by simpa using hx
        simp [hx, this]) h]
    by_cases hab : a = b <;> simp [h, hab]
  · have : a ≠ b := fun e => h (by rw [e])
    simp [h, this]

/-- the last two cells that can be, one cell on -/
def st (r s : Nat) (b : Bool) : Nat :=
  (bif (s.testBit 0 && (r.testBit 0 == b)) || (s.testBit 2 && (r.testBit 4 == b)) then 1 else 0) + (bif (s.testBit 0 && (r.testBit 1 == b)) || (s.testBit 2 && (r.testBit 5 == b)) then 2 else 0) +
  (bif (s.testBit 1 && (r.testBit 2 == b)) || (s.testBit 3 && (r.testBit 6 == b)) then 4 else 0) + (bif (s.testBit 1 && (r.testBit 3 == b)) || (s.testBit 3 && (r.testBit 7 == b)) then 8 else 0)
theorem st_lt (r s : Nat) (b : Bool) : st r s b < 16 := by
  unfold st
  have : ∀ (a b c d : Bool), (bif a then 1 else 0) + (bif b then 2 else 0) + (bif c then 4 else 0) + (bif d then 8 else 0) < 16 := by decide
  exact this _ _ _ _
def run (r : Nat) : Nat → List Bool → Nat
  | s, [] => s
  | s, b :: v => run r (st r s b) v
def bl (s : Nat) : List Bool := [s.testBit 0, s.testBit 1, s.testBit 2, s.testBit 3]
def nextIs (o : Option (Flow (List Bool) (List Bool))) (l : List Bool) : Bool := match o with
  | some (.next y) => y == l
  | _ => false
theorem nextIs_eq {o : Option (Flow (List Bool) (List Bool))} {l : List Bool} (h : nextIs o l = true) : o = some (.next l) := by
  unfold nextIs at h
  split at h
  · rw [beq_iff_eq.1 h]
  · cases h
theorem reach_tab0 : ∀ r : Nat, r < 256 → ∀ s : Nat, s < 16 → ∀ b : Bool, nextIs (ref_reached_b235 (r : Int) 0 b (bl s)) (bl (st r s b)) = true := by decide +kernel
theorem reach_tab {r : Nat} (hr : r < 256) {s : Nat} (hs : s < 16) (b : Bool) : ref_reached_b235 (r : Int) 0 b (bl s) = some (.next (bl (st r s b))) := nextIs_eq (reach_tab0 r hr s hs b)
theorem reach_end : ∀ s : Nat, s < 16 → ref_reached_g238 (bl s) = some (!decide (s = 0)) := by decide +kernel
theorem reach_loop {r : Nat} (hr : r < 256) : ∀ (v : List Bool) (s : Nat) (i : Int), s < 16 → forL (ref_reached_b235 (r : Int)) (fun x1113 => x1113) v i (bl s) = some (bl (run r s v))
  | [], s, i, _ => rfl
  | b :: v, s, i, hs => by
    have h : ref_reached_b235 (r : Int) i b (bl s) = some (.next (bl (st r s b))) := reach_tab hr hs b
    simp only [forL, h]
    exact reach_loop hr v (st r s b) (i + 1) (st_lt r s b)
theorem run_lt (r : Nat) : ∀ (v : List Bool) (s : Nat), s < 16 → run r s v < 16
  | [], s, h => h
  | b :: v, s, h => run_lt r v _ (st_lt r s b)
theorem reached_eq {r : Nat} (hr : r < 256) (v : List Bool) : ref_reached (r : Int) v = some (!decide (run r 15 v = 0)) := by
  unfold ref_reached
  have h := reach_loop hr v 15 0 (by decide)
  rw [show [true, true, true, true] = bl 15 from by decide, h, bind_some', reach_end _ (run_lt r v 15 (by decide)), bind_some']
/-- a word, its first letter the highest -/
def wk : Nat → Nat → List Bool
  | 0, _ => []
  | k + 1, w => w.testBit k :: wk k w
def valW : List Bool → Nat
  | [] => 0
  | b :: v => 2 ^ v.length * b.toNat + valW v
theorem wk_len : ∀ k w, (wk k w).length = k
  | 0, _ => rfl
  | k + 1, w => by simp [wk, wk_len k w]
theorem val_lt : ∀ v : List Bool, valW v < 2 ^ v.length
  | [] => by simp [valW]
  | b :: v => by
    have := val_lt v
    have hb := Bool.toNat_le b
    have h : 2 ^ v.length * b.toNat ≤ 2 ^ v.length * 1 := Nat.mul_le_mul_left _ hb
    simp only [valW, List.length_cons, Nat.pow_succ]; omega
theorem wk_congr : ∀ (k w w' : Nat), (∀ j, j < k → w.testBit j = w'.testBit j) → wk k w = wk k w'
  | 0, _, _, _ => rfl
  | k + 1, w, w', h => by
    simp only [wk]
    rw [h k (by omega), wk_congr k w w' (fun j hj => h j (by omega))]
theorem wk_val : ∀ v : List Bool, wk v.length (valW v) = v
  | [] => rfl
  | b :: v => by
    have hv := val_lt v
    have hb : ∀ j, (2 ^ v.length * b.toNat + valW v).testBit j = if j < v.length then (valW v).testBit j else b.toNat.testBit (j - v.length) := fun j => Nat.testBit_two_pow_mul_add _ hv j
    simp only [List.length_cons, wk, valW]
    rw [hb, if_neg (by omega), Nat.sub_self, wk_congr v.length _ (valW v) (fun j hj => by rw [hb, if_pos hj]), wk_val v]
    cases b <;> rfl
theorem val_wk : ∀ (k w : Nat), valW (wk k w) = w % 2 ^ k
  | 0, w => by simp [wk, valW, Nat.mod_one]
  | k + 1, w => by
    simp only [wk, valW, wk_len]
    rw [val_wk k w, Nat.pow_succ, Nat.mod_mul, Nat.toNat_testBit]; omega
/-- is there a word so long that leads to nothing? -/
def emp (r : Nat) : Nat → Nat → Bool
  | 0, s => s == 0
  | k + 1, s => emp r k (st r s false) || emp r k (st r s true)
theorem emp_no (r : Nat) : ∀ (k s : Nat), emp r k s = false → ∀ v : List Bool, v.length = k → run r s v ≠ 0
  | 0, s, h, v, hv => by
    obtain rfl := List.length_eq_zero_iff.1 hv
    simpa [emp, run] using h
  | k + 1, s, h, [], hv => by simp at hv
  | k + 1, s, h, b :: v, hv => by
    simp only [emp, Bool.or_eq_false_iff] at h
    cases b with
    | false => exact emp_no r k _ h.1 v (by simpa using hv)
    | true => exact emp_no r k _ h.2 v (by simpa using hv)
/-- the first word of its length that leads to nothing -/
def chkW (r : Nat) : Nat → List Bool → Bool
  | s, [] => s == 0
  | s, b :: v => (bif b then !emp r v.length (st r s false) else true) && chkW r (st r s b) v
theorem chk_ok (r : Nat) : ∀ (v : List Bool) (s : Nat), chkW r s v = true → run r s v = 0 ∧ ∀ u : List Bool, u.length = v.length → valW u < valW v → run r s u ≠ 0
  | [], s, h => ⟨by simpa [chkW, run] using h, fun u hu hlt => by simp [valW] at hlt⟩
  | b :: v, s, h => by
    simp only [chkW, Bool.and_eq_true] at h
    obtain ⟨h1, h2⟩ := chk_ok r v (st r s b) h.2
    refine ⟨h1, fun u hu hlt => ?_⟩
    match u, hu with
    | c :: u, hu =>
      have hul : u.length = v.length := by simpa using hu
      have hvu := val_lt u
      have hvv := val_lt v
      simp only [valW] at hlt
      rw [hul] at hlt hvu
      cases b with
      | false =>
        cases c with
        | false => exact h2 u hul (by simpa using hlt)
        | true => simp at hlt; omega
      | true =>
        cases c with
        | false => exact emp_no r _ _ (by simpa using h.1) u hul
        | true => exact h2 u hul (by simpa using hlt)
/-- what can be come to -/
def reach (r : Nat) : Nat → Nat
  | 0 => 1 <<< 15
  | k + 1 => (List.range 16).foldl (fun m s => bif (reach r k).testBit s then m ||| (1 <<< st r s false) ||| (1 <<< st r s true) else m) (reach r k)
def closedB (r R : Nat) : Bool := R.testBit 15 && !R.testBit 0 && (List.range 16).all fun s => !R.testBit s || (R.testBit (st r s false) && R.testBit (st r s true))
theorem closed_no {r R : Nat} (h : closedB r R = true) : ∀ v : List Bool, run r 15 v ≠ 0 := by
  unfold closedB at h
  simp only [Bool.and_eq_true, Bool.not_eq_true'] at h
  obtain ⟨⟨h1, h2⟩, h3⟩ := h
  have key : ∀ (v : List Bool) (s : Nat), s < 16 → R.testBit s = true → R.testBit (run r s v) = true := by
    intro v
    induction v with
    | nil => intro s _ hs; exact hs
    | cons b v ih =>
      intro s hlt hs
      have := List.all_eq_true.1 h3 s (by simpa using hlt)
      rw [hs] at this
      simp only [Bool.not_true, Bool.false_or, Bool.and_eq_true] at this
      refine ih _ (st_lt r s b) ?_
      cases b with
      | false => exact this.1
      | true => exact this.2
  intro v hv
  have := key v 15 (by decide) h1
  rw [hv, h2] at this
  cases this
def good (r : Nat) : Bool :=
  match cell_orphan 40 (r : Int) with
  | some (w, true) => decide (1 ≤ w.length) && decide (w.length ≤ 16) && ((List.range w.length).all fun k => !emp r k 15) && chkW r 15 w
  | some (w, false) => w.isEmpty && closedB r (reach r 15)
  | none => false

theorem iter_more {X Y : Type} {f : X → Option (Flow X Y)} : ∀ (n : Nat) (x : X) (y : Y), iter f n x = some y → ∀ m, n ≤ m → iter f m x = some y
  | 0, x, y, h, _, _ => by simp [iter] at h
  | n + 1, x, y, h, 0, hm => by omega
  | n + 1, x, y, h, m + 1, hm => by
    simp only [iter] at h ⊢
    cases hf : f x with
    | none => rw [hf] at h; cases h
    | some s =>
      rw [hf] at h
      cases s with
      | done z => exact h
      | next x' => exact iter_more n x' y h m (by omega)
theorem orphan_more {r : Int} {w : List Bool × Bool} (h : cell_orphan 40 r = some w) {fuel : Nat} (hf : 40 ≤ fuel) : cell_orphan fuel r = some w := by
  unfold cell_orphan at h ⊢
  cases hi : iter (cell_orphan_b31 r) 40 ([false, false, false, false, false, false, false, false, false, false, false, false, false, false, false, true], [((15 : Int), [])]) with
  | none => rw [hi] at h; cases h
  | some y => rw [iter_more _ _ _ hi fuel hf]; rw [hi] at h; exact h
theorem word_loop {w : Nat} (hw : w < 2 ^ 63) : ∀ (j : Nat) (acc : List Bool) (fuel : Nat), j < fuel → acc.length + j ≤ 16 → iter (ref_Orphan_b32 (w : Int)) fuel ((j : Int) - 1, acc) = some (acc ++ wk j w)
  | j, acc, 0, h, _ => by omega
  | 0, acc, fuel + 1, _, _ => by
    have : ref_Orphan_b32 (w : Int) (((0 : Nat) : Int) - 1, acc) = some (.done acc) := by
      unfold ref_Orphan_b32
      simp only
      rw [decide_eq_false (by omega), cond_false]
    simp only [iter, this, wk, List.append_nil]
  | j + 1, acc, fuel + 1, h, hs => by
    have hck : ck ((List.length acc : Int) + 1 ≤ 4294967296) = some () := ck_ok (by omega)
    have e : ref_Orphan_b32 (w : Int) (((j + 1 : Nat) : Int) - 1, acc) = some (.next ((j : Int) - 1, acc ++ [w.testBit j])) := by
      unfold ref_Orphan_b32
      simp only
      rw [show ((j + 1 : Nat) : Int) - 1 = (j : Int) by omega, decide_eq_true (by omega), cond_true, bit_eq hw (by omega), bind_some', hck, bind_some', w64_id (by omega) (by omega)]
    simp only [iter, e]
    rw [word_loop hw j (acc ++ [w.testBit j]) fuel (by omega) (by simp; omega)]
    simp [wk]
theorem pow16 {k : Nat} (h : k ≤ 16) : 2 ^ k ≤ 65536 := Nat.pow_le_pow_right (n := 2) (by decide) h
theorem orphan_round {r k w : Nat} (hr : r < 256) (hk : 1 ≤ k ∧ k ≤ 16) (hw : w < 2 ^ k) {fuel : Nat} (hf : 20 ≤ fuel) :
    ref_Orphan_b35 (r : Int) fuel (k : Int) (w : Int) = some (if run r 15 (wk k w) = 0 then .done (.ret (wk k w, true)) else .next ((w + 1 : Nat) : Int)) := by
  have hp := pow16 hk.2
  have hwr : IntKind.wrap .u64 (k : Int) = (k : Int) := wrap_u64 (by omega) (by omega)
  have hck : ck (0 ≤ (k : Int)) = some () := ck_ok (by omega)
  have hl := word_loop (w := w) (by omega) k [] fuel (by omega) (by simp; omega)
  have hw1 : w64 ((k : Int) - 1) = (k : Int) - 1 := w64_id (by omega) (by omega)
  unfold ref_Orphan_b35
  rw [hwr, hck, bind_some', bShl_one (by omega), decide_eq_true (by omega), cond_true, hw1, hl, bind_some', List.nil_append, reached_eq hr, bind_some', Bool.not_not]
  by_cases h : run r 15 (wk k w) = 0
  · rw [decide_eq_true h, cond_true, if_pos h]
  · rw [decide_eq_false h, cond_false, if_neg h, w64_id (by omega) (by omega)]; rfl
theorem orphan_stop {r k : Nat} (hk : 1 ≤ k ∧ k ≤ 16) (fuel : Nat) : ref_Orphan_b35 (r : Int) fuel (k : Int) ((2 ^ k : Nat) : Int) = some (.done (.brk ())) := by
  have hwr : IntKind.wrap .u64 (k : Int) = (k : Int) := wrap_u64 (by omega) (by omega)
  have hck : ck (0 ≤ (k : Int)) = some () := ck_ok (by omega)
  unfold ref_Orphan_b35
  rw [hwr, hck, bind_some', bShl_one (by omega), decide_eq_false (by omega), cond_false]
theorem inner_none {r k : Nat} (hr : r < 256) (hk : 1 ≤ k ∧ k ≤ 16) {fuel : Nat} (hf : 70000 ≤ fuel) (h : ∀ v : List Bool, v.length = k → run r 15 v ≠ 0) : iter (ref_Orphan_b35 (r : Int) fuel (k : Int)) fuel (0 : Int) = some (.brk ()) := by
  have hp := pow16 hk.2
  obtain ⟨y, h1, h2⟩ := iter_inv (f := ref_Orphan_b35 (r : Int) fuel (k : Int)) (fun x => ∃ w : Nat, x = w ∧ w ≤ 2 ^ k) (fun x => (65536 - x).toNat) (fun y => y = Esc.brk ()) (by
    rintro _ ⟨w, rfl, hw⟩
    by_cases c : w < 2 ^ k
    · rw [orphan_round hr hk c (by omega), if_neg (h _ (wk_len k w))]
      exact ⟨_, rfl, ⟨w + 1, rfl, by omega⟩, by omega⟩
    · obtain rfl : w = 2 ^ k := by omega
      exact ⟨_, orphan_stop hk fuel, rfl⟩) fuel (0 : Int) (by omega) ⟨0, rfl, Nat.zero_le _⟩
  rw [h1, h2]
theorem inner_some {r : Nat} (hr : r < 256) {v : List Bool} (hk : 1 ≤ v.length ∧ v.length ≤ 16) {fuel : Nat} (hf : 70000 ≤ fuel) (h0 : run r 15 v = 0) (h : ∀ u : List Bool, u.length = v.length → valW u < valW v → run r 15 u ≠ 0) :
    iter (ref_Orphan_b35 (r : Int) fuel (v.length : Int)) fuel (0 : Int) = some (.ret (v, true)) := by
  have hp := pow16 hk.2
  have hv := val_lt v
  obtain ⟨y, h1, h2⟩ := iter_inv (f := ref_Orphan_b35 (r : Int) fuel (v.length : Int)) (fun x => ∃ w : Nat, x = w ∧ w ≤ valW v) (fun x => (65536 - x).toNat) (fun y => y = Esc.ret (v, true)) (by
    rintro _ ⟨w, rfl, hw⟩
    rw [orphan_round hr hk (by omega) (by omega)]
    by_cases c : w = valW v
    · rw [c, wk_val, if_pos h0]
      exact ⟨_, rfl, rfl⟩
    · rw [if_neg (h _ (wk_len _ _) (by rw [val_wk, Nat.mod_eq_of_lt (by omega)]; omega))]
      exact ⟨_, rfl, ⟨w + 1, rfl, by omega⟩, by omega⟩) fuel (0 : Int) (by omega) ⟨0, rfl, Nat.zero_le _⟩
  rw [h1, h2]
theorem outer_some {r : Nat} (hr : r < 256) {v : List Bool} (hk : 1 ≤ v.length ∧ v.length ≤ 16) {fuel : Nat} (hf : 70000 ≤ fuel) (h0 : run r 15 v = 0) (h : ∀ u : List Bool, u.length = v.length → valW u < valW v → run r 15 u ≠ 0) (hs : ∀ u : List Bool, u.length < v.length → run r 15 u ≠ 0) :
    ref_Orphan fuel (r : Int) (16 : Int) = some (v, true) := by
  obtain ⟨y, h1, h2⟩ := iter_inv (f := ref_Orphan_b39 (r : Int) (16 : Int) fuel) (fun x => ∃ k : Nat, x = k ∧ 1 ≤ k ∧ k ≤ v.length) (fun x => (100 - x).toNat) (fun y => y = Esc.ret (v, true)) (by
    rintro _ ⟨k, rfl, hk1, hk2⟩
    unfold ref_Orphan_b39
    rw [decide_eq_true (by omega), cond_true]
    by_cases c : k = v.length
    · subst c
      rw [inner_some hr hk hf h0 h, bind_some']
      exact ⟨_, rfl, rfl⟩
    · rw [inner_none hr ⟨hk1, by omega⟩ hf (fun u hu => hs u (by omega)), bind_some']
      simp only
      refine ⟨_, rfl, ⟨k + 1, by rw [w64_id (by omega) (by omega)]; rfl, by omega, by omega⟩, by rw [w64_id (by omega) (by omega)]; omega⟩) fuel (1 : Int) (by omega) ⟨1, rfl, Nat.le_refl _, hk.1⟩
  unfold ref_Orphan
  rw [h1, bind_some', h2]
theorem outer_none {r : Nat} (hr : r < 256) {fuel : Nat} (hf : 70000 ≤ fuel) (hs : ∀ u : List Bool, run r 15 u ≠ 0) : ref_Orphan fuel (r : Int) (16 : Int) = some ([], false) := by
  obtain ⟨y, h1, h2⟩ := iter_inv (f := ref_Orphan_b39 (r : Int) (16 : Int) fuel) (fun x => ∃ k : Nat, x = k ∧ 1 ≤ k ∧ k ≤ 17) (fun x => (100 - x).toNat) (fun y => y = Esc.brk ()) (by
    rintro _ ⟨k, rfl, hk1, hk2⟩
    unfold ref_Orphan_b39
    by_cases c : k ≤ 16
    · rw [decide_eq_true (by omega), cond_true, inner_none hr ⟨hk1, c⟩ hf (fun u _ => hs u), bind_some']
      simp only
      refine ⟨_, rfl, ⟨k + 1, by rw [w64_id (by omega) (by omega)]; rfl, by omega, by omega⟩, by rw [w64_id (by omega) (by omega)]; omega⟩
    · rw [decide_eq_false (by omega), cond_false]
      exact ⟨_, rfl, rfl⟩) fuel (1 : Int) (by omega) ⟨1, rfl, Nat.le_refl _, by decide⟩
  unfold ref_Orphan
  rw [h1, bind_some', h2]

theorem good_all : ∀ r : Nat, r < 256 → good r = true := by decide +kernel
theorem CellOntos_true (a0 : Int) (f0 : Fits (.int .i64) a0) : ∃ fuel, law_CellOntos fuel a0 = some true := by
  obtain ⟨K, hK⟩ : ∃ K : Nat, K = 70000 := ⟨_, rfl⟩
  refine ⟨K, ?_⟩
  unfold law_CellOntos cell_Onto cell_Orphan law_ruleCode
  rw [within_eq]
  by_cases h : 0 ≤ a0 ∧ a0 ≤ 255
  · obtain ⟨r, rfl⟩ := Int.eq_ofNat_of_zero_le h.1
    have hr : r < 256 := by omega
    have hw : cell_wrong (r : Int) = some false := by
      unfold cell_wrong
      rw [decide_eq_false (by omega), decide_eq_false (by omega)]; rfl
    have hg := good_all r hr
    unfold good at hg
    rw [hw, decide_eq_true h]
    simp only [bind_some', cond_false, Bool.not_true]
    split at hg
    · rename_i w ho
      simp only [Bool.and_eq_true, decide_eq_true_eq] at hg
      obtain ⟨⟨⟨g1, g2⟩, g3⟩, g4⟩ := hg
      obtain ⟨c1, c2⟩ := chk_ok r w 15 g4
      have hs : ∀ u : List Bool, u.length < w.length → run r 15 u ≠ 0 := fun u hu => by
        have := List.all_eq_true.1 g3 u.length (by simpa using hu)
        exact emp_no r u.length 15 (by simpa using this) u rfl
      rw [orphan_more ho (by omega), outer_some hr ⟨g1, g2⟩ (by omega) c1 c2 hs]
      simp only [bind_some', Bool.not_true, cond_false]
      rw [show ((0 : Int) != 0) = false from rfl, cond_false]
      simp only [Bool.not_false, beq_self_eq_true, Bool.and_self, cond_true, bind_some']
      rw [tr_bools]
      simp
    · rename_i w ho
      simp only [Bool.and_eq_true, List.isEmpty_iff] at hg
      obtain ⟨rfl, g2⟩ := hg
      rw [orphan_more ho (by omega), outer_none hr (by omega) (closed_no g2)]
      simp only [bind_some', Bool.not_false, cond_true]
      rw [show ((0 : Int) != 0) = false from rfl, cond_false]
      simp
    · cases hg
  · have hw : cell_wrong a0 = some true := by
      unfold cell_wrong
      have : (decide (a0 < 0) || decide (a0 > 255)) = true := by
        simp only [Bool.or_eq_true, decide_eq_true_eq]; omega
      rw [this]
    rw [hw, decide_eq_false h]
    simp only [bind_some', cond_true, Bool.not_false]
    rfl

end Go.Proofs.Ytnblafiefaalgaa.cellOntos
namespace Go.Proofs.Ytnblafiefaalgaa.cellOntos
open Go.ChangeShapes Go.WideShapes Go.ChangeAt Go.RowKit
open Go.ChangeMaps (open_string shut_string)
theorem own : ownKnob Try.prog.godebug = none := by kernel_rfl
theorem laidOut : laidOutB Try.prog = true := by kernel_rfl
theorem lifted (os : Os) (started : os.Started) (H : Type) (enc : TypeId × Value → H) :
    ReturnsInHanded {} Try.checked os 5 .any (Rows.cellOntosSpec.pre6 enc Try.prog Try.f5 Rows.cellOntosRow.domain false) (Rows.cellOntosSpec.post enc Try.prog Try.f5 false true false false) := by
  refine returnsInHanded_of_change (C := Try.checked) own started (by kernel_rfl) Try.func5
    (ChangeSpec.witness6 (enc := enc) (C := Try.checked) false ⟨#[], #[.int .i64 0], []⟩ 8 (by kernel_rfl) (by kernel_rfl) (by kernel_rfl) (by kernel_rfl)) ?_
  intro W base args ds gs before hval0 hW hcnd _
  have hval : ∀ (j : Nat) t v, Try.f5.params[j]? = some t → args[j]? = some v → Value.okWide Try.prog W .any base t v := hval0
  have hW' := hW
  obtain ⟨p, q, hA0, hV, rfl, hfz, hnd⟩ := hW
  have hA : DataW.TrodAll enc Try.prog W 0 (fun _ => true) true Try.f5.params.toList args.toList ds p := hA0
  rw [Try.params5] at hA hval
  obtain ⟨v0, vs0, d0, ds0, p0, q0, hargs, rfl, rfl, h0, r0⟩ := trodAll_cons hA
  obtain ⟨rfl, rfl, rfl⟩ := trodAll_nil r0
  obtain rfl : args = #[v0] := by cases args; simp_all
  obtain ⟨rfl, rfl⟩ := trodVars_none hV
  obtain ⟨x0, f0, k0⟩ := Go.Sl.read_arg (u := (.int .i64)) (by kernel_rfl) (by kernel_rfl) (hval 0 3 v0 rfl rfl) h0
  have lt0 : ∀ x ∈ p0, x.block < W.heap.size := by obtain ⟨m, hm⟩ := h0; exact DataW.trod_lt m _ _ _ hm
  clear hA0 hval0
  obtain ⟨fuel, hm⟩ := CellOntos_true x0 f0
  refine (Go.Sl.law_of (vs := [v0]) (law_CellOntos_ok hm) rfl (.cons (k0 _ _) .nil)).mono fun e W' ⟨he, bel⟩ => ?_
  subst he
  exact ⟨_, rfl, _, _, _, [], _, [], hW', trodAll_mk1 (shut_bool Try.underlying4 _), (trodAll_cons_mk (Below.trod laidOut (by kernel_rfl) (of_decide_eq_true (by kernel_rfl)) h0 bel lt0) trodAll_mk0), rfl, bel.frame _, fun h => by cases h⟩
theorem proved : Rows.CellOntosSaid :=
  OpenClaim.holds_of_wide 5 Try.f5 rfl rfl rfl rfl rfl rfl rfl ⟨rfl, rfl, rfl, rfl, rfl⟩ rfl rfl rfl rfl rfl (by kernel_rfl) Try.func5 (by kernel_rfl)
    (of_decide_eq_true (by kernel_rfl)) (by unfold Func.isWrapper; first | (rw [if_pos (by decide +kernel)]; kernel_rfl) | (rw [if_neg (by decide +kernel)]; exact ⟨rfl, rfl⟩))
    (fun os started H enc _ => lifted os started H enc)
#print axioms proved
end Go.Proofs.Ytnblafiefaalgaa.cellOntos
