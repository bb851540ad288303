/- For any two numbers funcs.Ack returns the specified results: FuncsAcks returns true and changes nothing; no conditions. -/
import Derived.Test.YtmongadolmofnaaRows
import Derived.WalkKit
import Derived.ProofKit
import Derived.OpenShut
import Derived.ShutString
import Derived.ChangeOld
import Derived.Below
import Derived.Test.YtmongadolmofnaaFuncsAcksM
set_option linter.all false
set_option maxRecDepth 100000
namespace Go.Proofs.Ytmongadolmofnaa.funcsAcks
open Go Go.Sl

def fa_it (g : Int → Int) (lim : Int) : Nat → Int → Option Int
  | 0, x => some x
  | k + 1, x => if x < lim then fa_it g lim k (g x) else none
def fa_pr : Option Int → Int × Bool
  | some y => (y, true)
  | none => (0, false)
theorem fa_loop {rf : Int → Int → Option (Int × Bool)} {a0 lim : Int} {g : Int → Int} (hrf : ∀ x, 0 ≤ x → rf (w64 (a0 - 1)) x = some (if x < lim then (g x, true) else (0, false))) (hg : ∀ x, 0 ≤ x → x < lim → 0 ≤ g x) :
    ∀ (k fuel : Nat) (x : Int), 0 ≤ x → k + 1 < fuel → k ≤ 1000 → iter (funcs_ack_b1 a0 rf) fuel ((k : Int), x, true) = some (fa_pr (fa_it g lim k x))
  | 0, fuel + 1, x, hx, hf, hk => rfl
  | k + 1, fuel + 1, x, hx, hf, hk => by
    have e : w64 (((k + 1 : Nat) : Int) - 1) = (k : Int) := by rw [w64_id (by omega) (by omega)]; omega
    have hpos : (decide (((k + 1 : Nat) : Int) > 0) && true) = true := by simp <;> omega
    by_cases hl : x < lim
    · have hb : funcs_ack_b1 a0 rf (((k + 1 : Nat) : Int), x, true) = some (.next ((k : Int), g x, true)) := by
        unfold funcs_ack_b1
        rw [bif_t hpos, hrf x hx, if_pos hl, ← e]; rfl
      simp only [iter, hb, fa_it, if_pos hl]
      exact fa_loop hrf hg k fuel (g x) (hg x hx hl) (by omega) (by omega)
    · have hb : funcs_ack_b1 a0 rf (((k + 1 : Nat) : Int), x, true) = some (.next ((k : Int), 0, false)) := by
        unfold funcs_ack_b1
        rw [bif_t hpos, hrf x hx, if_neg hl, ← e]; rfl
      obtain ⟨fuel', rfl⟩ : ∃ f, fuel = f + 1 := ⟨fuel - 1, by omega⟩
      have hc : funcs_ack_b1 a0 rf ((k : Int), 0, false) = some (.done (0, false)) := by
        unfold funcs_ack_b1
        rw [bif_f (by simp)]
      simp only [iter, hb, hc, fa_it, if_neg hl]; rfl
theorem fa_A0 (fuel : Nat) (n : Int) (h : 0 ≤ n) (hf : 0 < fuel) : funcs_ack fuel 0 n = some (if n < 1000 then (n + 1, true) else (0, false)) := by
  obtain ⟨f, rfl⟩ : ∃ f, fuel = f + 1 := ⟨fuel - 1, by omega⟩
  show funcs_ack_step (funcs_ack f) f 0 n = _
  unfold funcs_ack_step
  by_cases hn : n < 1000
  · have e : w64 (n + 1) = n + 1 := w64_id (by omega) (by omega)
    simp [hn, e, Int.not_le.2 hn]
  · simp [hn, Int.not_lt.1 hn]
theorem fa_step {fuel : Nat} {m lim : Int} {g : Int → Int} (h1 : 1 ≤ m) (h2 : m ≤ 4) (hrf : ∀ x, 0 ≤ x → funcs_ack fuel (m - 1) x = some (if x < lim then (g x, true) else (0, false))) (hg : ∀ x, 0 ≤ x → x < lim → 0 ≤ g x)
    (hl : 1 < lim) (hf : 1002 < fuel) (n : Int) (hn : 0 ≤ n) : funcs_ack (fuel + 1) m n = some (if n < 1000 then fa_pr (fa_it g lim n.toNat (g 1)) else (0, false)) := by
  show funcs_ack_step (funcs_ack fuel) fuel m n = _
  unfold funcs_ack_step
  have e : w64 (m - 1) = m - 1 := w64_id (by omega) (by omega)
  by_cases hn2 : n < 1000
  · have hm : (m == 0) = false := by simp; omega
    have c : decide (n ≥ 1000) = false := by simp; omega
    have := fa_loop (rf := funcs_ack fuel) (a0 := m) (g := g) (lim := lim) (by rw [e]; exact hrf) hg n.toNat fuel (g 1) (hg 1 (by omega) hl) (by omega) (by omega)
    rw [Int.toNat_of_nonneg hn] at this
    rw [bif_f c, bif_f hm, e, hrf 1 (by omega), if_pos hl, if_pos hn2]
    simp only [Option.bind_some, this]
  · have c : decide (n ≥ 1000) = true := by simp; omega
    rw [bif_t c, if_neg hn2]
theorem fa_it1 : ∀ (k : Nat) (x : Int), fa_it (fun x => x + 1) 1000 k x = if k = 0 ∨ x + k - 1 < 1000 then some (x + k) else none
  | 0, x => by simp [fa_it]
  | k + 1, x => by
    rw [fa_it]
    by_cases h : x < 1000
    · rw [if_pos h, fa_it1 k]
      by_cases h2 : k = 0 ∨ x + 1 + k - 1 < 1000
      · rw [if_pos h2, if_pos (by omega)]; congr 1; omega
      · rw [if_neg h2, if_neg (by omega)]
    · rw [if_neg h, if_neg (by omega)]
theorem fa_it2 : ∀ (k : Nat) (x : Int), fa_it (fun x => x + 2) 999 k x = if k = 0 ∨ x + 2 * k - 2 < 999 then some (x + 2 * k) else none
  | 0, x => by simp [fa_it]
  | k + 1, x => by
    rw [fa_it]
    by_cases h : x < 999
    · rw [if_pos h, fa_it2 k]
      by_cases h2 : k = 0 ∨ x + 2 + 2 * k - 2 < 999
      · rw [if_pos h2, if_pos (by omega)]; congr 1; omega
      · rw [if_neg h2, if_neg (by omega)]
    · rw [if_neg h, if_neg (by omega)]
theorem fa_A1 (fuel : Nat) (n : Int) (h : 0 ≤ n) (hf : 1010 < fuel) : funcs_ack fuel 1 n = some (if n < 999 then (n + 2, true) else (0, false)) := by
  obtain ⟨f, rfl⟩ : ∃ f, fuel = f + 1 := ⟨fuel - 1, by omega⟩
  rw [fa_step (g := fun x => x + 1) (lim := 1000) (by omega) (by omega) (fun x hx => fa_A0 f x hx (by omega)) (fun x _ _ => by show 0 ≤ x + 1; omega) (by omega) (by omega) n h, fa_it1]
  by_cases h1 : n < 999
  · rw [if_pos (by omega), if_pos (by omega), if_pos h1]; simp only [fa_pr]; congr 2; omega
  · by_cases h2 : n < 1000
    · rw [if_pos h2, if_neg (by omega), if_neg h1]; rfl
    · rw [if_neg h2, if_neg h1]
theorem fa_A2 (fuel : Nat) (n : Int) (h : 0 ≤ n) (hf : 1020 < fuel) : funcs_ack fuel 2 n = some (if n < 499 then (2 * n + 3, true) else (0, false)) := by
  obtain ⟨f, rfl⟩ : ∃ f, fuel = f + 1 := ⟨fuel - 1, by omega⟩
  rw [fa_step (g := fun x => x + 2) (lim := 999) (by omega) (by omega) (fun x hx => fa_A1 f x hx (by omega)) (fun x _ _ => by show 0 ≤ x + 2; omega) (by omega) (by omega) n h, fa_it2]
  by_cases h1 : n < 499
  · rw [if_pos (by omega), if_pos (by omega), if_pos h1]; simp only [fa_pr]; congr 2; omega
  · by_cases h2 : n < 1000
    · rw [if_pos h2, if_neg (by omega), if_neg h1]; rfl
    · rw [if_neg h2, if_neg h1]
def fa_g3 (n : Int) : Int := if n = 0 then 5 else if n = 1 then 13 else if n = 2 then 29 else if n = 3 then 61 else if n = 4 then 125 else if n = 5 then 253 else 509
theorem fa_A3 (fuel : Nat) (n : Int) (h : 0 ≤ n) (hf : 1030 < fuel) : funcs_ack fuel 3 n = some (if n < 7 then (fa_g3 n, true) else (0, false)) := by
  obtain ⟨f, rfl⟩ : ∃ f, fuel = f + 1 := ⟨fuel - 1, by omega⟩
  rw [fa_step (g := fun x => 2 * x + 3) (lim := 499) (by omega) (by omega) (fun x hx => fa_A2 f x hx (by omega)) (fun x _ _ => by show 0 ≤ 2 * x + 3; omega) (by omega) (by omega) n h]
  by_cases h1 : n < 7
  · rw [if_pos (by omega), if_pos h1]
    have : n = 0 ∨ n = 1 ∨ n = 2 ∨ n = 3 ∨ n = 4 ∨ n = 5 ∨ n = 6 := by omega
    rcases this with rfl | rfl | rfl | rfl | rfl | rfl | rfl <;> rfl
  · rw [if_neg h1]
    by_cases h2 : n < 1000
    · rw [if_pos h2]
      obtain ⟨j, hj⟩ : ∃ j, n.toNat = j + 7 := ⟨n.toNat - 7, by omega⟩
      rw [hj]
      simp [fa_it, fa_pr]
    · rw [if_neg h2]
theorem fa_A4 (fuel : Nat) (n : Int) (h : 0 ≤ n) (hf : 1040 < fuel) : funcs_ack fuel 4 n = some (if n = 0 then (13, true) else (0, false)) := by
  obtain ⟨f, rfl⟩ : ∃ f, fuel = f + 1 := ⟨fuel - 1, by omega⟩
  rw [fa_step (g := fa_g3) (lim := 7) (by omega) (by omega) (fun x hx => fa_A3 f x hx (by omega)) (fun x _ _ => by unfold fa_g3; omega) (by omega) (by omega) n h]
  by_cases h1 : n = 0
  · subst h1; rfl
  · rw [if_neg h1]
    by_cases h2 : n < 1000
    · rw [if_pos h2]
      obtain ⟨j, hj⟩ : ∃ j, n.toNat = j + 1 := ⟨n.toNat - 1, by omega⟩
      rw [hj]; rfl
    · rw [if_neg h2]
theorem fa_ref3 (n : Int) (h : 0 ≤ n) (fuel : Nat) (hf : 20 < fuel) : ∃ v, iter (ref_Ack_b7 n) fuel (8, 0) = some v ∧ (n = 0 → v = 8) ∧ (n = 1 → v = 16) ∧ (n = 2 → v = 32) ∧ (n = 3 → v = 64) ∧ (n = 4 → v = 128) ∧ (n = 5 → v = 256) ∧ (n = 6 → v = 512) ∧ (7 ≤ n → 1024 ≤ v ∧ v ≤ 4096) := by
  have tab : ∀ j : Nat, j ≤ 9 → j = 0 ∨ j = 1 ∨ j = 2 ∨ j = 3 ∨ j = 4 ∨ j = 5 ∨ j = 6 ∨ j = 7 ∨ j = 8 ∨ j = 9 := by omega
  refine iter_inv (Inv := fun x => ∃ j : Nat, j ≤ 9 ∧ x = (((8 * 2 ^ j : Nat) : Int), (j : Int)) ∧ (j : Int) ≤ n)
    (m := fun x => (9 - x.2).toNat) _ ?_ fuel (8, 0) (by show (9 - (0 : Int)).toNat < fuel; omega) ⟨0, by omega, rfl, h⟩
  rintro _ ⟨j, h1, rfl, h2⟩
  unfold ref_Ack_b7
  by_cases hc : (j : Int) < n ∧ j < 9
  · have hx : 8 * 2 ^ j < 4000 := by rcases tab j h1 with rfl | rfl | rfl | rfl | rfl | rfl | rfl | rfl | rfl | rfl <;> simp <;> omega
    have e1 : w64 (((8 * 2 ^ j : Nat) : Int) + ((8 * 2 ^ j : Nat) : Int)) = ((8 * 2 ^ (j + 1) : Nat) : Int) := by
      rw [Nat.pow_succ, w64_id (by omega) (by omega)]; omega
    have e2 : w64 ((j : Int) + 1) = ((j + 1 : Nat) : Int) := by rw [w64_id (by omega) (by omega)]; omega
    rw [bif_t (by simp only [Bool.and_eq_true, decide_eq_true_eq]; omega)]
    refine ⟨_, rfl, ⟨j + 1, by omega, by simp only [e1, e2], by omega⟩, ?_⟩
    simp only [e2]
    omega
  · have hd : ¬ ((j : Int) < n) ∨ 4000 ≤ 8 * 2 ^ j := by
      by_cases hj : j = 9
      · right; subst hj; omega
      · left; omega
    rw [bif_f (by simp only [Bool.and_eq_false_iff, decide_eq_false_iff_not]; omega)]
    refine ⟨_, rfl, ?_⟩
    simp only
    clear hd
    rcases tab j h1 with rfl | rfl | rfl | rfl | rfl | rfl | rfl | rfl | rfl | rfl <;> simp <;> omega
theorem fa_ref (m n : Int) (h1 : 0 ≤ m) (h2 : m ≤ 4) (h : 0 ≤ n) (hn : n ≤ 1000) : ∃ v, ref_Ack 2000 m n = some v ∧
    funcs_ack 2000 m n = some (if v < 0 then (0, false) else (v, true)) := by
  have e1 : w64 (n + 1) = n + 1 := w64_id (by omega) (by omega)
  have e2 : w64 (n + 2) = n + 2 := w64_id (by omega) (by omega)
  have e3 : w64 (n + n) = n + n := w64_id (by omega) (by omega)
  have e4 : w64 (n + n + 3) = n + n + 3 := w64_id (by omega) (by omega)
  have : m = 0 ∨ m = 1 ∨ m = 2 ∨ m = 3 ∨ m = 4 := by omega
  rcases this with rfl | rfl | rfl | rfl | rfl
  · rw [fa_A0 _ n h (by omega)]
    simp only [ref_Ack, e1, e2, e3, e4, show ((0 : Int) == 1) = false from rfl, show ((0 : Int) == 2) = false from rfl, show ((0 : Int) == 3) = false from rfl, show ((0 : Int) == 4) = false from rfl, cond_false, Option.bind_some]
    by_cases hc : n < 1000
    · exact ⟨n + 1, by rw [bif_f (by simp; omega)], by rw [if_pos hc, if_neg (by omega)]⟩
    · exact ⟨-1, by rw [bif_t (by simp; omega)], by rw [if_neg hc, if_pos (by omega)]⟩
  · rw [fa_A1 _ n h (by omega)]
    simp only [ref_Ack, e1, e2, e3, e4, show ((1 : Int) == 1) = true from rfl, show ((1 : Int) == 2) = false from rfl, show ((1 : Int) == 3) = false from rfl, show ((1 : Int) == 4) = false from rfl, cond_false, cond_true, Option.bind_some]
    by_cases hc : n < 999
    · exact ⟨n + 2, by rw [bif_f (by simp; omega)], by rw [if_pos hc, if_neg (by omega)]⟩
    · exact ⟨-1, by rw [bif_t (by simp; omega)], by rw [if_neg hc, if_pos (by omega)]⟩
  · rw [fa_A2 _ n h (by omega)]
    simp only [ref_Ack, e1, e2, e3, e4, show ((2 : Int) == 1) = false from rfl, show ((2 : Int) == 2) = true from rfl, show ((2 : Int) == 3) = false from rfl, show ((2 : Int) == 4) = false from rfl, cond_false, cond_true, Option.bind_some]
    by_cases hc : n < 499
    · exact ⟨n + n + 3, by rw [bif_f (by simp; omega)], by rw [if_pos hc, if_neg (by omega)]; congr 2; omega⟩
    · exact ⟨-1, by rw [bif_t (by simp; omega)], by rw [if_neg hc, if_pos (by omega)]⟩
  · rw [fa_A3 _ n h (by omega)]
    obtain ⟨v, hv, q⟩ := fa_ref3 n h 2000 (by omega)
    have b : 8 ≤ v ∧ v ≤ 4096 := by omega
    have e5 : w64 (v - 3) = v - 3 := w64_id (by omega) (by omega)
    simp only [ref_Ack, e1, e2, e3, e4, hv, e5, show ((3 : Int) == 1) = false from rfl, show ((3 : Int) == 2) = false from rfl, show ((3 : Int) == 3) = true from rfl, show ((3 : Int) == 4) = false from rfl, cond_false, cond_true, Option.bind_some]
    by_cases hc : n < 7
    · exact ⟨v - 3, by rw [bif_f (by simp; omega)], by rw [if_pos hc, if_neg (by omega)]; congr 2; unfold fa_g3; omega⟩
    · exact ⟨-1, by rw [bif_t (by simp; omega)], by rw [if_neg hc, if_pos (by omega)]⟩
  · rw [fa_A4 _ n h (by omega)]
    simp only [ref_Ack, e1, e2, e3, e4, show ((4 : Int) == 1) = false from rfl, show ((4 : Int) == 2) = false from rfl, show ((4 : Int) == 3) = false from rfl, show ((4 : Int) == 4) = true from rfl, cond_false, cond_true, Option.bind_some]
    by_cases hc : n = 0
    · subst hc; exact ⟨13, rfl, rfl⟩
    · have h0 : decide (n > 0) = true := by simp; omega
      exact ⟨-1, by rw [bif_t h0]; rfl, by rw [if_neg hc, if_pos (by omega)]⟩
theorem FuncsAcks_true (a0 a1 : Int) (f0 : Fits (.int .i64) a0) (f1 : Fits (.int .i64) a1) : ∃ fuel, law_FuncsAcks fuel a0 a1 = some true := by
  refine ⟨2000, ?_⟩
  have f1 := f1.i64
  by_cases h : 0 ≤ a0 ∧ a0 ≤ 4 ∧ 0 ≤ a1
  · obtain ⟨h1, h2, h3⟩ := h
    have c : (((decide (a0 < (0 : Int))) || (decide (a1 < (0 : Int)))) || (decide (a0 > (4 : Int)))) = false := by
      simp only [Bool.or_eq_false_iff, decide_eq_false_iff_not]; omega
    have d : decide (a1 < 0) = false := by simp; omega
    have wi : ref_Within 0 a0 4 = some true := by simp [ref_Within, h1, h2]
    by_cases h4 : a1 ≤ 1000
    · obtain ⟨v, hv, hk⟩ := fa_ref a0 a1 h1 h2 h3 h4
      have g : decide (a1 > 1000) = false := by simp; omega
      unfold law_FuncsAcks funcs_Ack
      rw [bif_f c, hk, wi, hv]
      by_cases hv0 : v < 0
      · simp [hv0, d, g]
      · simp [hv0, d, g]
    · have g : decide (a1 > 1000) = true := by simp; omega
      have hk : funcs_ack 2000 a0 a1 = some (0, false) := by
        show funcs_ack_step (funcs_ack 1999) 1999 a0 a1 = _
        unfold funcs_ack_step
        rw [bif_t (by simp; omega)]
      unfold law_FuncsAcks funcs_Ack
      rw [bif_f c, hk, wi]
      simp [d, g]
  · have c : (((decide (a0 < (0 : Int))) || (decide (a1 < (0 : Int)))) || (decide (a0 > (4 : Int)))) = true := by
      simp only [Bool.or_eq_true, decide_eq_true_eq]; omega
    have wi : ∀ r, ((!((decide (0 ≤ a0)) && (decide (a0 ≤ 4)))) || (decide (a1 < 0))) = r → r = true := by
      rintro r rfl
      simp only [Bool.or_eq_true, Bool.not_eq_true', Bool.and_eq_false_iff, decide_eq_false_iff_not, decide_eq_true_eq]; omega
    unfold law_FuncsAcks funcs_Ack ref_Within
    rw [bif_t c]
    simp only [Option.bind_some]
    rw [bif_t (wi _ rfl)]
    rfl

end Go.Proofs.Ytmongadolmofnaa.funcsAcks
namespace Go.Proofs.Ytmongadolmofnaa.funcsAcks
open Go.ChangeShapes Go.WideShapes Go.ChangeAt Go.RowKit
open Go.ChangeMaps (open_string shut_string)
theorem own : ownKnob Try.prog.godebug = none := by kernel_rfl
theorem laidOut : laidOutB Try.prog = true := by kernel_rfl
theorem lifted (os : Os) (started : os.Started) (H : Type) (enc : TypeId × Value → H) :
    ReturnsInHanded {} Try.checked os 11 .any (Rows.funcsAcksSpec.pre6 enc Try.prog Try.f11 Rows.funcsAcksRow.domain false) (Rows.funcsAcksSpec.post enc Try.prog Try.f11 false true false false) := by
  refine returnsInHanded_of_change (C := Try.checked) own started (by kernel_rfl) Try.func11
    (ChangeSpec.witness6 (enc := enc) (C := Try.checked) false ⟨#[], #[.int .i64 0, .int .i64 0], []⟩ 8 (by kernel_rfl) (by kernel_rfl) (by kernel_rfl) (by kernel_rfl)) ?_
  intro W base args ds gs before hval0 hW hcnd _
  have hval : ∀ (j : Nat) t v, Try.f11.params[j]? = some t → args[j]? = some v → Value.okWide Try.prog W .any base t v := hval0
  have hW' := hW
  obtain ⟨p, q, hA0, hV, rfl, hfz, hnd⟩ := hW
  have hA : DataW.TrodAll enc Try.prog W 0 (fun _ => true) true Try.f11.params.toList args.toList ds p := hA0
  rw [Try.params11] at hA hval
  obtain ⟨v0, vs0, d0, ds0, p0, q0, hargs, rfl, rfl, h0, r0⟩ := trodAll_cons hA
  obtain ⟨v1, vs1, d1, ds1, p1, q1, rfl, rfl, rfl, h1, r1⟩ := trodAll_cons r0
  obtain ⟨rfl, rfl, rfl⟩ := trodAll_nil r1
  obtain rfl : args = #[v0, v1] := by cases args; simp_all
  obtain ⟨rfl, rfl⟩ := trodVars_none hV
  obtain ⟨x0, f0, k0⟩ := Go.Sl.read_arg (u := (.int .i64)) (by kernel_rfl) (by kernel_rfl) (hval 0 3 v0 rfl rfl) h0
  have lt0 : ∀ x ∈ p0, x.block < W.heap.size := by obtain ⟨m, hm⟩ := h0; exact DataW.trod_lt m _ _ _ hm
  obtain ⟨x1, f1, k1⟩ := Go.Sl.read_arg (u := (.int .i64)) (by kernel_rfl) (by kernel_rfl) (hval 1 3 v1 rfl rfl) h1
  have lt1 : ∀ x ∈ p1, x.block < W.heap.size := by obtain ⟨m, hm⟩ := h1; exact DataW.trod_lt m _ _ _ hm
  clear hA0 hval0
  obtain ⟨fuel, hm⟩ := FuncsAcks_true x0 x1 f0 f1
  refine (Go.Sl.law_of (vs := [v0, v1]) (law_FuncsAcks_ok hm) rfl (.cons (k0 _ _) (.cons (k1 _ _) .nil))).mono fun e W' ⟨he, bel⟩ => ?_
  subst he
  exact ⟨_, rfl, _, _, _, [], _, [], hW', trodAll_mk1 (shut_bool Try.underlying4 _), (trodAll_cons_mk (Below.trod laidOut (by kernel_rfl) (of_decide_eq_true (by kernel_rfl)) h0 bel lt0) (trodAll_cons_mk (Below.trod laidOut (by kernel_rfl) (of_decide_eq_true (by kernel_rfl)) h1 bel lt1) trodAll_mk0)), rfl, bel.frame _, fun h => by cases h⟩
theorem proved : Rows.FuncsAcksSaid :=
  OpenClaim.holds_of_wide 11 Try.f11 rfl rfl rfl rfl rfl rfl rfl ⟨rfl, rfl, rfl, rfl, rfl⟩ rfl rfl rfl rfl rfl (by kernel_rfl) Try.func11 (by kernel_rfl)
    (of_decide_eq_true (by kernel_rfl)) (by unfold Func.isWrapper; first | (rw [if_pos (by decide +kernel)]; kernel_rfl) | (rw [if_neg (by decide +kernel)]; exact ⟨rfl, rfl⟩))
    (fun os started H enc _ => lifted os started H enc)
#print axioms proved
end Go.Proofs.Ytmongadolmofnaa.funcsAcks
