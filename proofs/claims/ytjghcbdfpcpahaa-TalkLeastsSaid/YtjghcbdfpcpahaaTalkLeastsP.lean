/- For any table talk.Least returns the specified results: TalkLeasts returns true and changes nothing; no conditions. -/
import Derived.Test.YtjghcbdfpcpahaaRows
import Derived.WalkKit
import Derived.ProofKit
import Derived.OpenShut
import Derived.ShutString
import Derived.ChangeOld
import Derived.Below
import Derived.Test.YtjghcbdfpcpahaaTalkLeastsM
set_option linter.all false
set_option maxRecDepth 100000
namespace Go.Proofs.Ytjghcbdfpcpahaa.talkLeasts
open Go Go.Sl

theorem within_eq (a b c : Int) : ref_Within a b c = some (decide (a ≤ b ∧ b ≤ c)) := by
  unfold ref_Within
  rw [Bool.decide_and]

def tkLen (t : List (List Bool)) (l : List Bool) : Bool := (l.length : Int) != (((t[0]?).getD []).length : Int)
def tkAll (t : List (List Bool)) : Int :=
  bif !decide (1 ≤ (t.length : Int) ∧ (t.length : Int) ≤ 4) then 1 else bif !decide (1 ≤ (((t[0]?).getD []).length : Int) ∧ (((t[0]?).getD []).length : Int) ≤ 4) then 1 else bif t.any (tkLen t) then 3 else 0
theorem tk_head {t : List (List Bool)} (h : 1 ≤ t.length) : idx t 0 = some ((t[0]?).getD []) := by
  cases t with
  | nil => simp at h
  | cons a t => rfl
theorem tk_wrong (t : List (List Bool)) : talk_wrong t = some (tkAll t) := by
  unfold talk_wrong talk_wrong_g1 tkAll
  have e : ((decide ((List.length t : Int) < (1 : Int))) || (decide ((List.length t : Int) > (4 : Int)))) = !decide (1 ≤ (t.length : Int) ∧ (t.length : Int) ≤ 4) := by
    rw [or_dec, not_dec]; exact decide_eq_decide.2 (by omega)
  rw [e]
  by_cases h : 1 ≤ (t.length : Int) ∧ (t.length : Int) ≤ 4
  · rw [tk_head (by omega)]
    generalize hd : (t[0]?).getD [] = d
    have e2 : (bif decide ((List.length d : Int) < (1 : Int)) then (some true) else (some (decide ((List.length d : Int) > (4 : Int))))) = some (!decide (1 ≤ (d.length : Int) ∧ (d.length : Int) ≤ 4)) := by
      rw [bif_some]; congr 1
      by_cases h : (d.length : Int) < 1
      · have : ¬ (1 ≤ (d.length : Int) ∧ (d.length : Int) ≤ 4) := by omega
        simp only [h, decide_true, cond_true, this, decide_false, Bool.not_false]
      · rw [decide_eq_false h, cond_false, not_dec]; exact decide_eq_decide.2 (by omega)
    simp only [h, and_self, decide_true, Bool.not_true, cond_false, bind_some', e2]
    have e3 : slices_ContainsFunc_LLboolLbool_with_talk_wrong_1 t t = some (t.any (tkLen t)) := by
      unfold slices_ContainsFunc_LLboolLbool_with_talk_wrong_1 slices_IndexFunc_LLboolLbool_with_talk_wrong_1
      rcases forL_at (body := slices_IndexFunc_LLboolLbool_with_talk_wrong_1_b1 t) (fin := fun _ => (Esc.brk () : Esc Int Unit)) (p := tkLen t) (g := fun j => Esc.ret j) (l := t)
        (fun i a _ => by unfold slices_IndexFunc_LLboolLbool_with_talk_wrong_1_b1 talk_wrong_1 tkLen; rw [tk_head (by omega)]; simp only [bind_some']; cases ((List.length a : Int) != (List.length ((t[0]?).getD []) : Int)) <;> rfl) (i := 0) with ⟨h1, h2⟩ | ⟨h1, j, h2, h3, h4⟩
      · rw [h2, h1]; rfl
      · rw [h4, h1]; simp [h2]
    rw [e3]
    cases decide (1 ≤ (d.length : Int) ∧ (d.length : Int) ≤ 4) <;> cases t.any (tkLen t) <;> rfl
  · rw [decide_eq_false h]; rfl
theorem tk_check (t : List (List Bool)) : ref_TalkCheck t = some (tkAll t) := by
  unfold ref_TalkCheck ref_TalkCheck_g1 tkAll
  rw [within_eq, bind_some']
  by_cases h : 1 ≤ (t.length : Int) ∧ (t.length : Int) ≤ 4
  · rw [tk_head (by omega), bind_some', within_eq, bind_some']
    rw [forL_ex (p := tkLen t) (y := Esc.ret 3) (fun i a _ => by unfold ref_TalkCheck_b2 tkLen; rw [tk_head (by omega)]; simp only [bind_some']; cases ((List.length a : Int) != (List.length ((t[0]?).getD []) : Int)) <;> rfl)]
    simp only [h, and_self, decide_true, Bool.not_true, cond_false, bind_some']
    cases decide (1 ≤ (((t[0]?).getD []).length : Int) ∧ (((t[0]?).getD []).length : Int) ≤ 4) <;> cases t.any (tkLen t) <;> rfl
  · rw [decide_eq_false h]; rfl
theorem tk_ok {t : List (List Bool)} (h : tkAll t = 0) : 1 ≤ t.length ∧ t.length ≤ 4 ∧ ∃ n, 1 ≤ n ∧ n ≤ 4 ∧ ∀ r ∈ t, r.length = n := by
  unfold tkAll at h
  by_cases h1 : 1 ≤ (t.length : Int) ∧ (t.length : Int) ≤ 4
  · rw [decide_eq_true h1] at h
    by_cases h2 : 1 ≤ (((t[0]?).getD []).length : Int) ∧ (((t[0]?).getD []).length : Int) ≤ 4
    · rw [decide_eq_true h2] at h
      cases h3 : t.any (tkLen t) with
      | true => rw [h3] at h; cases h
      | false =>
        refine ⟨by omega, by omega, ((t[0]?).getD []).length, by omega, by omega, fun r hr => ?_⟩
        have := List.any_eq_false.1 h3 r hr
        unfold tkLen at this
        simp at this
        omega
    · rw [decide_eq_false h2] at h; cases h
  · rw [decide_eq_false h1] at h; cases h

theorem bit_eq {w i : Nat} (hw : w < 2 ^ 63) (hi : i < 63) : ref_Bit (w : Int) (i : Int) = some (w.testBit i) := by
  unfold ref_Bit
  have c : (decide ((i : Int) ≥ 0) && decide ((i : Int) < 63)) = true := by simp; omega
  have e : IntKind.wrap .u64 (i : Int) = (i : Int) := wrap_u64 (by omega) (by omega)
  rw [c, e, ck_ok (by omega)]
  simp only [cond_true, Option.bind_some, bit_mask hw hi]

theorem mget_mput {α β : Type} {eq : α → α → Bool} [DecidableEq α] (heq : ∀ a b, eq a b = true ↔ a = b) : ∀ (l : List (α × β)) (x : α) (y : β) (z : α), mGet eq (mPut eq l x y) z = if z = x then some y else mGet eq l z
  | [], x, y, z => by
    by_cases h : z = x
    · simp [mPut, mGet, h, (heq x x).2 rfl]
    · have : eq z x = false := by cases hh : eq z x with | false => rfl | true => exact (h ((heq _ _).1 hh)).elim
      simp [mPut, mGet, h, this]
  | p :: l, x, y, z => by
    have hf : ∀ {a b}, a ≠ b → eq a b = false := by
      intro a b h
      cases hh : eq a b with | false => rfl | true => exact (h ((heq _ _).1 hh)).elim
    by_cases hp : x = p.1
    · have e1 : eq x p.1 = true := (heq _ _).2 hp
      by_cases h : z = x
      · simp [mPut, mGet, e1, h, (heq x x).2 rfl]
      · simp [mPut, mGet, e1, h, hf h, hf (fun e => h (e.trans hp.symm))]
    · have e1 : eq x p.1 = false := hf hp
      by_cases hz : z = p.1
      · have e2 : eq z p.1 = true := (heq _ _).2 hz
        have hzx : z ≠ x := fun e => hp (e ▸ hz)
        simp [mPut, mGet, e1, e2, hzx]
      · simp only [mPut, e1, Bool.false_eq_true, if_false, mGet, hf hz]
        exact mget_mput heq l x y z
theorem deqI {k : IntKind} (a b : Int) : deqT (.int k) a b = true ↔ a = b := by simp [deqT]

/-! what a part of a table has -/
def anyI {α : Type} (f : Nat → α → Bool) : Nat → List α → Bool
  | _, [] => false
  | n, a :: l => f n a || anyI f (n + 1) l
theorem anyI_iff {α : Type} {f : Nat → α → Bool} : ∀ (l : List α) (n : Nat), anyI f n l = true ↔ ∃ j a, l[j]? = some a ∧ f (n + j) a = true
  | [], n => by simp [anyI]
  | a :: l, n => by
    simp only [anyI, Bool.or_eq_true, anyI_iff l (n + 1)]
    constructor
    · rintro (h | ⟨j, b, h1, h2⟩)
      · exact ⟨0, a, rfl, h⟩
      · exact ⟨j + 1, b, by simpa using h1, by rw [show n + (j + 1) = n + 1 + j by omega]; exact h2⟩
    · rintro ⟨j, b, h1, h2⟩
      cases j with
      | zero => simp at h1; subst h1; exact .inl h2
      | succ j => exact .inr ⟨j, b, by simpa using h1, by rw [show n + 1 + j = n + (j + 1) by omega]; exact h2⟩
def rowHas (c : Nat) (b : Bool) (l : List Bool) : Bool := anyI (fun j a => c.testBit j && (a == b)) 0 l
def tabHas (r c : Nat) (b : Bool) (t : List (List Bool)) : Bool := anyI (fun i l => r.testBit i && rowHas c b l) 0 t
def mono (t : List (List Bool)) (r c : Nat) : Bool := !tabHas r c false t || !tabHas r c true t
theorem forL_or2 {α : Type} {body : Int → α → (Bool × Bool) → Option (Flow (Bool × Bool) (Bool × Bool))} {f g : Nat → α → Bool} : ∀ (l : List α) (n : Nat) (x : Bool × Bool),
    (∀ (j : Nat) a x, l[j]? = some a → body ((n + j : Nat) : Int) a x = some (.next (x.1 || f (n + j) a, x.2 || g (n + j) a))) → forL body (fun x => (x.1, x.2)) l (n : Int) x = some (x.1 || anyI f n l, x.2 || anyI g n l)
  | [], n, x, _ => by simp [forL, anyI]
  | a :: l, n, x, h => by
    have h0 := h 0 a x rfl
    simp only [Nat.add_zero] at h0
    simp only [forL, h0, anyI]
    have := forL_or2 (body := body) (f := f) (g := g) l (n + 1) (x.1 || f n a, x.2 || g n a) (fun j b y hj => by
      have := h (j + 1) b y (by simpa using hj)
      rwa [show n + (j + 1) = n + 1 + j by omega] at this)
    rw [show ((n : Int) + 1) = ((n + 1 : Nat) : Int) by omega, this]
    simp [Bool.or_assoc]
theorem forL_or20 {α : Type} {body : Int → α → (Bool × Bool) → Option (Flow (Bool × Bool) (Bool × Bool))} {f g : Nat → α → Bool} (l : List α) (x : Bool × Bool)
    (h : ∀ (j : Nat) a x, l[j]? = some a → body (j : Int) a x = some (.next (x.1 || f j a, x.2 || g j a))) : forL body (fun x => (x.1, x.2)) l 0 x = some (x.1 || anyI f 0 l, x.2 || anyI g 0 l) := by
  simpa using forL_or2 (f := f) (g := g) l 0 x (fun j a x hj => by simpa using h j a x hj)
theorem u_bit : ∀ r : Nat, r < 16 → ∀ i : Nat, i < 4 → (bAnd .u64 (bShr .u64 (r : Int) (i : Int)) 1 == 1) = r.testBit i := by
  decide +kernel
theorem tk_all {t : List (List Bool)} (h4 : t.length ≤ 4) {n : Nat} (hn : n ≤ 4) (hr : ∀ l ∈ t, l.length = n) {r c : Nat} (hr16 : r < 16) (hc16 : c < 16) : talk_all t ((r : Int), (c : Int)) = some (mono t r c) := by
  unfold talk_all
  rw [forL_or20 (f := fun i l => r.testBit i && rowHas c false l) (g := fun i l => r.testBit i && rowHas c true l) t (false, false) (fun i l x hi => by
    have hil := (List.getElem?_eq_some_iff.1 hi).1
    have hll := hr l (List.mem_of_getElem? hi)
    unfold talk_all_b75
    rw [forL_or20 (f := fun j a => r.testBit i && (c.testBit j && (a == false))) (g := fun j a => r.testBit i && (c.testBit j && (a == true))) l (x.1, x.2) (fun j a y hj => by
      have hjl := (List.getElem?_eq_some_iff.1 hj).1
      unfold talk_all_b72 talk_all_g69
      rw [ck_ok (by omega), bind_some', u_bit r hr16 i (by omega), ck_ok (by omega), bind_some', u_bit c hc16 j (by omega)]
      cases r.testBit i <;> cases c.testBit j <;> cases a <;> simp)]
    have e : ∀ b, anyI (fun j a => r.testBit i && (c.testBit j && (a == b))) 0 l = (r.testBit i && rowHas c b l) := by
      intro b
      unfold rowHas
      cases r.testBit i with
      | true => rfl
      | false =>
        rw [Bool.false_and, Bool.eq_false_iff]
        intro h
        obtain ⟨j, a, _, h2⟩ := (anyI_iff _ _).1 h
        simp at h2
    rw [e, e]; rfl), bind_some']
  simp [mono, tabHas]
theorem tk_mono {t : List (List Bool)} (h1 : 1 ≤ t.length) (h4 : t.length ≤ 4) {n : Nat} (hn : n ≤ 4) (hr : ∀ l ∈ t, l.length = n) {r c : Nat} (hr16 : r < 16) (hc16 : c < 16) {fuel : Nat} (hf : 5 ≤ fuel) :
    forL (ref_Talks_b79 t (r : Int) (c : Int) fuel) (fun x => (x.1, x.2)) t 0 (false, false) = some (tabHas r c true t, tabHas r c false t) := by
  have hd : idx t 0 = some ((t[0]?).getD []) := tk_head h1
  have hdl : ((t[0]?).getD []).length = n := by
    cases t with
    | nil => simp at h1
    | cons a t => exact hr a (by simp)
  have hrow : ∀ (i : Nat) (l : List Bool), i < 4 → l.length = n → ∀ (rest pre : List Bool) (fuel : Nat) (y z : Bool), l = pre ++ rest → rest.length < fuel →
      iter (ref_Talks_b76 t (r : Int) (c : Int) (i : Int) l) fuel (y, z, (pre.length : Int)) = some (y || (r.testBit i && anyI (fun j a => c.testBit j && (a == true)) pre.length rest), z || (r.testBit i && anyI (fun j a => c.testBit j && (a == false)) pre.length rest)) := by
    intro i l hi hl rest
    induction rest with
    | nil =>
      intro pre fuel y z hp hf
      obtain ⟨fuel, rfl⟩ : ∃ q, fuel = q + 1 := ⟨fuel - 1, by simp at hf; omega⟩
      have : ref_Talks_b76 t (r : Int) (c : Int) (i : Int) l (y, z, (pre.length : Int)) = some (.done (y, z)) := by
        unfold ref_Talks_b76
        rw [hd, bind_some', hdl, bif_f (by simp only [decide_eq_false_iff_not]; simp at hp; subst hp; omega)]
      simp only [iter, this, anyI, Bool.and_false, Bool.or_false]
    | cons a rest ih =>
      intro pre fuel y z hp hf
      obtain ⟨fuel, rfl⟩ : ∃ q, fuel = q + 1 := ⟨fuel - 1, by omega⟩
      have hpl : pre.length < n := by rw [← hl, hp]; simp
      have hx : idx l (pre.length : Int) = some a := by rw [idx_nat, hp]; simp
      have hstep : ref_Talks_b76 t (r : Int) (c : Int) (i : Int) l (y, z, (pre.length : Int)) = some (.next (y || (r.testBit i && (c.testBit pre.length && (a == true))), z || (r.testBit i && (c.testBit pre.length && (a == false))), (((pre ++ [a]).length : Nat) : Int))) := by
        unfold ref_Talks_b76 ref_Talks_g74
        rw [hd, bind_some', hdl, bif_t (by simp only [decide_eq_true_eq]; omega), bit_eq (by omega) (by omega), bind_some', bit_eq (by omega) (by omega), bind_some']
        have hw : w64 ((pre.length : Int) + 1) = (((pre ++ [a]).length : Nat) : Int) := by rw [w64_id (by omega) (by omega)]; simp
        simp only [hx, bind_some', hw]
        cases r.testBit i <;> cases c.testBit pre.length <;> cases y <;> cases z <;> cases a <;> rfl
      simp only [iter, hstep]
      rw [ih (pre ++ [a]) fuel _ _ (by rw [hp]; simp) (by simp at hf; omega)]
      simp only [List.length_append, List.length_singleton, anyI]
      cases r.testBit i <;> simp [Bool.or_assoc]
  rw [forL_or20 (f := fun i l => r.testBit i && rowHas c true l) (g := fun i l => r.testBit i && rowHas c false l) t (false, false) (fun i l x hi => by
    have hil := (List.getElem?_eq_some_iff.1 hi).1
    have hll := hr l (List.mem_of_getElem? hi)
    unfold ref_Talks_b79
    have := hrow i l (by omega) hll l [] fuel x.1 x.2 rfl (by omega)
    simp only [List.length_nil] at this
    rw [show ((0 : Nat) : Int) = 0 from rfl] at this
    rw [this]; rfl)]
  simp [tabHas]
/-! who can do with so many bits -/
def TT (mo : Nat → Nat → Bool) : Nat → Nat → Nat → Bool
  | 0, r, c => mo r c
  | k + 1, r, c => mo r c || ((List.range r).any fun s => decide (1 ≤ s ∧ s ||| r = r) && (TT mo k s c && TT mo k (r - s) c)) || ((List.range c).any fun s => decide (1 ≤ s ∧ s ||| c = c) && (TT mo k r s && TT mo k r (c - s)))
theorem TT_succ {mo : Nat → Nat → Bool} : ∀ (k r c : Nat), TT mo k r c = true → TT mo (k + 1) r c = true
  | 0, r, c, h => by
    have h : mo r c = true := h
    simp only [TT, h, Bool.true_or]
  | k + 1, r, c, h => by
    rw [TT] at h ⊢
    simp only [Bool.or_eq_true] at h ⊢
    rcases h with (h | h) | h
    · exact .inl (.inl h)
    · refine .inl (.inr ?_)
      simp only [List.any_eq_true, Bool.and_eq_true] at h ⊢
      obtain ⟨s, h1, h2, h3, h4⟩ := h
      exact ⟨s, h1, h2, TT_succ k _ _ h3, TT_succ k _ _ h4⟩
    · refine .inr ?_
      simp only [List.any_eq_true, Bool.and_eq_true] at h ⊢
      obtain ⟨s, h1, h2, h3, h4⟩ := h
      exact ⟨s, h1, h2, TT_succ k _ _ h3, TT_succ k _ _ h4⟩
theorem TT_le {mo : Nat → Nat → Bool} {k l r c : Nat} (hkl : k ≤ l) (h : TT mo k r c = true) : TT mo l r c = true := by
  induction hkl with
  | refl => exact h
  | step _ ih => exact TT_succ _ _ _ ih
def dd (mo : Nat → Nat → Bool) (r c : Nat) : Nat := ((List.range 9).find? fun k => TT mo k r c).getD 9
theorem dd_le {mo : Nat → Nat → Bool} {r c k : Nat} (hk : k ≤ 8) : dd mo r c ≤ k ↔ TT mo k r c = true := by
  unfold dd
  cases hf : (List.range 9).find? fun k => TT mo k r c with
  | none =>
    have := List.find?_eq_none.1 hf k (by simp; omega)
    simp only [Option.getD_none]
    constructor
    · omega
    · intro h; exact absurd h this
  | some j =>
    have h1 := List.find?_some hf
    simp only [Option.getD_some]
    constructor
    · intro h; exact TT_le h h1
    · intro h
      rcases Nat.lt_or_ge k j with hlt | hge
      · obtain ⟨_, pre, bs, hl, hno⟩ := List.find?_eq_some_iff_append.1 hf
        have hj : pre.length = j := by
          have := congrArg (fun l : List Nat => l[pre.length]?) hl
          simp at this
          have h9 : pre.length < 9 := by
            have := congrArg List.length hl
            simp at this; omega
          rw [List.getElem?_range h9] at this
          simpa using this
        have hkm : k ∈ pre := by
          have : pre[k]? = some k := by
            have := congrArg (fun l : List Nat => l[k]?) hl
            rw [List.getElem?_range (by omega), List.getElem?_append_left (by omega)] at this
            exact this.symm
          exact List.mem_of_getElem? this
        have := hno k hkm
        rw [h] at this; simp at this
      · exact hge
theorem dd_9 {mo : Nat → Nat → Bool} {r c : Nat} : dd mo r c ≤ 9 := by
  unfold dd
  cases hf : (List.range 9).find? fun k => TT mo k r c with
  | none => simp
  | some j =>
    have := List.mem_of_find?_eq_some hf
    simp at this ⊢; omega
/-- a submask below another one -/
def sm (s r : Nat) : Prop := 1 ≤ s ∧ s < r ∧ s ||| r = r
theorem dd_eq {mo : Nat → Nat → Bool} {r c m : Nat} (hmo : mo r c = false) (h9 : m ≤ 9) (hm : ∀ k, k ≤ 8 → (m ≤ k ↔ (∃ s, sm s r ∧ 1 + max (dd mo s c) (dd mo (r - s) c) ≤ k) ∨ ∃ s, sm s c ∧ 1 + max (dd mo r s) (dd mo r (c - s)) ≤ k)) : m = dd mo r c := by
  have key : ∀ k, k ≤ 8 → (m ≤ k ↔ dd mo r c ≤ k) := by
    intro k hk
    rw [hm k hk, dd_le hk]
    cases k with
    | zero =>
      simp only [TT, hmo, Bool.false_eq_true, iff_false]
      rintro (⟨s, _, h⟩ | ⟨s, _, h⟩) <;> omega
    | succ k =>
      rw [TT]
      simp only [hmo, Bool.false_or, Bool.or_eq_true, List.any_eq_true, List.mem_range, Bool.and_eq_true, decide_eq_true_eq]
      constructor
      · rintro (⟨s, ⟨h1, h2, h3⟩, h⟩ | ⟨s, ⟨h1, h2, h3⟩, h⟩)
        · exact .inl ⟨s, h2, ⟨h1, h3⟩, (dd_le (by omega)).1 (by omega), (dd_le (by omega)).1 (by omega)⟩
        · exact .inr ⟨s, h2, ⟨h1, h3⟩, (dd_le (by omega)).1 (by omega), (dd_le (by omega)).1 (by omega)⟩
      · rintro (⟨s, h2, ⟨h1, h3⟩, a, b⟩ | ⟨s, h2, ⟨h1, h3⟩, a, b⟩)
        · have a := (dd_le (k := k) (by omega)).2 a
          have b := (dd_le (k := k) (by omega)).2 b
          exact .inl ⟨s, ⟨h1, h2, h3⟩, by omega⟩
        · have a := (dd_le (k := k) (by omega)).2 a
          have b := (dd_le (k := k) (by omega)).2 b
          exact .inr ⟨s, ⟨h1, h2, h3⟩, by omega⟩
  have := dd_9 (mo := mo) (r := r) (c := c)
  rcases Nat.lt_trichotomy m (dd mo r c) with h | h | h
  · have := (key m (by omega)).1 (Nat.le_refl _); omega
  · exact h
  · have := (key (dd mo r c) (by omega)).2 (Nat.le_refl _); omega
theorem dd_mono {mo : Nat → Nat → Bool} {r c : Nat} (hmo : mo r c = true) : dd mo r c = 0 := by
  have := (dd_le (mo := mo) (r := r) (c := c) (k := 0) (by omega)).2 hmo
  omega
/-! the program -/
theorem u_sub : ∀ r : Nat, r < 16 → ∀ s : Nat, s < 16 → s ||| r = r → bClr .u64 (r : Int) (s : Int) = ((r - s : Nat) : Int) ∧ (r - s) ||| r = r := by
  decide +kernel
theorem u_next0 : ∀ r : Nat, r < 16 → ∀ s : Nat, s < 16 → (s ≠ 0 ∨ r = 0) → bAnd .u64 (IntKind.wrap .u64 ((s : Int) - 1)) (r : Int) = (((s - 1) &&& r : Nat) : Int) := by
  decide +kernel
theorem u_next1 : ∀ r : Nat, r < 16 → ∀ s : Nat, s < 16 → ((s - 1) &&& r) ||| r = r ∧ ((s - 1) &&& r < s ∨ s = 0 ∧ (s - 1) &&& r = 0) := by
  decide +kernel
theorem u_next (r : Nat) (hr : r < 16) (s : Nat) (hs : s < 16) (h : s = 0 → r = 0) : bAnd .u64 (IntKind.wrap .u64 ((s : Int) - 1)) (r : Int) = (((s - 1) &&& r : Nat) : Int) ∧ ((s - 1) &&& r) ||| r = r ∧ (1 ≤ s → (s - 1) &&& r < s) ∧ (s = 0 → (s - 1) &&& r = 0) := by
  obtain ⟨h1, h2⟩ := u_next1 r hr s hs
  refine ⟨u_next0 r hr s hs ?_, h1, fun h3 => ?_, fun h3 => ?_⟩
  · by_cases h0 : s = 0
    · exact .inr (h h0)
    · exact .inl h0
  · rcases h2 with h2 | h2
    · exact h2
    · omega
  · rcases h2 with h2 | h2
    · omega
    · exact h2.2
theorem u_ord0 : ∀ r : Nat, r < 16 → ∀ s : Nat, s < 16 → ∀ q : Nat, q < 16 → (s ||| r = r ∧ q ||| r = r ∧ q < s) → q ≤ (s - 1) &&& r := by
  decide +kernel
theorem u_ord (r : Nat) (hr : r < 16) (s : Nat) (hs : s < 16) (q : Nat) (hq : q < 16) (h1 : s ||| r = r) (h2 : q ||| r = r) (h3 : q < s) : q ≤ (s - 1) &&& r := u_ord0 r hr s hs q hq ⟨h1, h2, h3⟩
abbrev KT : Ty := .pair (.int .u64) (.int .u64)
def VM (mo : Nat → Nat → Bool) (m : List ((Int × Int) × Int)) : Prop := ∀ r c : Nat, r < 16 → c < 16 → ∀ v, mGet (deqT KT) m ((r : Int), (c : Int)) = some v → v = ((dd mo r c : Nat) : Int)
theorem imm (a b c : Nat) (ha : a ≤ 9) (hb : b ≤ 9) (hc : c ≤ 9) : imin (a : Int) (w64 (1 + imax (b : Int) (c : Int))) = ((min a (1 + max b c) : Nat) : Int) := by
  have e : imax (b : Int) (c : Int) = ((max b c : Nat) : Int) := by unfold imax; split <;> omega
  rw [e, w64_id (by omega) (by omega)]
  unfold imin; split <;> omega
section
variable {t : List (List Bool)} {mo : Nat → Nat → Bool} {rf : Int × Int → List (List Bool) → Option (List ((Int × Int) × Int)) → Option (Int × List (List Bool) × Option (List ((Int × Int) × Int)))}
theorem lp_rows {r c : Nat} (hr : r < 16) (hc : c < 16) (hrf : ∀ r' c' m, r' + c' < r + c → r' < 16 → c' < 16 → VM mo m → ∃ m', rf ((r' : Int), (c' : Int)) t (some m) = some (((dd mo r' c' : Nat) : Int), t, some m') ∧ VM mo m') :
    ∀ (d s best : Nat) (m : List ((Int × Int) × Int)) (fuel : Nat), s ≤ d → d < fuel → s ||| r = r → (s < r ∨ s = 0) → best ≤ 9 → VM mo m →
      ∃ (b' : Nat) (m' : List ((Int × Int) × Int)), iter (talk_talker_least_b13 ((r : Int), (c : Int)) rf) fuel ((best : Int), (s : Int), t, some m) = some ((b' : Int), t, some m') ∧ VM mo m' ∧ b' ≤ 9 ∧
        ∀ k, b' ≤ k ↔ (best ≤ k ∨ ∃ q, sm q r ∧ q ≤ s ∧ 1 + max (dd mo q c) (dd mo (r - q) c) ≤ k) := by
  intro d
  induction d with
  | zero =>
    intro s best m fuel hs hf hsr hlt hb hm
    obtain ⟨fuel, rfl⟩ : ∃ q, fuel = q + 1 := ⟨fuel - 1, by omega⟩
    obtain rfl : s = 0 := by omega
    refine ⟨best, m, ?_, hm, hb, fun k => ⟨.inl, ?_⟩⟩
    · simp only [iter]
      have : talk_talker_least_b13 ((r : Int), (c : Int)) rf ((best : Int), ((0 : Nat) : Int), t, some m) = some (.done ((best : Int), t, some m)) := by unfold talk_talker_least_b13; rfl
      rw [this]
    · rintro (h | ⟨q, ⟨h1, _⟩, h2, _⟩)
      · exact h
      · omega
  | succ d ih =>
    intro s best m fuel hs hf hsr hlt hb hm
    obtain ⟨fuel, rfl⟩ : ∃ q, fuel = q + 1 := ⟨fuel - 1, by omega⟩
    by_cases h0 : s = 0
    · subst h0
      refine ⟨best, m, ?_, hm, hb, fun k => ⟨.inl, ?_⟩⟩
      · simp only [iter]
        have : talk_talker_least_b13 ((r : Int), (c : Int)) rf ((best : Int), ((0 : Nat) : Int), t, some m) = some (.done ((best : Int), t, some m)) := by unfold talk_talker_least_b13; rfl
        rw [this]
      · rintro (h | ⟨q, ⟨h1, _⟩, h2, _⟩)
        · exact h
        · omega
    · have hsl : s < r := by omega
      have hs16 : s < 16 := by omega
      obtain ⟨g1, g2⟩ := u_sub r hr s hs16 hsr
      obtain ⟨n1, n2, n3, n4⟩ := u_next r hr s hs16 (fun h => (h0 h).elim)
      obtain ⟨m1, e1, v1⟩ := hrf s c m (by omega) hs16 hc hm
      obtain ⟨m2, e2, v2⟩ := hrf (r - s) c m1 (by omega) (by omega) hc v1
      have d1 := dd_9 (mo := mo) (r := s) (c := c)
      have d2 := dd_9 (mo := mo) (r := r - s) (c := c)
      have hstep : talk_talker_least_b13 ((r : Int), (c : Int)) rf ((best : Int), (s : Int), t, some m) = some (.next (((min best (1 + max (dd mo s c) (dd mo (r - s) c)) : Nat) : Int), (((s - 1) &&& r : Nat) : Int), t, some m2)) := by
        unfold talk_talker_least_b13
        dsimp only
        rw [bif_t (by simp only [decide_eq_true_eq]; omega), e1, bind_some', g1]
        dsimp only
        rw [e2, bind_some', imm _ _ _ hb d1 d2, n1]
      have hn3 := n3 (by omega)
      obtain ⟨b', m', f1, f2, f3, f4⟩ := ih ((s - 1) &&& r) (min best (1 + max (dd mo s c) (dd mo (r - s) c))) m2 fuel (by omega) (by omega) n2 (by omega) (by omega) v2
      refine ⟨b', m', ?_, f2, f3, fun k => ?_⟩
      · simp only [iter, hstep]; exact f1
      · rw [f4 k]
        constructor
        · rintro (h | ⟨q, h1, h2, h3⟩)
          · rcases Nat.le_total best (1 + max (dd mo s c) (dd mo (r - s) c)) with hh | hh
            · exact .inl (by omega)
            · exact .inr ⟨s, ⟨by omega, hsl, hsr⟩, Nat.le_refl _, by omega⟩
          · exact .inr ⟨q, h1, by omega, h3⟩
        · rintro (h | ⟨q, h1, h2, h3⟩)
          · exact .inl (by omega)
          · rcases Nat.lt_or_ge q s with hq | hq
            · exact .inr ⟨q, h1, u_ord r hr s hs16 q (by have := h1.2.1; omega) hsr h1.2.2 hq, h3⟩
            · obtain rfl : q = s := by omega
              exact .inl (by omega)
theorem lp_cols {r c : Nat} (hr : r < 16) (hc : c < 16) (hrf : ∀ r' c' m, r' + c' < r + c → r' < 16 → c' < 16 → VM mo m → ∃ m', rf ((r' : Int), (c' : Int)) t (some m) = some (((dd mo r' c' : Nat) : Int), t, some m') ∧ VM mo m') :
    ∀ (d s best : Nat) (m : List ((Int × Int) × Int)) (fuel : Nat), s ≤ d → d < fuel → s ||| c = c → (s < c ∨ s = 0) → best ≤ 9 → VM mo m →
      ∃ (b' : Nat) (m' : List ((Int × Int) × Int)), iter (talk_talker_least_b16 ((r : Int), (c : Int)) rf) fuel ((best : Int), (s : Int), t, some m) = some ((b' : Int), t, some m') ∧ VM mo m' ∧ b' ≤ 9 ∧
        ∀ k, b' ≤ k ↔ (best ≤ k ∨ ∃ q, sm q c ∧ q ≤ s ∧ 1 + max (dd mo r q) (dd mo r (c - q)) ≤ k) := by
  intro d
  induction d with
  | zero =>
    intro s best m fuel hs hf hsr hlt hb hm
    obtain ⟨fuel, rfl⟩ : ∃ q, fuel = q + 1 := ⟨fuel - 1, by omega⟩
    obtain rfl : s = 0 := by omega
    refine ⟨best, m, ?_, hm, hb, fun k => ⟨.inl, ?_⟩⟩
    · simp only [iter]
      have : talk_talker_least_b16 ((r : Int), (c : Int)) rf ((best : Int), ((0 : Nat) : Int), t, some m) = some (.done ((best : Int), t, some m)) := by unfold talk_talker_least_b16; rfl
      rw [this]
    · rintro (h | ⟨q, ⟨h1, _⟩, h2, _⟩)
      · exact h
      · omega
  | succ d ih =>
    intro s best m fuel hs hf hsr hlt hb hm
    obtain ⟨fuel, rfl⟩ : ∃ q, fuel = q + 1 := ⟨fuel - 1, by omega⟩
    by_cases h0 : s = 0
    · subst h0
      refine ⟨best, m, ?_, hm, hb, fun k => ⟨.inl, ?_⟩⟩
      · simp only [iter]
        have : talk_talker_least_b16 ((r : Int), (c : Int)) rf ((best : Int), ((0 : Nat) : Int), t, some m) = some (.done ((best : Int), t, some m)) := by unfold talk_talker_least_b16; rfl
        rw [this]
      · rintro (h | ⟨q, ⟨h1, _⟩, h2, _⟩)
        · exact h
        · omega
    · have hsl : s < c := by omega
      have hs16 : s < 16 := by omega
      obtain ⟨g1, g2⟩ := u_sub c hc s hs16 hsr
      obtain ⟨n1, n2, n3, n4⟩ := u_next c hc s hs16 (fun h => (h0 h).elim)
      obtain ⟨m1, e1, v1⟩ := hrf r s m (by omega) hr hs16 hm
      obtain ⟨m2, e2, v2⟩ := hrf r (c - s) m1 (by omega) hr (by omega) v1
      have d1 := dd_9 (mo := mo) (r := r) (c := s)
      have d2 := dd_9 (mo := mo) (r := r) (c := c - s)
      have hstep : talk_talker_least_b16 ((r : Int), (c : Int)) rf ((best : Int), (s : Int), t, some m) = some (.next (((min best (1 + max (dd mo r s) (dd mo r (c - s))) : Nat) : Int), (((s - 1) &&& c : Nat) : Int), t, some m2)) := by
        unfold talk_talker_least_b16
        dsimp only
        rw [bif_t (by simp only [decide_eq_true_eq]; omega), e1, bind_some', g1]
        dsimp only
        rw [e2, bind_some', imm _ _ _ hb d1 d2, n1]
      have hn3 := n3 (by omega)
      obtain ⟨b', m', f1, f2, f3, f4⟩ := ih ((s - 1) &&& c) (min best (1 + max (dd mo r s) (dd mo r (c - s)))) m2 fuel (by omega) (by omega) n2 (by omega) (by omega) v2
      refine ⟨b', m', ?_, f2, f3, fun k => ?_⟩
      · simp only [iter, hstep]; exact f1
      · rw [f4 k]
        constructor
        · rintro (h | ⟨q, h1, h2, h3⟩)
          · rcases Nat.le_total best (1 + max (dd mo r s) (dd mo r (c - s))) with hh | hh
            · exact .inl (by omega)
            · exact .inr ⟨s, ⟨by omega, hsl, hsr⟩, Nat.le_refl _, by omega⟩
          · exact .inr ⟨q, h1, by omega, h3⟩
        · rintro (h | ⟨q, h1, h2, h3⟩)
          · exact .inl (by omega)
          · rcases Nat.lt_or_ge q s with hq | hq
            · exact .inr ⟨q, h1, u_ord c hc s hs16 q (by have := h1.2.1; omega) hsr h1.2.2 hq, h3⟩
            · obtain rfl : q = s := by omega
              exact .inl (by omega)
end
theorem tk_least {t : List (List Bool)} (h4 : t.length ≤ 4) {n : Nat} (hn : n ≤ 4) (hr : ∀ l ∈ t, l.length = n) : ∀ (N r c : Nat) (m : List ((Int × Int) × Int)) (fuel : Nat), r + c ≤ N → N + 20 < fuel → r < 16 → c < 16 → VM (mono t) m →
    ∃ m', talk_talker_least fuel ((r : Int), (c : Int)) t (some m) = some (((dd (mono t) r c : Nat) : Int), t, some m') ∧ VM (mono t) m' := by
  intro N
  induction N using Nat.strongRecOn with
  | ind N ih =>
    intro r c m fuel hN hf hr16 hc16 hm
    obtain ⟨fuel, rfl⟩ : ∃ q, fuel = q + 1 := ⟨fuel - 1, by omega⟩
    have hrf : ∀ r' c' m, r' + c' < r + c → r' < 16 → c' < 16 → VM (mono t) m → ∃ m', talk_talker_least fuel ((r' : Int), (c' : Int)) t (some m) = some (((dd (mono t) r' c' : Nat) : Int), t, some m') ∧ VM (mono t) m' :=
      fun r' c' m h1 h2 h3 h5 => ih (r' + c') (by omega) r' c' m fuel (Nat.le_refl _) (by omega) h2 h3 h5
    show ∃ m', talk_talker_least_step (talk_talker_least fuel) fuel ((r : Int), (c : Int)) t (some m) = _ ∧ _
    unfold talk_talker_least_step
    rw [Option.getD_some]
    cases hg : mGet (deqT (.pair (.int .u64) (.int .u64))) m ((r : Int), (c : Int)) with
    | some v =>
      have := hm r c hr16 hc16 v hg
      exact ⟨m, by rw [Option.isSome_some, cond_true, Option.getD_some, this], hm⟩
    | none =>
      rw [Option.isSome_none, cond_false]
      obtain ⟨m1, e1, v1⟩ : ∃ m1, talk_talker_least_g19 ((r : Int), (c : Int)) t (some m) (talk_talker_least fuel) fuel = some (((dd (mono t) r c : Nat) : Int), t, some m1) ∧ VM (mono t) m1 := by
        unfold talk_talker_least_g19
        rw [tk_all h4 hn hr hr16 hc16, bind_some']
        cases hmo : mono t r c with
        | true => exact ⟨m, by rw [Bool.not_true, cond_false, dd_mono hmo]; rfl, hm⟩
        | false =>
          rw [Bool.not_false, cond_true]
          obtain ⟨a1, a2, a3, a4⟩ := u_next r hr16 r hr16 (fun h => h)
          obtain ⟨c1, c2, c3, c4⟩ := u_next c hc16 c hc16 (fun h => h)
          obtain ⟨b1, m1, p1, p2, p3, p4⟩ := lp_rows (mo := mono t) hr16 hc16 hrf 16 ((r - 1) &&& r) 9 m fuel (by rcases Nat.eq_zero_or_pos r with h | h; (have := a4 h; omega); (have := a3 h; omega)) (by omega) a2 (by rcases Nat.eq_zero_or_pos r with h | h; (have := a4 h; omega); (have := a3 h; omega)) (by omega) hm
          obtain ⟨b2, m2, q1, q2, q3, q4⟩ := lp_cols (mo := mono t) hr16 hc16 hrf 16 ((c - 1) &&& c) b1 m1 fuel (by rcases Nat.eq_zero_or_pos c with h | h; (have := c4 h; omega); (have := c3 h; omega)) (by omega) c2 (by rcases Nat.eq_zero_or_pos c with h | h; (have := c4 h; omega); (have := c3 h; omega)) p3 p2
          have hb : b2 = dd (mono t) r c := dd_eq hmo q3 (fun k hk => by
            rw [q4 k, p4 k]
            constructor
            · rintro ((h | ⟨q, h1, _, h3⟩) | ⟨q, h1, _, h3⟩)
              · omega
              · exact .inl ⟨q, h1, h3⟩
              · exact .inr ⟨q, h1, h3⟩
            · rintro (⟨q, h1, h3⟩ | ⟨q, h1, h3⟩)
              · exact .inl (.inr ⟨q, h1, u_ord r hr16 r hr16 q (by have := h1.2.1; omega) (Nat.or_self r) h1.2.2 h1.2.1, h3⟩)
              · exact .inr ⟨q, h1, u_ord c hc16 c hc16 q (by have := h1.2.1; omega) (Nat.or_self c) h1.2.2 h1.2.1, h3⟩)
          refine ⟨m2, ?_, q2⟩
          dsimp only
          rw [a1, show (9 : Int) = ((9 : Nat) : Int) from rfl, p1, bind_some']
          dsimp only
          rw [c1, q1, bind_some', hb]
      refine ⟨mPut (deqT (.pair (.int .u64) (.int .u64))) m1 ((r : Int), (c : Int)) ((dd (mono t) r c : Nat) : Int), ?_, ?_⟩
      · rw [e1, bind_some']
        rfl
      · intro r' c' h1 h2 v hv
        rw [mget_mput (deqT_iff KT rfl)] at hv
        split at hv
        · rename_i he
          simp only [Prod.mk.injEq, Int.ofNat_inj] at he
          obtain ⟨rfl, rfl⟩ := he
          exact (Option.some.inj hv).symm
        · exact v1 r' c' h1 h2 v hv
/-! the document's answer -/
theorem u_or : ∀ r : Nat, r < 16 → ∀ s : Nat, s < 16 → (bOr .i64 (s : Int) (r : Int) == (r : Int)) = decide (s ||| r = r) := by
  decide +kernel
theorem forI1_any {Y : Type} {body : Int → Unit → Option (Flow Unit Y)} {fin : Unit → Y} {n : Nat} {p : Nat → Bool} {y : Y} (hn : n ≤ 16) (hb : ∀ j : Nat, 1 ≤ j → j < n → body j () = some (bif p j then .done y else .next ())) :
    forI 1 n body fin () = some (bif (List.range n).any (fun j => decide (1 ≤ j) && p j) then y else fin ()) := by
  unfold forI
  rw [if_pos ⟨by omega, by omega⟩, loopI_any (p := fun i => p i.toNat) (y := y) _ 1 rfl]
  · have e : (List.range ((n : Int) - 1).toNat).any (fun k => p (1 + (k : Int)).toNat) = (List.range n).any (fun j => decide (1 ≤ j) && p j) := by
      rw [Bool.eq_iff_iff]
      simp only [List.any_eq_true, List.mem_range, Bool.and_eq_true, decide_eq_true_eq]
      constructor
      · rintro ⟨k, h1, h2⟩
        exact ⟨k + 1, by omega, by omega, by rw [show (1 + (k : Int)).toNat = k + 1 by omega] at h2; exact h2⟩
      · rintro ⟨j, h1, h2, h3⟩
        exact ⟨j - 1, by omega, by rw [show (1 + ((j - 1 : Nat) : Int)).toNat = j by omega]; exact h3⟩
    rw [e]
  · intro j h0 h1
    have := hb j.toNat (by omega) (by omega)
    rwa [Int.toNat_of_nonneg (by omega)] at this
theorem tk_talks {t : List (List Bool)} (h1 : 1 ≤ t.length) (h4 : t.length ≤ 4) {n : Nat} (hn : n ≤ 4) (hr : ∀ l ∈ t, l.length = n) : ∀ (k r c fuel : Nat), r < 16 → c < 16 → k + 6 ≤ fuel → k ≤ 16 → ref_Talks fuel t (r : Int) (c : Int) (k : Int) = some (TT (mono t) k r c) := by
  intro k
  induction k with
  | zero =>
    intro r c fuel hr16 hc16 hf hk
    obtain ⟨fuel, rfl⟩ : ∃ q, fuel = q + 1 := ⟨fuel - 1, by omega⟩
    show ref_Talks_step (ref_Talks fuel) fuel t (r : Int) (c : Int) ((0 : Nat) : Int) = _
    unfold ref_Talks_step
    rw [tk_mono h1 h4 hn hr hr16 hc16 (by omega), bind_some']
    simp only [TT, mono]
    cases tabHas r c true t <;> cases tabHas r c false t <;> rfl
  | succ k ih =>
    intro r c fuel hr16 hc16 hf hk
    obtain ⟨fuel, rfl⟩ : ∃ q, fuel = q + 1 := ⟨fuel - 1, by omega⟩
    show ref_Talks_step (ref_Talks fuel) fuel t (r : Int) (c : Int) ((k + 1 : Nat) : Int) = _
    unfold ref_Talks_step
    rw [tk_mono h1 h4 hn hr hr16 hc16 (by omega), bind_some']
    have hmm : (!tabHas r c true t || !tabHas r c false t) = mono t r c := by unfold mono; rw [Bool.or_comm]
    dsimp only
    rw [hmm, TT]
    cases hmo : mono t r c with
    | true => simp only [cond_true, Bool.true_or]
    | false =>
      have hk1 : w64 (((k + 1 : Nat) : Int) - 1) = (k : Int) := by rw [w64_id (by omega) (by omega)]; omega
      have hk0 : (((k + 1 : Nat) : Int) == 0) = false := by rw [beq_dec]; simp; omega
      rw [cond_false, hk0, cond_false]
      rw [forI1_any (n := r) (p := fun s => decide (s ||| r = r) && (TT (mono t) k s c && TT (mono t) k (r - s) c)) (y := .ret true) (by omega) (fun s hs1 hs => by
        unfold ref_Talks_b88 ref_Talks_g86
        rw [u_or r hr16 s (by omega), hk1]
        by_cases hsm : s ||| r = r
        · have hw : w64 ((r : Int) - (s : Int)) = ((r - s : Nat) : Int) := by rw [w64_id (by omega) (by omega)]; omega
          rw [decide_eq_true hsm, cond_true, ih s c fuel (by omega) hc16 (by omega) (by omega), bind_some', hw]
          cases TT (mono t) k s c with
          | false => rfl
          | true =>
            rw [cond_true, ih (r - s) c fuel (by omega) hc16 (by omega) (by omega)]
            cases TT (mono t) k (r - s) c <;> rfl
        · rw [decide_eq_false hsm]; rfl), bind_some']
      have ea : (List.range r).any (fun s => decide (1 ≤ s) && (decide (s ||| r = r) && (TT (mono t) k s c && TT (mono t) k (r - s) c))) = (List.range r).any (fun s => decide (1 ≤ s ∧ s ||| r = r) && (TT (mono t) k s c && TT (mono t) k (r - s) c)) := by
        congr 1; funext s; rw [Bool.decide_and, Bool.and_assoc]
      rw [ea]
      cases hA : (List.range r).any (fun s => decide (1 ≤ s ∧ s ||| r = r) && (TT (mono t) k s c && TT (mono t) k (r - s) c)) with
      | true => rfl
      | false =>
        dsimp only [cond_false]
        rw [forI1_any (n := c) (p := fun s => decide (s ||| c = c) && (TT (mono t) k r s && TT (mono t) k r (c - s))) (y := .ret true) (by omega) (fun s hs1 hs => by
          unfold ref_Talks_b98 ref_Talks_g96
          rw [u_or c hc16 s (by omega), hk1]
          by_cases hsm : s ||| c = c
          · have hw : w64 ((c : Int) - (s : Int)) = ((c - s : Nat) : Int) := by rw [w64_id (by omega) (by omega)]; omega
            rw [decide_eq_true hsm, cond_true, ih r s fuel hr16 (by omega) (by omega) (by omega), bind_some', hw]
            cases TT (mono t) k r s with
            | false => rfl
            | true =>
              rw [cond_true, ih r (c - s) fuel hr16 (by omega) (by omega) (by omega)]
              cases TT (mono t) k r (c - s) <;> rfl
          · rw [decide_eq_false hsm]; rfl), bind_some']
        have eb : (List.range c).any (fun s => decide (1 ≤ s) && (decide (s ||| c = c) && (TT (mono t) k r s && TT (mono t) k r (c - s)))) = (List.range c).any (fun s => decide (1 ≤ s ∧ s ||| c = c) && (TT (mono t) k r s && TT (mono t) k r (c - s))) := by
          congr 1; funext s; rw [Bool.decide_and, Bool.and_assoc]
        rw [eb]
        cases (List.range c).any (fun s => decide (1 ≤ s ∧ s ||| c = c) && (TT (mono t) k r s && TT (mono t) k r (c - s))) <;> rfl
/-! eight bits always do -/
theorem u_split : ∀ r : Nat, r < 16 → 1 ≤ r → pc r = 1 ∨ ∃ s, s < r ∧ 1 ≤ s ∧ s ||| r = r ∧ pc s = 1 ∧ pc (r - s) = pc r - 1 ∧ 1 ≤ pc (r - s) := by
  intro r hr h1
  have : ∀ r : Nat, r < 16 → (r = 0) ∨ pc r = 1 ∨ ∃ s, s < r ∧ (1 ≤ s ∧ s ||| r = r ∧ pc s = 1 ∧ pc (r - s) = pc r - 1 ∧ 1 ≤ pc (r - s)) := by decide +kernel
  rcases this r hr with h | h | ⟨s, a, b⟩
  · omega
  · exact .inl h
  · exact .inr ⟨s, a, b⟩
theorem u_single0 : ∀ r : Nat, r < 16 → ∀ i : Nat, i < 4 → ∀ j : Nat, j < 4 → (pc r = 1 ∧ r.testBit i = true ∧ r.testBit j = true) → i = j := by
  decide +kernel
theorem u_single (r : Nat) (hr : r < 16) (h : pc r = 1) (i : Nat) (hi : i < 4) (j : Nat) (hj : j < 4) (h1 : r.testBit i = true) (h2 : r.testBit j = true) : i = j := u_single0 r hr i hi j hj ⟨h, h1, h2⟩
theorem u_pc : ∀ r : Nat, r < 16 → pc r ≤ 4 ∧ (1 ≤ r → 1 ≤ pc r) := by
  decide +kernel
theorem mono_one {t : List (List Bool)} (h4 : t.length ≤ 4) {n : Nat} (hn : n ≤ 4) (hr : ∀ l ∈ t, l.length = n) {r c : Nat} (hr16 : r < 16) (hc16 : c < 16) (h1 : pc r = 1) (h2 : pc c = 1) : mono t r c = true := by
  unfold mono
  cases ha : tabHas r c false t with
  | false => rfl
  | true =>
    cases hb : tabHas r c true t with
    | false => rfl
    | true =>
      exfalso
      unfold tabHas at ha hb
      obtain ⟨i, l, a1, a2⟩ := (anyI_iff _ _).1 ha
      obtain ⟨i', l', b1, b2⟩ := (anyI_iff _ _).1 hb
      simp only [Nat.zero_add, Bool.and_eq_true] at a2 b2
      have hi := (List.getElem?_eq_some_iff.1 a1).1
      have hi' := (List.getElem?_eq_some_iff.1 b1).1
      obtain rfl := u_single r hr16 h1 i (by omega) i' (by omega) a2.1 b2.1
      rw [a1] at b1
      obtain rfl := Option.some.inj b1
      obtain ⟨j, x, c1, c2⟩ := (anyI_iff _ _).1 a2.2
      obtain ⟨j', y, d1, d2⟩ := (anyI_iff _ _).1 b2.2
      simp only [Nat.zero_add, Bool.and_eq_true, beq_iff_eq] at c2 d2
      have hll := hr l (List.mem_of_getElem? a1)
      have hj := (List.getElem?_eq_some_iff.1 c1).1
      have hj' := (List.getElem?_eq_some_iff.1 d1).1
      obtain rfl := u_single c hc16 h2 j (by omega) j' (by omega) c2.1 d2.1
      rw [c1] at d1
      obtain rfl := Option.some.inj d1
      rw [c2.2] at d2
      cases d2.2
theorem TT_cols {t : List (List Bool)} (h4 : t.length ≤ 4) {n : Nat} (hn : n ≤ 4) (hr : ∀ l ∈ t, l.length = n) {r : Nat} (hr16 : r < 16) (h1 : pc r = 1) : ∀ (k c : Nat), c < 16 → 1 ≤ c → pc c ≤ k + 1 → TT (mono t) k r c = true := by
  intro k
  induction k with
  | zero =>
    intro c hc h1c hp
    exact mono_one h4 hn hr hr16 hc h1 (by have := (u_pc c hc).2 h1c; omega)
  | succ k ih =>
    intro c hc h1c hp
    rcases u_split c hc h1c with h | ⟨s, a1, a2, a3, a4, a5, a6⟩
    · rw [TT, mono_one h4 hn hr hr16 hc h1 h]; rfl
    · rw [TT]
      simp only [Bool.or_eq_true, List.any_eq_true, List.mem_range, Bool.and_eq_true, decide_eq_true_eq]
      exact .inr ⟨s, a1, ⟨a2, a3⟩, ih s (by omega) a2 (by omega), ih (c - s) (by omega) (by omega) (by omega)⟩
theorem TT_rows {t : List (List Bool)} (h4 : t.length ≤ 4) {n : Nat} (hn : n ≤ 4) (hr : ∀ l ∈ t, l.length = n) {c : Nat} (hc : c < 16) (h1c : 1 ≤ c) : ∀ (k r : Nat), r < 16 → 1 ≤ r → pc r ≤ k + 1 → TT (mono t) (k + 3) r c = true := by
  intro k
  induction k with
  | zero =>
    intro r hr16 h1 hp
    exact TT_cols h4 hn hr hr16 (by have := (u_pc r hr16).2 h1; omega) 3 c hc h1c (by have := (u_pc c hc).1; omega)
  | succ k ih =>
    intro r hr16 h1 hp
    rcases u_split r hr16 h1 with h | ⟨s, a1, a2, a3, a4, a5, a6⟩
    · exact TT_le (by omega : 3 ≤ k + 1 + 3) (TT_cols h4 hn hr hr16 h 3 c hc h1c (by have := (u_pc c hc).1; omega))
    · rw [TT]
      simp only [Bool.or_eq_true, List.any_eq_true, List.mem_range, Bool.and_eq_true, decide_eq_true_eq]
      exact .inl (.inr ⟨s, a1, ⟨a2, a3⟩, ih s (by omega) a2 (by omega), ih (r - s) (by omega) (by omega) (by omega)⟩)
theorem u_whole : ∀ n : Nat, n < 5 → IntKind.wrap .u64 ((bShl .u64 (1 : Int) (n : Int)) - 1) = ((2 ^ n - 1 : Nat) : Int) ∧ w64 ((bShl .i64 (1 : Int) (IntKind.wrap .u64 (n : Int))) - 1) = ((2 ^ n - 1 : Nat) : Int) ∧ 2 ^ n - 1 < 16 ∧ 0 ≤ IntKind.wrap .u64 (n : Int) ∧ (1 ≤ n → 1 ≤ 2 ^ n - 1) := by
  decide +kernel
theorem TalkLeasts_true (a0 : List (List Bool)) (f0 : Fits (.slice (.slice .bool)) a0) : ∃ fuel, law_TalkLeasts fuel a0 = some true := by
  refine ⟨100, ?_⟩
  unfold law_TalkLeasts talk_Least
  rw [tk_wrong, tk_check, bind_some']
  by_cases hz : tkAll a0 = 0
  · obtain ⟨h1, h4, n, hn1, hn4, hr⟩ := tk_ok hz
    obtain ⟨p1, p2, p3, p4, p5⟩ := u_whole a0.length (by omega)
    obtain ⟨q1, q2, q3, q4, q5⟩ := u_whole n (by omega)
    have hd : idx a0 0 = some ((a0[0]?).getD []) := tk_head h1
    have hdl : ((a0[0]?).getD []).length = n := by
      cases a0 with
      | nil => simp at h1
      | cons a t => exact hr a (by simp)
    obtain ⟨m', e1, _⟩ := tk_least h4 hn4 hr 30 (2 ^ a0.length - 1) (2 ^ n - 1) [] 100 (by omega) (by omega) p3 q3 (fun _ _ _ _ v hv => by cases hv)
    have hwh : talk_whole a0 = some (((2 ^ a0.length - 1 : Nat) : Int), ((2 ^ n - 1 : Nat) : Int)) := by
      unfold talk_whole
      rw [ck_ok (by omega), bind_some', hd, bind_some', ck_ok (by omega), bind_some', hdl, p1, q1]
    have hdd : dd (mono a0) (2 ^ a0.length - 1) (2 ^ n - 1) ≤ 8 := (dd_le (by omega)).2 (TT_le (by omega : 6 ≤ 8) (TT_rows h4 hn4 hr q3 (q5 hn1) 3 _ p3 (p5 h1) (by have := (u_pc _ p3).1; omega)))
    rw [hz]
    have e0 : (0 != (0 : Int)) = false := by decide
    rw [e0, cond_false, hwh, bind_some', e1, bind_some', bind_some', bind_some', e0, cond_false]
    dsimp only
    generalize hk : dd (mono a0) (2 ^ a0.length - 1) (2 ^ n - 1) = k at *
    rw [bif_f (by simp only [Bool.or_eq_false_iff, decide_eq_false_iff_not]; omega), ck_ok p4, bind_some', hd, bind_some', hdl, ck_ok q4, bind_some']
    unfold law_TalkLeasts_g1
    rw [hdl, p2, q2]
    dsimp only
    rw [show ((0 : Int) == 0) = true from rfl, cond_true, tk_talks h1 h4 hn4 hr k _ _ 100 p3 q3 (by omega) (by omega), bind_some']
    have ht : TT (mono a0) k (2 ^ a0.length - 1) (2 ^ n - 1) = true := (dd_le hdd).1 (by omega)
    rw [ht, cond_true]
    by_cases hk0 : k = 0
    · subst hk0; rfl
    · have hne : ((k : Int) == 0) = false := by rw [beq_dec]; simp; omega
      have hw : w64 ((k : Int) - 1) = ((k - 1 : Nat) : Int) := by rw [w64_id (by omega) (by omega)]; omega
      rw [hne, cond_false, hw, tk_talks h1 h4 hn4 hr (k - 1) _ _ 100 p3 q3 (by omega) (by omega), bind_some']
      have hf : TT (mono a0) (k - 1) (2 ^ a0.length - 1) (2 ^ n - 1) = false := by
        cases hh : TT (mono a0) (k - 1) (2 ^ a0.length - 1) (2 ^ n - 1) with
        | false => rfl
        | true => have := (dd_le (mo := mono a0) (r := 2 ^ a0.length - 1) (c := 2 ^ n - 1) (k := k - 1) (by omega)).2 hh; omega
      rw [hf]; rfl
  · have e1 : (tkAll a0 != 0) = true := by simp [hz]
    simp [e1]

end Go.Proofs.Ytjghcbdfpcpahaa.talkLeasts
namespace Go.Proofs.Ytjghcbdfpcpahaa.talkLeasts
open Go.ChangeShapes Go.WideShapes Go.ChangeAt Go.RowKit
open Go.ChangeMaps (open_string shut_string)
theorem own : ownKnob Try.prog.godebug = none := by kernel_rfl
theorem laidOut : laidOutB Try.prog = true := by kernel_rfl
theorem lifted (os : Os) (started : os.Started) (H : Type) (enc : TypeId × Value → H) :
    ReturnsInHanded {} Try.checked os 5 .any (Rows.talkLeastsSpec.pre6 enc Try.prog Try.f5 Rows.talkLeastsRow.domain false) (Rows.talkLeastsSpec.post enc Try.prog Try.f5 false true false false) := by
  refine returnsInHanded_of_change (C := Try.checked) own started (by kernel_rfl) Try.func5
    (ChangeSpec.witness6 (enc := enc) (C := Try.checked) false ⟨#[], #[.slice none 0 0], []⟩ 8 (by kernel_rfl) (by kernel_rfl) (by kernel_rfl) (by kernel_rfl)) ?_
  intro W base args ds gs before hval0 hW hcnd _
  have hval : ∀ (j : Nat) t v, Try.f5.params[j]? = some t → args[j]? = some v → Value.okWide Try.prog W .any base t v := hval0
  have hW' := hW
  obtain ⟨p, q, hA0, hV, rfl, hfz, hnd⟩ := hW
  have hA : DataW.TrodAll enc Try.prog W 0 (fun _ => true) true Try.f5.params.toList args.toList ds p := hA0
  rw [Try.params5] at hA hval
  obtain ⟨v0, vs0, d0, ds0, p0, q0, hargs, rfl, rfl, h0, r0⟩ := trodAll_cons hA
  obtain ⟨rfl, rfl, rfl⟩ := trodAll_nil r0
  obtain rfl : args = #[v0] := by cases args; simp_all
  obtain ⟨rfl, rfl⟩ := trodVars_none hV
  obtain ⟨x0, f0, k0⟩ := Go.Sl.read_arg (u := (.slice (.slice .bool))) (by kernel_rfl) (by kernel_rfl) (hval 0 22 v0 rfl rfl) h0
  have lt0 : ∀ x ∈ p0, x.block < W.heap.size := by obtain ⟨m, hm⟩ := h0; exact DataW.trod_lt m _ _ _ hm
  clear hA0 hval0
  obtain ⟨fuel, hm⟩ := TalkLeasts_true x0 f0
  refine (Go.Sl.law_of (vs := [v0]) (law_TalkLeasts_ok hm) rfl (.cons (k0 _ _) .nil)).mono fun e W' ⟨he, bel⟩ => ?_
  subst he
  exact ⟨_, rfl, _, _, _, [], _, [], hW', trodAll_mk1 (shut_bool Try.underlying4 _), (trodAll_cons_mk (Below.trod laidOut (by kernel_rfl) (of_decide_eq_true (by kernel_rfl)) h0 bel lt0) trodAll_mk0), rfl, bel.frame _, fun h => by cases h⟩
theorem proved : Rows.TalkLeastsSaid :=
  OpenClaim.holds_of_wide 5 Try.f5 rfl rfl rfl rfl rfl rfl rfl ⟨rfl, rfl, rfl, rfl, rfl⟩ rfl rfl rfl rfl rfl (by kernel_rfl) Try.func5 (by kernel_rfl)
    (of_decide_eq_true (by kernel_rfl)) (by unfold Func.isWrapper; first | (rw [if_pos (by decide +kernel)]; kernel_rfl) | (rw [if_neg (by decide +kernel)]; exact ⟨rfl, rfl⟩))
    (fun os started H enc _ => lifted os started H enc)
#print axioms proved
end Go.Proofs.Ytjghcbdfpcpahaa.talkLeasts
