/- TalkRects holds for every input: no conditions. -/
import Derived.Test.YtjghcbdfpcpahaaRows
import Derived.WalkKit
import Derived.ProofKit
import Derived.OpenShut
import Derived.ShutString
import Derived.ChangeOld
import Derived.Below
import Derived.Test.YtjghcbdfpcpahaaTalkRectsM2
set_option linter.all false
set_option maxRecDepth 100000
namespace Go.Proofs.Ytjghcbdfpcpahaa.talkRects
open Go Go.Sl
theorem bit_eq {w i : Nat} (hw : w < 2 ^ 63) (hi : i < 63) : ref_Bit (w : Int) (i : Int) = some (w.testBit i) := by
  unfold ref_Bit
  have c : (decide ((i : Int) ≥ 0) && decide ((i : Int) < 63)) = true := by simp; omega
  have e : IntKind.wrap .u64 (i : Int) = (i : Int) := wrap_u64 (by omega) (by omega)
  rw [c, e, ck_ok (by omega)]
  simp only [cond_true, Option.bind_some, bit_mask hw hi]

theorem size_eq {w : Nat} (hw : w < 2 ^ 63) : ref_Size (w : Int) = some ((pc w : Nat) : Int) := by
  unfold ref_Size
  have := forI_count (body := ref_Size_b4 (w : Int)) (fin := fun x => x) (p := w.testBit) (n := 63) (by omega) (by
    intro j x hj
    unfold ref_Size_b4
    rw [bit_eq hw hj]
    cases w.testBit j <;> rfl)
  simp only [Int.cast_ofNat_Int] at this
  rw [this]; rfl

/-- going up, from s on, below n -/
def Up (n : Int) : Int → List Int → Prop
  | _, [] => True
  | s, x :: r => s ≤ x ∧ x < n ∧ Up n (x + 1) r
theorem Up.len {n : Int} : ∀ {r : List Int} {s x : Int}, Up n s (x :: r) → x + 1 + r.length ≤ n
  | [], s, x, h => by simp; have := h.2.1; omega
  | y :: r, s, x, h => by
    have h1 := Up.len h.2.2
    have h2 := h.2.2.1
    rw [List.length_cons]; omega
theorem Up.low {n : Int} {s s' : Int} (h : s' ≤ s) : ∀ {r : List Int}, Up n s r → Up n s' r
  | [], _ => trivial
  | x :: r, h1 => ⟨by have := h1.1; omega, h1.2⟩
theorem Up.hi {n n' : Int} (h : n ≤ n') : ∀ {r : List Int} {s : Int}, Up n s r → Up n' s r
  | [], _, _ => trivial
  | x :: r, _, h1 => ⟨h1.1, by have := h1.2.1; omega, Up.hi h h1.2.2⟩
theorem Up.mem {n : Int} : ∀ {r : List Int} {s : Int}, Up n s r → ∀ v ∈ r, s ≤ v ∧ v < n
  | x :: r, s, h, v, hv => by
    rcases List.mem_cons.1 hv with rfl | hv
    · exact ⟨h.1, h.2.1⟩
    · have := Up.mem h.2.2 v hv
      have := h.1
      omega
/-- the places of a word ws a list -/
def lf (f : Nat → Bool) (s c : Nat) : List Int := ((List.range' s c).filter f).map fun (i : Nat) => (i : Int)
theorem lf_succ (f : Nat → Bool) (s c : Nat) : lf f s (c + 1) = bif f s then (s : Int) :: lf f (s + 1) c else lf f (s + 1) c := by
  unfold lf
  rw [List.range'_succ]
  cases h : f s <;> simp [h]
theorem lf_up {f : Nat → Bool} {n : Nat} (h : ∀ i, f i = true → i < n) : ∀ (c s : Nat), Up (n : Int) (s : Int) (lf f s c)
  | 0, s => trivial
  | c + 1, s => by
    have ih := lf_up h c (s + 1)
    rw [lf_succ]
    cases hf : f s with
    | false => exact Up.low (by omega) ih
    | true => exact ⟨by omega, by have := h s hf; omega, ih⟩
theorem lf_congr {f g : Nat → Bool} : ∀ c s, (∀ i, s ≤ i → f i = g i) → lf f s c = lf g s c
  | 0, s, _ => rfl
  | c + 1, s, h => by rw [lf_succ, lf_succ, h s (by omega), lf_congr c (s + 1) (fun i hi => h i (by omega))]
theorem lf_ext : ∀ (c s : Nat) (r : List Int), Up ((s + c : Nat) : Int) (s : Int) r → lf (fun (i : Nat) => r.any ((i : Int) == ·)) s c = r
  | 0, s, [], _ => rfl
  | 0, s, x :: r, h => by have := h.1; have := h.2.1; omega
  | c + 1, s, [], _ => by
    rw [lf_succ]
    have := lf_ext c (s + 1) [] trivial
    simpa using this
  | c + 1, s, x :: r, h => by
    rw [lf_succ]
    by_cases e : x = (s : Int)
    · subst e
      have h2 : Up ((s + 1 + c : Nat) : Int) ((s + 1 : Nat) : Int) r := by
        have := h.2.2
        rwa [show s + 1 + c = s + (c + 1) by omega]
      have h1 := lf_ext c (s + 1) r h2
      have h3 : lf (fun (i : Nat) => ((s : Int) :: r).any ((i : Int) == ·)) (s + 1) c = lf (fun (i : Nat) => r.any ((i : Int) == ·)) (s + 1) c := lf_congr c (s + 1) (fun i hi => by
        have : ((i : Int) == (s : Int)) = false := by simp; omega
        simp [this])
      rw [h3, h1]
      simp
    · have hx := h.1
      have hs : ((x :: r).any ((s : Int) == ·)) = false := by
        rw [List.any_eq_false]
        intro v hv
        have := Up.mem (n := ((s + (c + 1) : Nat) : Int)) (s := x) (r := x :: r) ⟨by omega, h.2⟩ v hv
        simp; omega
      have h1 := lf_ext c (s + 1) (x :: r) (by rw [show s + 1 + c = s + (c + 1) by omega]; exact ⟨by omega, h.2⟩)
      rw [hs, cond_false, h1]
theorem lf_mem {f : Nat → Bool} {c : Nat} {v : Int} (hv : 0 ≤ v ∧ v < (c : Int)) : (lf f 0 c).any (v == ·) = f v.toNat := by
  rw [Bool.eq_iff_iff, List.any_eq_true]
  unfold lf
  simp only [List.mem_map, List.mem_filter, List.mem_range'_1, beq_iff_eq]
  constructor
  · rintro ⟨x, ⟨i, ⟨_, hi⟩, rfl⟩, rfl⟩
    simpa using hi
  · intro h
    exact ⟨v, ⟨v.toNat, ⟨⟨by omega, by omega⟩, h⟩, by omega⟩, rfl⟩
def lst (m : Nat) : List Int := lf m.testBit 0 63
theorem lst_len (m : Nat) : (lst m).length = pc m := by
  unfold lst lf pc
  rw [List.length_map, List.range_eq_range', List.countP_eq_length_filter]
theorem lst_up {n m : Nat} (h : m < 2 ^ n) : Up (n : Int) 0 (lst m) := by
  refine lf_up (fun i hi => ?_) 63 0
  by_cases hlt : i < n
  · exact hlt
  · have : m.testBit i = false := Nat.testBit_lt_two_pow (Nat.lt_of_lt_of_le h (Nat.pow_le_pow_right (by omega) (by omega)))
    rw [this] at hi; cases hi
theorem lst_of {n : Nat} (hn : n ≤ 63) {r : List Int} (h : Up (n : Int) 0 r) : ∃ m, m < 2 ^ n ∧ lst m = r := by
  refine ⟨wd ((List.range n).map fun (i : Nat) => r.any ((i : Int) == ·)), ?_, ?_⟩
  · have := wd_lt ((List.range n).map fun (i : Nat) => r.any ((i : Int) == ·))
    simpa using this
  · have h1 := lf_ext 63 0 r (Up.hi (by omega) h)
    rw [← h1]
    unfold lst
    refine lf_congr 63 0 (fun i _ => ?_)
    rw [wd_bit, h1]
    by_cases hi : i < n
    · simp [List.getD_eq_getElem?_getD, hi]
    · have : (r.any ((i : Int) == ·)) = false := by
        rw [List.any_eq_false]
        intro v hv
        have := Up.mem h v hv
        simp; omega
      rw [this]
      simp [List.getD_eq_getElem?_getD, hi]
theorem sr_listof {w : Nat} (hw : w < 2 ^ 63) : ref_ListOf (w : Int) = some (lst w) := by
  unfold ref_ListOf
  obtain ⟨y, h1, h2⟩ := forI_inv (body := ref_ListOf_b4 (w : Int)) (fin := fun x => x) (lo := 0) (hi := 63) (x := ([] : List Int)) (fun i x => ∃ j : Nat, i = (j : Int) ∧ j ≤ 63 ∧ x = lf w.testBit 0 j) (fun y => y = lst w) (by omega) (by omega) ⟨0, rfl, by omega, rfl⟩
    (by
      rintro _ x _ hlt ⟨j, rfl, hj, rfl⟩
      have hl : (lf w.testBit 0 j).length ≤ j := by
        unfold lf
        rw [List.length_map]
        have := List.length_filter_le w.testBit (List.range' 0 j)
        simpa using this
      have e : lf w.testBit 0 (j + 1) = lf w.testBit 0 j ++ bif w.testBit j then [(j : Int)] else [] := by
        unfold lf
        rw [List.range'_concat, List.filter_append, List.map_append]
        cases hb : w.testBit j <;> simp [hb]
      have hck : ck ((List.length (lf w.testBit 0 j) : Int) + 1 ≤ 4294967296) = some () := ck_ok (by omega)
      unfold ref_ListOf_b4
      rw [bit_eq hw (by omega), bind_some', hck]
      cases hb : w.testBit j with
      | true => rw [hb] at e; exact ⟨_, rfl, j + 1, by omega, by omega, e.symm⟩
      | false => rw [hb] at e; exact ⟨_, rfl, j + 1, by omega, by omega, by rw [e]; simp⟩)
    (by
      rintro i x _ hi _ ⟨j, rfl, hj, rfl⟩
      have : j = 63 := by omega
      subst this; rfl)
  rw [h1, bind_some', h2]

theorem within_eq (a b c : Int) : ref_Within a b c = some (decide (a ≤ b ∧ b ≤ c)) := by
  unfold ref_Within
  rw [Bool.decide_and]

def tkLen (t : List (List Bool)) (l : List Bool) : Bool := (l.length : Int) != (((t[0]?).getD []).length : Int)
def tkAll (t : List (List Bool)) : Int :=
  bif !decide (1 ≤ (t.length : Int) ∧ (t.length : Int) ≤ 4) then 1 else bif !decide (1 ≤ (((t[0]?).getD []).length : Int) ∧ (((t[0]?).getD []).length : Int) ≤ 4) then 1 else bif t.any (tkLen t) then 3 else 0
theorem tk_head {t : List (List Bool)} (h : 1 ≤ t.length) : idx t 0 = some ((t[0]?).getD []) := by
  cases t with
  | nil => simp at h
  | cons a t => rfl
theorem tk_wrong (t : List (List Bool)) : talk_wrong t = some (tkAll t) := by
  unfold talk_wrong talk_wrong_g1 tkAll
  have e : ((decide ((List.length t : Int) < (1 : Int))) || (decide ((List.length t : Int) > (4 : Int)))) = !decide (1 ≤ (t.length : Int) ∧ (t.length : Int) ≤ 4) := by
    rw [or_dec, not_dec]; exact decide_eq_decide.2 (by omega)
  rw [e]
  by_cases h : 1 ≤ (t.length : Int) ∧ (t.length : Int) ≤ 4
  · rw [tk_head (by omega)]
    generalize hd : (t[0]?).getD [] = d
    have e2 : (bif decide ((List.length d : Int) < (1 : Int)) then (some true) else (some (decide ((List.length d : Int) > (4 : Int))))) = some (!decide (1 ≤ (d.length : Int) ∧ (d.length : Int) ≤ 4)) := by
      rw [bif_some]; congr 1
      by_cases h : (d.length : Int) < 1
      · have : ¬ (1 ≤ (d.length : Int) ∧ (d.length : Int) ≤ 4) := by omega
        simp only [h, decide_true, cond_true, this, decide_false, Bool.not_false]
      · rw [decide_eq_false h, cond_false, not_dec]; exact decide_eq_decide.2 (by omega)
    simp only [h, and_self, decide_true, Bool.not_true, cond_false, bind_some', e2]
    have e3 : slices_ContainsFunc_LLboolLbool_with_talk_wrong_1 t t = some (t.any (tkLen t)) := by
      unfold slices_ContainsFunc_LLboolLbool_with_talk_wrong_1 slices_IndexFunc_LLboolLbool_with_talk_wrong_1
      rcases forL_at (body := slices_IndexFunc_LLboolLbool_with_talk_wrong_1_b1 t) (fin := fun _ => (Esc.brk () : Esc Int Unit)) (p := tkLen t) (g := fun j => Esc.ret j) (l := t)
        (fun i a _ => by unfold slices_IndexFunc_LLboolLbool_with_talk_wrong_1_b1 talk_wrong_1 tkLen; rw [tk_head (by omega)]; simp only [bind_some']; cases ((List.length a : Int) != (List.length ((t[0]?).getD []) : Int)) <;> rfl) (i := 0) with ⟨h1, h2⟩ | ⟨h1, j, h2, h3, h4⟩
      · rw [h2, h1]; rfl
      · rw [h4, h1]; simp [h2]
    rw [e3]
    cases decide (1 ≤ (d.length : Int) ∧ (d.length : Int) ≤ 4) <;> cases t.any (tkLen t) <;> rfl
  · rw [decide_eq_false h]; rfl
theorem tk_check (t : List (List Bool)) : ref_TalkCheck t = some (tkAll t) := by
  unfold ref_TalkCheck ref_TalkCheck_g1 tkAll
  rw [within_eq, bind_some']
  by_cases h : 1 ≤ (t.length : Int) ∧ (t.length : Int) ≤ 4
  · rw [tk_head (by omega), bind_some', within_eq, bind_some']
    rw [forL_ex (p := tkLen t) (y := Esc.ret 3) (fun i a _ => by unfold ref_TalkCheck_b2 tkLen; rw [tk_head (by omega)]; simp only [bind_some']; cases ((List.length a : Int) != (List.length ((t[0]?).getD []) : Int)) <;> rfl)]
    simp only [h, and_self, decide_true, Bool.not_true, cond_false, bind_some']
    cases decide (1 ≤ (((t[0]?).getD []).length : Int) ∧ (((t[0]?).getD []).length : Int) ≤ 4) <;> cases t.any (tkLen t) <;> rfl
  · rw [decide_eq_false h]; rfl
theorem tk_ok {t : List (List Bool)} (h : tkAll t = 0) : 1 ≤ t.length ∧ t.length ≤ 4 ∧ ∃ n, 1 ≤ n ∧ n ≤ 4 ∧ ∀ r ∈ t, r.length = n := by
  unfold tkAll at h
  by_cases h1 : 1 ≤ (t.length : Int) ∧ (t.length : Int) ≤ 4
  · rw [decide_eq_true h1] at h
    by_cases h2 : 1 ≤ (((t[0]?).getD []).length : Int) ∧ (((t[0]?).getD []).length : Int) ≤ 4
    · rw [decide_eq_true h2] at h
      cases h3 : t.any (tkLen t) with
      | true => rw [h3] at h; cases h
      | false =>
        refine ⟨by omega, by omega, ((t[0]?).getD []).length, by omega, by omega, fun r hr => ?_⟩
        have := List.any_eq_false.1 h3 r hr
        unfold tkLen at this
        simp at this
        omega
    · rw [decide_eq_false h2] at h; cases h
  · rw [decide_eq_false h1] at h; cases h

theorem uAnd {a b : Nat} (ha : a < 2 ^ 63) (hb : b < 2 ^ 63) : bAnd .u64 a b = ((a &&& b : Nat) : Int) := by
  unfold bAnd
  rw [BitVec.toNat_and, toNat_ofInt, toNat_ofInt, show IntKind.u64.bits = 64 from rfl, Nat.mod_eq_of_lt (by omega), Nat.mod_eq_of_lt (by omega)]
  have : a &&& b ≤ a := Nat.and_le_left
  exact wrap_u64 (by omega) (by omega)
theorem uOr {a b : Nat} (ha : a < 2 ^ 63) (hb : b < 2 ^ 63) : bOr .u64 a b = ((a ||| b : Nat) : Int) := by
  unfold bOr
  rw [BitVec.toNat_or, toNat_ofInt, toNat_ofInt, show IntKind.u64.bits = 64 from rfl, Nat.mod_eq_of_lt (by omega), Nat.mod_eq_of_lt (by omega)]
  have : a ||| b < 2 ^ 63 := Nat.or_lt_two_pow ha hb
  exact wrap_u64 (by omega) (by omega)
theorem uShl {a i : Nat} (hi : i < 64) (h : a * 2 ^ i < 2 ^ 63) : bShl .u64 (a : Int) (i : Int) = ((a * 2 ^ i : Nat) : Int) := by
  unfold bShl
  rw [Int.toNat_natCast, show IntKind.u64.bits = 64 from rfl, Nat.min_eq_left (by omega)]
  have e : (a : Int) * ((2 : Int) ^ i) = ((a * 2 ^ i : Nat) : Int) := by simp
  rw [e]
  generalize a * 2 ^ i = q at h ⊢
  exact wrap_u64 (by omega) (by omega)
theorem uShr {a i : Nat} (hi : i < 64) : bShr .u64 a (i : Int) = ((a / 2 ^ i : Nat) : Int) := by
  unfold bShr
  rw [Int.toNat_natCast, show IntKind.u64.bits = 64 from rfl, Nat.min_eq_left (by omega)]
  have e : ((2 : Int) ^ i) = ((2 ^ i : Nat) : Int) := by simp
  rw [e, Int.natCast_ediv, Int.fdiv_eq_ediv_of_nonneg _ (Int.natCast_nonneg _)]
theorem uOne {i : Nat} (hi : i < 63) : bShl .u64 1 (i : Int) = ((2 ^ i : Nat) : Int) := by
  have := uShl (a := 1) (i := i) (by omega) (by rw [Nat.one_mul]; exact Nat.pow_lt_pow_right (by omega) hi)
  rw [Nat.one_mul] at this
  exact this
/-- is a bit set, as the program asks -/
theorem uBit {w i : Nat} (hw : w < 2 ^ 63) (hi : i < 64) : (bAnd .u64 (bShr .u64 (w : Int) (i : Int)) (1 : Int) == (1 : Int)) = w.testBit i := by
  rw [uShr hi]
  have hd : w / 2 ^ i < 2 ^ 63 := Nat.lt_of_le_of_lt (Nat.div_le_self _ _) hw
  have := uAnd (a := w / 2 ^ i) (b := 1) hd (by decide)
  have e1 : bAnd .u64 ((w / 2 ^ i : Nat) : Int) (1 : Int) = ((w / 2 ^ i &&& 1 : Nat) : Int) := this
  rw [e1, Nat.and_one_is_mod, Nat.testBit_eq_decide_div_mod_eq]
  generalize w / 2 ^ i % 2 = q
  by_cases h : q = 1
  · subst h; rfl
  · rw [decide_eq_false h]
    simp; omega
theorem clr_bit {x i : Nat} (hx : x < 2 ^ 63) (hi : i < 63) : ∃ y : Nat, bClr .i64 (x : Int) (bShl .i64 1 (i : Int)) = (y : Int) ∧ y < 2 ^ 63 ∧ ∀ j, y.testBit j = (x.testBit j && decide (j ≠ i)) := by
  have hp : (2 : Nat) ^ i < 2 ^ 63 := Nat.pow_lt_pow_right (by omega) hi
  rw [bShl_one hi]
  unfold bClr
  obtain ⟨y, hy⟩ : ∃ y, y = (BitVec.ofInt IntKind.i64.bits (x : Int) &&& ~~~ BitVec.ofInt IntKind.i64.bits ((2 ^ i : Nat) : Int)).toNat := ⟨_, rfl⟩
  have ht : ∀ j, y.testBit j = (x.testBit j && decide (j ≠ i)) := by
    intro j
    rw [hy, BitVec.testBit_toNat, BitVec.getLsbD_and, BitVec.getLsbD_not, BitVec.ofInt_natCast, BitVec.ofInt_natCast, BitVec.getLsbD_ofNat, BitVec.getLsbD_ofNat, Nat.testBit_two_pow, show IntKind.i64.bits = 64 from rfl]
    by_cases hj : j < 64
    · by_cases e : i = j
      · subst e; simp
      · have e' : j ≠ i := fun h => e h.symm
        simp [hj, e, e']
    · have : x.testBit j = false := Nat.testBit_lt_two_pow (Nat.lt_of_lt_of_le hx (Nat.pow_le_pow_right (by decide) (by omega)))
      simp [hj, this]
  have hle : y < 2 ^ 63 := by
    apply Nat.lt_pow_two_of_testBit
    intro j hj
    rw [ht, Nat.testBit_lt_two_pow (Nat.lt_of_lt_of_le hx (Nat.pow_le_pow_right (by decide) hj)), Bool.false_and]
  rw [← hy]
  exact ⟨y, wrap_i64 (by omega) (by omega), hle, ht⟩

/-- the first steps of counting bits, for two bytes -/
def st1 (x : Nat) : Nat := Nat.add (Nat.land (Nat.div x 2) 6148914691236517205) (Nat.land x 6148914691236517205)
def st2 (x : Nat) : Nat := Nat.add (Nat.land (Nat.div x 4) 3689348814741910323) (Nat.land x 3689348814741910323)
def st4 (x : Nat) : Nat := Nat.land (Nat.add (Nat.div x 16) x) 1085102592571150095
def stg (x : Nat) : Nat := st4 (st2 (st1 x))
theorem stg_two : ∀ b, b < 256 → ∀ a, a < 256 → Nat.beq (stg (Nat.add (Nat.mul 256 b) a)) (Nat.add (Nat.mul 256 (stg b)) (stg a)) = true := by
  decide +kernel
theorem stg_one : ∀ a, a < 256 → stg a = pc a ∧ pc a < 9 := by decide +kernel
def fin8 (s : Nat) : Nat := (((s / 256 + s) / 65536 + (s / 256 + s)) / 4294967296 + ((s / 256 + s) / 65536 + (s / 256 + s)))
theorem fin_two : ∀ b, b < 9 → ∀ a, a < 9 → Nat.land (fin8 (256 * b + a)) 127 = b + a ∧ fin8 (256 * b + a) < 2 ^ 40 := by decide +kernel
theorem pc_step {x : Nat} (h : x < 2 ^ 60) : pc x = x % 2 + pc (x / 2) := by
  unfold pc
  have e1 : List.range 63 = 0 :: (List.range 62).map Nat.succ := by rw [← List.range_succ_eq_map]
  have e2 : List.range 63 = List.range 62 ++ [62] := List.range_succ
  have h2 : (x / 2).testBit 62 = false := Nat.testBit_lt_two_pow (Nat.lt_of_le_of_lt (Nat.div_le_self _ _) (Nat.lt_trans h (by decide)))
  conv => rhs; rw [e2, List.countP_append]
  conv => lhs; rw [e1, List.countP_cons, List.countP_map]
  have e3 : (List.range 62).countP (x.testBit ∘ Nat.succ) = (List.range 62).countP (x / 2).testBit := by
    congr 1
    funext i
    simp only [Function.comp, Nat.testBit_succ]
  rw [e3]
  simp only [List.countP_cons, List.countP_nil, h2, Nat.testBit_zero]
  have := Nat.mod_two_eq_zero_or_one x
  rcases this with e | e <;> simp [e] <;> omega
theorem pc_two : ∀ (k a b : Nat), k ≤ 8 → a < 2 ^ k → b < 2 ^ 16 → pc (2 ^ k * b + a) = pc b + pc a
  | 0, a, b, _, ha, _ => by
    have : a = 0 := by simpa using ha
    subst this
    have : pc 0 = 0 := by decide
    simp [this]
  | k + 1, a, b, hk, ha, hb => by
    have hp : 2 ^ (k + 1) = 2 * 2 ^ k := by rw [Nat.pow_succ]; omega
    have hk2 : 2 ^ (k + 1) ≤ 2 ^ 8 := Nat.pow_le_pow_right (by decide) hk
    have ha60 : a < 2 ^ 60 := by omega
    have hx : 2 ^ (k + 1) * b ≤ 2 ^ 8 * 2 ^ 16 := Nat.mul_le_mul hk2 (by omega)
    have e : 2 ^ (k + 1) * b = 2 * (2 ^ k * b) := by rw [hp, Nat.mul_assoc]
    rw [pc_step (x := 2 ^ (k + 1) * b + a) (by omega), pc_step ha60]
    have e1 : (2 ^ (k + 1) * b + a) % 2 = a % 2 := by omega
    have e2 : (2 ^ (k + 1) * b + a) / 2 = 2 ^ k * b + a / 2 := by omega
    rw [e1, e2, pc_two k (a / 2) b (by omega) (by omega) hb]; omega
theorem land_le {a b : Nat} : Nat.land a b ≤ a := Nat.and_le_left
theorem ones16 {x : Nat} (hx : x < 65536) : math_bits_OnesCount (x : Int) = some ((pc x : Nat) : Int) := by
  unfold math_bits_OnesCount math_bits_OnesCount64
  have d : ∀ y i : Nat, y / i ≤ y := fun y i => Nat.div_le_self y i
  have c1 : bShr .u64 (x : Int) (1 : Int) = ((x / 2 : Nat) : Int) := uShr (i := 1) (by decide)
  have l1 := @land_le (x / 2) 6148914691236517205
  have l2 := @land_le x 6148914691236517205
  have c2 : bAnd .u64 ((x / 2 : Nat) : Int) (6148914691236517205 : Int) = ((Nat.land (x / 2) 6148914691236517205 : Nat) : Int) := uAnd (b := 6148914691236517205) (by omega) (by decide)
  have c3 : bAnd .u64 (x : Int) (6148914691236517205 : Int) = ((Nat.land x 6148914691236517205 : Nat) : Int) := uAnd (b := 6148914691236517205) (by omega) (by decide)
  obtain ⟨y1, hy1⟩ : ∃ y, y = st1 x := ⟨_, rfl⟩
  have hy1' : y1 = Nat.land (x / 2) 6148914691236517205 + Nat.land x 6148914691236517205 := hy1
  have b1 : y1 < 2 ^ 18 := by omega
  have c4 : IntKind.wrap .u64 (((Nat.land (x / 2) 6148914691236517205 : Nat) : Int) + ((Nat.land x 6148914691236517205 : Nat) : Int)) = (y1 : Int) := by
    rw [wrap_u64 (by omega) (by omega), hy1']; omega
  rw [c1, c2, c3, c4]
  have c5 : bShr .u64 (y1 : Int) (2 : Int) = ((y1 / 4 : Nat) : Int) := uShr (i := 2) (by decide)
  have l3 := @land_le (y1 / 4) 3689348814741910323
  have l4 := @land_le y1 3689348814741910323
  have c6 : bAnd .u64 ((y1 / 4 : Nat) : Int) (3689348814741910323 : Int) = ((Nat.land (y1 / 4) 3689348814741910323 : Nat) : Int) := uAnd (b := 3689348814741910323) (by omega) (by decide)
  have c7 : bAnd .u64 (y1 : Int) (3689348814741910323 : Int) = ((Nat.land y1 3689348814741910323 : Nat) : Int) := uAnd (b := 3689348814741910323) (by omega) (by decide)
  obtain ⟨y2, hy2⟩ : ∃ y, y = st2 y1 := ⟨_, rfl⟩
  have hy2' : y2 = Nat.land (y1 / 4) 3689348814741910323 + Nat.land y1 3689348814741910323 := hy2
  have b2 : y2 < 2 ^ 20 := by omega
  have c8 : IntKind.wrap .u64 (((Nat.land (y1 / 4) 3689348814741910323 : Nat) : Int) + ((Nat.land y1 3689348814741910323 : Nat) : Int)) = (y2 : Int) := by
    rw [wrap_u64 (by omega) (by omega), hy2']; omega
  rw [c5, c6, c7, c8]
  have c9 : bShr .u64 (y2 : Int) (4 : Int) = ((y2 / 16 : Nat) : Int) := uShr (i := 4) (by decide)
  have c10 : IntKind.wrap .u64 (((y2 / 16 : Nat) : Int) + (y2 : Int)) = ((y2 / 16 + y2 : Nat) : Int) := by
    rw [wrap_u64 (by omega) (by omega)]; omega
  have l5 := @land_le (y2 / 16 + y2) 1085102592571150095
  obtain ⟨s, hs⟩ : ∃ y, y = st4 y2 := ⟨_, rfl⟩
  have c11 : bAnd .u64 ((y2 / 16 + y2 : Nat) : Int) (1085102592571150095 : Int) = (s : Int) := by
    rw [hs]; exact uAnd (b := 1085102592571150095) (by omega) (by decide)
  have hs' : s = Nat.land (y2 / 16 + y2) 1085102592571150095 := hs
  have b3 : s < 2 ^ 21 := by omega
  rw [c9, c10, c11]
  have c12 : bShr .u64 (s : Int) (8 : Int) = ((s / 256 : Nat) : Int) := uShr (i := 8) (by decide)
  obtain ⟨u, hu⟩ : ∃ u, u = s / 256 + s := ⟨_, rfl⟩
  have c13 : IntKind.wrap .u64 ((s : Int) + ((s / 256 : Nat) : Int)) = (u : Int) := by
    rw [wrap_u64 (by omega) (by omega)]; omega
  have c14 : bShr .u64 (u : Int) (16 : Int) = ((u / 65536 : Nat) : Int) := uShr (i := 16) (by decide)
  obtain ⟨v, hv⟩ : ∃ v, v = u / 65536 + u := ⟨_, rfl⟩
  have c15 : IntKind.wrap .u64 ((u : Int) + ((u / 65536 : Nat) : Int)) = (v : Int) := by
    rw [wrap_u64 (by omega) (by omega)]; omega
  have c16 : bShr .u64 (v : Int) (32 : Int) = ((v / 4294967296 : Nat) : Int) := uShr (i := 32) (by decide)
  obtain ⟨w, hw⟩ : ∃ w, w = v / 4294967296 + v := ⟨_, rfl⟩
  have c17 : IntKind.wrap .u64 ((v : Int) + ((v / 4294967296 : Nat) : Int)) = (w : Int) := by
    rw [wrap_u64 (by omega) (by omega)]; omega
  rw [c12, c13, c14, c15, c16, c17, w64_id (by omega) (by omega)]
  have hf : w = fin8 s := by rw [hw, hv, hu]; rfl
  have hx2 : x = 256 * (x / 256) + x % 256 := by omega
  obtain ⟨p1, p2⟩ := stg_one (x / 256) (by omega)
  obtain ⟨q1, q2⟩ := stg_one (x % 256) (by omega)
  have hst : s = 256 * pc (x / 256) + pc (x % 256) := by
    have := Nat.eq_of_beq_eq_true (stg_two (x / 256) (by omega) (x % 256) (by omega))
    have e : stg (256 * (x / 256) + x % 256) = 256 * stg (x / 256) + stg (x % 256) := this
    rw [← hx2, p1, q1] at e
    rw [hs, hy2, hy1]; exact e
  have hp : pc x = pc (x / 256) + pc (x % 256) := by
    have := pc_two 8 (x % 256) (x / 256) (by omega) (by omega) (by omega)
    have e : (2 : Nat) ^ 8 = 256 := rfl
    rw [e, ← hx2] at this; exact this
  obtain ⟨f1, f2⟩ := fin_two (pc (x / 256)) p2 (pc (x % 256)) q2
  rw [← hst, ← hf] at f1 f2
  have c18 : bAnd .i64 (w : Int) (127 : Int) = ((Nat.land w 127 : Nat) : Int) := bAnd_nat (b := 127) (by omega) (by decide)
  rw [c18, f1, hp]; rfl

/-- the table's shape -/
structure Tab (t : List (List Bool)) (R C : Nat) : Prop where
  r1 : 1 ≤ R ∧ R ≤ 4
  c1 : 1 ≤ C ∧ C ≤ 4
  hr : t.length = R
  hc : ∀ r ∈ t, r.length = C
theorem Tab.n {t : List (List Bool)} {R C : Nat} (h : Tab t R C) : 1 ≤ C * R ∧ C * R ≤ 16 := by
  have h1 := h.r1
  have h2 := h.c1
  have a := Nat.mul_le_mul h2.2 h1.2
  have b := Nat.mul_le_mul h2.1 h1.1
  omega
theorem Tab.at {t : List (List Bool)} {R C : Nat} (h : Tab t R C) {r c : Nat} (hr : r < R) (hc : c < C) : C * r + c < C * R := by
  have : C * r + C ≤ C * R := by rw [← Nat.mul_succ]; exact Nat.mul_le_mul_left C hr
  omega
theorem Tab.row {t : List (List Bool)} {R C : Nat} (h : Tab t R C) {r : Nat} (hr : r < R) : idx t (r : Int) = some (t.getD r []) ∧ (t.getD r []).length = C := by
  obtain ⟨x, h1, h2⟩ := idx_get (xs := t) (i := (r : Int)) (by omega) (by have := h.hr; omega)
  rw [Int.toNat_natCast] at h2
  have e : t.getD r [] = x := by rw [List.getD_eq_getElem?_getD, h2]; rfl
  rw [e]
  exact ⟨h1, h.hc x (List.mem_of_getElem? h2)⟩
theorem row_at {x : List Bool} {c C : Nat} (hx : x.length = C) (hc : c < C) : idx x (c : Int) = some (x.getD c false) := by
  obtain ⟨y, h1, h2⟩ := idx_get (xs := x) (i := (c : Int)) (by omega) (by omega)
  rw [Int.toNat_natCast] at h2
  rw [h1, List.getD_eq_getElem?_getD, h2]; rfl
/-- is a cell of the colour -/
def ce (t : List (List Bool)) (a : Bool) (r c : Nat) : Bool := (t.getD r []).getD c false == a
def flat (t : List (List Bool)) (a : Bool) : List Bool := (t.map fun r => r.map (· == a)).flatten
theorem wd_snoc : ∀ (l : List Bool) (b : Bool), wd (l ++ [b]) = wd l + 2 ^ l.length * b.toNat
  | [], b => by cases b <;> rfl
  | a :: l, b => by
    simp only [List.cons_append, wd, wd_snoc l b, List.length_cons]
    rw [Nat.mul_add, Nat.pow_succ, Nat.mul_comm (2 ^ l.length) 2, Nat.mul_assoc]; omega
theorem or_add {x k : Nat} (h : x < 2 ^ k) : x ||| 2 ^ k = x + 2 ^ k := by
  have := Nat.two_pow_add_eq_or_of_lt h 1
  rw [Nat.mul_one] at this
  rw [Nat.or_comm, ← this, Nat.add_comm]
theorem flat_len {C : Nat} (a : Bool) : ∀ t : List (List Bool), (∀ r ∈ t, r.length = C) → (flat t a).length = C * t.length
  | [], _ => by simp [flat]
  | r :: t, h => by
    have ih := flat_len a t (fun q hq => h q (by simp [hq]))
    have e : flat (r :: t) a = r.map (· == a) ++ flat t a := by simp [flat]
    rw [e, List.length_append, ih, List.length_map, h r (by simp), List.length_cons, Nat.mul_succ]; omega
theorem flat_get {C : Nat} (a : Bool) : ∀ (t : List (List Bool)) (r c : Nat), (∀ q ∈ t, q.length = C) → r < t.length → c < C → (flat t a).getD (C * r + c) false = ce t a r c
  | [], r, c, _, h, _ => by simp at h
  | q :: t, 0, c, h, _, hc => by
    have e : flat (q :: t) a = q.map (· == a) ++ flat t a := by simp [flat]
    have hq := h q (by simp)
    rw [e, Nat.mul_zero, Nat.zero_add, List.getD_eq_getElem?_getD, List.getElem?_append_left (by simp; omega), List.getElem?_map]
    unfold ce
    rw [List.getD_cons_zero, List.getD_eq_getElem?_getD, List.getElem?_eq_getElem (show c < q.length by omega)]
    rfl
  | q :: t, r + 1, c, h, hr, hc => by
    have ih := flat_get a t r c (fun p hp => h p (by simp [hp])) (by simpa using hr) hc
    have e : flat (q :: t) a = q.map (· == a) ++ flat t a := by simp [flat]
    have hq := h q (by simp)
    have hl : (q.map (· == a)).length = C := by simp [hq]
    rw [e, List.getD_eq_getElem?_getD, List.getElem?_append_right (by rw [hl, Nat.mul_succ]; omega), hl, show C * (r + 1) + c - C = C * r + c by rw [Nat.mul_succ]; omega, ← List.getD_eq_getElem?_getD, ih]
    unfold ce
    rw [List.getD_cons_succ]
/-- the mask of the cells of the colour -/
def tm (t : List (List Bool)) (a : Bool) : Nat := wd (flat t a)
theorem tm_bit {t : List (List Bool)} {R C : Nat} (h : Tab t R C) (a : Bool) {r c : Nat} (hr : r < R) (hc : c < C) : (tm t a).testBit (C * r + c) = ce t a r c := by
  unfold tm
  rw [wd_bit, flat_get a t r c h.hc (by have := h.hr; omega) hc]
theorem tm_lt {t : List (List Bool)} {R C : Nat} (h : Tab t R C) (a : Bool) : tm t a < 2 ^ (C * R) := by
  have := wd_lt (flat t a)
  rw [flat_len a t h.hc, h.hr] at this
  exact this
theorem two63 {x k : Nat} (h : x < 2 ^ k) (hk : k ≤ 16) : x < 2 ^ 63 := Nat.lt_of_lt_of_le h (Nat.pow_le_pow_right (by decide) (by omega))
/-- one row more, both ways -/
theorem row_p {a : Bool} {v4 : List Bool} {C r : Nat} (hv : v4.length = C) (hC : C ≤ 4) (hr : r < 4) : ∀ (row : List Bool) (q : List Bool) (c : Nat), q.length = C * r + c → C * r + c + row.length ≤ 16 →
    forL (talk_Rects_b25 a v4 (r : Int)) (fun x155 => x155) row (c : Int) ((wd q : Nat) : Int) = some ((wd (q ++ row.map (· == a)) : Nat) : Int)
  | [], q, c, _, _ => by simp [forL]
  | b :: row, q, c, hq, hl => by
    simp only [List.length_cons] at hl
    have hCr : C * r ≤ 16 := by omega
    have e0 : (C : Int) * (r : Int) = ((C * r : Nat) : Int) := by simp
    have hk : w64 ((w64 ((List.length v4 : Int) * (r : Int))) + (c : Int)) = ((q.length : Nat) : Int) := by
      rw [hv, e0, w64_id (n := ((C * r : Nat) : Int)) (by omega) (by omega), w64_id (by omega) (by omega), hq]; omega
    have hlt := wd_lt q
    have h2 : 2 ^ q.length < 2 ^ 63 := Nat.pow_lt_pow_right (by decide) (by omega)
    have hs : talk_Rects_b25 a v4 (r : Int) (c : Int) b ((wd q : Nat) : Int) = some (.next ((wd (q ++ [b == a]) : Nat) : Int)) := by
      unfold talk_Rects_b25 talk_Rects_g23
      rw [hk, wd_snoc]
      cases b == a with
      | false => simp
      | true =>
        have hck : ck (0 ≤ ((q.length : Nat) : Int)) = some () := ck_ok (by omega)
        rw [cond_true, hck, bind_some', uOne (by omega), uOr (Nat.lt_trans hlt h2) h2, or_add hlt, Bool.toNat_true, Nat.mul_one]; rfl
    simp only [forL, hs]
    have ih := row_p (a := a) hv hC hr row (q ++ [b == a]) (c + 1) (by simp; omega) (by omega)
    rw [Int.natCast_add, Int.natCast_one] at ih
    rw [ih]; simp
theorem tm_p {t : List (List Bool)} {R C : Nat} (h : Tab t R C) (a : Bool) (v4 : List Bool) (hv : v4.length = C) : forL (talk_Rects_b28 a v4) (fun x117 => x117) t 0 (0 : Int) = some ((tm t a : Nat) : Int) := by
  have hn := h.n
  have hr1 := h.r1
  obtain ⟨y, h1, rfl⟩ := forL_inv (body := talk_Rects_b28 a v4) (fin := fun x => x) (l := t) (x := (0 : Int)) (fun j x => x = ((wd (flat (t.take j) a) : Nat) : Int)) (fun y => y = ((tm t a : Nat) : Int)) (by simp [flat, wd])
    (by
      rintro j row _ hj rfl
      have hjl := (List.getElem?_eq_some_iff.1 hj).1
      have hrow := h.hc row (List.mem_of_getElem? hj)
      have hlen := flat_len a (t.take j) (C := C) (fun r hr => h.hc r (List.mem_of_mem_take hr))
      rw [List.length_take, Nat.min_eq_left (by omega)] at hlen
      have := h.at (r := j) (c := C - 1) (by have := h.hr; omega) (by have := h.c1; omega)
      have ih := row_p (a := a) (r := j) hv h.c1.2 (by have := h.hr; omega) row (flat (t.take j) a) 0 (by omega) (by have := h.c1; omega)
      rw [Int.natCast_zero] at ih
      unfold talk_Rects_b28
      rw [ih, bind_some']
      refine ⟨_, rfl, ?_⟩
      simp only
      congr 2
      rw [List.take_add_one, hj]; simp [flat])
    (by rintro x rfl; rw [List.take_length]; rfl)
  exact h1
theorem row_r {a : Bool} {v6 : List Bool} {C r : Nat} (hv : v6.length = C) (hC : C ≤ 4) (hr : r < 4) {row q : List Bool} (hrow : row.length = C) (hq : q.length = C * r) : forI (0 : Int) (List.length v6 : Int) (law_TalkRects_b25 a v6 (r : Int) row) (fun x179 => x179) ((wd q : Nat) : Int) = some ((wd (q ++ row.map (· == a)) : Nat) : Int) := by
  have hCr : C * r ≤ 4 * 3 := Nat.mul_le_mul hC (by omega)
  obtain ⟨y, h1, rfl⟩ := forI_inv (body := law_TalkRects_b25 a v6 (r : Int) row) (fin := fun x => x) (lo := 0) (hi := (List.length v6 : Int)) (x := ((wd q : Nat) : Int))
    (fun i x => x = ((wd (q ++ (row.take i.toNat).map (· == a)) : Nat) : Int)) (fun y => y = ((wd (q ++ row.map (· == a)) : Nat) : Int)) (by omega) (by omega) (by simp)
    (by
      rintro i x h0 hi rfl
      obtain ⟨c, rfl⟩ := Int.eq_ofNat_of_zero_le h0
      rw [Int.toNat_natCast]
      have hc : c < C := by omega
      have hlen : (q ++ (row.take c).map (· == a)).length = C * r + c := by
        rw [List.length_append, List.length_map, List.length_take, hq]; omega
      have e0 : (C : Int) * (r : Int) = ((C * r : Nat) : Int) := by simp
      have hk : w64 ((w64 ((List.length v6 : Int) * (r : Int))) + (c : Int)) = ((C * r + c : Nat) : Int) := by
        rw [hv, e0, w64_id (n := ((C * r : Nat) : Int)) (by omega) (by omega), w64_id (by omega) (by omega)]; omega
      have hlt := wd_lt (q ++ (row.take c).map (· == a))
      rw [hlen] at hlt
      have h2 : 2 ^ (C * r + c) ≤ 2 ^ 16 := Nat.pow_le_pow_right (by decide) (by omega)
      have hs : row.take (c + 1) = row.take c ++ [row.getD c false] := by
        rw [List.take_add_one, List.getD_eq_getElem?_getD, List.getElem?_eq_getElem (show c < row.length by omega)]; rfl
      have hw : IntKind.wrap .u64 ((C * r + c : Nat) : Int) = ((C * r + c : Nat) : Int) := wrap_u64 (by omega) (by omega)
      have hck : ck (0 ≤ ((C * r + c : Nat) : Int)) = some () := ck_ok (by omega)
      have ht : ((c : Int) + 1).toNat = c + 1 := by omega
      unfold law_TalkRects_b25 law_TalkRects_g23
      rw [row_at hrow hc, bind_some', hk, hw, bShl_one (by omega), hck]
      have hn : wd (q ++ (row.take (c + 1)).map (· == a)) = wd (q ++ (row.take c).map (· == a)) + 2 ^ (C * r + c) * (row.getD c false == a).toNat := by
        rw [hs, List.map_append, ← List.append_assoc]
        have := wd_snoc (q ++ (row.take c).map (· == a)) (row.getD c false == a)
        rw [hlen] at this
        exact this
      refine ⟨.next ((wd (q ++ (row.take (c + 1)).map (· == a)) : Nat) : Int), ?_, by simp only; rw [ht]⟩
      rw [hn]
      cases row.getD c false == a with
      | false => simp
      | true =>
        rw [cond_true, bind_some', Bool.toNat_true, Nat.mul_one]
        generalize 2 ^ (C * r + c) = z at *
        rw [w64_id (by omega) (by omega)]; simp)
    (by
      rintro i x h0 h1 h2 rfl
      have : i.toNat = row.length := by omega
      rw [this, List.take_length])
  exact h1
theorem tm_r {t : List (List Bool)} {R C : Nat} (h : Tab t R C) (a : Bool) (v4 : List Bool) (hv : v4.length = C) : forL (law_TalkRects_b28 a v4) (fun x117 => x117) t 0 (0 : Int) = some ((tm t a : Nat) : Int) := by
  have hn := h.n
  have hr1 := h.r1
  obtain ⟨y, h1, rfl⟩ := forL_inv (body := law_TalkRects_b28 a v4) (fin := fun x => x) (l := t) (x := (0 : Int)) (fun j x => x = ((wd (flat (t.take j) a) : Nat) : Int)) (fun y => y = ((tm t a : Nat) : Int)) (by simp [flat, wd])
    (by
      rintro j row _ hj rfl
      have hjl := (List.getElem?_eq_some_iff.1 hj).1
      have hrow := h.hc row (List.mem_of_getElem? hj)
      have hlen := flat_len a (t.take j) (C := C) (fun r hr => h.hc r (List.mem_of_mem_take hr))
      rw [List.length_take, Nat.min_eq_left (by omega)] at hlen
      have ih := row_r (a := a) (r := j) hv h.c1.2 (by have := h.hr; omega) (row := row) (q := flat (t.take j) a) hrow hlen
      unfold law_TalkRects_b28
      rw [ih, bind_some']
      refine ⟨_, rfl, ?_⟩
      simp only
      congr 2
      rw [List.take_add_one, hj]; simp [flat])
    (by rintro x rfl; rw [List.take_length]; rfl)
  exact h1
/-- one-coloured rectangles, and covers -/
def Mono (t : List (List Bool)) (a : Bool) (R C : Nat) (p : Nat × Nat) : Prop := ∀ r c, p.1.testBit r = true → p.2.testBit c = true → r < R ∧ c < C ∧ ce t a r c = true
def Cov (t : List (List Bool)) (a : Bool) (R C k L : Nat) : Prop := ∃ ps : List (Nat × Nat), ps.length ≤ k ∧ (∀ p ∈ ps, Mono t a R C p) ∧ ∀ r c, r < R → c < C → L.testBit (C * r + c) = true → ∃ p ∈ ps, p.1.testBit r = true ∧ p.2.testBit c = true
/-- cells of the colour only -/
def Sub (t : List (List Bool)) (a : Bool) (R C L : Nat) : Prop := L < 2 ^ (C * R) ∧ ∀ r c, r < R → c < C → L.testBit (C * r + c) = true → ce t a r c = true
theorem mem_lst {m i : Nat} (hi : i < 63) (h : m.testBit i = true) : (i : Int) ∈ lst m := by
  unfold lst lf
  exact List.mem_map.2 ⟨i, List.mem_filter.2 ⟨by rw [List.mem_range'_1]; omega, h⟩, rfl⟩
theorem lst_mem {m : Nat} {v : Int} (h : v ∈ lst m) : ∃ i : Nat, i < 63 ∧ v = (i : Int) ∧ m.testBit i = true := by
  unfold lst lf at h
  obtain ⟨i, hi, rfl⟩ := List.mem_map.1 h
  obtain ⟨h1, h2⟩ := List.mem_filter.1 hi
  rw [List.mem_range'_1] at h1
  exact ⟨i, by omega, rfl, h2⟩
theorem cell_of {C i r c : Nat} (hc : c < C) (h : i = C * r + c) : i / C = r ∧ i % C = c := by
  subst h
  constructor
  · rw [Nat.mul_add_div (by omega), Nat.div_eq_of_lt hc]; omega
  · rw [Nat.mul_add_mod, Nat.mod_eq_of_lt hc]
theorem cell_in {R C i : Nat} (hC : 1 ≤ C) (hi : i < C * R) : i / C < R ∧ i % C < C ∧ C * (i / C) + i % C = i := by
  refine ⟨(Nat.div_lt_iff_lt_mul (by omega)).2 (by rw [Nat.mul_comm]; exact hi), Nat.mod_lt _ (by omega), Nat.div_add_mod i C⟩
theorem cov_single {t : List (List Bool)} {a : Bool} {R C L : Nat} (h : Tab t R C) (hs : Sub t a R C L) : Cov t a R C (pc L) L := by
  have hn := h.n
  refine ⟨(lst L).map fun v => (2 ^ (v.toNat / C), 2 ^ (v.toNat % C)), by rw [List.length_map, lst_len]; omega, ?_, ?_⟩
  · intro p hp
    obtain ⟨v, hv, rfl⟩ := List.mem_map.1 hp
    obtain ⟨i, hi, rfl, hb⟩ := lst_mem hv
    have hlt : i < C * R := by
      by_cases hlt : i < C * R
      · exact hlt
      · rw [Nat.testBit_lt_two_pow (Nat.lt_of_lt_of_le hs.1 (Nat.pow_le_pow_right (by decide) (by omega)))] at hb; cases hb
    obtain ⟨c1, c2, c3⟩ := cell_in h.c1.1 hlt
    intro r c h1 h2
    rw [Int.toNat_natCast] at h1 h2
    rw [Nat.testBit_two_pow, decide_eq_true_eq] at h1 h2
    subst h1; subst h2
    exact ⟨c1, c2, hs.2 _ _ c1 c2 (by rw [c3]; exact hb)⟩
  · intro r c hr hc hb
    have hlt := h.at hr hc
    refine ⟨_, List.mem_map.2 ⟨_, mem_lst (by omega) hb, rfl⟩, ?_⟩
    obtain ⟨e1, e2⟩ := cell_of (C := C) (r := r) hc rfl
    rw [Int.toNat_natCast, e1, e2]
    simp [Nat.testBit_two_pow]
/-- all rows that hold these columns, all columns that hold these rows -/
def rowsFor (t : List (List Bool)) (a : Bool) (R C d : Nat) : Nat := wd ((List.range R).map fun r => (List.range C).all fun c => !d.testBit c || ce t a r c)
def colsFor (t : List (List Bool)) (a : Bool) (R C s : Nat) : Nat := wd ((List.range C).map fun c => (List.range R).all fun r => !s.testBit r || ce t a r c)
theorem rows_bit (t : List (List Bool)) (a : Bool) (R C d r : Nat) : (rowsFor t a R C d).testBit r = true ↔ r < R ∧ ∀ c, c < C → d.testBit c = true → ce t a r c = true := by
  unfold rowsFor
  rw [wd_bit, List.getD_eq_getElem?_getD, List.getElem?_map]
  by_cases h : r < R
  · rw [List.getElem?_range h]
    simp only [Option.map_some, Option.getD_some, List.all_eq_true, List.mem_range, Bool.or_eq_true, Bool.not_eq_true']
    constructor
    · intro h1
      refine ⟨h, fun c hc hd => ?_⟩
      rcases h1 c hc with e | e
      · rw [e] at hd; cases hd
      · exact e
    · rintro ⟨_, h1⟩ c hc
      cases hd : d.testBit c with
      | false => exact .inl rfl
      | true => exact .inr (h1 c hc hd)
  · rw [List.getElem?_eq_none (by simp; omega)]
    simp [h]
theorem cols_bit (t : List (List Bool)) (a : Bool) (R C s c : Nat) : (colsFor t a R C s).testBit c = true ↔ c < C ∧ ∀ r, r < R → s.testBit r = true → ce t a r c = true := by
  unfold colsFor
  rw [wd_bit, List.getD_eq_getElem?_getD, List.getElem?_map]
  by_cases h : c < C
  · rw [List.getElem?_range h]
    simp only [Option.map_some, Option.getD_some, List.all_eq_true, List.mem_range, Bool.or_eq_true, Bool.not_eq_true']
    constructor
    · intro h1
      refine ⟨h, fun r hr hd => ?_⟩
      rcases h1 r hr with e | e
      · rw [e] at hd; cases hd
      · exact e
    · rintro ⟨_, h1⟩ r hr
      cases hd : s.testBit r with
      | false => exact .inl rfl
      | true => exact .inr (h1 r hr hd)
  · rw [List.getElem?_eq_none (by simp; omega)]
    simp [h]
theorem rows_lt (t : List (List Bool)) (a : Bool) (R C d : Nat) : rowsFor t a R C d < 2 ^ R := by
  have := wd_lt ((List.range R).map fun r => (List.range C).all fun c => !d.testBit c || ce t a r c)
  unfold rowsFor
  simpa using this
theorem cols_lt (t : List (List Bool)) (a : Bool) (R C s : Nat) : colsFor t a R C s < 2 ^ C := by
  have := wd_lt ((List.range C).map fun c => (List.range R).all fun r => !s.testBit r || ce t a r c)
  unfold colsFor
  simpa using this
def Whole (t : List (List Bool)) (a : Bool) (R C s d : Nat) : Prop := (∀ r, r < R → s.testBit r = false → ∃ c, c < C ∧ d.testBit c = true ∧ ce t a r c = false) ∧ (∀ c, c < C → d.testBit c = false → ∃ r, r < R ∧ s.testBit r = true ∧ ce t a r c = false)
theorem lst_lt {n m : Nat} (h : m < 2 ^ n) {v : Int} (hv : v ∈ lst m) : ∃ i : Nat, i < n ∧ v = (i : Int) ∧ m.testBit i = true := by
  obtain ⟨i, h1, rfl, h3⟩ := lst_mem hv
  refine ⟨i, ?_, rfl, h3⟩
  by_cases hlt : i < n
  · exact hlt
  · rw [Nat.testBit_lt_two_pow (Nat.lt_of_lt_of_le h (Nat.pow_le_pow_right (by decide) (by omega)))] at h3; cases h3
theorem whole_ok {t : List (List Bool)} {R C : Nat} (h : Tab t R C) (a : Bool) {fuel s d : Nat} (hf : 6 ≤ fuel) (hs : s < 2 ^ R) (hd : d < 2 ^ C) : ∃ b, ref_whole fuel t a (s : Int) (d : Int) = some b ∧ (Whole t a R C s d → b = true) := by
  have hr1 := h.r1
  have hc1 := h.c1
  have hs63 : s < 2 ^ 63 := two63 hs (by omega)
  have hd63 : d < 2 ^ 63 := two63 hd (by omega)
  unfold ref_whole
  have h1 : ∀ (i : Int) (r : Nat), i = (r : Int) → r < R → ref_whole_b10 a (s : Int) (d : Int) i (t.getD r []) () = some (bif !s.testBit r && (lst d).all (fun v => ce t a r v.toNat) then .done (.ret false) else .next ()) := by
    rintro i r rfl hr
    obtain ⟨r1, r2⟩ := h.row hr
    unfold ref_whole_b10
    rw [bit_eq hs63 (by omega), bind_some', sr_listof hd63, bind_some']
    have hl : ∀ (cs : List Int) (j : Int) (x : Bool), (∀ v ∈ cs, ∃ c : Nat, c < C ∧ v = (c : Int)) → forL (ref_whole_b7 a (t.getD r [])) (fun x => x) cs j x = some (x && cs.all (fun v => ce t a r v.toNat)) := by
      intro cs
      induction cs with
      | nil => intro j x _; simp [forL]
      | cons v cs ih =>
        intro j x hv
        obtain ⟨c, hc, rfl⟩ := hv v (by simp)
        have hst : ref_whole_b7 a (t.getD r []) j (c : Int) x = some (.next (x && ce t a r c)) := by
          unfold ref_whole_b7
          cases x with
          | false => rfl
          | true => rw [cond_true, row_at r2 hc, bind_some']; rfl
        simp only [forL, hst]
        rw [ih _ _ (fun v hv2 => hv v (by simp [hv2])), List.all_cons, Bool.and_assoc]; rfl
    rw [hl (lst d) 0 (!s.testBit r) (fun v hv => by obtain ⟨c, h1, h2, _⟩ := lst_lt hd hv; exact ⟨c, h1, h2⟩), bind_some']
    cases (!s.testBit r && (lst d).all (fun v => ce t a r v.toNat)) <;> rfl
  obtain ⟨y, e1, e2⟩ := forL_inv (body := ref_whole_b10 a (s : Int) (d : Int)) (fin := fun _ => (Esc.brk () : Esc Bool Unit)) (l := t) (x := ()) (fun _ _ => True) (fun y => match y with | .ret b => b = false ∧ ¬ Whole t a R C s d | .brk _ => True) trivial
    (by
      rintro r row _ hr _
      have hrl := (List.getElem?_eq_some_iff.1 hr).1
      have hrow : t.getD r [] = row := by rw [List.getD_eq_getElem?_getD, hr]; rfl
      have := h1 (r : Int) r rfl (by have := h.hr; omega)
      rw [hrow] at this
      rw [this]
      cases hb : (!s.testBit r && (lst d).all (fun v => ce t a r v.toNat)) with
      | false => exact ⟨_, rfl, trivial⟩
      | true =>
        refine ⟨_, rfl, rfl, fun hw => ?_⟩
        simp only [Bool.and_eq_true, Bool.not_eq_true', List.all_eq_true] at hb
        obtain ⟨c, c1, c2, c3⟩ := hw.1 r (by have := h.hr; omega) hb.1
        have := hb.2 (c : Int) (mem_lst (by omega) c2)
        rw [Int.toNat_natCast, c3] at this; cases this)
    (by intro _ _; trivial)
  rw [e1, bind_some']
  cases y with
  | ret b => exact ⟨b, rfl, fun hw => (e2.2 hw).elim⟩
  | brk u =>
    have h0 := (h.row (r := 0) (by omega))
    obtain ⟨y, g1, g2⟩ := iter_inv (f := ref_whole_b23 t a (s : Int) (d : Int)) (fun x => ∃ c : Nat, c ≤ C ∧ x = (c : Int)) (fun x => (C - x).toNat) (fun y => match y with | .ret b => b = false ∧ ¬ Whole t a R C s d | .brk _ => True)
      (by
        rintro _ ⟨c, hc, rfl⟩
        unfold ref_whole_b23
        have i0 : idx t (0 : Int) = some (t.getD 0 []) := h0.1
        rw [i0, bind_some', h0.2]
        by_cases hlt : c < C
        · rw [show decide ((c : Int) < (C : Int)) = true from decide_eq_true (by omega), cond_true, bit_eq hd63 (by omega), bind_some', sr_listof hs63, bind_some']
          have hl : ∀ (rs : List Int) (j : Int) (x : Bool), (∀ v ∈ rs, ∃ r : Nat, r < R ∧ v = (r : Int)) → forL (ref_whole_b20 t a (c : Int)) (fun x => x) rs j x = some (x && rs.all (fun v => ce t a v.toNat c)) := by
            intro rs
            induction rs with
            | nil => intro j x _; simp [forL]
            | cons v rs ih =>
              intro j x hv
              obtain ⟨r, hr, rfl⟩ := hv v (by simp)
              obtain ⟨r1, r2⟩ := h.row hr
              have hst : ref_whole_b20 t a (c : Int) j (r : Int) x = some (.next (x && ce t a r c)) := by
                unfold ref_whole_b20
                cases x with
                | false => rfl
                | true => rw [cond_true, r1, bind_some', row_at r2 hlt, bind_some']; rfl
              simp only [forL, hst]
              rw [ih _ _ (fun v hv2 => hv v (by simp [hv2])), List.all_cons, Bool.and_assoc]; rfl
          rw [hl (lst s) 0 (!d.testBit c) (fun v hv => by obtain ⟨r, h1, h2, _⟩ := lst_lt hs hv; exact ⟨r, h1, h2⟩), bind_some']
          cases hb : (!d.testBit c && (lst s).all (fun v => ce t a v.toNat c)) with
          | false =>
            rw [cond_false, w64_id (by omega) (by omega)]
            exact ⟨_, rfl, ⟨c + 1, by omega, by omega⟩, by omega⟩
          | true =>
            refine ⟨_, rfl, rfl, fun hw => ?_⟩
            simp only [Bool.and_eq_true, Bool.not_eq_true', List.all_eq_true] at hb
            obtain ⟨r, c1, c2, c3⟩ := hw.2 c hlt hb.1
            have := hb.2 (r : Int) (mem_lst (by omega) c2)
            rw [Int.toNat_natCast, c3] at this; cases this
        · rw [show decide ((c : Int) < (C : Int)) = false from decide_eq_false (by omega), cond_false]
          exact ⟨_, rfl, trivial⟩) fuel (0 : Int) (by omega) ⟨0, by omega, rfl⟩
    dsimp only
    rw [g1, bind_some']
    cases y with
    | ret b => exact ⟨b, rfl, fun hw => (g2.2 hw).elim⟩
    | brk u => exact ⟨true, rfl, fun _ => rfl⟩
theorem clr_row {t : List (List Bool)} {R C : Nat} (h : Tab t R C) (a : Bool) {v1 : List Bool} (hv1 : v1.length = C) {r : Nat} (hr : r < R) : ∀ (cs : List Int) (b : Bool) (x : Nat) (i : Int), (∀ v ∈ cs, ∃ c : Nat, c < C ∧ v = (c : Int)) → x < 2 ^ 63 →
    ∃ y : Nat, forL (ref_Rects_b1775 t a v1 (r : Int)) (fun x => (x.1, x.2)) cs i (b, (x : Int)) = some (b && cs.all (fun v => ce t a r v.toNat), (y : Int)) ∧ y < 2 ^ 63 ∧ ∀ j, y.testBit j = (x.testBit j && !cs.any fun v => decide (j = C * r + v.toNat))
  | [], b, x, i, _, hx => ⟨x, by simp [forL], hx, by simp⟩
  | v :: cs, b, x, i, hv, hx => by
    obtain ⟨c, hc, rfl⟩ := hv v (by simp)
    have hn := h.n
    have hat := h.at hr hc
    obtain ⟨r1, r2⟩ := h.row hr
    have hCr : C * r ≤ 16 := by omega
    have e0 : (C : Int) * (r : Int) = ((C * r : Nat) : Int) := by simp
    have hk : w64 ((w64 ((List.length v1 : Int) * (r : Int))) + (c : Int)) = ((C * r + c : Nat) : Int) := by
      rw [hv1, e0, w64_id (n := ((C * r : Nat) : Int)) (by omega) (by omega), w64_id (by omega) (by omega)]; omega
    have hw : IntKind.wrap .u64 ((C * r + c : Nat) : Int) = ((C * r + c : Nat) : Int) := wrap_u64 (by omega) (by omega)
    have hck : ck (0 ≤ ((C * r + c : Nat) : Int)) = some () := ck_ok (by omega)
    obtain ⟨y, y1, y2, y3⟩ := clr_bit (x := x) (i := C * r + c) hx (by omega)
    have hst : ref_Rects_b1775 t a v1 (r : Int) i (c : Int) (b, (x : Int)) = some (.next (b && ce t a r c, (y : Int))) := by
      unfold ref_Rects_b1775
      dsimp only
      rw [hk, hw, y1, hck]
      cases b with
      | false => rfl
      | true => rw [cond_true, r1, bind_some', row_at r2 hc, bind_some']; rfl
    obtain ⟨z, z1, z2, z3⟩ := clr_row h a hv1 hr cs (b && ce t a r c) y (i + 1) (fun v hv2 => hv v (by simp [hv2])) y2
    refine ⟨z, ?_, z2, ?_⟩
    · simp only [forL, hst]
      rw [z1, List.all_cons, Bool.and_assoc]; rfl
    · intro j
      rw [z3, y3, List.any_cons, Int.toNat_natCast, Bool.not_or, Bool.and_assoc]
      congr 1
      by_cases e : j = C * r + c <;> simp [e]
theorem clr_all {t : List (List Bool)} {R C : Nat} (h : Tab t R C) (a : Bool) {v1 : List Bool} (hv1 : v1.length = C) {d : Nat} (hd : d < 2 ^ C) (z : Int) : ∀ (rs : List Int) (b : Bool) (x : Nat) (i : Int), (∀ v ∈ rs, ∃ r : Nat, r < R ∧ v = (r : Int)) → x < 2 ^ 63 →
    ∃ y : Nat, forL (ref_Rects_b1778 t a v1 (z, (d : Int))) (fun x => (x.1, x.2)) rs i (b, (x : Int)) = some (b && rs.all (fun u => (lst d).all fun v => ce t a u.toNat v.toNat), (y : Int)) ∧ y < 2 ^ 63 ∧ ∀ j, y.testBit j = (x.testBit j && !rs.any fun u => (lst d).any fun v => decide (j = C * u.toNat + v.toNat))
  | [], b, x, i, _, hx => ⟨x, by simp [forL], hx, by simp⟩
  | v :: rs, b, x, i, hv, hx => by
    obtain ⟨r, hr, rfl⟩ := hv v (by simp)
    have hd63 : d < 2 ^ 63 := two63 hd (by have := h.c1; omega)
    obtain ⟨y, y1, y2, y3⟩ := clr_row h a hv1 hr (lst d) b x 0 (fun v hv => by obtain ⟨c, h1, h2, _⟩ := lst_lt hd hv; exact ⟨c, h1, h2⟩) hx
    have hst : ref_Rects_b1778 t a v1 (z, (d : Int)) i (r : Int) (b, (x : Int)) = some (.next (b && (lst d).all (fun v => ce t a r v.toNat), (y : Int))) := by
      unfold ref_Rects_b1778
      dsimp only
      rw [sr_listof hd63, bind_some', y1]; rfl
    obtain ⟨w, w1, w2, w3⟩ := clr_all h a hv1 hd z rs (b && (lst d).all (fun v => ce t a r v.toNat)) y (i + 1) (fun v hv2 => hv v (by simp [hv2])) y2
    refine ⟨w, ?_, w2, ?_⟩
    · simp only [forL, hst]
      rw [w1, List.all_cons, Bool.and_assoc]; rfl
    · intro j
      rw [w3, y3, List.any_cons, Int.toNat_natCast, Bool.not_or, Bool.and_assoc]
theorem Cov.mono {t : List (List Bool)} {a : Bool} {R C k k' L : Nat} (h : Cov t a R C k L) (hk : k ≤ k') : Cov t a R C k' L := by
  obtain ⟨ps, h1, h2, h3⟩ := h
  exact ⟨ps, by omega, h2, h3⟩
/-- what is left when a rectangle is taken off -/
def Rest (R C L s d L' : Nat) : Prop := L' < 2 ^ 63 ∧ ∀ j, L'.testBit j = (L.testBit j && !(lst s).any fun u => (lst d).any fun v => decide (j = C * u.toNat + v.toNat))
theorem in_rect {s d r c C R : Nat} (hs : s < 2 ^ R) (hd : d < 2 ^ C) (hR : R ≤ 4) (hC : C ≤ 4) (hc : c < C) : ((lst s).any fun u => (lst d).any fun v => decide (C * r + c = C * u.toNat + v.toNat)) = (s.testBit r && d.testBit c) := by
  rw [Bool.eq_iff_iff, List.any_eq_true, Bool.and_eq_true]
  constructor
  · rintro ⟨u, hu, h⟩
    rw [List.any_eq_true] at h
    obtain ⟨v, hv, h⟩ := h
    obtain ⟨r', _, rfl, h1⟩ := lst_lt hs hu
    obtain ⟨c', hc', rfl, h2⟩ := lst_lt hd hv
    rw [decide_eq_true_eq, Int.toNat_natCast, Int.toNat_natCast] at h
    obtain ⟨e1, e2⟩ := cell_of (C := C) (r := r) hc rfl
    obtain ⟨e3, e4⟩ := cell_of (C := C) (r := r') hc' h
    rw [e1.symm.trans e3, e2.symm.trans e4]
    exact ⟨h1, h2⟩
  · rintro ⟨h1, h2⟩
    have hr : r < 63 := by
      by_cases hlt : r < R
      · omega
      · rw [Nat.testBit_lt_two_pow (Nat.lt_of_lt_of_le hs (Nat.pow_le_pow_right (by decide) (by omega)))] at h1; cases h1
    refine ⟨_, mem_lst hr h1, ?_⟩
    rw [List.any_eq_true]
    exact ⟨_, mem_lst (by omega) h2, by simp⟩
theorem countP_lt {α : Type} {p q : α → Bool} : ∀ {l : List α}, (∀ x ∈ l, p x = true → q x = true) → ∀ {t}, t ∈ l → p t = false → q t = true → l.countP p + 1 ≤ l.countP q
  | [], _, t, ht, _, _ => by simp at ht
  | a :: l, h, t, ht, hp, hq => by
    have hm : l.countP p ≤ l.countP q := List.countP_mono_left (fun x hx => h x (List.mem_cons_of_mem _ hx))
    rw [List.countP_cons, List.countP_cons]
    rcases List.mem_cons.1 ht with rfl | ht
    · simp [hp, hq]; exact hm
    · have := countP_lt (l := l) (fun x hx => h x (List.mem_cons_of_mem _ hx)) ht hp hq
      have h0 : (if p a = true then 1 else 0) ≤ (if q a = true then 1 else 0) := by
        by_cases hpa : p a = true
        · simp [hpa, h a List.mem_cons_self hpa]
        · simp [hpa]
      omega
theorem pc_lt {L L' i : Nat} (h : ∀ j, L'.testBit j = true → L.testBit j = true) (hi : i < 63) (h1 : L.testBit i = true) (h2 : L'.testBit i = false) : pc L' + 1 ≤ pc L := by
  unfold pc
  exact countP_lt (fun x _ hx => h x hx) (List.mem_range.2 hi) h2 h1
theorem pc_zero {L : Nat} (hL : L < 2 ^ 63) (h : L ≠ 0) : 1 ≤ pc L := by
  obtain ⟨i, hi⟩ : ∃ i, L.testBit i = true := Nat.exists_testBit_of_ne_zero h
  have hlt : i < 63 := by
    by_cases hlt : i < 63
    · exact hlt
    · rw [Nat.testBit_lt_two_pow (Nat.lt_of_lt_of_le hL (Nat.pow_le_pow_right (by decide) (by omega)))] at hi; cases hi
  have := pc_lt (L' := 0) (fun j hj => by simp at hj) hlt hi (by simp)
  omega
theorem Rest.sub {t : List (List Bool)} {a : Bool} {R C L s d L' : Nat} (hT : Tab t R C) (hs : Sub t a R C L) (h : Rest R C L s d L') : Sub t a R C L' := by
  refine ⟨?_, fun r c hr hc hb => hs.2 r c hr hc ?_⟩
  · apply Nat.lt_pow_two_of_testBit
    intro j hj
    rw [h.2, Nat.testBit_lt_two_pow (Nat.lt_of_lt_of_le hs.1 (Nat.pow_le_pow_right (by decide) hj)), Bool.false_and]
  · rw [h.2, Bool.and_eq_true] at hb; exact hb.1
/-- a cover of the rest, and the rectangle -/
theorem cov_add {t : List (List Bool)} {a : Bool} {R C L s d L' k : Nat} (hT : Tab t R C) (hs : s < 2 ^ R) (hd : d < 2 ^ C) (h : Rest R C L s d L') (hm : Mono t a R C (s, d)) (hc : Cov t a R C k L') : Cov t a R C (k + 1) L := by
  obtain ⟨ps, h1, h2, h3⟩ := hc
  refine ⟨(s, d) :: ps, by simp; omega, ?_, ?_⟩
  · intro p hp
    rcases List.mem_cons.1 hp with rfl | hp
    · exact hm
    · exact h2 p hp
  · intro r c hr hc hb
    cases hin : (s.testBit r && d.testBit c) with
    | true => exact ⟨(s, d), by simp, by simpa using hin⟩
    | false =>
      obtain ⟨p, hp, hp2⟩ := h3 r c hr hc (by rw [h.2, hb, in_rect hs hd hT.r1.2 hT.c1.2 hc, hin]; rfl)
      exact ⟨p, List.mem_cons_of_mem _ hp, hp2⟩
/-- a rectangle of a cover, grown; the others cover the rest -/
theorem cov_cut {t : List (List Bool)} {a : Bool} {R C L k r0 c0 : Nat} (hT : Tab t R C) (hr0 : r0 < R) (hc0 : c0 < C) (hb : L.testBit (C * r0 + c0) = true) (hc : Cov t a R C k L) :
    ∃ s d k', s < 2 ^ R ∧ d < 2 ^ C ∧ s.testBit r0 = true ∧ d.testBit c0 = true ∧ Mono t a R C (s, d) ∧ Whole t a R C s d ∧ k = k' + 1 ∧ ∀ L', Rest R C L s d L' → Cov t a R C k' L' := by
  obtain ⟨ps, h1, h2, h3⟩ := hc
  obtain ⟨p, hp, p1, p2⟩ := h3 r0 c0 hr0 hc0 hb
  have hm := h2 p hp
  obtain ⟨l1, l2, rfl⟩ := List.append_of_mem hp
  have hs : ∀ r, p.1.testBit r = true → (rowsFor t a R C p.2).testBit r = true := by
    intro r hr
    rw [rows_bit]
    exact ⟨(hm r c0 hr p2).1, fun c _ hd => (hm r c hr hd).2.2⟩
  have hd : ∀ c, p.2.testBit c = true → (colsFor t a R C (rowsFor t a R C p.2)).testBit c = true := by
    intro c hc
    rw [cols_bit]
    have hcC := (hm r0 c p1 hc).2.1
    exact ⟨hcC, fun r _ hr => ((rows_bit _ _ _ _ _ _).1 hr).2 c hcC hc⟩
  refine ⟨rowsFor t a R C p.2, colsFor t a R C (rowsFor t a R C p.2), l1.length + l2.length + (k - (l1 ++ p :: l2).length), rows_lt _ _ _ _ _, cols_lt _ _ _ _ _, hs r0 p1, hd c0 p2, ?_, ⟨?_, ?_⟩, ?_, ?_⟩
  · intro r c hr hc
    have e1 := (rows_bit _ _ _ _ _ _).1 hr
    have e2 := (cols_bit _ _ _ _ _ _).1 hc
    exact ⟨e1.1, e2.1, e2.2 r e1.1 hr⟩
  · intro r hr hb
    by_cases hex : ∃ c, c < C ∧ p.2.testBit c = true ∧ ce t a r c = false
    · obtain ⟨c, c1, c2, c3⟩ := hex
      exact ⟨c, c1, hd c c2, c3⟩
    · have : (rowsFor t a R C p.2).testBit r = true := by
        rw [rows_bit]
        refine ⟨hr, fun c hc hd => ?_⟩
        cases h : ce t a r c with
        | true => rfl
        | false => exact (hex ⟨c, hc, hd, h⟩).elim
      rw [hb] at this; cases this
  · intro c hc hb
    by_cases hex : ∃ r, r < R ∧ (rowsFor t a R C p.2).testBit r = true ∧ ce t a r c = false
    · exact hex
    · have : (colsFor t a R C (rowsFor t a R C p.2)).testBit c = true := by
        rw [cols_bit]
        refine ⟨hc, fun r hr hd => ?_⟩
        cases h : ce t a r c with
        | true => rfl
        | false => exact (hex ⟨r, hr, hd, h⟩).elim
      rw [hb] at this; cases this
  · simp only [List.length_append, List.length_cons] at h1 ⊢; omega
  · intro L' hL
    refine ⟨l1 ++ l2, by simp, fun q hq => h2 q ?_, fun r c hr hc hb => ?_⟩
    · rcases List.mem_append.1 hq with h | h
      · exact List.mem_append_left _ h
      · exact List.mem_append_right _ (List.mem_cons_of_mem _ h)
    · rw [hL.2, Bool.and_eq_true, in_rect (rows_lt _ _ _ _ _) (cols_lt _ _ _ _ _) hT.r1.2 hT.c1.2 hc] at hb
      obtain ⟨q, hq, q1, q2⟩ := h3 r c hr hc hb.1
      rcases List.mem_append.1 hq with h | h
      · exact ⟨q, List.mem_append_left _ h, q1, q2⟩
      · rcases List.mem_cons.1 h with rfl | h
        · rw [hs r q1, hd c q2] at hb; cases hb.2
        · exact ⟨q, List.mem_append_right _ h, q1, q2⟩
def Good (t : List (List Bool)) (a : Bool) (R C m L : Nat) : Prop := Cov t a R C m L ∧ ∀ k, Cov t a R C k L → m ≤ k
theorem Good.uniq {t : List (List Bool)} {a : Bool} {R C m m' L : Nat} (h : Good t a R C m L) (h' : Good t a R C m' L) : m = m' := Nat.le_antisymm (h.2 _ h'.1) (h'.2 _ h.1)
/-- one rectangle tried -/
theorem try_ok {t : List (List Bool)} {a : Bool} {R C : Nat} (hT : Tab t R C) {v1 : List Bool} (hv1 : v1.length = C) {L : Nat} (hL : Sub t a R C L) {r0 c0 : Nat} (hr0 : r0 < R) (hc0 : c0 < C) (hb : L.testBit (C * r0 + c0) = true) {fuel : Nat} (hf : 40 ≤ fuel)
    (IH : ∀ L', Sub t a R C L' → pc L' + 1 ≤ pc L → ∃ m : Nat, ref_Rects fuel t a (L' : Int) = some (m : Int) ∧ Good t a R C m L')
    {s d : Nat} (hs : s < 2 ^ R) (hd : d < 2 ^ C) (hs0 : s.testBit r0 = true) {best : Nat} (hbest : Cov t a R C best L) (hb16 : best ≤ 16) (z : Int) :
    ∃ best' : Nat, ref_Rects_g1782 t a (L : Int) v1 ((C * r0 + c0 : Nat) : Int) fuel (ref_Rects fuel) (z, (s : Int)) ((best : Int), (d : Int)) = some (best' : Int) ∧ Cov t a R C best' L ∧ best' ≤ best ∧
      ((d.testBit c0 = true ∧ Mono t a R C (s, d) ∧ Whole t a R C s d) → ∀ k, (∀ L', Rest R C L s d L' → Cov t a R C k L') → best' ≤ k + 1) := by
  have hn := hT.n
  have hr1 := hT.r1
  have hc1 := hT.c1
  have hd63 : d < 2 ^ 63 := two63 hd (by omega)
  have hs63 : s < 2 ^ 63 := two63 hs (by omega)
  have hL63 : L < 2 ^ 63 := two63 hL.1 hn.2
  have hat := hT.at hr0 hc0
  have hmod : Int.tmod ((C * r0 + c0 : Nat) : Int) (List.length v1 : Int) = (c0 : Int) := by
    rw [hv1]
    have : Int.tmod ((C * r0 + c0 : Nat) : Int) (C : Int) = (((C * r0 + c0) % C : Nat) : Int) := rfl
    rw [this, (cell_of (C := C) (r := r0) hc0 rfl).2]
  unfold ref_Rects_g1782
  dsimp only
  rw [hmod, bit_eq hd63 (by omega), bind_some']
  cases hdc : d.testBit c0 with
  | false => exact ⟨best, rfl, hbest, Nat.le_refl _, fun h => by cases h.1⟩
  | true =>
    obtain ⟨L', l1, l2, l3⟩ := clr_all hT a hv1 hd (best : Int) (lst s) true L 0 (fun v hv => by obtain ⟨r, h1, h2, _⟩ := lst_lt hs hv; exact ⟨r, h1, h2⟩) hL63
    have hrest : Rest R C L s d L' := ⟨l2, l3⟩
    rw [Bool.not_true, cond_false, sr_listof hs63, bind_some', l1, bind_some', Bool.true_and]
    dsimp only
    cases hall : (lst s).all fun u => (lst d).all fun v => ce t a u.toNat v.toNat with
    | false =>
      refine ⟨best, rfl, hbest, Nat.le_refl _, fun ⟨_, hm, _⟩ => ?_⟩
      exfalso
      have : ((lst s).all fun u => (lst d).all fun v => ce t a u.toNat v.toNat) = true := by
        rw [List.all_eq_true]
        intro u hu
        rw [List.all_eq_true]
        intro v hv
        obtain ⟨r, _, rfl, h1⟩ := lst_lt hs hu
        obtain ⟨c, _, rfl, h2⟩ := lst_lt hd hv
        exact (hm r c h1 h2).2.2
      rw [hall] at this; cases this
    | true =>
      have hm : Mono t a R C (s, d) := by
        intro r c h1 h2
        have hr : r < R := by
          by_cases hlt : r < R
          · exact hlt
          · rw [Nat.testBit_lt_two_pow (Nat.lt_of_lt_of_le hs (Nat.pow_le_pow_right (by decide) (by omega)))] at h1; cases h1
        have hc : c < C := by
          by_cases hlt : c < C
          · exact hlt
          · rw [Nat.testBit_lt_two_pow (Nat.lt_of_lt_of_le hd (Nat.pow_le_pow_right (by decide) (by omega)))] at h2; cases h2
        have h3 := List.all_eq_true.1 (List.all_eq_true.1 hall _ (mem_lst (by omega) h1)) _ (mem_lst (by omega) h2)
        exact ⟨hr, hc, h3⟩
      obtain ⟨w, w1, w2⟩ := whole_ok hT a (fuel := fuel) (by omega) hs hd
      rw [cond_true, w1, bind_some', bind_some']
      cases w with
      | false => exact ⟨best, rfl, hbest, Nat.le_refl _, fun ⟨_, _, hw⟩ => by cases w2 hw⟩
      | true =>
        have hsub := hrest.sub hT hL
        have hpc : pc L' + 1 ≤ pc L := by
          refine pc_lt (i := C * r0 + c0) (fun j hj => ?_) (by omega) hb ?_
          · rw [l3, Bool.and_eq_true] at hj; exact hj.1
          · rw [l3, in_rect hs hd hr1.2 hc1.2 hc0, hs0, hdc]; simp
        obtain ⟨m, m1, m2, m3⟩ := IH L' hsub hpc
        have hcov := cov_add hT hs hd hrest hm m2
        rw [cond_true, m1, bind_some']
        have hm16 : m ≤ 16 := by
          have h1 := m3 _ (cov_single hT hsub)
          have h2 : pc L' ≤ 16 := by
            have := lst_up hsub.1
            rw [← lst_len]
            cases hl : lst L' with
            | nil => simp
            | cons x q =>
              rw [hl] at this
              have a := Up.len this
              have b := this.1
              simp only [List.length_cons]; omega
          omega
        have e1 : w64 ((1 : Int) + (m : Int)) = ((m + 1 : Nat) : Int) := by rw [w64_id (by omega) (by omega)]; omega
        rw [e1]
        by_cases hlt : m + 1 < best
        · rw [show decide (((m + 1 : Nat) : Int) < (best : Int)) = true from decide_eq_true (by omega), cond_true]
          exact ⟨m + 1, rfl, hcov, by omega, fun _ k hk => by have := m3 k (hk L' hrest); omega⟩
        · rw [show decide (((m + 1 : Nat) : Int) < (best : Int)) = false from decide_eq_false (by omega), cond_false]
          exact ⟨best, rfl, hbest, Nat.le_refl _, fun _ k hk => by have := m3 k (hk L' hrest); omega⟩
theorem bit_pos {s r : Nat} (h : s.testBit r = true) : 1 ≤ s := by
  cases s with
  | zero => simp at h
  | succ s => omega
theorem rects_ok {t : List (List Bool)} {a : Bool} {R C : Nat} (hT : Tab t R C) : ∀ (n fuel L : Nat), pc L ≤ n → n + 41 ≤ fuel → Sub t a R C L → ∃ m : Nat, ref_Rects fuel t a (L : Int) = some (m : Int) ∧ Good t a R C m L := by
  intro n
  induction n with
  | zero =>
    intro fuel L hp hf hL
    obtain ⟨fuel, rfl⟩ : ∃ q, fuel = q + 1 := ⟨fuel - 1, by omega⟩
    have h0 := (hT.row (r := 0) (by have := hT.r1; omega)).1
    have i0 : idx t (0 : Int) = some (t.getD 0 []) := h0
    by_cases hz : L = 0
    · subst hz
      refine ⟨0, ?_, ⟨[], by simp, by simp, fun r c _ _ h => by simp at h⟩, fun k _ => Nat.zero_le _⟩
      unfold ref_Rects ref_Rects_step
      rw [i0]; rfl
    · have := pc_zero (two63 hL.1 hT.n.2) hz
      omega
  | succ n IH =>
    intro fuel L hp hf hL
    obtain ⟨fuel, rfl⟩ : ∃ q, fuel = q + 1 := ⟨fuel - 1, by omega⟩
    have hn := hT.n
    have hr1 := hT.r1
    have hc1 := hT.c1
    obtain ⟨h0, h0l⟩ := hT.row (r := 0) (by omega)
    have i0 : idx t (0 : Int) = some (t.getD 0 []) := h0
    by_cases hz : L = 0
    · subst hz
      refine ⟨0, ?_, ⟨[], by simp, by simp, fun r c _ _ h => by simp at h⟩, fun k _ => Nat.zero_le _⟩
      unfold ref_Rects ref_Rects_step
      rw [i0]; rfl
    · have hL63 := two63 hL.1 hn.2
      have hp1 := pc_zero hL63 hz
      have hlen := lst_len L
      unfold ref_Rects ref_Rects_step
      have hLz : ((L : Int) == (0 : Int)) = false := by simp; omega
      rw [i0, bind_some', hLz, cond_false, sr_listof hL63, bind_some', size_eq hL63]
      generalize t.getD 0 [] = v1 at *
      cases hl : lst L with
      | nil => rw [hl] at hlen; simp at hlen; omega
      | cons v0 rest =>
        obtain ⟨i, hi, rfl, hib⟩ := lst_lt hL.1 (v := v0) (by rw [hl]; simp)
        obtain ⟨q1, q2, q3⟩ := cell_in hc1.1 hi
        generalize i / C = r0 at *
        generalize i % C = c0 at *
        subst q3
        have i1 : idx (((C * r0 + c0 : Nat) : Int) :: rest) (0 : Int) = some ((C * r0 + c0 : Nat) : Int) := rfl
        rw [i1, bind_some', bind_some']
        have hp16 : pc L ≤ 16 := by
          have hu := lst_up hL.1
          rw [← lst_len, hl]
          rw [hl] at hu
          have a := Up.len hu
          have b := hu.1
          simp only [List.length_cons]; omega
        have IH' : ∀ L', Sub t a R C L' → pc L' + 1 ≤ pc L → ∃ m : Nat, ref_Rects fuel t a (L' : Int) = some (m : Int) ∧ Good t a R C m L' := fun L' h1 h2 => IH fuel L' (by omega) (by omega) h1
        have hR16 : 2 ^ R ≤ 16 := Nat.pow_le_pow_right (n := 2) (by decide) hr1.2
        have hC16 : 2 ^ C ≤ 16 := Nat.pow_le_pow_right (n := 2) (by decide) hc1.2
        obtain ⟨y, g1, m, rfl, g2, g3⟩ := iter_inv (f := ref_Rects_b1789 t a (L : Int) v1 ((C * r0 + c0 : Nat) : Int) fuel (ref_Rects fuel))
          (fun x => ∃ best s : Nat, x = ((best : Int), (s : Int)) ∧ 1 ≤ s ∧ s ≤ 2 ^ R ∧ best ≤ 16 ∧ Cov t a R C best L ∧ ∀ s' d', s' < s → d' < 2 ^ C → s'.testBit r0 = true → d'.testBit c0 = true → Mono t a R C (s', d') → Whole t a R C s' d' → ∀ k, (∀ L', Rest R C L s' d' L' → Cov t a R C k L') → best ≤ k + 1)
          (fun x => (20 - x.2).toNat)
          (fun y => ∃ m : Nat, y = (m : Int) ∧ Cov t a R C m L ∧ ∀ s' d', s' < 2 ^ R → d' < 2 ^ C → s'.testBit r0 = true → d'.testBit c0 = true → Mono t a R C (s', d') → Whole t a R C s' d' → ∀ k, (∀ L', Rest R C L s' d' L' → Cov t a R C k L') → m ≤ k + 1)
          (by
            rintro _ ⟨best, s, rfl, hs1, hs2, hb16, hcov, hall⟩
            have hwR : IntKind.wrap .u64 (R : Int) = (R : Int) := wrap_u64 (by omega) (by omega)
            have hckR : ck (0 ≤ (R : Int)) = some () := ck_ok (by omega)
            unfold ref_Rects_b1789
            dsimp only
            rw [hT.hr, hwR, hckR, bind_some', bShl_one (by omega)]
            by_cases hlt : s < 2 ^ R
            · have hs63 := two63 hlt (by omega)
              rw [show decide ((s : Int) < ((2 ^ R : Nat) : Int)) = true from decide_eq_true (by omega), cond_true]
              have hg : ∃ best' : Nat, ref_Rects_g1787 t a (L : Int) v1 ((C * r0 + c0 : Nat) : Int) fuel (ref_Rects fuel) ((best : Int), (s : Int)) = some (best' : Int) ∧ best' ≤ best ∧ Cov t a R C best' L ∧ ∀ d', d' < 2 ^ C → s.testBit r0 = true → d'.testBit c0 = true → Mono t a R C (s, d') → Whole t a R C s d' → ∀ k, (∀ L', Rest R C L s d' L' → Cov t a R C k L') → best' ≤ k + 1 := by
                unfold ref_Rects_g1787
                have hckC : ck ((List.length v1 : Int) ≠ 0) = some () := ck_ok (by omega)
                have hdiv : w64 (Int.tdiv ((C * r0 + c0 : Nat) : Int) (List.length v1 : Int)) = (r0 : Int) := by
                  rw [h0l]
                  have : Int.tdiv ((C * r0 + c0 : Nat) : Int) (C : Int) = (((C * r0 + c0) / C : Nat) : Int) := rfl
                  rw [this, (cell_of (C := C) (r := r0) q2 rfl).1, w64_id (by omega) (by omega)]
                rw [hckC, bind_some', hdiv]
                dsimp only
                rw [bit_eq hs63 (by omega), bind_some']
                cases hsr : s.testBit r0 with
                | false => exact ⟨best, rfl, Nat.le_refl _, hcov, fun d' _ h => by cases h⟩
                | true =>
                  rw [Bool.not_true, cond_false]
                  obtain ⟨y, g1, m, rfl, g2, g3, g4⟩ := iter_inv (f := ref_Rects_b1784 t a (L : Int) v1 ((C * r0 + c0 : Nat) : Int) fuel (ref_Rects fuel) ((best : Int), (s : Int)))
                    (fun x => ∃ b d : Nat, x = ((b : Int), (d : Int)) ∧ 1 ≤ d ∧ d ≤ 2 ^ C ∧ b ≤ best ∧ Cov t a R C b L ∧ ∀ d', d' < d → d'.testBit c0 = true → Mono t a R C (s, d') → Whole t a R C s d' → ∀ k, (∀ L', Rest R C L s d' L' → Cov t a R C k L') → b ≤ k + 1)
                    (fun x => (20 - x.2).toNat)
                    (fun y => ∃ m : Nat, y = (m : Int) ∧ m ≤ best ∧ Cov t a R C m L ∧ ∀ d', d' < 2 ^ C → d'.testBit c0 = true → Mono t a R C (s, d') → Whole t a R C s d' → ∀ k, (∀ L', Rest R C L s d' L' → Cov t a R C k L') → m ≤ k + 1)
                    (by
                      rintro _ ⟨b, d, rfl, hd1, hd2, hbb, hbc, hball⟩
                      have hwC : IntKind.wrap .u64 (C : Int) = (C : Int) := wrap_u64 (by omega) (by omega)
                      have hckC' : ck (0 ≤ (C : Int)) = some () := ck_ok (by omega)
                      unfold ref_Rects_b1784
                      dsimp only
                      rw [h0l, hwC, hckC', bind_some', bShl_one (by omega)]
                      by_cases hdlt : d < 2 ^ C
                      · rw [show decide ((d : Int) < ((2 ^ C : Nat) : Int)) = true from decide_eq_true (by omega), cond_true]
                        obtain ⟨b', b1, b2, b3, b4⟩ := try_ok hT h0l hL q1 q2 hib (fuel := fuel) (by omega) IH' hlt hdlt hsr hbc (by omega) (best : Int)
                        rw [b1, bind_some', w64_id (by omega) (by omega)]
                        refine ⟨_, rfl, ⟨b', d + 1, by simp, by omega, by omega, by omega, b2, fun d' hd' c1 c2 c3 k hk => ?_⟩, by dsimp only; omega⟩
                        by_cases e : d' = d
                        · subst e; exact b4 ⟨c1, c2, c3⟩ k hk
                        · have := hball d' (by omega) c1 c2 c3 k hk; omega
                      · rw [show decide ((d : Int) < ((2 ^ C : Nat) : Int)) = false from decide_eq_false (by omega), cond_false]
                        exact ⟨_, rfl, b, rfl, hbb, hbc, fun d' hd' c1 c2 c3 k hk => hball d' (by omega) c1 c2 c3 k hk⟩)
                    fuel ((best : Int), (1 : Int)) (by dsimp only; omega) ⟨best, 1, rfl, by omega, Nat.one_le_two_pow, Nat.le_refl _, hcov, fun d' hd' c1 => by have := bit_pos c1; omega⟩
                  rw [g1]
                  exact ⟨m, rfl, g2, g3, fun d' hd' _ c1 c2 c3 k hk => g4 d' hd' c1 c2 c3 k hk⟩
              obtain ⟨best', b1, b2, b3, b4⟩ := hg
              rw [b1, bind_some', w64_id (by omega) (by omega)]
              refine ⟨_, rfl, ⟨best', s + 1, by simp, by omega, by omega, by omega, b3, fun s' d' hs' hd' c0 c1 c2 c3 k hk => ?_⟩, by dsimp only; omega⟩
              by_cases e : s' = s
              · subst e; exact b4 d' hd' c0 c1 c2 c3 k hk
              · have := hall s' d' (by omega) hd' c0 c1 c2 c3 k hk; omega
            · rw [show decide ((s : Int) < ((2 ^ R : Nat) : Int)) = false from decide_eq_false (by omega), cond_false]
              exact ⟨_, rfl, best, rfl, hcov, fun s' d' hs' hd' c0 c1 c2 c3 k hk => hall s' d' (by omega) hd' c0 c1 c2 c3 k hk⟩)
          fuel (((pc L : Nat) : Int), (1 : Int)) (by dsimp only; omega) ⟨pc L, 1, rfl, by omega, Nat.one_le_two_pow, hp16, cov_single hT hL, fun s' d' hs' _ c0 => by have := bit_pos c0; omega⟩
        rw [g1]
        refine ⟨m, rfl, g2, fun k hk => ?_⟩
        obtain ⟨s, d, k', k1, k2, k3, k4, k5, k6, k7, k8⟩ := cov_cut hT q1 q2 hib hk
        have := g3 s d k1 k2 k3 k4 k5 k6 k' k8
        omega
theorem mask_c {C : Nat} (hC : C ≤ 4) : IntKind.wrap .u64 ((bShl .u64 (1 : Int) (C : Int)) - (1 : Int)) = ((2 ^ C - 1 : Nat) : Int) := by
  have h1 : 1 ≤ 2 ^ C := Nat.one_le_two_pow
  have h2 : 2 ^ C ≤ 16 := Nat.pow_le_pow_right (n := 2) (by decide) hC
  rw [uOne (by omega)]
  generalize 2 ^ C = z at *
  rw [wrap_u64 (by omega) (by omega)]; omega
theorem cr_mul (C r : Nat) : (C : Int) * (r : Int) = ((C * r : Nat) : Int) := by simp
theorem com_ok {t : List (List Bool)} {R C : Nat} (h : Tab t R C) (a : Bool) {v4 : List Bool} (hv : v4.length = C) {s : Nat} (hs : s < 2 ^ R) (z : List Int) :
    forL (talk_Rects_b185 v4 ((tm t a : Nat) : Int) ((s : Int), z)) (fun x974 => x974) t 0 ((2 ^ C - 1 : Nat) : Int) = some ((colsFor t a R C s : Nat) : Int) := by
  have hn := h.n
  have hr1 := h.r1
  have hc1 := h.c1
  have hs63 := two63 hs (by omega)
  have hT63 := two63 (tm_lt h a) hn.2
  obtain ⟨y, h1, rfl⟩ := forL_inv (body := talk_Rects_b185 v4 ((tm t a : Nat) : Int) ((s : Int), z)) (fin := fun x => x) (l := t) (x := ((2 ^ C - 1 : Nat) : Int)) (fun k x => x = ((colsFor t a k C s : Nat) : Int)) (fun y => y = ((colsFor t a R C s : Nat) : Int))
    (by
      congr 1
      apply Nat.eq_of_testBit_eq
      intro c
      rw [Nat.testBit_two_pow_sub_one, Bool.eq_iff_iff, decide_eq_true_eq, cols_bit]
      exact ⟨fun h => ⟨h, fun r hr => by omega⟩, fun h => h.1⟩)
    (by
      rintro r row _ hrow rfl
      have hrl := (List.getElem?_eq_some_iff.1 hrow).1
      have hr : r < R := by have := h.hr; omega
      have hat := h.at (r := r) (c := 0) hr (by omega)
      have hck : ck (0 ≤ (r : Int)) = some () := ck_ok (by omega)
      have hck2 : ck (0 ≤ ((C * r : Nat) : Int)) = some () := ck_ok (by omega)
      have hx63 : colsFor t a r C s < 2 ^ 63 := two63 (cols_lt t a r C s) (by omega)
      refine ⟨.next ((colsFor t a (r + 1) C s : Nat) : Int), ?_, rfl⟩
      unfold talk_Rects_b185 talk_Rects_g183
      dsimp only
      rw [hck, bind_some', uBit hs63 (by omega), hv, mask_c hc1.2, cr_mul, w64_id (by omega) (by omega), hck2]
      cases hsb : s.testBit r with
      | false =>
        rw [cond_false, bind_some']
        congr 3
        apply Nat.eq_of_testBit_eq
        intro c
        rw [Bool.eq_iff_iff, cols_bit, cols_bit]
        refine ⟨fun ⟨h1, h2⟩ => ⟨h1, fun r' hr' hb => ?_⟩, fun ⟨h1, h2⟩ => ⟨h1, fun r' hr' hb => h2 r' (by omega) hb⟩⟩
        by_cases e : r' = r
        · subst e; rw [hsb] at hb; cases hb
        · exact h2 r' (by omega) hb
      | true =>
        have hm : 2 ^ C - 1 < 2 ^ 63 := by
          have := two63 (x := 2 ^ C - 1) (k := C) (by have := Nat.two_pow_pos C; omega) (by omega)
          exact this
        have hd : tm t a / 2 ^ (C * r) < 2 ^ 63 := Nat.lt_of_le_of_lt (Nat.div_le_self _ _) hT63
        have ha2 : (tm t a / 2 ^ (C * r) &&& (2 ^ C - 1)) < 2 ^ 63 := Nat.lt_of_le_of_lt Nat.and_le_left hd
        rw [cond_true, bind_some', uShr (by omega), uAnd hd hm, uAnd hx63 ha2, bind_some']
        congr 3
        apply Nat.eq_of_testBit_eq
        intro c
        rw [Nat.testBit_and, Nat.testBit_and, Nat.testBit_div_two_pow, Nat.testBit_two_pow_sub_one, Bool.eq_iff_iff, Bool.and_eq_true, Bool.and_eq_true, decide_eq_true_eq, cols_bit, cols_bit]
        constructor
        · rintro ⟨⟨h1, h2⟩, h3, _⟩
          refine ⟨h1, fun r' hr' hb => ?_⟩
          by_cases e : r' = r
          · subst e
            rw [Nat.add_comm, tm_bit h a hr h1] at h3; exact h3
          · exact h2 r' (by omega) hb
        · rintro ⟨h1, h2⟩
          refine ⟨⟨h1, fun r' hr' hb => h2 r' (by omega) hb⟩, ?_, h1⟩
          rw [Nat.add_comm, tm_bit h a hr h1]
          exact h2 r (by omega) hsb)
    (by rintro x rfl; rw [h.hr])
  exact h1
theorem rect_ok {t : List (List Bool)} {R C : Nat} (h : Tab t R C) {v4 : List Bool} (hv : v4.length = C) {s d : Nat} (hs : s < 2 ^ R) (hd : d < 2 ^ C) (z : List Int) :
    ∃ y : Nat, forL (talk_Rects_b194 v4 ((s : Int), z) (d : Int)) (fun x => x) t 0 (0 : Int) = some (y : Int) ∧ y < 2 ^ (C * R) ∧ ∀ r c, c < C → r < R → y.testBit (C * r + c) = (s.testBit r && d.testBit c) := by
  have hn := h.n
  have hr1 := h.r1
  have hc1 := h.c1
  have hs63 := two63 hs (by omega)
  obtain ⟨w, h1, y, rfl, h2, h3⟩ := forL_inv (body := talk_Rects_b194 v4 ((s : Int), z) (d : Int)) (fin := fun x => x) (l := t) (x := (0 : Int))
    (fun k x => ∃ y : Nat, x = (y : Int) ∧ y < 2 ^ (C * k) ∧ ∀ r c, c < C → r < k → y.testBit (C * r + c) = (s.testBit r && d.testBit c)) (fun x => ∃ y : Nat, x = (y : Int) ∧ y < 2 ^ (C * R) ∧ ∀ r c, c < C → r < R → y.testBit (C * r + c) = (s.testBit r && d.testBit c))
    ⟨0, rfl, by simp, fun r c _ hr => by omega⟩
    (by
      rintro k row _ hrow ⟨y, rfl, hy, hb⟩
      have hkl := (List.getElem?_eq_some_iff.1 hrow).1
      have hk : k < R := by have := h.hr; omega
      have hCk : C * k + C ≤ C * R := by rw [← Nat.mul_succ]; exact Nat.mul_le_mul_left C hk
      have hck : ck (0 ≤ (k : Int)) = some () := ck_ok (by omega)
      have hck2 : ck (0 ≤ ((C * k : Nat) : Int)) = some () := ck_ok (by omega)
      have hpk : C * (k + 1) = C * k + C := Nat.mul_succ C k
      have hmono : 2 ^ (C * k) ≤ 2 ^ (C * (k + 1)) := Nat.pow_le_pow_right (by decide) (by omega)
      unfold talk_Rects_b194 talk_Rects_g192
      dsimp only
      rw [hck, bind_some', uBit hs63 (by omega), hv, cr_mul, w64_id (by omega) (by omega), hck2]
      cases hsb : s.testBit k with
      | false =>
        rw [cond_false, bind_some']
        refine ⟨_, rfl, y, rfl, by omega, fun r c hc hr => ?_⟩
        by_cases e : r = k
        · subst e
          rw [hsb, Bool.false_and]
          exact Nat.testBit_lt_two_pow (Nat.lt_of_lt_of_le hy (Nat.pow_le_pow_right (by decide) (by omega)))
        · exact hb r c hc (by omega)
      | true =>
        have hsh : d * 2 ^ (C * k) < 2 ^ (C * (k + 1)) := by
          rw [hpk, Nat.pow_add, Nat.mul_comm (2 ^ (C * k))]
          exact Nat.mul_lt_mul_of_pos_right hd (Nat.two_pow_pos _)
        have hy2 : y < 2 ^ (C * (k + 1)) := by omega
        have hor : y ||| d * 2 ^ (C * k) < 2 ^ (C * (k + 1)) := Nat.or_lt_two_pow hy2 hsh
        rw [cond_true, bind_some', uShl (by omega) (two63 hsh (by omega)), uOr (two63 hy2 (by omega)) (two63 hsh (by omega)), bind_some']
        refine ⟨_, rfl, y ||| d * 2 ^ (C * k), rfl, hor, fun r c hc hr => ?_⟩
        rw [Nat.testBit_or, Nat.testBit_mul_two_pow]
        by_cases e : r = k
        · subst e
          rw [hsb, Bool.true_and, Nat.testBit_lt_two_pow (Nat.lt_of_lt_of_le hy (Nat.pow_le_pow_right (by decide) (by omega))), Bool.false_or, decide_eq_true (by omega), Bool.true_and]
          congr 1; omega
        · have hlt : C * r + C ≤ C * k := by rw [← Nat.mul_succ]; exact Nat.mul_le_mul_left C (by omega)
          rw [decide_eq_false (by omega), Bool.false_and, Bool.or_false]
          exact hb r c hc (by omega))
    (by rintro x ⟨y, rfl, h2, h3⟩; rw [h.hr] at h2 h3; exact ⟨y, rfl, h2, h3⟩)
  exact ⟨y, h1, h2, h3⟩
/-- a closed rectangle's mask -/
def Ent (t : List (List Bool)) (a : Bool) (R C s y : Nat) : Prop := y < 2 ^ (C * R) ∧ ∀ r c, c < C → r < R → y.testBit (C * r + c) = (s.testBit r && (colsFor t a R C s).testBit c)
theorem list_ok {t : List (List Bool)} {R C : Nat} (h : Tab t R C) (a : Bool) {v4 : List Bool} (hv : v4.length = C) {fuel : Nat} (hf : 40 ≤ fuel) :
    ∃ rl : List Nat, iter (talk_Rects_b199 t v4 ((tm t a : Nat) : Int)) fuel ((1 : Int), []) = some (rl.map fun (n : Nat) => (n : Int)) ∧ rl.length ≤ 15 ∧ (∀ v ∈ rl, ∃ s, s < 2 ^ R ∧ Ent t a R C s v) ∧ ∀ s, 1 ≤ s → s < 2 ^ R → colsFor t a R C s ≠ 0 → ∃ v ∈ rl, Ent t a R C s v := by
  have hr1 := h.r1
  have hc1 := h.c1
  have hR16 : 2 ^ R ≤ 16 := Nat.pow_le_pow_right (n := 2) (by decide) hr1.2
  obtain ⟨y, h1, rl, rfl, h2⟩ := iter_inv (f := talk_Rects_b199 t v4 ((tm t a : Nat) : Int))
    (fun x => ∃ (s : Nat) (rl : List Nat), x = ((s : Int), rl.map fun (n : Nat) => (n : Int)) ∧ 1 ≤ s ∧ s ≤ 2 ^ R ∧ rl.length + 1 ≤ s ∧ (∀ v ∈ rl, ∃ s, s < 2 ^ R ∧ Ent t a R C s v) ∧ ∀ s', 1 ≤ s' → s' < s → colsFor t a R C s' ≠ 0 → ∃ v ∈ rl, Ent t a R C s' v)
    (fun x => (20 - x.1).toNat)
    (fun y => ∃ rl : List Nat, y = rl.map (fun (n : Nat) => (n : Int)) ∧ rl.length ≤ 15 ∧ (∀ v ∈ rl, ∃ s, s < 2 ^ R ∧ Ent t a R C s v) ∧ ∀ s, 1 ≤ s → s < 2 ^ R → colsFor t a R C s ≠ 0 → ∃ v ∈ rl, Ent t a R C s v)
    (by
      rintro _ ⟨s, rl, rfl, hs1, hs2, hlen, hin, hall⟩
      have hckR : ck (0 ≤ (R : Int)) = some () := ck_ok (by omega)
      have hckC : ck (0 ≤ (C : Int)) = some () := ck_ok (by omega)
      unfold talk_Rects_b199
      dsimp only
      rw [h.hr, hckR, bind_some', uOne (by omega)]
      by_cases hlt : s < 2 ^ R
      · rw [show decide ((s : Int) < ((2 ^ R : Nat) : Int)) = true from decide_eq_true (by omega), cond_true]
        obtain ⟨y, y1, y2, y3⟩ := rect_ok h hv hlt (cols_lt t a R C s) (rl.map fun (n : Nat) => (n : Int))
        have hw : IntKind.wrap .u64 ((s : Int) + 1) = ((s + 1 : Nat) : Int) := by rw [wrap_u64 (by omega) (by omega)]; omega
        unfold talk_Rects_g197
        rw [hv, hckC, bind_some', mask_c hc1.2, com_ok h a hv hlt, bind_some', y1, bind_some', hw]
        dsimp only
        by_cases hz : colsFor t a R C s = 0
        · rw [show (((colsFor t a R C s : Nat) : Int) != 0) = false by simp [hz], cond_false, bind_some']
          refine ⟨_, rfl, ⟨s + 1, rl, rfl, by omega, by omega, by omega, hin, fun s' g1 g2 g3 => ?_⟩, by dsimp only; omega⟩
          by_cases e : s' = s
          · subst e; exact (g3 hz).elim
          · exact hall s' g1 (by omega) g3
        · have hck2 : ck ((List.length (rl.map fun (n : Nat) => (n : Int)) : Int) + 1 ≤ 4294967296) = some () := ck_ok (by rw [List.length_map]; omega)
          rw [show (((colsFor t a R C s : Nat) : Int) != 0) = true by simp [hz], cond_true, hck2, bind_some', bind_some']
          have he : Ent t a R C s y := ⟨y2, y3⟩
          refine ⟨_, rfl, ⟨s + 1, rl ++ [y], by simp, by omega, by omega, by simp; omega, fun v hv => ?_, fun s' g1 g2 g3 => ?_⟩, by dsimp only; omega⟩
          · rcases List.mem_append.1 hv with hv | hv
            · exact hin v hv
            · simp at hv; subst hv; exact ⟨s, hlt, he⟩
          · by_cases e : s' = s
            · subst e; exact ⟨y, by simp, he⟩
            · obtain ⟨v, v1, v2⟩ := hall s' g1 (by omega) g3
              exact ⟨v, List.mem_append_left _ v1, v2⟩
      · rw [show decide ((s : Int) < ((2 ^ R : Nat) : Int)) = false from decide_eq_false (by omega), cond_false]
        exact ⟨_, rfl, rl, rfl, by omega, hin, fun s' g1 g2 g3 => hall s' g1 (by omega) g3⟩) fuel ((1 : Int), []) (by dsimp only; omega) ⟨1, [], rfl, by omega, Nat.one_le_two_pow, by simp, by simp, fun s' g1 g2 => by omega⟩
  exact ⟨rl, h1, h2⟩
theorem union_ok {n : Nat} (hn : n ≤ 16) {rl : List Nat} (hl : rl.length ≤ 15) (hb : ∀ v ∈ rl, v < 2 ^ n) {w : Nat} (hw : w < 2 ^ rl.length) (z : Int) :
    ∃ y : Nat, forL (talk_Rects_b272 (z, (w : Int))) (fun x => x) (rl.map fun (n : Nat) => (n : Int)) 0 (0 : Int) = some (y : Int) ∧ y < 2 ^ n ∧ ∀ j, y.testBit j = true ↔ ∃ i, i < rl.length ∧ w.testBit i = true ∧ (rl.getD i 0).testBit j = true := by
  have hw63 := two63 hw (by omega)
  obtain ⟨x, h1, y, rfl, h2, h3⟩ := forL_inv (body := talk_Rects_b272 (z, (w : Int))) (fin := fun x => x) (l := rl.map fun (n : Nat) => (n : Int)) (x := (0 : Int))
    (fun k x => ∃ y : Nat, x = (y : Int) ∧ y < 2 ^ n ∧ ∀ j, y.testBit j = true ↔ ∃ i, i < k ∧ w.testBit i = true ∧ (rl.getD i 0).testBit j = true)
    (fun x => ∃ y : Nat, x = (y : Int) ∧ y < 2 ^ n ∧ ∀ j, y.testBit j = true ↔ ∃ i, i < rl.length ∧ w.testBit i = true ∧ (rl.getD i 0).testBit j = true)
    ⟨0, rfl, Nat.two_pow_pos n, fun j => by simp⟩
    (by
      rintro k v _ hv ⟨y, rfl, hy, hj⟩
      rw [List.getElem?_map] at hv
      cases hk : rl[k]? with
      | none => rw [hk] at hv; cases hv
      | some u =>
        rw [hk] at hv
        simp only [Option.map_some, Option.some.injEq] at hv
        subst hv
        have hkl := (List.getElem?_eq_some_iff.1 hk).1
        have hu := hb u (List.mem_of_getElem? hk)
        have hg : rl.getD k 0 = u := by rw [List.getD_eq_getElem?_getD, hk]; rfl
        have hck : ck (0 ≤ (k : Int)) = some () := ck_ok (by omega)
        unfold talk_Rects_b272
        dsimp only
        rw [hck, bind_some', uBit hw63 (by omega)]
        cases hwk : w.testBit k with
        | false =>
          rw [cond_false, bind_some']
          refine ⟨_, rfl, y, rfl, hy, fun j => ?_⟩
          rw [hj]
          constructor
          · rintro ⟨i, i1, i2, i3⟩; exact ⟨i, by omega, i2, i3⟩
          · rintro ⟨i, i1, i2, i3⟩
            by_cases e : i = k
            · subst e; rw [hwk] at i2; cases i2
            · exact ⟨i, by omega, i2, i3⟩
        | true =>
          rw [cond_true, uOr (two63 hy hn) (two63 hu hn), bind_some']
          refine ⟨_, rfl, y ||| u, rfl, Nat.or_lt_two_pow hy hu, fun j => ?_⟩
          rw [Nat.testBit_or, Bool.or_eq_true, hj]
          constructor
          · rintro (⟨i, i1, i2, i3⟩ | h)
            · exact ⟨i, by omega, i2, i3⟩
            · exact ⟨k, by omega, hwk, by rw [hg]; exact h⟩
          · rintro ⟨i, i1, i2, i3⟩
            by_cases e : i = k
            · subst e; rw [hg] at i3; exact .inr i3
            · exact .inl ⟨i, by omega, i2, i3⟩)
    (by rintro x ⟨y, rfl, h2, h3⟩; rw [List.length_map] at h3; exact ⟨y, rfl, h2, h3⟩)
  exact ⟨y, h1, h2, h3⟩
theorem one_le (i : Nat) : ∀ n, (List.range n).countP (fun j => decide (i = j)) = if i < n then 1 else 0
  | 0 => rfl
  | n + 1 => by
    rw [List.range_succ, List.countP_append, one_le i n]
    by_cases e : i = n
    · subst e; simp
    · by_cases h : i < n
      · rw [if_pos h, if_pos (by omega)]; simp [e]
      · rw [if_neg h, if_neg (by omega)]; simp [e]
theorem countP_or {α : Type} (p q : α → Bool) : ∀ l : List α, l.countP (fun x => p x || q x) ≤ l.countP p + l.countP q
  | [] => by simp
  | a :: l => by
    have ih := countP_or p q l
    rw [List.countP_cons, List.countP_cons, List.countP_cons]
    cases p a <;> cases q a <;> simp <;> omega
theorem pc_or (w i : Nat) : pc (w ||| 2 ^ i) ≤ pc w + 1 := by
  unfold pc
  have h1 : (List.range 63).countP (w ||| 2 ^ i).testBit = (List.range 63).countP (fun j => w.testBit j || decide (i = j)) := by
    congr 1
    funext j
    rw [Nat.testBit_or, Nat.testBit_two_pow]
  have h2 := countP_or w.testBit (fun j => decide (i = j)) (List.range 63)
  have h3 := one_le i 63
  rw [h1]
  split at h3 <;> omega
/-- closed rectangles for any rectangles -/
theorem pick {t : List (List Bool)} {R C : Nat} (h : Tab t R C) (a : Bool) {rl : List Nat} (hall : ∀ s, 1 ≤ s → s < 2 ^ R → colsFor t a R C s ≠ 0 → ∃ v ∈ rl, Ent t a R C s v) : ∀ ps : List (Nat × Nat), (∀ p ∈ ps, Mono t a R C p) →
    ∃ w, w < 2 ^ rl.length ∧ pc w ≤ ps.length ∧ ∀ p ∈ ps, ∀ r c, p.1.testBit r = true → p.2.testBit c = true → ∃ i, i < rl.length ∧ w.testBit i = true ∧ (rl.getD i 0).testBit (C * r + c) = true
  | [], _ => ⟨0, Nat.two_pow_pos _, by decide, by simp⟩
  | p :: ps, hm => by
    obtain ⟨w, w1, w2, w3⟩ := pick h a hall ps (fun q hq => hm q (List.mem_cons_of_mem _ hq))
    have hp := hm p (by simp)
    by_cases hex : ∃ r c, p.1.testBit r = true ∧ p.2.testBit c = true
    · obtain ⟨r0, c0, e1, e2⟩ := hex
      have hs : p.1 < 2 ^ R := by
        apply Nat.lt_pow_two_of_testBit
        intro i hi
        cases hb : p.1.testBit i with
        | false => rfl
        | true => have := (hp i c0 hb e2).1; omega
      have hcs : ∀ c, p.2.testBit c = true → (colsFor t a R C p.1).testBit c = true := by
        intro c hc
        rw [cols_bit]
        exact ⟨(hp r0 c e1 hc).2.1, fun r _ hr => (hp r c hr hc).2.2⟩
      have hnz : colsFor t a R C p.1 ≠ 0 := by
        intro e
        have := hcs c0 e2
        rw [e] at this; simp at this
      obtain ⟨v, v1, v2, v3⟩ := hall p.1 (bit_pos e1) hs hnz
      obtain ⟨i, hi⟩ := List.getElem?_of_mem v1
      have hil := (List.getElem?_eq_some_iff.1 hi).1
      have hg : rl.getD i 0 = v := by rw [List.getD_eq_getElem?_getD, hi]; rfl
      refine ⟨w ||| 2 ^ i, Nat.or_lt_two_pow w1 (Nat.pow_lt_pow_right (by decide) hil), by have := pc_or w i; simp only [List.length_cons]; omega, ?_⟩
      intro q hq r c hr hc
      rcases List.mem_cons.1 hq with rfl | hq
      · have := hp r c hr hc
        refine ⟨i, hil, by rw [Nat.testBit_or, Nat.testBit_two_pow]; simp, ?_⟩
        rw [hg, v3 r c this.2.1 this.1, hr, hcs c hc]; rfl
      · obtain ⟨j, j1, j2, j3⟩ := w3 q hq r c hr hc
        exact ⟨j, j1, by rw [Nat.testBit_or, j2]; rfl, j3⟩
    · refine ⟨w, w1, by simp only [List.length_cons]; omega, ?_⟩
      intro q hq r c hr hc
      rcases List.mem_cons.1 hq with rfl | hq
      · exact (hex ⟨r, c, hr, hc⟩).elim
      · exact w3 q hq r c hr hc
theorem ent_mono {t : List (List Bool)} {a : Bool} {R C s : Nat} (hs : s < 2 ^ R) : Mono t a R C (s, colsFor t a R C s) := by
  intro r c hr hc
  have e := (cols_bit _ _ _ _ _ _).1 hc
  have hrR : r < R := by
    by_cases hlt : r < R
    · exact hlt
    · rw [Nat.testBit_lt_two_pow (Nat.lt_of_lt_of_le hs (Nat.pow_le_pow_right (by decide) (by omega)))] at hr; cases hr
  exact ⟨hrR, e.1, e.2 r hrR hr⟩
theorem unpick {t : List (List Bool)} {R C : Nat} (a : Bool) {rl : List Nat} (hin : ∀ v ∈ rl, ∃ s, s < 2 ^ R ∧ Ent t a R C s v) : ∀ l : List Int, (∀ v ∈ l, ∃ i : Nat, i < rl.length ∧ v = (i : Int)) →
    ∃ ps : List (Nat × Nat), ps.length = l.length ∧ (∀ p ∈ ps, Mono t a R C p) ∧ ∀ i : Nat, (i : Int) ∈ l → ∀ r c, c < C → r < R → (rl.getD i 0).testBit (C * r + c) = true → ∃ p ∈ ps, p.1.testBit r = true ∧ p.2.testBit c = true
  | [], _ => ⟨[], rfl, by simp, by simp⟩
  | v :: l, hv => by
    obtain ⟨ps, h1, h2, h3⟩ := unpick a hin l (fun u hu => hv u (List.mem_cons_of_mem _ hu))
    obtain ⟨k, hk, rfl⟩ := hv v (by simp)
    have hm : rl.getD k 0 ∈ rl := by
      rw [List.getD_eq_getElem?_getD, List.getElem?_eq_getElem hk]; exact List.getElem_mem hk
    obtain ⟨s, hs, e1, e2⟩ := hin _ hm
    refine ⟨(s, colsFor t a R C s) :: ps, by simp [h1], ?_, ?_⟩
    · intro p hp
      rcases List.mem_cons.1 hp with rfl | hp
      · exact ent_mono hs
      · exact h2 p hp
    · intro i hi r c hc hr hb
      rcases List.mem_cons.1 hi with e | hi
      · have : i = k := by omega
        subst this
        rw [e2 r c hc hr, Bool.and_eq_true] at hb
        exact ⟨_, List.mem_cons_self, hb.1, hb.2⟩
      · obtain ⟨p, p1, p2⟩ := h3 i hi r c hc hr hb
        exact ⟨p, List.mem_cons_of_mem _ p1, p2⟩
theorem sub_tm {t : List (List Bool)} {R C : Nat} (h : Tab t R C) (a : Bool) : Sub t a R C (tm t a) := ⟨tm_lt h a, fun r c hr hc hb => by rw [tm_bit h a hr hc] at hb; exact hb⟩
theorem pc16 {R C L : Nat} (hn : C * R ≤ 16) (hL : L < 2 ^ (C * R)) : pc L ≤ 16 := by
  have hu := lst_up hL
  rw [← lst_len]
  cases hl : lst L with
  | nil => simp
  | cons x q =>
    rw [hl] at hu
    have a := Up.len hu
    have b := hu.1
    simp only [List.length_cons]; omega
theorem best_p {t : List (List Bool)} {R C : Nat} (h : Tab t R C) (a : Bool) {rl : List Nat} (hl : rl.length ≤ 15) (hin : ∀ v ∈ rl, ∃ s, s < 2 ^ R ∧ Ent t a R C s v) (hall : ∀ s, 1 ≤ s → s < 2 ^ R → colsFor t a R C s ≠ 0 → ∃ v ∈ rl, Ent t a R C s v) :
    ∃ m : Nat, iter (talk_Rects_b277 ((tm t a : Nat) : Int) (rl.map fun (n : Nat) => (n : Int))) 70000 (((pc (tm t a) : Nat) : Int), (0 : Int)) = some (m : Int) ∧ Good t a R C m (tm t a) := by
  have hn := h.n
  have hK : 2 ^ rl.length ≤ 32768 := Nat.pow_le_pow_right (n := 2) (by decide) hl
  have hb : ∀ v ∈ rl, v < 2 ^ (C * R) := fun v hv => by obtain ⟨s, _, e, _⟩ := hin v hv; exact e
  have huni : ∀ w y, w < 2 ^ rl.length → y < 2 ^ (C * R) → (∀ j, y.testBit j = true ↔ ∃ i, i < rl.length ∧ w.testBit i = true ∧ (rl.getD i 0).testBit j = true) → ∀ j, y.testBit j = true → (tm t a).testBit j = true := by
    intro w y _ hy hj j hyj
    obtain ⟨i, i1, _, i3⟩ := (hj j).1 hyj
    have hjlt : j < C * R := by
      by_cases hlt : j < C * R
      · exact hlt
      · rw [Nat.testBit_lt_two_pow (Nat.lt_of_lt_of_le hy (Nat.pow_le_pow_right (by decide) (by omega)))] at hyj; cases hyj
    obtain ⟨q1, q2, q3⟩ := cell_in h.c1.1 hjlt
    have hm : rl.getD i 0 ∈ rl := by
      rw [List.getD_eq_getElem?_getD, List.getElem?_eq_getElem i1]; exact List.getElem_mem i1
    obtain ⟨s, hs, e1, e2⟩ := hin _ hm
    rw [← q3, e2 _ _ q2 q1, Bool.and_eq_true] at i3
    rw [← q3, tm_bit h a q1 q2]
    exact (ent_mono hs _ _ i3.1 i3.2).2.2
  obtain ⟨y, h1, m, rfl, h2⟩ := iter_inv (f := talk_Rects_b277 ((tm t a : Nat) : Int) (rl.map fun (n : Nat) => (n : Int)))
    (fun x => ∃ best w : Nat, x = ((best : Int), (w : Int)) ∧ w ≤ 2 ^ rl.length ∧ best ≤ 16 ∧ Cov t a R C best (tm t a) ∧ ∀ w' y, w' < w → y < 2 ^ (C * R) → (∀ j, y.testBit j = true ↔ ∃ i, i < rl.length ∧ w'.testBit i = true ∧ (rl.getD i 0).testBit j = true) → y = tm t a → best ≤ pc w')
    (fun x => (40000 - x.2).toNat) (fun y => ∃ m : Nat, y = (m : Int) ∧ Good t a R C m (tm t a))
    (by
      rintro _ ⟨best, w, rfl, hw, hb16, hcov, hmin⟩
      unfold talk_Rects_b277
      dsimp only
      rw [List.length_map, uOne (by omega)]
      by_cases hlt : w < 2 ^ rl.length
      · rw [show decide ((w : Int) < ((2 ^ rl.length : Nat) : Int)) = true from decide_eq_true (by omega), cond_true]
        obtain ⟨y, y1, y2, y3⟩ := union_ok hn.2 hl hb hlt (best : Int)
        have hw1 : IntKind.wrap .u64 ((w : Int) + 1) = ((w + 1 : Nat) : Int) := by rw [wrap_u64 (by omega) (by omega)]; omega
        have huq : ∀ y', (∀ j, y'.testBit j = true ↔ ∃ i, i < rl.length ∧ w.testBit i = true ∧ (rl.getD i 0).testBit j = true) → y' = y := by
          intro y' hy'
          apply Nat.eq_of_testBit_eq
          intro j
          rw [Bool.eq_iff_iff, hy', y3]
        unfold talk_Rects_g275
        dsimp only
        rw [y1, bind_some', hw1]
        by_cases he : y = tm t a
        · rw [show ((y : Int) == ((tm t a : Nat) : Int)) = true by simp [he], cond_true, ones16 (by omega), bind_some', bind_some']
          have hcw : Cov t a R C (pc w) (tm t a) := by
            obtain ⟨ps, p1, p2, p3⟩ := unpick (t := t) (R := R) (C := C) a hin (lst w) (fun v hv => by obtain ⟨i, a1, a2, _⟩ := lst_lt hlt hv; exact ⟨i, a1, a2⟩)
            refine ⟨ps, by rw [p1, lst_len]; omega, p2, fun r c hr hc hbit => ?_⟩
            rw [← he] at hbit
            obtain ⟨i, i1, i2, i3⟩ := (y3 _).1 hbit
            exact p3 i (mem_lst (by omega) i2) r c hc hr i3
          have hmn : imin (best : Int) ((pc w : Nat) : Int) = ((min best (pc w) : Nat) : Int) := by
            unfold imin
            by_cases hl2 : pc w < best
            · rw [if_pos (by omega), Nat.min_eq_right (by omega)]
            · rw [if_neg (by omega), Nat.min_eq_left (by omega)]
          rw [hmn]
          refine ⟨_, rfl, ⟨min best (pc w), w + 1, rfl, by omega, by omega, ?_, fun w' y' g1 g2 g3 g4 => ?_⟩, by dsimp only; omega⟩
          · by_cases hl2 : pc w < best
            · rw [Nat.min_eq_right (by omega)]; exact hcw
            · rw [Nat.min_eq_left (by omega)]; exact hcov
          · by_cases e : w' = w
            · subst e; omega
            · have := hmin w' y' (by omega) g2 g3 g4; omega
        · rw [show ((y : Int) == ((tm t a : Nat) : Int)) = false by simp; omega, cond_false, bind_some']
          refine ⟨_, rfl, ⟨best, w + 1, rfl, by omega, hb16, hcov, fun w' y' g1 g2 g3 g4 => ?_⟩, by dsimp only; omega⟩
          by_cases e : w' = w
          · subst e
            rw [huq y' g3] at g4
            exact (he g4).elim
          · exact hmin w' y' (by omega) g2 g3 g4
      · rw [show decide ((w : Int) < ((2 ^ rl.length : Nat) : Int)) = false from decide_eq_false (by omega), cond_false]
        refine ⟨_, rfl, best, rfl, hcov, fun k hk => ?_⟩
        obtain ⟨ps, k1, k2, k3⟩ := hk
        obtain ⟨w', w1, w2, w3⟩ := pick h a hall ps k2
        obtain ⟨y, y1, y2, y3⟩ := union_ok hn.2 hl hb w1 (best : Int)
        have hy : y = tm t a := by
          apply Nat.eq_of_testBit_eq
          intro j
          rw [Bool.eq_iff_iff]
          refine ⟨huni w' y w1 y2 y3 j, fun hj => ?_⟩
          have hjlt : j < C * R := by
            by_cases hlt : j < C * R
            · exact hlt
            · rw [Nat.testBit_lt_two_pow (Nat.lt_of_lt_of_le (tm_lt h a) (Nat.pow_le_pow_right (by decide) (by omega)))] at hj; cases hj
          obtain ⟨q1, q2, q3⟩ := cell_in h.c1.1 hjlt
          rw [← q3] at hj ⊢
          obtain ⟨p, p1, p2, p3⟩ := k3 _ _ q1 q2 hj
          exact (y3 _).2 (w3 p p1 _ _ p2 p3)
        have := hmin w' y (by omega) y2 y3 hy
        omega) 70000 (((pc (tm t a) : Nat) : Int), (0 : Int)) (by dsimp only; omega) ⟨pc (tm t a), 0, rfl, Nat.zero_le _, pc16 hn.2 (tm_lt h a), cov_single h (sub_tm h a), fun w' y hw => by omega⟩
  exact ⟨m, h1, h2⟩
theorem TalkRects_true (a0 : List (List Bool)) (a1 : Bool) (f0 : Fits (.slice (.slice .bool)) a0) (f1 : Fits .bool a1) : ∃ fuel, law_TalkRects fuel a0 a1 = some true := by
  refine ⟨70000, ?_⟩
  unfold law_TalkRects talk_Rects
  rw [tk_wrong, tk_check, bind_some']
  by_cases hw : tkAll a0 = 0
  · obtain ⟨h1, h2, C, h3, h4, h5⟩ := tk_ok hw
    have h : Tab a0 a0.length C := ⟨⟨h1, h2⟩, ⟨h3, h4⟩, rfl, h5⟩
    have hn := h.n
    obtain ⟨g0, g0l⟩ := h.row (r := 0) (by omega)
    have i0 : idx a0 (0 : Int) = some (a0.getD 0 []) := g0
    have htl := tm_lt h a1
    have h16 : tm a0 a1 < 65536 := Nat.lt_of_lt_of_le htl (Nat.pow_le_pow_right (n := 2) (by decide) hn.2)
    obtain ⟨rl, l1, l2, l3, l4⟩ := list_ok h a1 g0l (fuel := 70000) (by omega)
    obtain ⟨m, m1, m2⟩ := best_p h a1 l2 l3 l4
    obtain ⟨m', r1, r2⟩ := rects_ok (a := a1) h 16 70000 (tm a0 a1) (pc16 hn.2 htl) (by omega) (sub_tm h a1)
    have e := m2.uniq r2
    subst e
    have hck : ck (0 ≤ (List.length (rl.map fun (n : Nat) => (n : Int)) : Int)) = some () := ck_ok (by omega)
    rw [hw, show ((0 : Int) != 0) = false from rfl, cond_false, i0, bind_some', tm_p h a1 _ g0l, bind_some', l1, bind_some', ones16 h16, bind_some', hck, bind_some', m1, bind_some', bind_some', bind_some',
      show ((0 : Int) != 0) = false from rfl, cond_false, bind_some', tm_r h a1 _ g0l, bind_some']
    dsimp only
    rw [show ((0 : Int) == 0) = true from rfl, cond_true, r1, bind_some', beq_self_eq_true]; rfl
  · rw [show (tkAll a0 != 0) = true by simp [hw], cond_true, bind_some', bind_some', show (tkAll a0 != 0) = true by simp [hw], cond_true]
    simp

end Go.Proofs.Ytjghcbdfpcpahaa.talkRects
namespace Go.Proofs.Ytjghcbdfpcpahaa.talkRects
open Go.ChangeShapes Go.WideShapes Go.ChangeAt Go.RowKit
open Go.ChangeMaps (open_string shut_string)
theorem own : ownKnob Try.prog.godebug = none := by kernel_rfl
theorem laidOut : laidOutB Try.prog = true := by kernel_rfl
theorem lifted (os : Os) (started : os.Started) (H : Type) (enc : TypeId × Value → H) :
    ReturnsInHanded {} Try.checked os 7 .any (Rows.talkRectsSpec.pre6 enc Try.prog Try.f7 Rows.talkRectsRow.domain false) (Rows.talkRectsSpec.post enc Try.prog Try.f7 false true false false) := by
  refine returnsInHanded_of_change (C := Try.checked) own started (by kernel_rfl) Try.func7
    (ChangeSpec.witness6 (enc := enc) (C := Try.checked) false ⟨#[], #[.slice none 0 0, .bool false], []⟩ 8 (by kernel_rfl) (by kernel_rfl) (by kernel_rfl) (by kernel_rfl)) ?_
  intro W base args ds gs before hval0 hW hcnd _
  have hval : ∀ (j : Nat) t v, Try.f7.params[j]? = some t → args[j]? = some v → Value.okWide Try.prog W .any base t v := hval0
  have hW' := hW
  obtain ⟨p, q, hA0, hV, rfl, hfz, hnd⟩ := hW
  have hA : DataW.TrodAll enc Try.prog W 0 (fun _ => true) true Try.f7.params.toList args.toList ds p := hA0
  rw [Try.params7] at hA hval
  obtain ⟨v0, vs0, d0, ds0, p0, q0, hargs, rfl, rfl, h0, r0⟩ := trodAll_cons hA
  obtain ⟨v1, vs1, d1, ds1, p1, q1, rfl, rfl, rfl, h1, r1⟩ := trodAll_cons r0
  obtain ⟨rfl, rfl, rfl⟩ := trodAll_nil r1
  obtain rfl : args = #[v0, v1] := by cases args; simp_all
  obtain ⟨rfl, rfl⟩ := trodVars_none hV
  obtain ⟨x0, f0, k0⟩ := Go.Sl.read_arg (u := (.slice (.slice .bool))) (by kernel_rfl) (by kernel_rfl) (hval 0 22 v0 rfl rfl) h0
  have lt0 : ∀ x ∈ p0, x.block < W.heap.size := by obtain ⟨m, hm⟩ := h0; exact DataW.trod_lt m _ _ _ hm
  obtain ⟨x1, f1, k1⟩ := Go.Sl.read_arg (u := .bool) (by kernel_rfl) (by kernel_rfl) (hval 1 4 v1 rfl rfl) h1
  have lt1 : ∀ x ∈ p1, x.block < W.heap.size := by obtain ⟨m, hm⟩ := h1; exact DataW.trod_lt m _ _ _ hm
  clear hA0 hval0
  obtain ⟨fuel, hm⟩ := TalkRects_true x0 x1 f0 f1
  refine (Go.Sl.law_of (vs := [v0, v1]) (law_TalkRects_ok hm) rfl (.cons (k0 _ _) (.cons (k1 _ _) .nil))).mono fun e W' ⟨he, bel⟩ => ?_
  subst he
  exact ⟨_, rfl, _, _, _, [], _, [], hW', trodAll_mk1 (shut_bool Try.underlying4 _), (trodAll_cons_mk (Below.trod laidOut (by kernel_rfl) (of_decide_eq_true (by kernel_rfl)) h0 bel lt0) (trodAll_cons_mk (Below.trod laidOut (by kernel_rfl) (of_decide_eq_true (by kernel_rfl)) h1 bel lt1) trodAll_mk0)), rfl, bel.frame _, fun h => by cases h⟩
theorem proved : Rows.TalkRectsSaid :=
  OpenClaim.holds_of_wide 7 Try.f7 rfl rfl rfl rfl rfl rfl rfl ⟨rfl, rfl, rfl, rfl, rfl⟩ rfl rfl rfl rfl rfl (by kernel_rfl) Try.func7 (by kernel_rfl)
    (of_decide_eq_true (by kernel_rfl)) (by unfold Func.isWrapper; first | (rw [if_pos (by decide +kernel)]; kernel_rfl) | (rw [if_neg (by decide +kernel)]; exact ⟨rfl, rfl⟩))
    (fun os started H enc _ => lifted os started H enc)
#print axioms proved
end Go.Proofs.Ytjghcbdfpcpahaa.talkRects
