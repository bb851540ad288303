/- For any table talk.Rank tells the rank: TalkRanks returns true and changes nothing; no conditions. -/
import Derived.Test.YtnblafiefaalgaaRows
import Derived.WalkKit
import Derived.ProofKit
import Derived.OpenShut
import Derived.ShutString
import Derived.ChangeOld
import Derived.Below
import Derived.Test.YtnblafiefaalgaaTalkRanksM
set_option linter.all false
set_option maxRecDepth 100000
namespace Go.Proofs.Ytnblafiefaalgaa.talkRanks
open Go Go.Sl

theorem within_eq (a b c : Int) : ref_Within a b c = some (decide (a ≤ b ∧ b ≤ c)) := by
  unfold ref_Within
  rw [Bool.decide_and]

def tkLen (t : List (List Bool)) (l : List Bool) : Bool := (l.length : Int) != (((t[0]?).getD []).length : Int)
def tkAll (t : List (List Bool)) : Int :=
  bif !decide (1 ≤ (t.length : Int) ∧ (t.length : Int) ≤ 4) then 1 else bif !decide (1 ≤ (((t[0]?).getD []).length : Int) ∧ (((t[0]?).getD []).length : Int) ≤ 4) then 1 else bif t.any (tkLen t) then 3 else 0
theorem tk_head {t : List (List Bool)} (h : 1 ≤ t.length) : idx t 0 = some ((t[0]?).getD []) := by
  cases t with
  | nil => simp at h
  | cons a t => rfl
theorem tk_wrong (t : List (List Bool)) : talk_wrong t = some (tkAll t) := by
  unfold talk_wrong talk_wrong_g1 tkAll
  have e : ((decide ((List.length t : Int) < (1 : Int))) || (decide ((List.length t : Int) > (4 : Int)))) = !decide (1 ≤ (t.length : Int) ∧ (t.length : Int) ≤ 4) := by
    rw [or_dec, not_dec]; exact decide_eq_decide.2 (by omega)
  rw [e]
  by_cases h : 1 ≤ (t.length : Int) ∧ (t.length : Int) ≤ 4
  · rw [tk_head (by omega)]
    generalize hd : (t[0]?).getD [] = d
    have e2 : (bif decide ((List.length d : Int) < (1 : Int)) then (some true) else (some (decide ((List.length d : Int) > (4 : Int))))) = some (!decide (1 ≤ (d.length : Int) ∧ (d.length : Int) ≤ 4)) := by
      rw [bif_some]; congr 1
      by_cases h : (d.length : Int) < 1
      · have : ¬ (1 ≤ (d.length : Int) ∧ (d.length : Int) ≤ 4) := by omega
        simp only [h, decide_true, cond_true, this, decide_false, Bool.not_false]
      · rw [decide_eq_false h, cond_false, not_dec]; exact decide_eq_decide.2 (by omega)
    simp only [h, and_self, decide_true, Bool.not_true, cond_false, bind_some', e2]
    have e3 : slices_ContainsFunc_LLboolLbool_with_talk_wrong_1 t t = some (t.any (tkLen t)) := by
      unfold slices_ContainsFunc_LLboolLbool_with_talk_wrong_1 slices_IndexFunc_LLboolLbool_with_talk_wrong_1
      rcases forL_at (body := slices_IndexFunc_LLboolLbool_with_talk_wrong_1_b1 t) (fin := fun _ => (Esc.brk () : Esc Int Unit)) (p := tkLen t) (g := fun j => Esc.ret j) (l := t)
        (fun i a _ => by unfold slices_IndexFunc_LLboolLbool_with_talk_wrong_1_b1 talk_wrong_1 tkLen; rw [tk_head (by omega)]; simp only [bind_some']; cases ((List.length a : Int) != (List.length ((t[0]?).getD []) : Int)) <;> rfl) (i := 0) with ⟨h1, h2⟩ | ⟨h1, j, h2, h3, h4⟩
      · rw [h2, h1]; rfl
      · rw [h4, h1]; simp [h2]
    rw [e3]
    cases decide (1 ≤ (d.length : Int) ∧ (d.length : Int) ≤ 4) <;> cases t.any (tkLen t) <;> rfl
  · rw [decide_eq_false h]; rfl
theorem tk_check (t : List (List Bool)) : ref_TalkCheck t = some (tkAll t) := by
  unfold ref_TalkCheck ref_TalkCheck_g1 tkAll
  rw [within_eq, bind_some']
  by_cases h : 1 ≤ (t.length : Int) ∧ (t.length : Int) ≤ 4
  · rw [tk_head (by omega), bind_some', within_eq, bind_some']
    rw [forL_ex (p := tkLen t) (y := Esc.ret 3) (fun i a _ => by unfold ref_TalkCheck_b2 tkLen; rw [tk_head (by omega)]; simp only [bind_some']; cases ((List.length a : Int) != (List.length ((t[0]?).getD []) : Int)) <;> rfl)]
    simp only [h, and_self, decide_true, Bool.not_true, cond_false, bind_some']
    cases decide (1 ≤ (((t[0]?).getD []).length : Int) ∧ (((t[0]?).getD []).length : Int) ≤ 4) <;> cases t.any (tkLen t) <;> rfl
  · rw [decide_eq_false h]; rfl
theorem tk_ok {t : List (List Bool)} (h : tkAll t = 0) : 1 ≤ t.length ∧ t.length ≤ 4 ∧ ∃ n, 1 ≤ n ∧ n ≤ 4 ∧ ∀ r ∈ t, r.length = n := by
  unfold tkAll at h
  by_cases h1 : 1 ≤ (t.length : Int) ∧ (t.length : Int) ≤ 4
  · rw [decide_eq_true h1] at h
    by_cases h2 : 1 ≤ (((t[0]?).getD []).length : Int) ∧ (((t[0]?).getD []).length : Int) ≤ 4
    · rw [decide_eq_true h2] at h
      cases h3 : t.any (tkLen t) with
      | true => rw [h3] at h; cases h
      | false =>
        refine ⟨by omega, by omega, ((t[0]?).getD []).length, by omega, by omega, fun r hr => ?_⟩
        have := List.any_eq_false.1 h3 r hr
        unfold tkLen at this
        simp at this
        omega
    · rw [decide_eq_false h2] at h; cases h
  · rw [decide_eq_false h1] at h; cases h

theorem bit_eq {w i : Nat} (hw : w < 2 ^ 63) (hi : i < 63) : ref_Bit (w : Int) (i : Int) = some (w.testBit i) := by
  unfold ref_Bit
  have c : (decide ((i : Int) ≥ 0) && decide ((i : Int) < 63)) = true := by simp; omega
  have e : IntKind.wrap .u64 (i : Int) = (i : Int) := wrap_u64 (by omega) (by omega)
  rw [c, e, ck_ok (by omega)]
  simp only [cond_true, Option.bind_some, bit_mask hw hi]

theorem size_eq {w : Nat} (hw : w < 2 ^ 63) : ref_Size (w : Int) = some ((pc w : Nat) : Int) := by
  unfold ref_Size
  have := forI_count (body := ref_Size_b4 (w : Int)) (fin := fun x => x) (p := w.testBit) (n := 63) (by omega) (by
    intro j x hj
    unfold ref_Size_b4
    rw [bit_eq hw hj]
    cases w.testBit j <;> rfl)
  simp only [Int.cast_ofNat_Int] at this
  rw [this]; rfl

/-- going up, from s on, below n -/
def Up (n : Int) : Int → List Int → Prop
  | _, [] => True
  | s, x :: r => s ≤ x ∧ x < n ∧ Up n (x + 1) r
theorem Up.len {n : Int} : ∀ {r : List Int} {s x : Int}, Up n s (x :: r) → x + 1 + r.length ≤ n
  | [], s, x, h => by simp; have := h.2.1; omega
  | y :: r, s, x, h => by
    have h1 := Up.len h.2.2
    have h2 := h.2.2.1
    rw [List.length_cons]; omega
theorem Up.low {n : Int} {s s' : Int} (h : s' ≤ s) : ∀ {r : List Int}, Up n s r → Up n s' r
  | [], _ => trivial
  | x :: r, h1 => ⟨by have := h1.1; omega, h1.2⟩
theorem Up.hi {n n' : Int} (h : n ≤ n') : ∀ {r : List Int} {s : Int}, Up n s r → Up n' s r
  | [], _, _ => trivial
  | x :: r, _, h1 => ⟨h1.1, by have := h1.2.1; omega, Up.hi h h1.2.2⟩
theorem Up.mem {n : Int} : ∀ {r : List Int} {s : Int}, Up n s r → ∀ v ∈ r, s ≤ v ∧ v < n
  | x :: r, s, h, v, hv => by
    rcases List.mem_cons.1 hv with rfl | hv
    · exact ⟨h.1, h.2.1⟩
    · have := Up.mem h.2.2 v hv
      have := h.1
      omega
/-- the places of a word ws a list -/
def lf (f : Nat → Bool) (s c : Nat) : List Int := ((List.range' s c).filter f).map fun (i : Nat) => (i : Int)
theorem lf_succ (f : Nat → Bool) (s c : Nat) : lf f s (c + 1) = bif f s then (s : Int) :: lf f (s + 1) c else lf f (s + 1) c := by
  unfold lf
  rw [List.range'_succ]
  cases h : f s <;> simp [h]
theorem lf_up {f : Nat → Bool} {n : Nat} (h : ∀ i, f i = true → i < n) : ∀ (c s : Nat), Up (n : Int) (s : Int) (lf f s c)
  | 0, s => trivial
  | c + 1, s => by
    have ih := lf_up h c (s + 1)
    rw [lf_succ]
    cases hf : f s with
    | false => exact Up.low (by omega) ih
    | true => exact ⟨by omega, by have := h s hf; omega, ih⟩
theorem lf_congr {f g : Nat → Bool} : ∀ c s, (∀ i, s ≤ i → f i = g i) → lf f s c = lf g s c
  | 0, s, _ => rfl
  | c + 1, s, h => by rw [lf_succ, lf_succ, h s (by omega), lf_congr c (s + 1) (fun i hi => h i (by omega))]
theorem lf_ext : ∀ (c s : Nat) (r : List Int), Up ((s + c : Nat) : Int) (s : Int) r → lf (fun (i : Nat) => r.any ((i : Int) == ·)) s c = r
  | 0, s, [], _ => rfl
  | 0, s, x :: r, h => by have := h.1; have := h.2.1; omega
  | c + 1, s, [], _ => by
    rw [lf_succ]
    have := lf_ext c (s + 1) [] trivial
    simpa using this
  | c + 1, s, x :: r, h => by
    rw [lf_succ]
    by_cases e : x = (s : Int)
    · subst e
      have h2 : Up ((s + 1 + c : Nat) : Int) ((s + 1 : Nat) : Int) r := by
        have := h.2.2
        rwa [show s + 1 + c = s + (c + 1) by omega]
      have h1 := lf_ext c (s + 1) r h2
      have h3 : lf (fun (i : Nat) => ((s : Int) :: r).any ((i : Int) == ·)) (s + 1) c = lf (fun (i : Nat) => r.any ((i : Int) == ·)) (s + 1) c := lf_congr c (s + 1) (fun i hi => by
        have : ((i : Int) == (s : Int)) = false := by simp; omega
        simp [this])
      rw [h3, h1]
      simp
    · have hx := h.1
      have hs : ((x :: r).any ((s : Int) == ·)) = false := by
        rw [List.any_eq_false]
        intro v hv
        have := Up.mem (n := ((s + (c + 1) : Nat) : Int)) (s := x) (r := x :: r) ⟨by omega, h.2⟩ v hv
        simp; omega
      have h1 := lf_ext c (s + 1) (x :: r) (by rw [show s + 1 + c = s + (c + 1) by omega]; exact ⟨by omega, h.2⟩)
      rw [hs, cond_false, h1]
theorem lf_mem {f : Nat → Bool} {c : Nat} {v : Int} (hv : 0 ≤ v ∧ v < (c : Int)) : (lf f 0 c).any (v == ·) = f v.toNat := by
  rw [Bool.eq_iff_iff, List.any_eq_true]
  unfold lf
  simp only [List.mem_map, List.mem_filter, List.mem_range'_1, beq_iff_eq]
  constructor
  · rintro ⟨x, ⟨i, ⟨_, hi⟩, rfl⟩, rfl⟩
    simpa using hi
  · intro h
    exact ⟨v, ⟨v.toNat, ⟨⟨by omega, by omega⟩, h⟩, by omega⟩, rfl⟩
def lst (m : Nat) : List Int := lf m.testBit 0 63
theorem lst_len (m : Nat) : (lst m).length = pc m := by
  unfold lst lf pc
  rw [List.length_map, List.range_eq_range', List.countP_eq_length_filter]
theorem lst_up {n m : Nat} (h : m < 2 ^ n) : Up (n : Int) 0 (lst m) := by
  refine lf_up (fun i hi => ?_) 63 0
  by_cases hlt : i < n
  · exact hlt
  · have : m.testBit i = false := Nat.testBit_lt_two_pow (Nat.lt_of_lt_of_le h (Nat.pow_le_pow_right (by omega) (by omega)))
    rw [this] at hi; cases hi
theorem lst_of {n : Nat} (hn : n ≤ 63) {r : List Int} (h : Up (n : Int) 0 r) : ∃ m, m < 2 ^ n ∧ lst m = r := by
  refine ⟨wd ((List.range n).map fun (i : Nat) => r.any ((i : Int) == ·)), ?_, ?_⟩
  · have := wd_lt ((List.range n).map fun (i : Nat) => r.any ((i : Int) == ·))
    simpa using this
  · have h1 := lf_ext 63 0 r (Up.hi (by omega) h)
    rw [← h1]
    unfold lst
    refine lf_congr 63 0 (fun i _ => ?_)
    rw [wd_bit, h1]
    by_cases hi : i < n
    · simp [List.getD_eq_getElem?_getD, hi]
    · have : (r.any ((i : Int) == ·)) = false := by
        rw [List.any_eq_false]
        intro v hv
        have := Up.mem h v hv
        simp; omega
      rw [this]
      simp [List.getD_eq_getElem?_getD, hi]
theorem sr_listof {w : Nat} (hw : w < 2 ^ 63) : ref_ListOf (w : Int) = some (lst w) := by
  unfold ref_ListOf
  obtain ⟨y, h1, h2⟩ := forI_inv (body := ref_ListOf_b4 (w : Int)) (fin := fun x => x) (lo := 0) (hi := 63) (x := ([] : List Int)) (fun i x => ∃ j : Nat, i = (j : Int) ∧ j ≤ 63 ∧ x = lf w.testBit 0 j) (fun y => y = lst w) (by omega) (by omega) ⟨0, rfl, by omega, rfl⟩
    (by
      rintro _ x _ hlt ⟨j, rfl, hj, rfl⟩
      have hl : (lf w.testBit 0 j).length ≤ j := by
        unfold lf
        rw [List.length_map]
        have := List.length_filter_le w.testBit (List.range' 0 j)
        simpa using this
      have e : lf w.testBit 0 (j + 1) = lf w.testBit 0 j ++ bif w.testBit j then [(j : Int)] else [] := by
        unfold lf
        rw [List.range'_concat, List.filter_append, List.map_append]
        cases hb : w.testBit j <;> simp [hb]
      have hck : ck ((List.length (lf w.testBit 0 j) : Int) + 1 ≤ 4294967296) = some () := ck_ok (by omega)
      unfold ref_ListOf_b4
      rw [bit_eq hw (by omega), bind_some', hck]
      cases hb : w.testBit j with
      | true => rw [hb] at e; exact ⟨_, rfl, j + 1, by omega, by omega, e.symm⟩
      | false => rw [hb] at e; exact ⟨_, rfl, j + 1, by omega, by omega, by rw [e]; simp⟩)
    (by
      rintro i x _ hi _ ⟨j, rfl, hj, rfl⟩
      have : j = 63 := by omega
      subst this; rfl)
  rw [h1, bind_some', h2]

/-- expansion: each column in turn, signs by turns -/
def alt (f : Nat → List Nat → Int) : List Nat → Int
  | [] => 0
  | c :: cs => f c cs - alt (fun d rest => f d (c :: rest)) cs
/-- the sum of signed products, by the first row -/
def Dt : List (Nat → Int) → List Nat → Int
  | [], _ => 1
  | r :: rs, cols => alt (fun c rest => r c * Dt rs rest) cols
theorem alt_congr : ∀ {cols : List Nat} {f g : Nat → List Nat → Int}, (∀ pre d post, cols = pre ++ d :: post → f d (pre ++ post) = g d (pre ++ post)) → alt f cols = alt g cols
  | [], _, _, _ => rfl
  | c :: cs, f, g, h => by
    simp only [alt]
    rw [show f c cs = g c cs from h [] c cs rfl, alt_congr (f := fun d rest => f d (c :: rest)) (g := fun d rest => g d (c :: rest)) (fun pre d post e => h (c :: pre) d post (by rw [e]; rfl))]
theorem alt_lin (a b : Int) : ∀ (cols : List Nat) (f g : Nat → List Nat → Int), alt (fun c r => a * f c r + b * g c r) cols = a * alt f cols + b * alt g cols
  | [], _, _ => by simp [alt]
  | c :: cs, f, g => by
    simp only [alt]
    rw [alt_lin a b cs (fun d rest => f d (c :: rest)) (fun d rest => g d (c :: rest)), Int.mul_sub, Int.mul_sub]; omega
theorem alt_mul (a : Int) (cols : List Nat) (f : Nat → List Nat → Int) : alt (fun c r => a * f c r) cols = a * alt f cols := by
  have := alt_lin a 0 cols f f
  simp only [Int.zero_mul, Int.add_zero] at this
  exact this
theorem alt_zero (cols : List Nat) : alt (fun _ _ => 0) cols = 0 := by
  have := alt_mul 0 cols (fun _ _ => 0)
  simp only [Int.zero_mul] at this
  exact this
theorem alt_none {cols : List Nat} {f : Nat → List Nat → Int} (h : ∀ pre d post, cols = pre ++ d :: post → f d (pre ++ post) = 0) : alt f cols = 0 := by
  rw [alt_congr (g := fun _ _ => 0) h, alt_zero]
theorem Dt_lin (a b : Int) (u v : Nat → Int) (post : List (Nat → Int)) : ∀ (pre : List (Nat → Int)) (cols : List Nat),
    Dt (pre ++ (fun c => a * u c + b * v c) :: post) cols = a * Dt (pre ++ u :: post) cols + b * Dt (pre ++ v :: post) cols
  | [], cols => by
    simp only [List.nil_append, Dt]
    rw [← alt_lin]
    exact alt_congr (fun pre d post' _ => by simp only [Int.add_mul, Int.mul_assoc])
  | x :: pre, cols => by
    simp only [List.cons_append, Dt]
    rw [← alt_lin]
    refine alt_congr (fun pre' d post' _ => ?_)
    rw [Dt_lin a b u v post pre, Int.mul_add, Int.mul_left_comm, Int.mul_left_comm (x d) b]
theorem alt2_swap (x y : Nat → Int) : ∀ (cols : List Nat) (G : List Nat → Int),
    alt (fun c rest => x c * alt (fun d rest' => y d * G rest') rest) cols + alt (fun c rest => y c * alt (fun d rest' => x d * G rest') rest) cols = 0
  | [], _ => by simp [alt]
  | c :: cs, G => by
    have ih := alt2_swap x y cs (fun rest => G (c :: rest))
    simp only [alt]
    have e : ∀ (x y : Nat → Int), alt (fun d rest => x d * (y c * G rest - alt (fun e rest' => y e * G (c :: rest')) rest)) cs = y c * alt (fun d rest => x d * G rest) cs - alt (fun d rest => x d * alt (fun e rest' => y e * G (c :: rest')) rest) cs := by
      intro x y
      have := alt_lin (y c) (-1) cs (fun d rest => x d * G rest) (fun d rest => x d * alt (fun e rest' => y e * G (c :: rest')) rest)
      rw [alt_congr (g := fun d rest => y c * (x d * G rest) + -1 * (x d * alt (fun e rest' => y e * G (c :: rest')) rest)) (fun pre d post _ => by
        rw [Int.mul_sub, Int.mul_left_comm]; omega), this]
      omega
    rw [e x y, e y x]
    omega
theorem Dt_swap (x y : Nat → Int) (post : List (Nat → Int)) : ∀ (pre : List (Nat → Int)) (cols : List Nat), Dt (pre ++ x :: y :: post) cols = - Dt (pre ++ y :: x :: post) cols
  | [], cols => by
    have := alt2_swap x y cols (fun rest => Dt post rest)
    simp only [List.nil_append, Dt]
    omega
  | z :: pre, cols => by
    simp only [List.cons_append, Dt]
    rw [alt_congr (g := fun c rest => -1 * (z c * Dt (pre ++ y :: x :: post) rest)) (fun pre' d post' _ => by
      rw [Dt_swap x y post pre, Int.mul_neg]; omega), alt_mul]
    omega
theorem Dt_eq (u : Nat → Int) (pre post : List (Nat → Int)) : ∀ (k : Nat) (mid : List (Nat → Int)) (cols : List Nat), mid.length = k → Dt (pre ++ u :: mid ++ u :: post) cols = 0
  | 0, mid, cols, h => by
    obtain rfl : mid = [] := List.length_eq_zero_iff.1 h
    have := Dt_swap u u post pre cols
    simp only [List.append_assoc, List.cons_append, List.nil_append]
    omega
  | k + 1, mid, cols, h => by
    obtain ⟨mid', x, rfl⟩ : ∃ mid' x, mid = mid' ++ [x] := ⟨mid.dropLast, mid.getLast (by intro e; simp [e] at h), (List.dropLast_concat_getLast _).symm⟩
    have ih := Dt_eq u pre (x :: post) k mid' cols (by simpa using h)
    have := Dt_swap x u post (pre ++ u :: mid') cols
    simp only [List.append_assoc, List.cons_append, List.nil_append] at this ih ⊢
    rw [this, ih]; rfl
theorem Dt_trans (x y : Nat → Int) (pre mid post : List (Nat → Int)) (cols : List Nat) : Dt (pre ++ x :: mid ++ y :: post) cols = - Dt (pre ++ y :: mid ++ x :: post) cols := by
  have h0 := Dt_eq (fun c => 1 * x c + 1 * y c) pre post _ mid cols rfl
  rw [Dt_lin 1 1 x y post (pre ++ (fun c => 1 * x c + 1 * y c) :: mid)] at h0
  have e : ∀ z : Nat → Int, Dt (pre ++ (fun c => 1 * x c + 1 * y c) :: mid ++ z :: post) cols = Dt (pre ++ x :: mid ++ z :: post) cols + Dt (pre ++ y :: mid ++ z :: post) cols := by
    intro z
    have := Dt_lin 1 1 x y (mid ++ z :: post) pre cols
    simp only [List.append_assoc, List.cons_append] at this ⊢
    rw [this]; omega
  rw [e, e, Dt_eq x pre post _ mid cols rfl, Dt_eq y pre post _ mid cols rfl] at h0
  omega
theorem Dt_col0 {c : Nat} : ∀ (rows : List (Nat → Int)) (cols : List Nat), (∀ r ∈ rows, r c = 0) → c ∈ cols → rows.length = cols.length → Dt rows cols = 0
  | [], cols, _, hc, hl => by
    obtain rfl : cols = [] := List.length_eq_zero_iff.1 hl.symm
    simp at hc
  | r :: rs, cols, h, hc, hl => by
    simp only [Dt]
    refine alt_none (fun pre d post e => ?_)
    subst e
    by_cases hd : d = c
    · subst hd; rw [h r (by simp)]; simp
    · rw [Dt_col0 rs (pre ++ post) (fun r hr => h r (by simp [hr])) (by
        simp only [List.mem_append, List.mem_cons] at hc ⊢
        rcases hc with hc | hc | hc
        · exact .inl hc
        · exact (hd hc.symm).elim
        · exact .inr hc) (by simp at hl ⊢; omega), Int.mul_zero]
theorem Dt_tri (u : Nat → Int) (vs : List (Nat → Int)) (c : Nat) (cs : List Nat) (h : ∀ v ∈ vs, v c = 0) (hl : vs.length = cs.length) : Dt (u :: vs) (c :: cs) = u c * Dt vs cs := by
  simp only [Dt, alt]
  rw [alt_none (f := fun d rest => u d * Dt vs (c :: rest)) (fun pre d post e => by
    rw [Dt_col0 vs (c :: (pre ++ post)) h (by simp) (by rw [hl, e]; simp; omega), Int.mul_zero])]
  omega
/-- condensed: each row less what it takes of the first one -/
def cond1 (u : Nat → Int) (c : Nat) (v : Nat → Int) : Nat → Int := fun d => u c * v d + (- v c) * u d
theorem Dt_ops (u : Nat → Int) (c : Nat) (cols : List Nat) : ∀ (vs pre : List (Nat → Int)), Dt (u :: (pre ++ vs.map (cond1 u c))) cols = u c ^ vs.length * Dt (u :: (pre ++ vs)) cols
  | [], pre => by simp
  | v :: vs, pre => by
    have h1 := Dt_lin (u c) (- v c) v u (vs.map (cond1 u c)) (u :: pre) cols
    have h2 := Dt_eq u [] (vs.map (cond1 u c)) _ pre cols rfl
    have ih := Dt_ops u c cols vs (pre ++ [v])
    simp only [List.cons_append, List.append_assoc, List.nil_append, List.map_cons, List.length_cons] at h1 h2 ih ⊢
    show Dt (u :: (pre ++ (fun d => u c * v d + (- v c) * u d) :: vs.map (cond1 u c))) cols = _
    rw [h1, h2, ih, Int.pow_succ, Int.mul_zero, Int.add_zero, ← Int.mul_assoc, Int.mul_comm (u c)]
theorem chio (u : Nat → Int) (vs : List (Nat → Int)) (c : Nat) (cs : List Nat) (hl : vs.length = cs.length) : u c ^ vs.length * Dt (u :: vs) (c :: cs) = u c * Dt (vs.map (cond1 u c)) cs := by
  have h := Dt_ops u c (c :: cs) vs []
  simp only [List.nil_append] at h
  rw [← h]
  refine Dt_tri u _ c cs (fun v hv => ?_) (by simpa using hl)
  obtain ⟨v', _, rfl⟩ := List.mem_map.1 hv
  unfold cond1
  rw [Int.mul_comm (u c), Int.neg_mul]; omega
theorem Dt_congr : ∀ {rows rows' : List (Nat → Int)} {cols : List Nat}, rows.length = rows'.length → (∀ (k : Nat) (r r' : Nat → Int), rows[k]? = some r → rows'[k]? = some r' → ∀ c ∈ cols, r c = r' c) → Dt rows cols = Dt rows' cols
  | [], [], _, _, _ => rfl
  | [], _ :: _, _, h, _ => by simp at h
  | _ :: _, [], _, h, _ => by simp at h
  | r :: rs, r' :: rs', cols, hl, h => by
    simp only [Dt]
    refine alt_congr (fun pre d post e => ?_)
    subst e
    rw [h 0 r r' rfl rfl d (by simp), Dt_congr (by simpa using hl) (fun k q q' hq hq' c hc => h (k + 1) q q' (by simpa using hq) (by simpa using hq') c (by
      simp only [List.mem_append, List.mem_cons] at hc ⊢
      rcases hc with hc | hc
      · exact .inl hc
      · exact .inr (.inr hc)))]
theorem alt_map (φ : Nat → Nat) : ∀ (cols : List Nat) (f : Nat → List Nat → Int), alt f (cols.map φ) = alt (fun c rest => f (φ c) (rest.map φ)) cols
  | [], _ => rfl
  | c :: cs, f => by
    simp only [List.map_cons, alt]
    rw [alt_map φ cs]
theorem Dt_map (φ : Nat → Nat) : ∀ (rows : List (Nat → Int)) (cols : List Nat), Dt rows (cols.map φ) = Dt (rows.map fun r => fun c => r (φ c)) cols
  | [], _ => rfl
  | r :: rs, cols => by
    simp only [List.map_cons, Dt]
    rw [alt_map]
    exact alt_congr (fun pre d post _ => by rw [Dt_map φ rs])
/-- how great it can be -/
def bd (B : Nat) : Nat → Nat
  | 0 => 1
  | s + 1 => (s + 1) * (B * bd B s)
theorem alt_abs (K : Nat) : ∀ (cols : List Nat) (f : Nat → List Nat → Int), (∀ pre d post, cols = pre ++ d :: post → (f d (pre ++ post)).natAbs ≤ K) → (alt f cols).natAbs ≤ cols.length * K
  | [], _, _ => by simp [alt]
  | c :: cs, f, h => by
    have h1 := h [] c cs rfl
    have h2 := alt_abs K cs (fun d rest => f d (c :: rest)) (fun pre d post e => h (c :: pre) d post (by rw [e]; rfl))
    simp only [alt, List.length_cons, Nat.succ_mul, List.nil_append] at h1 ⊢
    omega
theorem Dt_abs (B : Nat) : ∀ (rows : List (Nat → Int)) (cols : List Nat), rows.length = cols.length → (∀ r ∈ rows, ∀ c ∈ cols, (r c).natAbs ≤ B) → (Dt rows cols).natAbs ≤ bd B cols.length
  | [], cols, hl, _ => by
    obtain rfl : cols = [] := List.length_eq_zero_iff.1 hl.symm
    simp [Dt, bd]
  | r :: rs, cols, hl, h => by
    obtain ⟨s, hs⟩ : ∃ s, cols.length = s + 1 := ⟨rs.length, by simpa using hl.symm⟩
    simp only [Dt]
    rw [hs, bd, ← hs]
    refine alt_abs _ _ _ (fun pre d post e => ?_)
    subst e
    have hp : (pre ++ post).length = s := by simp at hs ⊢; omega
    have := Dt_abs B rs (pre ++ post) (by simp at hl; rw [hp]; simp at hs; omega) (fun r' hr c hc => h r' (by simp [hr]) c (by
      simp only [List.mem_append, List.mem_cons] at hc ⊢
      rcases hc with hc | hc
      · exact .inl hc
      · exact .inr (.inr hc)))
    rw [hp] at this
    rw [Int.natAbs_mul]
    exact Nat.mul_le_mul (h r (by simp) d (by simp)) this

def tr (a b : Nat) (i : Nat) : Nat := if i = a then b else if i = b then a else i

theorem alt_snoc (c : Nat) : ∀ (J : List Nat) (f : Nat → List Nat → Int), f c J = 0 → alt f (J ++ [c]) = alt (fun d rest => f d (rest ++ [c])) J
  | [], f, h => by simp [alt, h]
  | d :: J, f, h => by
    simp only [List.cons_append, alt]
    rw [alt_snoc c J (fun e rest => f e (d :: rest)) h]
theorem Dt_row0 {u : Nat → Int} (pre post : List (Nat → Int)) {cols : List Nat} (h : ∀ c ∈ cols, u c = 0) : Dt (pre ++ u :: post) cols = 0 := by
  have h1 := Dt_lin 0 0 u u post pre cols
  rw [Int.zero_mul, Int.add_zero] at h1
  rw [← h1]
  refine Dt_congr (by simp) (fun k r r' hr hr' c hc => ?_)
  rcases Nat.lt_trichotomy k pre.length with hk | hk | hk
  · rw [List.getElem?_append_left hk] at hr hr'
    rw [hr] at hr'
    rw [Option.some.inj hr']
  · rw [List.getElem?_append_right (by omega), hk, Nat.sub_self] at hr hr'
    rw [← Option.some.inj hr, ← Option.some.inj hr', h c hc]; simp
  · rw [List.getElem?_append_right (by omega), show k - pre.length = (k - pre.length - 1) + 1 by omega, List.getElem?_cons_succ] at hr hr'
    rw [hr] at hr'
    rw [Option.some.inj hr']
theorem Dt_last {u : Nat → Int} {c : Nat} : ∀ (rows : List (Nat → Int)) (J : List Nat), rows.length = J.length → (∀ d ∈ J, u d = 0) → Dt (rows ++ [u]) (J ++ [c]) = Dt rows J * u c
  | [], J, hl, _ => by
    obtain rfl : J = [] := List.length_eq_zero_iff.1 hl.symm
    simp [Dt, alt]
  | r :: rs, J, hl, h => by
    simp only [List.cons_append, Dt]
    rw [alt_snoc c J _ (by rw [Dt_row0 rs [] h, Int.mul_zero])]
    have e : alt (fun d rest => r d * Dt (rs ++ [u]) (rest ++ [c])) J = alt (fun d rest => u c * (r d * Dt rs rest)) J := by
      refine alt_congr (fun pre d post e => ?_)
      subst e
      rw [Dt_last rs (pre ++ post) (by simp at hl ⊢; omega) (fun x hx => h x (by
        simp only [List.mem_append, List.mem_cons] at hx ⊢
        rcases hx with hx | hx
        · exact .inl hx
        · exact .inr (.inr hx)))]
      simp only [Int.mul_comm, Int.mul_left_comm]
    rw [e, alt_mul, Int.mul_comm]
/-- where rows give nothing, their combinations give nothing -/
theorem Z_lin {P Q : (Nat → Int) → Prop} {J : List Nat} {s : Nat} (hZ : ∀ rows : List (Nat → Int), rows.length = s → (∀ q ∈ rows, P q) → Dt rows J = 0)
    (hQ : ∀ q, Q q → ∃ (a α β : Int) (u v : Nat → Int), a ≠ 0 ∧ P u ∧ P v ∧ ∀ c, a * q c = α * u c + β * v c) : ∀ (post pre : List (Nat → Int)), (pre ++ post).length = s → (∀ q ∈ pre, P q) → (∀ q ∈ post, Q q) → Dt (pre ++ post) J = 0
  | [], pre, hl, hp, _ => hZ _ hl (by simpa using hp)
  | q :: post, pre, hl, hp, hq => by
    obtain ⟨a, α, β, u, v, ha, hu, hv, e⟩ := hQ q (hq q (by simp))
    have h1 := Dt_lin a 0 q q post pre J
    have h2 := Dt_lin α β u v post pre J
    have h3 := Z_lin hZ hQ post (pre ++ [u]) (by simp at hl ⊢; omega) (fun x hx => by
      rcases List.mem_append.1 hx with hx | hx
      · exact hp x hx
      · obtain rfl : x = u := by simpa using hx
        exact hu) (fun x hx => hq x (by simp [hx]))
    have h4 := Z_lin hZ hQ post (pre ++ [v]) (by simp at hl ⊢; omega) (fun x hx => by
      rcases List.mem_append.1 hx with hx | hx
      · exact hp x hx
      · obtain rfl : x = v := by simpa using hx
        exact hv) (fun x hx => hq x (by simp [hx]))
    rw [List.append_assoc] at h3 h4
    have e1 : (fun c => a * q c + 0 * q c) = fun c => α * u c + β * v c := by
      funext c
      rw [← e c]; simp
    rw [e1, h2] at h1
    simp only [List.cons_append, List.nil_append] at h3 h4
    rw [h3, h4] at h1
    simp only [Int.mul_zero, Int.zero_mul, Int.add_zero] at h1
    rcases Int.mul_eq_zero.1 h1.symm with h | h
    · exact (ha h).elim
    · exact h
/-- all products of so many rows, in these columns, add up to nothing -/
def ZJ (n : Nat) (A : Nat → Nat → Int) (J : List Nat) (s : Nat) : Prop := ∀ Is : List Nat, Is.length = s → (∀ i ∈ Is, i < n) → Dt (Is.map A) J = 0
theorem ZJ.rows {n : Nat} {A : Nat → Nat → Int} {J : List Nat} {s : Nat} (h : ZJ n A J s) (rows : List (Nat → Int)) (hl : rows.length = s) (hr : ∀ q ∈ rows, ∃ i, i < n ∧ q = A i) : Dt rows J = 0 := by
  have : ∃ Is : List Nat, rows = Is.map A ∧ ∀ i ∈ Is, i < n := by
    clear hl h
    induction rows with
    | nil => exact ⟨[], rfl, by simp⟩
    | cons q rows ih =>
      obtain ⟨Is, h1, h2⟩ := ih (fun x hx => hr x (by simp [hx]))
      obtain ⟨i, hi, rfl⟩ := hr q (by simp)
      exact ⟨i :: Is, by rw [h1]; rfl, fun j hj => by
        rcases List.mem_cons.1 hj with rfl | hj
        · exact hi
        · exact h2 j hj⟩
  obtain ⟨Is, rfl, h2⟩ := this
  exact h Is (by simpa using hl) h2
theorem ZJ.lin {n : Nat} {A B : Nat → Nat → Int} {J : List Nat} {s : Nat} (h : ZJ n A J s) (hB : ∀ i, i < n → ∃ (a α β : Int) (x y : Nat), a ≠ 0 ∧ x < n ∧ y < n ∧ ∀ c, a * B i c = α * A x c + β * A y c) : ZJ n B J s := by
  intro Is hl hi
  have := Z_lin (P := fun q => ∃ i, i < n ∧ q = A i) (Q := fun q => ∃ i, i < n ∧ q = B i) (fun rows hl hr => h.rows rows hl hr) (by
    rintro q ⟨i, hi, rfl⟩
    obtain ⟨a, α, β, x, y, h1, h2, h3, h4⟩ := hB i hi
    exact ⟨a, α, β, A x, A y, h1, ⟨x, h2, rfl⟩, ⟨y, h3, rfl⟩, h4⟩) (Is.map B) [] (by simpa using hl) (by simp) (fun q hq => by
    obtain ⟨i, hii, rfl⟩ := List.mem_map.1 hq
    exact ⟨i, hi i hii, rfl⟩)
  simpa using this
/-- ascending -/
def asc : List Nat → Prop
  | [] => True
  | [_] => True
  | x :: y :: l => x < y ∧ asc (y :: l)
theorem asc_or : ∀ l : List Nat, asc l ∨ ∃ pre x y post, l = pre ++ x :: y :: post ∧ y ≤ x
  | [] => .inl trivial
  | [_] => .inl trivial
  | x :: y :: l => by
    by_cases h : x < y
    · rcases asc_or (y :: l) with h1 | ⟨pre, a, b, post, e, h1⟩
      · exact .inl ⟨h, h1⟩
      · exact .inr ⟨x :: pre, a, b, post, by rw [e]; rfl, h1⟩
    · exact .inr ⟨[], x, y, l, rfl, by omega⟩
theorem asc_snoc : ∀ {l : List Nat} {c : Nat}, asc l → (∀ d ∈ l, d < c) → asc (l ++ [c])
  | [], _, _, _ => trivial
  | [x], c, _, h => ⟨h x (by simp), trivial⟩
  | x :: y :: l, c, h, h' => ⟨h.1, asc_snoc (l := y :: l) h.2 (fun d hd => h' d (by simp [hd]))⟩
theorem asc_up {n : Nat} : ∀ {l : List Nat} {s : Nat}, asc l → (∀ d ∈ l, d < n) → (∀ x r, l = x :: r → s ≤ x) → Up (n : Int) (s : Int) (l.map fun (i : Nat) => (i : Int))
  | [], _, _, _, _ => trivial
  | [x], s, _, h, h' => ⟨show (s : Int) ≤ (x : Int) by have := h' x [] rfl; omega, show (x : Int) < (n : Int) by have := h x (by simp); omega, trivial⟩
  | x :: y :: l, s, ha, h, h' => by
    refine ⟨show (s : Int) ≤ (x : Int) by have := h' x (y :: l) rfl; omega, show (x : Int) < (n : Int) by have := h x (by simp); omega, ?_⟩
    have := asc_up (l := y :: l) (s := x + 1) ha.2 (fun d hd => h d (by simp [hd])) (fun z r e => by
      have := ha.1
      simp only [List.cons.injEq] at e
      omega)
    simpa using this
def wsum : List Nat → Nat
  | [] => 0
  | x :: l => (l.length + 1) * x + wsum l
theorem wsum_app : ∀ (pre l m : List Nat), l.length = m.length → wsum l < wsum m → wsum (pre ++ l) < wsum (pre ++ m)
  | [], l, m, _, h => h
  | x :: pre, l, m, hl, h => by
    have := wsum_app pre l m hl h
    simp only [List.cons_append, wsum, List.length_append, hl]; omega
/-- rows in their order -/
theorem sorted_of (A : Nat → Nat → Int) (J : List Nat) : ∀ (N : Nat) (Is : List Nat), wsum Is ≤ N → Dt (Is.map A) J ≠ 0 → ∃ Is', Is'.length = Is.length ∧ (∀ i ∈ Is', i ∈ Is) ∧ Dt (Is'.map A) J ≠ 0 ∧ asc Is'
  | N, Is, hN, h => by
    rcases asc_or Is with ha | ⟨pre, x, y, post, e, hxy⟩
    · exact ⟨Is, rfl, fun i hi => hi, h, ha⟩
    · subst e
      have hs := Dt_swap (A x) (A y) (post.map A) (pre.map A) J
      simp only [List.map_append, List.map_cons] at h
      by_cases e : x = y
      · subst e
        exact (h (by omega)).elim
      · have hlt : wsum (pre ++ y :: x :: post) < wsum (pre ++ x :: y :: post) := by
          refine wsum_app pre _ _ rfl ?_
          simp only [wsum, List.length_cons]
          have h1 : (post.length + 1 + 1) * y = (post.length + 1) * y + y := Nat.succ_mul _ _
          have h2 : (post.length + 1 + 1) * x = (post.length + 1) * x + x := Nat.succ_mul _ _
          omega
        match N, hN with
        | 0, hN => omega
        | N + 1, hN =>
          obtain ⟨Is', k1, k2, k3, k4⟩ := sorted_of A J N (pre ++ y :: x :: post) (by omega) (by
            simp only [List.map_append, List.map_cons]
            omega)
          exact ⟨Is', by rw [k1]; simp, fun i hi => by
            have := k2 i hi
            simp only [List.mem_append, List.mem_cons] at this ⊢
            rcases this with h | h | h | h
            · exact .inl h
            · exact .inr (.inr (.inl h))
            · exact .inr (.inl h)
            · exact .inr (.inr (.inr h)), k3, k4⟩
theorem asc_len {n : Nat} : ∀ {l : List Nat} {s : Nat}, asc l → (∀ d ∈ l, d < n) → (∀ x r, l = x :: r → s ≤ x) → s ≤ n → l.length + s ≤ n
  | [], _, _, _, _, h => by simpa using h
  | [x], s, _, h, h', _ => by have := h' x [] rfl; have := h x (by simp); simp; omega
  | x :: y :: l, s, ha, h, h', _ => by
    have h1 := h' x (y :: l) rfl
    have h2 := h x (by simp)
    have := asc_len (l := y :: l) (s := x + 1) ha.2 (fun d hd => h d (by simp [hd])) (fun z r e => by
      have := ha.1
      simp only [List.cons.injEq] at e
      omega) (by omega)
    simp only [List.length_cons] at this ⊢; omega
/-- the state of the elimination: c columns are done, r rows are taken -/
structure RInv (n c r : Nat) (A F : Nat → Nat → Int) (J : List Nat) : Prop where
  rn : r ≤ n
  jl : J.length = r
  jc : ∀ j ∈ J, j < c
  ja : asc J
  minor : Dt ((List.range r).map F) J ≠ 0
  zero : ∀ i j, r ≤ i → i < n → j < c → F i j = 0
  eqv : ∀ J' s, ZJ n A J' s ↔ ZJ n F J' s
theorem RInv.init (n : Nat) (A : Nat → Nat → Int) : RInv n 0 0 A A [] := ⟨Nat.zero_le _, rfl, by simp, trivial, by simp [Dt], fun i j _ _ h => by omega, fun _ _ => Iff.rfl⟩
theorem RInv.skip {n c r : Nat} {A F : Nat → Nat → Int} {J : List Nat} (h : RInv n c r A F J) (hz : ∀ i, r ≤ i → i < n → F i c = 0) : RInv n (c + 1) r A F J := by
  refine ⟨h.rn, h.jl, fun j hj => by have := h.jc j hj; omega, h.ja, h.minor, fun i j h1 h2 h3 => ?_, h.eqv⟩
  by_cases e : j = c
  · rw [e]; exact hz i h1 h2
  · exact h.zero i j h1 h2 (by omega)
theorem RInv.perm {n c r : Nat} {A F : Nat → Nat → Int} {J : List Nat} (h : RInv n c r A F J) (σ : Nat → Nat) (h1 : ∀ i, i < r → σ i = i) (h2 : ∀ i, r ≤ i → i < n → r ≤ σ i ∧ σ i < n) (h3 : ∀ i, i < n → σ (σ i) = i) : RInv n c r A (fun i => F (σ i)) J := by
  have hlt : ∀ i, i < n → σ i < n := fun i hi => by
    by_cases e : i < r
    · rw [h1 i e]; exact hi
    · exact (h2 i (by omega) hi).2
  refine ⟨h.rn, h.jl, h.jc, h.ja, ?_, fun i j k1 k2 k3 => h.zero _ j (h2 i k1 k2).1 (h2 i k1 k2).2 k3, fun J' s => ?_⟩
  · have e : (List.range r).map (fun i => F (σ i)) = (List.range r).map F := List.map_congr_left (fun i hi => by rw [h1 i (List.mem_range.1 hi)])
    rw [e]; exact h.minor
  · rw [h.eqv]
    constructor
    · exact fun hz => hz.lin (fun i hi => ⟨1, 1, 0, σ i, i, by decide, hlt i hi, hi, fun c => by simp⟩)
    · exact fun hz => hz.lin (fun i hi => ⟨1, 1, 0, σ i, i, by decide, hlt i hi, hi, fun c => by simp [h3 i hi]⟩)
theorem RInv.step {n c r : Nat} {A F : Nat → Nat → Int} {J : List Nat} (h : RInv n c r A F J) (hr : r < n) (ha : F r c ≠ 0) : RInv n (c + 1) (r + 1) A (fun i j => if r < i then F i j * F r c - F r j * F i c else F i j) (J ++ [c]) := by
  obtain ⟨G, hG⟩ : ∃ G : Nat → Nat → Int, G = fun i j => if r < i then F i j * F r c - F r j * F i c else F i j := ⟨_, rfl⟩
  rw [← hG]
  have g1 : ∀ i, i ≤ r → G i = F i := fun i hi => by rw [hG]; funext j; simp only; rw [if_neg (by omega)]
  have g2 : ∀ i, r < i → ∀ j, G i j = F i j * F r c - F r j * F i c := fun i hi j => by rw [hG]; simp only; rw [if_pos hi]
  refine ⟨hr, by simp [h.jl], fun j hj => ?_, asc_snoc h.ja h.jc, ?_, fun i j k1 k2 k3 => ?_, fun J' s => ?_⟩
  · rcases List.mem_append.1 hj with hj | hj
    · have := h.jc j hj; omega
    · obtain rfl : j = c := by simpa using hj
      omega
  · have e : (List.range (r + 1)).map G = (List.range r).map F ++ [F r] := by
      rw [List.range_succ, List.map_append, List.map_cons, List.map_nil, g1 r (Nat.le_refl _)]
      congr 1
      exact List.map_congr_left (fun i hi => g1 i (by have := List.mem_range.1 hi; omega))
    rw [e, Dt_last _ _ (by simp [h.jl]) (fun d hd => h.zero r d (Nat.le_refl _) hr (h.jc d hd))]
    exact Int.mul_ne_zero h.minor ha
  · rw [g2 i (by omega)]
    by_cases e : j = c
    · subst e; rw [Int.mul_comm]; omega
    · rw [h.zero i j (by omega) k2 (by omega), h.zero r j (Nat.le_refl _) hr (by omega)]; simp
  · rw [h.eqv]
    constructor
    · refine fun hz => hz.lin (fun i hi => ?_)
      by_cases e : r < i
      · exact ⟨1, F r c, - F i c, i, r, by decide, hi, hr, fun j => by rw [g2 i e, Int.neg_mul, Int.mul_comm (F i j), Int.mul_comm (F r j)]; omega⟩
      · exact ⟨1, 1, 0, i, i, by decide, hi, hi, fun j => by rw [g1 i (by omega)]; simp⟩
    · refine fun hz => hz.lin (fun i hi => ?_)
      by_cases e : r < i
      · exact ⟨F r c, 1, F i c, i, r, ha, hi, hr, fun j => by rw [g2 i e, g1 r (Nat.le_refl _), Int.mul_comm (F r c), Int.mul_comm (F r j)]; omega⟩
      · exact ⟨1, 1, 0, i, i, by decide, hi, hi, fun j => by rw [g1 i (by omega)]; simp⟩
/-- what the end says of the rank -/
theorem RInv.fin {n m c r : Nat} {A F : Nat → Nat → Int} {J : List Nat} (h : RInv n c r A F J) (he : c = m ∨ r = n) :
    (∃ Is : List Nat, Is.length = r ∧ (∀ i ∈ Is, i < n) ∧ asc Is ∧ Dt (Is.map A) J ≠ 0) ∧ ∀ (J' : List Nat) (s : Nat), r < s → (∀ j ∈ J', j < m) → ZJ n A J' s := by
  constructor
  · have hz : ¬ ZJ n A J r := fun hz => h.minor ((h.eqv J r).1 hz (List.range r) (by simp) (fun i hi => by have := List.mem_range.1 hi; have := h.rn; omega))
    unfold ZJ at hz
    simp only [Classical.not_forall] at hz
    obtain ⟨Is, h1, h2, h3⟩ := hz
    obtain ⟨Is', k1, k2, k3, k4⟩ := sorted_of A J _ Is (Nat.le_refl _) h3
    exact ⟨Is', by rw [k1, h1], fun i hi => h2 i (k2 i hi), k4, k3⟩
  · intro J' s hs hJ
    rw [h.eqv]
    intro Is hl hi
    by_cases hne : Dt (Is.map F) J' = 0
    · exact hne
    · exfalso
      obtain ⟨Is', k1, k2, k3, k4⟩ := sorted_of F J' _ Is (Nat.le_refl _) hne
      have hlt : ∀ i ∈ Is', i < r := by
        intro i hii
        have hin := hi i (k2 i hii)
        rcases he with rfl | rfl
        · by_cases e : i < r
          · exact e
          · obtain ⟨pre, post, rfl⟩ := List.append_of_mem hii
            refine (k3 ?_).elim
            rw [List.map_append, List.map_cons]
            exact Dt_row0 _ _ (fun d hd => h.zero i d (by omega) hin (hJ d hd))
        · exact hin
      have := asc_len k4 hlt (s := 0) (fun x r e => Nat.zero_le _) (Nat.zero_le _)
      omega

/-- rows of a list hold what F says -/
structure Mx (n m : Nat) (M : List (List Int)) (F : Nat → Nat → Int) : Prop where
  len : M.length = n
  row : ∀ r, r < n → ∃ row, M[r]? = some row ∧ row.length = m ∧ ∀ c, c < m → row[c]? = some (F r c)
theorem Mx.congr {n m : Nat} {M : List (List Int)} {F G : Nat → Nat → Int} (h : Mx n m M F) (e : ∀ r c, r < n → c < m → F r c = G r c) : Mx n m M G := by
  refine ⟨h.len, fun r hr => ?_⟩
  obtain ⟨row, h1, h2, h3⟩ := h.row r hr
  exact ⟨row, h1, h2, fun c hc => by rw [h3 c hc, e r c hr hc]⟩
theorem Mx.set {n m : Nat} {M : List (List Int)} {F : Nat → Nat → Int} (h : Mx n m M F) {r c : Nat} (hr : r < n) {row : List Int} (hrow : M[r]? = some row) (v : Int) : Mx n m (M.set r (row.set c v)) (fun r' c' => if r' = r ∧ c' = c then v else F r' c') := by
  refine ⟨by rw [List.length_set]; exact h.len, fun r' hr' => ?_⟩
  obtain ⟨row', h1, h2, h3⟩ := h.row r' hr'
  have hl := h.len
  by_cases e : r' = r
  · subst e
    rw [hrow] at h1
    obtain rfl := Option.some.inj h1
    refine ⟨row.set c v, by rw [List.getElem?_set_self (by omega)], by rw [List.length_set]; exact h2, fun c' hc' => ?_⟩
    by_cases e' : c' = c
    · subst e'
      rw [List.getElem?_set_self (by omega)]; simp
    · rw [List.getElem?_set_ne (fun e => e' e.symm), h3 c' hc']; simp [e']
  · exact ⟨row', by rw [List.getElem?_set_ne (fun e' => e e'.symm)]; exact h1, h2, fun c' hc' => by rw [h3 c' hc']; simp [e]⟩
theorem Mx.swap {n m : Nat} {M : List (List Int)} {F : Nat → Nat → Int} (h : Mx n m M F) {a b : Nat} (ha : a < n) (hb : b < n) {ra rb : List Int} (h1 : M[a]? = some ra) (h2 : M[b]? = some rb) : Mx n m ((M.set a rb).set b ra) (fun i => F (tr a b i)) := by
  have hl := h.len
  obtain ⟨ra', k1, k2, k3⟩ := h.row a ha
  obtain ⟨rb', l1, l2, l3⟩ := h.row b hb
  rw [h1] at k1
  rw [h2] at l1
  obtain rfl := Option.some.inj k1
  obtain rfl := Option.some.inj l1
  refine ⟨by rw [List.length_set, List.length_set]; exact hl, fun r hr => ?_⟩
  by_cases e : r = b
  · subst e
    refine ⟨ra, by rw [List.getElem?_set_self (by rw [List.length_set]; omega)], k2, fun c hc => ?_⟩
    rw [k3 c hc]
    unfold tr
    by_cases e' : r = a
    · rw [if_pos e', e']
    · rw [if_neg e', if_pos rfl]
  · rw [List.getElem?_set_ne (fun e' => e e'.symm)]
    by_cases e' : r = a
    · subst e'
      refine ⟨rb, by rw [List.getElem?_set_self (by omega)], l2, fun c hc => ?_⟩
      rw [l3 c hc]
      unfold tr; rw [if_pos rfl]
    · rw [List.getElem?_set_ne (fun e'' => e' e''.symm)]
      obtain ⟨row, m1, m2, m3⟩ := h.row r hr
      refine ⟨row, m1, m2, fun c hc => ?_⟩
      rw [m3 c hc]
      unfold tr; rw [if_neg e', if_neg e]
theorem Mx.at {n m : Nat} {M : List (List Int)} {F : Nat → Nat → Int} (h : Mx n m M F) {r : Nat} (hr : r < n) : ∃ row, idx M (r : Int) = some row ∧ M[r]? = some row ∧ row.length = m ∧ ∀ c : Nat, c < m → idx row (c : Int) = some (F r c) := by
  obtain ⟨row, h1, h2, h3⟩ := h.row r hr
  exact ⟨row, by rw [idx_nat]; exact h1, h1, h2, fun c hc => by rw [idx_nat]; exact h3 c hc⟩
/-- what a list of rows holds -/
def fM (M : List (List Int)) (r c : Nat) : Int := (M.getD r []).getD c 0
theorem Mx.of {n m : Nat} {M : List (List Int)} (h1 : M.length = n) (h2 : ∀ r ∈ M, r.length = m) : Mx n m M (fM M) := by
  refine ⟨h1, fun r hr => ?_⟩
  have hg : M[r]? = some M[r] := List.getElem?_eq_getElem (by omega)
  have hl := h2 M[r] (List.getElem_mem _)
  refine ⟨M[r], hg, hl, fun c hc => ?_⟩
  unfold fM
  rw [List.getD_eq_getElem?_getD (l := M), hg, Option.getD_some, List.getD_eq_getElem?_getD, List.getElem?_eq_getElem (by omega)]; rfl
/-- the first row with something in a column -/
theorem first_row (P : List Int → Bool) {body : Int → List Int → Unit → Option (Flow Unit (Esc Int Unit))} {l : List (List Int)} (hb : ∀ i a, a ∈ l → body i a () = some (bif P a then .done (.ret i) else .next ())) :
    (forL body (fun _ => (Esc.brk () : Esc Int Unit)) l 0 () = some (.brk ()) ∧ ∀ a ∈ l, P a = false) ∨ ∃ (q : Nat) (a : List Int), forL body (fun _ => (Esc.brk () : Esc Int Unit)) l 0 () = some (.ret (q : Int)) ∧ l[q]? = some a ∧ P a = true := by
  obtain ⟨y, h1, h2⟩ := forL_inv (body := body) (fin := fun _ => (Esc.brk () : Esc Int Unit)) (l := l) (x := ()) (fun n _ => ∀ t a, t < n → l[t]? = some a → P a = false)
    (fun y => (y = .brk () ∧ ∀ a ∈ l, P a = false) ∨ ∃ (q : Nat) (a : List Int), y = .ret (q : Int) ∧ l[q]? = some a ∧ P a = true) (fun t a ht => by omega)
    (by
      rintro n a ⟨⟩ ha hI
      rw [hb n a (List.mem_of_getElem? ha)]
      cases hp : P a with
      | true => exact ⟨_, rfl, .inr ⟨n, a, rfl, ha, hp⟩⟩
      | false =>
        refine ⟨_, rfl, fun t b ht hb' => ?_⟩
        by_cases e : t = n
        · subst e
          rw [ha] at hb'
          rw [← Option.some.inj hb']; exact hp
        · exact hI t b (by omega) hb')
    (by
      rintro ⟨⟩ hI
      refine .inl ⟨rfl, fun a ha => ?_⟩
      obtain ⟨t, ht, e⟩ := List.getElem_of_mem ha
      exact hI t a ht (by rw [List.getElem?_eq_getElem ht, e]))
  rcases h2 with ⟨rfl, h2⟩ | ⟨q, a, rfl, h2⟩
  · exact .inl ⟨h1, h2⟩
  · exact .inr ⟨q, a, h1, h2⟩
theorem sub_drop {α : Type} (M : List α) (k : Nat) : sub M (k : Int) (List.length M : Int) = M.drop k := by
  simp only [sub, Int.toNat_natCast]
  exact List.take_of_length_le (by simp)

theorem bd_mono : bd 20 1 = 20 ∧ bd 20 2 = 800 ∧ bd 20 3 = 48000 ∧ bd 20 4 = 3840000 ∧ bd 20 5 = 384000000 ∧ bd 20 6 = 46080000000 := by decide
theorem bd_le {k : Nat} (h : k ≤ 5) : bd 20 k ≤ 384000000 := by
  obtain ⟨b1, b2, b3, b4, b5, _⟩ := bd_mono
  have h0 : bd 20 0 = 1 := rfl
  rcases (show k = 0 ∨ k = 1 ∨ k = 2 ∨ k = 3 ∨ k = 4 ∨ k = 5 by omega) with rfl | rfl | rfl | rfl | rfl | rfl <;> omega
theorem bd_le6 {k : Nat} (h : k ≤ 6) : bd 20 k ≤ 46080000000 := by
  by_cases e : k = 6
  · subst e; rw [bd_mono.2.2.2.2.2]; omega
  · have := bd_le (k := k) (by omega); omega

def X4 : Nat → Nat
  | 0 => 1
  | k + 1 => 2 * X4 k * X4 k
theorem x4_vals : X4 0 = 1 ∧ X4 1 = 2 ∧ X4 2 = 8 ∧ X4 3 = 128 := by decide
theorem x4_pos : ∀ k, 1 ≤ X4 k
  | 0 => Nat.le_refl _
  | k + 1 => by
    have := x4_pos k
    have h : 1 * 1 ≤ X4 k * X4 k := Nat.mul_le_mul this this
    simp only [X4, Nat.mul_assoc]; omega
theorem x4_mono (k : Nat) : X4 k ≤ X4 (k + 1) := by
  have := x4_pos k
  have h : 1 * X4 k ≤ X4 k * X4 k := Nat.mul_le_mul this (Nat.le_refl _)
  simp only [X4, Nat.mul_assoc]; omega
theorem x4_small {r n : Nat} (h : r + 1 < n) (hn : n ≤ 4) : X4 r ≤ 8 := by
  obtain ⟨h0, h1, h2, _⟩ := x4_vals
  rcases (show r = 0 ∨ r = 1 ∨ r = 2 by omega) with rfl | rfl | rfl <;> omega
theorem wmul8 {a b : Int} (ha : a.natAbs ≤ 8) (hb : b.natAbs ≤ 8) : w64 (a * b) = a * b := by
  have h1 : (a * b).natAbs ≤ 8 * 8 := by rw [Int.natAbs_mul]; exact Nat.mul_le_mul ha hb
  exact w64_id (by omega) (by omega)
theorem abs8 {a b : Int} {K : Nat} (ha : a.natAbs ≤ K) (hb : b.natAbs ≤ K) : (a * b).natAbs ≤ K * K := by rw [Int.natAbs_mul]; exact Nat.mul_le_mul ha hb
theorem tr_inner {n m r i : Nat} (hm : m ≤ 4) (hr : r < n) (hi : r < i ∧ i < n) (hn : n ≤ 4) {x1 x2 : Int × List (List Int)} (hx1 : x1.1 = (r : Int)) (hx2 : x2.1 = (i : Int)) {F : Nat → Nat → Int} (hF : ∀ c, c < m → (F r c).natAbs ≤ 8 ∧ (F i c).natAbs ≤ 8)
    {a b : Int} (ha : a.natAbs ≤ 8) (hb : b.natAbs ≤ 8) {M : List (List Int)} (hM : Mx n m M F) :
    ∃ M', forI (0 : Int) (m : Int) (talk_Rank_b139 x1 x2 a b) (fun x => x) M = some M' ∧ Mx n m M' (fun p q => if p = i then F i q * a - F r q * b else F p q) := by
  refine forI_inv (fun j M' => ∃ k : Nat, j = k ∧ k ≤ m ∧ Mx n m M' (fun p q => if p = i ∧ q < k then F i q * a - F r q * b else F p q)) (fun M' => Mx n m M' (fun p q => if p = i then F i q * a - F r q * b else F p q)) (by omega) (by omega)
    ⟨0, rfl, Nat.zero_le _, hM.congr (fun p q _ _ => by rw [if_neg (by omega)])⟩ ?_ ?_
  · rintro j M' hj0 hj ⟨k, rfl, hk, hM'⟩
    obtain ⟨ri, a1, a2, a3, a4⟩ := hM'.at hi.2
    obtain ⟨rr, b1, b2, b3, b4⟩ := hM'.at hr
    have e1 : idx ri (k : Int) = some (F i k) := by rw [a4 k (by omega)]; simp
    have e2 : idx rr (k : Int) = some (F r k) := by rw [b4 k (by omega), if_neg (by omega)]
    obtain ⟨f1, f2⟩ := hF k (by omega)
    have hd : w64 (w64 (F i k * a) - w64 (F r k * b)) = F i k * a - F r k * b := by
      rw [wmul8 f2 ha, wmul8 f1 hb]
      have := abs8 f2 ha
      have := abs8 f1 hb
      generalize F i k * a = X at *
      generalize F r k * b = Y at *
      exact w64_id (by omega) (by omega)
    unfold talk_Rank_b139
    rw [hx1, hx2, a1, bind_some', b1, bind_some', e1, bind_some', e2, bind_some', hd, Int.toNat_natCast, Int.toNat_natCast]
    refine ⟨_, rfl, k + 1, by omega, by omega, (hM'.set hi.2 a2 _ (c := k)).congr (fun p q _ _ => ?_)⟩
    by_cases q1 : p = i
    · subst q1
      by_cases q2 : q = k
      · subst q2; rw [if_pos ⟨rfl, rfl⟩, if_pos ⟨rfl, by omega⟩]
      · rw [if_neg (fun h => q2 h.2)]
        by_cases q3 : q < k
        · rw [if_pos ⟨rfl, q3⟩, if_pos ⟨rfl, by omega⟩]
        · rw [if_neg (fun h => q3 h.2), if_neg (fun h => q3 (by omega))]
    · rw [if_neg (fun h => q1 h.1), if_neg (fun h => q1 h.1), if_neg (fun h => q1 h.1)]
  · rintro j M' _ h1 h2 ⟨k, rfl, hk, hM'⟩
    have : k = m := by omega
    subst this
    refine hM'.congr (fun p q _ hq => ?_)
    by_cases q1 : p = i
    · rw [if_pos ⟨q1, hq⟩, if_pos q1]
    · rw [if_neg (fun h => q1 h.1), if_neg q1]
theorem tr_outer {n m r c : Nat} (hn : n ≤ 4) (hm : m ≤ 4) (hr : r < n) (hc : c < m) {x1 : Int × List (List Int)} (hx1 : x1.1 = (r : Int)) {F : Nat → Nat → Int} (hF : r + 1 < n → ∀ i j, i < n → j < m → (F i j).natAbs ≤ 8) {M : List (List Int)} (hM : Mx n m M F) {fuel : Nat} (hf : 10 ≤ fuel) :
    ∃ M', iter (talk_Rank_b142 (c : Int) x1) fuel (w64 (x1.1 + (1 : Int)), M) = some M' ∧ Mx n m M' (fun p q => if r < p then F p q * F r c - F r q * F p c else F p q) := by
  have hw : w64 (x1.1 + 1) = ((r + 1 : Nat) : Int) := by rw [hx1, w64_id (by omega) (by omega)]; omega
  rw [hw]
  refine iter_inv (fun x => ∃ (i : Nat) (M' : List (List Int)), x = ((i : Int), M') ∧ r < i ∧ i ≤ n ∧ Mx n m M' (fun p q => if r < p ∧ p < i then F p q * F r c - F r q * F p c else F p q)) (fun x => ((n : Int) - x.1).toNat) (fun M' => Mx n m M' (fun p q => if r < p then F p q * F r c - F r q * F p c else F p q)) ?_ fuel _ (by simp only; omega)
    ⟨r + 1, M, rfl, by omega, by omega, hM.congr (fun p q _ _ => by rw [if_neg (by omega)])⟩
  rintro _ ⟨i, M', rfl, hi1, hi2, hM'⟩
  unfold talk_Rank_b142
  simp only
  rw [hM'.len]
  by_cases hi : i < n
  · obtain ⟨ri, a1, a2, a3, a4⟩ := hM'.at hi
    obtain ⟨rr, b1, b2, b3, b4⟩ := hM'.at hr
    have e1 : idx ri (c : Int) = some (F i c) := by rw [a4 c hc, if_neg (by omega)]
    have e2 : idx rr (c : Int) = some (F r c) := by rw [b4 c hc, if_neg (by omega)]
    have hck : ck (x1.1 ≠ (i : Int)) = some () := ck_ok (by omega)
    have hF' := hF (by omega)
    obtain ⟨M2, h1, h2⟩ := tr_inner (i := i) hm hr ⟨hi1, hi⟩ hn (x1 := x1) (x2 := ((i : Int), M')) hx1 rfl (a := F r c) (b := F i c) (fun q hq => by
      rw [if_neg (by omega), if_neg (by omega)]
      exact ⟨hF' r q hr hq, hF' i q hi hq⟩) (hF' r c hr hc) (hF' i c hi hc) hM'
    rw [decide_eq_true (by omega), cond_true]
    rw [hx1] at hck ⊢
    rw [b1, bind_some', a1, bind_some', hck, bind_some', e2, bind_some', e1, bind_some', a3, h1, bind_some']
    refine ⟨_, rfl, ⟨i + 1, M2, by rw [w64_id (by omega) (by omega)]; rfl, by omega, by omega, h2.congr (fun p q _ _ => ?_)⟩, by simp only; rw [w64_id (by omega) (by omega)]; omega⟩
    by_cases q1 : p = i
    · subst q1
      rw [if_pos rfl, if_neg (by omega), if_neg (by omega), if_pos ⟨hi1, by omega⟩]
    · rw [if_neg q1]
      by_cases q2 : r < p ∧ p < i
      · rw [if_pos q2, if_pos ⟨q2.1, by omega⟩]
      · rw [if_neg q2, if_neg (fun h => q2 ⟨h.1, by omega⟩)]
  · rw [decide_eq_false (by omega), cond_false]
    refine ⟨_, rfl, hM'.congr (fun p q hp _ => ?_)⟩
    by_cases q1 : r < p
    · rw [if_pos ⟨q1, by omega⟩, if_pos q1]
    · rw [if_neg (fun h => q1 h.1), if_neg q1]
def TInv (n m c : Nat) (A : Nat → Nat → Int) (x : Int × List (List Int)) : Prop :=
  ∃ (r : Nat) (F : Nat → Nat → Int) (J : List Nat), x.1 = (r : Int) ∧ r < n ∧ Mx n m x.2 F ∧ RInv n c r A F J ∧ ∀ i j, i < n → j < m → (F i j).natAbs ≤ X4 r
theorem tr_stage {n m c : Nat} (hn : n ≤ 4) (hm : m ≤ 4) (hc : c < m) {A : Nat → Nat → Int} {x : Int × List (List Int)} (h : TInv n m c A x) {fuel : Nat} (hf : 10 ≤ fuel) :
    (∃ x', talk_Rank_b148 fuel (c : Int) x = some (.next x') ∧ TInv n m (c + 1) A x') ∨ (∃ F J, talk_Rank_b148 fuel (c : Int) x = some (.done (n : Int)) ∧ RInv n (c + 1) n A F J) := by
  obtain ⟨r, F, J, hx, hr, hM, hR, hb⟩ := h
  have hlen := hM.len
  have hck : ck (0 ≤ x.1 ∧ x.1 ≤ (List.length x.2 : Int) ∧ (List.length x.2 : Int) ≤ (List.length x.2 : Int)) = some () := ck_ok (by omega)
  unfold talk_Rank_b148 talk_Rank_g145 slices_IndexFunc_LLintLint_with_talk_Rank_1
  rw [hck, bind_some', hx, sub_drop]
  have hrow : ∀ i a, a ∈ x.2.drop r → slices_IndexFunc_LLintLint_with_talk_Rank_1_b1 (c : Int) i a () = some (bif (a.getD c 0 != 0) then .done (.ret i) else .next ()) := by
    intro i a ha
    obtain ⟨t, ht, e⟩ := List.getElem_of_mem (List.mem_of_mem_drop ha)
    obtain ⟨row, h1, h2, h3⟩ := hM.row t (by omega)
    rw [List.getElem?_eq_getElem ht, e] at h1
    obtain rfl := Option.some.inj h1
    unfold slices_IndexFunc_LLintLint_with_talk_Rank_1_b1 talk_Rank_1
    have : idx a (c : Int) = some (a.getD c 0) := by rw [idx_nat, List.getD_eq_getElem?_getD, h3 c hc]; rfl
    rw [this]
    simp only [bind_some']
    cases (a.getD c 0 != 0) <;> rfl
  rcases first_row (fun a => a.getD c 0 != 0) hrow with ⟨h1, h2⟩ | ⟨q, a, h1, h2, h3⟩
  · left
    rw [h1]
    refine ⟨((r : Int), x.2), rfl, r, F, J, rfl, hr, hM, hR.skip (fun i hi1 hi2 => ?_), hb⟩
    obtain ⟨row, g1, g2, g3⟩ := hM.row i hi2
    have hmem : row ∈ x.2.drop r := List.mem_of_getElem? (i := i - r) (by rw [List.getElem?_drop, show r + (i - r) = i by omega]; exact g1)
    have := h2 row hmem
    rw [List.getD_eq_getElem?_getD, g3 c hc] at this
    simpa using this
  · rw [List.getElem?_drop] at h2
    have hq : r + q < n := by have := (List.getElem?_eq_some_iff.1 h2).1; omega
    have hne : F (r + q) c ≠ 0 := by
      obtain ⟨row, g1, g2, g3⟩ := hM.row (r + q) hq
      rw [h2] at g1
      obtain rfl := Option.some.inj g1
      rw [List.getD_eq_getElem?_getD, g3 c hc] at h3
      simpa using h3
    have hw : w64 ((r : Int) + (q : Int)) = ((r + q : Nat) : Int) := by rw [w64_id (by omega) (by omega)]; omega
    obtain ⟨ra, a1, a2, _⟩ := hM.at hr
    obtain ⟨rb, b1, b2, _⟩ := hM.at hq
    have hσ : ∀ i, i < n → tr r (r + q) i < n := fun i hi => by unfold tr; split <;> (try split) <;> omega
    have hM1 := hM.swap hr hq a2 b2
    have hR1 := hR.perm (tr r (r + q)) (fun i hi => by unfold tr; rw [if_neg (by omega), if_neg (by omega)]) (fun i hi1 hi2 => by unfold tr; split <;> (try split) <;> omega) (fun i hi => by
      unfold tr
      by_cases e1 : i = r
      · subst e1; rw [if_pos rfl]; by_cases e2 : i + q = i
        · rw [if_pos e2]; omega
        · rw [if_neg e2, if_pos rfl]
      · rw [if_neg e1]
        by_cases e2 : i = r + q
        · rw [if_pos e2, if_pos rfl, e2]
        · rw [if_neg e2, if_neg e1, if_neg e2])
    obtain ⟨G, hG⟩ : ∃ G : Nat → Nat → Int, G = fun i => F (tr r (r + q) i) := ⟨_, rfl⟩
    rw [← hG] at hM1 hR1
    have hGr : G r c ≠ 0 := by rw [hG]; simp only; unfold tr; rw [if_pos rfl]; exact hne
    have hGb : ∀ i j, i < n → j < m → (G i j).natAbs ≤ X4 r := fun i j hi hj => by rw [hG]; exact hb _ j (hσ i hi) hj
    obtain ⟨M2, m1, m2⟩ := tr_outer (c := c) hn hm hr hc (x1 := x) hx (F := G) (fun h i j hi hj => Nat.le_trans (hGb i j hi hj) (x4_small h hn)) hM1 hf
    have hR2 := hR1.step hr hGr
    rw [hx] at m1
    have hw1 : w64 ((r : Int) + (1 : Int)) = ((r + 1 : Nat) : Int) := by rw [w64_id (by omega) (by omega)]; omega
    rw [h1]
    simp only [bind_some']
    rw [decide_eq_false (by omega), cond_false, hw, b1]
    simp only [bind_some']
    rw [a1]
    simp only [bind_some']
    rw [Int.toNat_natCast, Int.toNat_natCast, m1]
    simp only [bind_some']
    rw [hw1, m2.len]
    by_cases hfin : r + 1 = n
    · right
      refine ⟨fun i j => if r < i then G i j * G r c - G r j * G i c else G i j, J ++ [c], ?_, ?_⟩
      · rw [hfin]; simp
      · rw [← hfin] at hR2 ⊢
        exact hR2
    · left
      have hne2 : ((((r + 1 : Nat) : Int)) == (n : Int)) = false := by rw [beq_eq_false_iff_ne]; omega
      rw [hne2, cond_false]
      refine ⟨(((r + 1 : Nat) : Int), M2), rfl, r + 1, _, J ++ [c], rfl, by omega, m2, hR2, fun i j hi hj => ?_⟩
      by_cases e : r < i
      · rw [if_pos e]
        have k1 := abs8 (hGb i j hi hj) (hGb r c hr hc)
        have k2 := abs8 (hGb r j hr hj) (hGb i c hi hc)
        simp only [X4, Nat.mul_assoc]
        omega
      · rw [if_neg e]
        exact Nat.le_trans (hGb i j hi hj) (x4_mono r)
def b2i (b : Bool) : Int := bif b then 1 else 0
theorem tr_rows {n m : Nat} {t : List (List Bool)} (hn : t.length = n) (hm : ∀ r ∈ t, r.length = m) (h1 : n ≤ 4) (h2 : m ≤ 4) : forL talk_Rank_b28 (fun x130 => x130) t 0 [] = some (t.map fun r => r.map b2i) := by
  obtain ⟨y, q1, rfl⟩ := forL_inv (body := talk_Rank_b28) (fin := fun x => x) (l := t) (x := []) (fun k x => x = (t.take k).map fun r => r.map b2i) (fun y => y = t.map fun r => r.map b2i) rfl
    (by
      rintro k r x hr rfl
      have hrm := hm r (List.mem_of_getElem? hr)
      have hk := (List.getElem?_eq_some_iff.1 hr).1
      obtain ⟨z, g1, rfl⟩ := forL_inv (body := talk_Rank_b25) (fin := fun x => x) (l := r) (x := []) (fun j x => x = (r.take j).map b2i) (fun y => y = r.map b2i) rfl
        (by
          rintro j b x hb rfl
          have hj := (List.getElem?_eq_some_iff.1 hb).1
          have hck : ck ((List.length ((r.take j).map b2i) : Int) + 1 ≤ 4294967296) = some () := ck_ok (by rw [List.length_map, List.length_take]; omega)
          unfold talk_Rank_b25
          refine ⟨.next ((r.take j).map b2i ++ [b2i b]), ?_, ?_⟩
          · rw [bif_some, bind_some', hck, bind_some']; rfl
          · simp only
            rw [List.take_add_one, hb, List.map_append]; rfl)
        (by rintro x rfl; simp)
      have hck : ck ((List.length ((t.take k).map fun r => r.map b2i) : Int) + 1 ≤ 4294967296) = some () := ck_ok (by rw [List.length_map, List.length_take]; omega)
      unfold talk_Rank_b28
      rw [g1, bind_some', hck, bind_some', Int.toNat_natCast, List.set_append_right _ _ (Nat.le_refl _), Nat.sub_self, List.set_cons_zero]
      refine ⟨_, rfl, ?_⟩
      simp only
      rw [List.take_add_one, hr, List.map_append]; rfl)
    (by rintro x rfl; simp)
  exact q1
/-- what the program finds -/
theorem rank_eq {n m : Nat} {t : List (List Bool)} (hn : t.length = n) (hm : ∀ r ∈ t, r.length = m) (h1 : 1 ≤ n ∧ n ≤ 4) (h2 : 1 ≤ m ∧ m ≤ 4) (hw : talk_wrong t = some 0) {fuel : Nat} (hf : 10 ≤ fuel) {A : Nat → Nat → Int} (hA : A = fM (t.map fun r => r.map b2i)) :
    ∃ (r : Nat) (J : List Nat), talk_Rank fuel t = some ((r : Int), 0) ∧ J.length = r ∧ (∀ j ∈ J, j < m) ∧ asc J ∧ (∃ Is : List Nat, Is.length = r ∧ (∀ i ∈ Is, i < n) ∧ asc Is ∧ Dt (Is.map A) J ≠ 0) ∧ ∀ (J' : List Nat) (s : Nat), r < s → (∀ j ∈ J', j < m) → ZJ n A J' s := by
  have hMx : Mx n m (t.map fun r => r.map b2i) A := by
    rw [hA]
    exact Mx.of (by simpa using hn) (fun r hr => by
      obtain ⟨q, hq, rfl⟩ := List.mem_map.1 hr
      rw [List.length_map]; exact hm q hq)
  have hAb : ∀ i j, i < n → j < m → (A i j).natAbs ≤ X4 0 := by
    intro i j hi hj
    obtain ⟨row, g1, g2, g3⟩ := hMx.row i hi
    have g3 := g3 j hj
    rw [List.getElem?_map] at g1
    obtain ⟨q, _, rfl⟩ := Option.map_eq_some_iff.1 g1
    rw [List.getElem?_map] at g3
    obtain ⟨b, _, e⟩ := Option.map_eq_some_iff.1 g3
    rw [← e]
    cases b <;> decide
  obtain ⟨r0, e1, _, e3, _⟩ := hMx.at (r := 0) (by omega)
  obtain ⟨y, q1, c, r, F, J, rfl, hc, hR, he⟩ := forI_inv (body := talk_Rank_b148 fuel) (fin := fun x1883 => x1883.1) (lo := 0) (hi := (m : Int)) (x := ((0 : Int), t.map fun r => r.map b2i))
    (fun i x => ∃ c : Nat, i = c ∧ c ≤ m ∧ TInv n m c A x) (fun y => ∃ (c r : Nat) (F : Nat → Nat → Int) (J : List Nat), y = (r : Int) ∧ c ≤ m ∧ RInv n c r A F J ∧ (c = m ∨ r = n)) (by omega) (by omega)
    ⟨0, rfl, Nat.zero_le _, 0, A, [], rfl, by omega, hMx, RInv.init n A, hAb⟩
    (by
      rintro i x hi0 hi ⟨c, rfl, hc, hI⟩
      rcases tr_stage h1.2 h2.2 (by omega) hI hf with ⟨x', g1, g2⟩ | ⟨F, J, g1, g2⟩
      · exact ⟨_, g1, c + 1, by omega, by omega, g2⟩
      · exact ⟨_, g1, c + 1, n, F, J, rfl, by omega, g2, .inr rfl⟩)
    (by
      rintro i x _ k1 k2 ⟨c, rfl, hc, r, F, J, g1, g2, g3, g4, g5⟩
      exact ⟨c, r, F, J, g1, hc, g4, .inl (by omega)⟩)
  obtain ⟨f1, f2⟩ := hR.fin (m := m) he
  refine ⟨r, J, ?_, hR.jl, fun j hj => by have := hR.jc j hj; omega, hR.ja, f1, f2⟩
  unfold talk_Rank
  rw [hw, bind_some', show ((0 : Int) != 0) = false from rfl, cond_false, tr_rows hn hm h1.2 h2.2, bind_some', show idx (t.map fun r => r.map b2i) (0 : Int) = some r0 from e1, bind_some', e3, q1, bind_some']

structure SqOk (n : Nat) (rows : List (List Int)) : Prop where
  len : rows.length = n
  row : ∀ r ∈ rows, r.length = n
  val : ∀ r ∈ rows, ∀ v ∈ r, v.natAbs ≤ 20
theorem without_eq {n : Nat} (hn : n ≤ 5) {r : List Int} {rows : List (List Int)} (h : SqOk (n + 1) (r :: rows)) {j : Nat} (hj : j ≤ n) : ref_without (r :: rows) (j : Int) = some (rows.map (·.eraseIdx j)) := by
  unfold ref_without
  have hl : rows.length = n := by have := h.len; simpa using this
  have hck : ck (0 ≤ (1 : Int) ∧ (1 : Int) ≤ (List.length (r :: rows) : Int) ∧ (List.length (r :: rows) : Int) ≤ (List.length (r :: rows) : Int)) = some () := ck_ok (by rw [List.length_cons]; omega)
  have es : sub (r :: rows) (1 : Int) (List.length (r :: rows) : Int) = rows := by
    simp only [sub, Int.toNat_natCast, List.length_cons]
    show List.take (rows.length + 1 - 1) rows = rows
    exact List.take_of_length_le (by omega)
  rw [hck, bind_some', es]
  obtain ⟨y, h1, rfl⟩ := forL_inv (body := ref_without_b1 (j : Int)) (fin := fun x => x) (l := rows) (x := ([] : List (List Int))) (fun k x => x = (rows.take k).map (·.eraseIdx j)) (fun y => y = rows.map (·.eraseIdx j)) (by simp)
    (by
      rintro k q x hq rfl
      have hq1 := h.row q (List.mem_cons_of_mem _ (List.mem_of_getElem? hq))
      have e1 : sub q (0 : Int) (j : Int) = q.take j := by simp [sub]
      have e2 : w64 ((j : Int) + 1) = ((j + 1 : Nat) : Int) := by rw [w64_id (by omega) (by omega)]; omega
      have e3 : sub q ((j + 1 : Nat) : Int) (List.length q : Int) = q.drop (j + 1) := by
        simp only [sub, Int.toNat_natCast]
        exact List.take_of_length_le (by simp)
      have c1 : ck (0 ≤ (0 : Int) ∧ (0 : Int) ≤ (j : Int) ∧ (j : Int) ≤ (List.length q : Int)) = some () := ck_ok (by omega)
      have c2 : ck ((0 : Int) + (List.length (q.take j) : Int) ≤ 4294967296) = some () := ck_ok (by rw [List.length_take]; omega)
      have c3 : ck (0 ≤ ((j + 1 : Nat) : Int) ∧ ((j + 1 : Nat) : Int) ≤ (List.length q : Int) ∧ (List.length q : Int) ≤ (List.length q : Int)) = some () := ck_ok (by omega)
      have c4 : ck ((List.length ([] ++ q.take j) : Int) + (List.length (q.drop (j + 1)) : Int) ≤ 4294967296) = some () := ck_ok (by rw [List.nil_append, List.length_take, List.length_drop]; omega)
      have c5 : ck ((List.length ((rows.take k).map (·.eraseIdx j)) : Int) + 1 ≤ 4294967296) = some () := ck_ok (by rw [List.length_map, List.length_take]; omega)
      unfold ref_without_b1
      rw [e1, e2, e3, c1, bind_some', c2, bind_some', c3, bind_some', c4, bind_some', c5, bind_some']
      refine ⟨_, rfl, ?_⟩
      simp only
      rw [List.take_add_one, hq, List.map_append, List.nil_append, ← List.eraseIdx_eq_take_drop_succ]; rfl)
    (by rintro x rfl; simp)
  rw [h1]; rfl
theorem sq_erase {n : Nat} {r : List Int} {rows : List (List Int)} (h : SqOk (n + 1) (r :: rows)) {j : Nat} (hj : j ≤ n) : SqOk n (rows.map (·.eraseIdx j)) := by
  refine ⟨by have := h.len; simpa using this, ?_, ?_⟩
  · intro q0 hq0
    obtain ⟨q, hq, rfl⟩ := List.mem_map.1 hq0
    have := h.row q (List.mem_cons_of_mem _ hq)
    rw [List.length_eraseIdx, if_pos (by omega), this]; rfl
  · intro q0 hq0 v hv
    obtain ⟨q, hq, rfl⟩ := List.mem_map.1 hq0
    exact h.val q (List.mem_cons_of_mem _ hq) v (List.mem_of_mem_eraseIdx hv)

/-- signs by turns -/
def sg1 : Nat → Int
  | 0 => 1
  | n + 1 => - sg1 n
theorem sg1_or (n : Nat) : sg1 n = 1 ∨ sg1 n = -1 := by
  induction n with
  | zero => exact .inl rfl
  | succ n ih => simp only [sg1]; omega
def sumTo (g : Nat → Int) : Nat → Int
  | 0 => 0
  | n + 1 => sumTo g n + g n
theorem sumTo_succ (g : Nat → Int) : ∀ n, sumTo g (n + 1) = g 0 + sumTo (fun j => g (j + 1)) n
  | 0 => by simp [sumTo]
  | n + 1 => by
    rw [sumTo, sumTo_succ g n]
    simp only [sumTo]; omega
theorem sumTo_congr {g h : Nat → Int} : ∀ {n : Nat}, (∀ j, j < n → g j = h j) → sumTo g n = sumTo h n
  | 0, _ => rfl
  | n + 1, e => by
    simp only [sumTo]
    rw [sumTo_congr (fun j hj => e j (by omega)), e n (by omega)]
theorem sumTo_neg (g : Nat → Int) : ∀ n, sumTo (fun j => - g j) n = - sumTo g n
  | 0 => rfl
  | n + 1 => by simp only [sumTo]; rw [sumTo_neg g n]; omega
theorem alt_sum : ∀ (cols : List Nat) (f : Nat → List Nat → Int), alt f cols = sumTo (fun j => sg1 j * f (cols.getD j 0) (cols.eraseIdx j)) cols.length
  | [], _ => rfl
  | c :: cs, f => by
    rw [List.length_cons, sumTo_succ]
    simp only [alt]
    rw [alt_sum cs]
    have e1 : sg1 0 * f ((c :: cs).getD 0 0) ((c :: cs).eraseIdx 0) = f c cs := by simp [sg1]
    have e2 : sumTo (fun j => sg1 (j + 1) * f ((c :: cs).getD (j + 1) 0) ((c :: cs).eraseIdx (j + 1))) cs.length = - sumTo (fun j => sg1 j * f (cs.getD j 0) (c :: cs.eraseIdx j)) cs.length := by
      rw [← sumTo_neg]
      refine sumTo_congr (fun j hj => ?_)
      simp [sg1, Int.neg_mul]
    rw [e1, e2]; omega
def skip (j c : Nat) : Nat := if c < j then c else c + 1
theorem range_erase {n j : Nat} (hj : j ≤ n) : (List.range (n + 1)).eraseIdx j = (List.range n).map (skip j) := by
  apply List.ext_getElem?
  intro i
  rw [List.getElem?_eraseIdx, List.getElem?_map]
  unfold skip
  by_cases h : i < j
  · rw [if_pos h, List.getElem?_range (by omega), List.getElem?_range (by omega), Option.map_some, if_pos h]
  · rw [if_neg h]
    by_cases h2 : i < n
    · rw [List.getElem?_range (by omega), List.getElem?_range h2, Option.map_some, if_neg h]
    · rw [List.getElem?_eq_none (by simp; omega), List.getElem?_eq_none (by simp; omega)]; rfl
def rf (r : List Int) (c : Nat) : Int := r.getD c 0
theorem rf_erase (r : List Int) (j : Nat) : rf (r.eraseIdx j) = fun c => rf r (skip j c) := by
  funext c
  unfold rf skip
  rw [List.getD_eq_getElem?_getD, List.getElem?_eraseIdx, List.getD_eq_getElem?_getD]
  split <;> rfl
theorem Dt_rows {n j : Nat} (hj : j ≤ n) (rows : List (List Int)) : Dt (rows.map rf) ((List.range (n + 1)).eraseIdx j) = Dt ((rows.map (·.eraseIdx j)).map rf) (List.range n) := by
  rw [range_erase hj, Dt_map, List.map_map, List.map_map]
  congr 1
  refine List.map_congr_left (fun r _ => ?_)
  simp only [Function.comp]
  rw [rf_erase]
theorem fM_rows {n : Nat} {rows : List (List Int)} (h : rows.length = n) : (List.range n).map (fM rows) = rows.map rf := by
  apply List.ext_getElem?
  intro i
  rw [List.getElem?_map, List.getElem?_map]
  by_cases hi : i < n
  · rw [List.getElem?_range hi, List.getElem?_eq_getElem (show i < rows.length by omega)]
    simp only [Option.map_some]
    congr 1
    funext c
    unfold fM rf
    rw [List.getD_eq_getElem?_getD (l := rows), List.getElem?_eq_getElem (show i < rows.length by omega)]; rfl
  · rw [List.getElem?_eq_none (by simp; omega), List.getElem?_eq_none (by omega)]; rfl
theorem Dt_rf_abs {n : Nat} {rows : List (List Int)} (h : SqOk n rows) : (Dt (rows.map rf) (List.range n)).natAbs ≤ bd 20 n := by
  have := Dt_abs 20 (rows.map rf) (List.range n) (by simp [h.len]) (fun r hr c hc => by
    obtain ⟨row, hrow, rfl⟩ := List.mem_map.1 hr
    have hl := h.row row hrow
    have hcn := List.mem_range.1 hc
    unfold rf
    rw [List.getD_eq_getElem?_getD, List.getElem?_eq_getElem (by omega)]
    exact h.val row hrow _ (List.getElem_mem _))
  simpa using this

theorem signed_r : ∀ (n fuel : Nat) (rows : List (List Int)), n ≤ 6 → n < fuel → SqOk n rows → ref_Signed fuel rows = some (Dt (rows.map rf) (List.range n))
  | n, 0, rows, _, h, _ => by omega
  | 0, fuel + 1, rows, _, _, h => by
    have := h.len
    obtain rfl : rows = [] := List.length_eq_zero_iff.1 this
    rfl
  | n + 1, fuel + 1, rows, hn, hf, h => by
    match rows, h with
    | [], h => exact absurd h.len (by simp)
    | r :: rs, h =>
      have hlen := h.len
      have hrl := h.row r (by simp)
      obtain ⟨g, hg⟩ : ∃ g : Nat → Int, g = fun j => rf r j * Dt (rs.map rf) ((List.range (n + 1)).eraseIdx j) := ⟨_, rfl⟩
      have hgb : ∀ j, j ≤ n → (g j).natAbs ≤ 20 * bd 20 n ∧ (rf r j).natAbs ≤ 20 ∧ (Dt (rs.map rf) ((List.range (n + 1)).eraseIdx j)).natAbs ≤ bd 20 n := by
        intro j hj
        have h1 : (rf r j).natAbs ≤ 20 := by
          unfold rf
          rw [List.getD_eq_getElem?_getD, List.getElem?_eq_getElem (by omega)]
          exact h.val r (by simp) _ (List.getElem_mem _)
        have h2 := Dt_rf_abs (sq_erase h hj)
        rw [← Dt_rows hj] at h2
        refine ⟨?_, h1, h2⟩
        rw [hg, Int.natAbs_mul]
        exact Nat.mul_le_mul h1 h2
      have hb5 : bd 20 n ≤ 384000000 := bd_le (by omega)
      have hlen2 : (((List.length (r :: rs) : Nat) : Int) == (0 : Int)) = false := by rw [hlen, beq_eq_false_iff_ne]; omega
      show ref_Signed_step (ref_Signed fuel) fuel (r :: rs) = _
      unfold ref_Signed_step
      rw [hlen2, cond_false]
      have hs : ∀ k, k ≤ n + 1 → (sumTo (fun j => sg1 j * g j) k).natAbs ≤ k * (20 * bd 20 n) := by
        intro k
        induction k with
        | zero => intro _; simp [sumTo]
        | succ k ih =>
          intro hk
          have h1 := ih (by omega)
          have h2 := (hgb k (by omega)).1
          have h3 : (sg1 k * g k).natAbs = (g k).natAbs := by
            rcases sg1_or k with e | e <;> rw [e] <;> simp
          rw [Nat.succ_mul]
          simp only [sumTo]
          generalize 20 * bd 20 n = Q at h1 h2 ⊢
          generalize k * Q = KQ at h1 ⊢
          omega
      obtain ⟨y, q1, q2⟩ := forL_inv (body := ref_Signed_b1 (r :: rs) (ref_Signed fuel)) (fin := fun x23 => x23.1) (l := r :: rs) (x := ((0 : Int), (1 : Int)))
        (fun k x => x = (sumTo (fun j => sg1 j * g j) k, sg1 k)) (fun y => y = sumTo (fun j => sg1 j * g j) (n + 1)) rfl
        (by
          rintro k a x ha rfl
          have hk := (List.getElem?_eq_some_iff.1 ha).1
          rw [hlen] at hk
          have i1 : idx (r :: rs) (0 : Int) = some r := rfl
          have i2 : idx r (k : Int) = some (rf r k) := by
            rw [idx_nat]; unfold rf
            rw [List.getD_eq_getElem?_getD, List.getElem?_eq_getElem (by omega)]; rfl
          have i3 := without_eq (by omega) h (j := k) (by omega)
          have i4 := signed_r n fuel _ (by omega) (by omega) (sq_erase h (j := k) (by omega))
          rw [← Dt_rows (by omega)] at i4
          obtain ⟨b1, b2, b3⟩ := hgb k (by omega)
          have hsg := sg1_or k
          have h0 := hs k (by omega)
          have hkb : k * (20 * bd 20 n) ≤ 6 * (20 * 384000000) := Nat.mul_le_mul (by omega) (by omega)
          have w1 : w64 (sg1 k * rf r k) = sg1 k * rf r k := by
            rcases hsg with e | e <;> rw [e] <;> exact w64_id (by omega) (by omega)
          have hge : rf r k * Dt (rs.map rf) ((List.range (n + 1)).eraseIdx k) = g k := by rw [hg]
          have w2 : w64 (sg1 k * rf r k * Dt (rs.map rf) ((List.range (n + 1)).eraseIdx k)) = sg1 k * g k := by
            rw [Int.mul_assoc, hge]
            rcases hsg with e | e <;> rw [e] <;> exact w64_id (by omega) (by omega)
          have w3 : w64 (sumTo (fun j => sg1 j * g j) k + sg1 k * g k) = sumTo (fun j => sg1 j * g j) (k + 1) := by
            simp only [sumTo]
            rcases hsg with e | e <;> rw [e] <;> exact w64_id (by omega) (by omega)
          have w4 : w64 (0 - sg1 k) = sg1 (k + 1) := by
            simp only [sg1]
            rw [w64_id (by omega) (by omega)]; omega
          unfold ref_Signed_b1
          simp only
          rw [i1, bind_some', i2, bind_some', i3, bind_some', i4, bind_some', w1, w2, w3, w4]
          exact ⟨_, rfl, rfl⟩)
        (by rintro x rfl; simp only; rw [hlen])
      rw [q1, bind_some', q2]
      simp only [List.map_cons, Dt]
      rw [alt_sum, List.length_range]
      congr 1
      refine sumTo_congr (fun j hj => ?_)
      rw [hg, List.getD_eq_getElem?_getD, List.getElem?_range hj]; rfl

theorem up_len {n : Nat} {r : List Int} (h : Up (n : Int) 0 r) : r.length ≤ n := by
  cases r with
  | nil => simp
  | cons x r =>
    have h1 := Up.len h
    have := h.1
    simp only [List.length_cons]; omega
/-- the sum of signed products of some rows and some columns -/
def dtm (A : Nat → Nat → Int) (p q : Nat) : Int := Dt ((lst p).map fun i => A i.toNat) ((lst q).map Int.toNat)
theorem sub_mat {n m p q : Nat} {t : List (List Bool)} (hn : t.length = n) (hm : ∀ r ∈ t, r.length = m) (h1 : n ≤ 4) (h2 : m ≤ 4) (hp : p < 2 ^ n) (hq : q < 2 ^ m) {A : Nat → Nat → Int} (hA : A = fM (t.map fun r => r.map b2i)) (B : Int) :
    forL (ref_TalkRank_b883 t (B, (q : Int))) (fun x12049 => x12049) (lst p) 0 [] = some ((lst p).map fun i => (lst q).map fun j => A i.toNat j.toNat) := by
  have hp63 : p < 2 ^ 63 := Nat.lt_of_lt_of_le hp (Nat.pow_le_pow_right (by decide) (by omega))
  have hq63 : q < 2 ^ 63 := Nat.lt_of_lt_of_le hq (Nat.pow_le_pow_right (by decide) (by omega))
  have hup := lst_up hp
  have huq := lst_up hq
  have hlp := up_len hup
  have hlq := up_len huq
  obtain ⟨y, q1, rfl⟩ := forL_inv (body := ref_TalkRank_b883 t (B, (q : Int))) (fin := fun x => x) (l := lst p) (x := []) (fun k x => x = ((lst p).take k).map fun i => (lst q).map fun j => A i.toNat j.toNat) (fun y => y = (lst p).map fun i => (lst q).map fun j => A i.toNat j.toNat) rfl
    (by
      rintro k i x hi rfl
      have hk := (List.getElem?_eq_some_iff.1 hi).1
      obtain ⟨i0, i1⟩ := Up.mem hup i (List.mem_of_getElem? hi)
      obtain ⟨row, r1, r2⟩ := idx_get (xs := t) (i := i) i0 (by omega)
      have hrl := hm row (List.mem_of_getElem? r2)
      obtain ⟨z, g1, rfl⟩ := forL_inv (body := ref_TalkRank_b880 t i) (fin := fun x => x) (l := lst q) (x := []) (fun k x => x = ((lst q).take k).map fun j => A i.toNat j.toNat) (fun y => y = (lst q).map fun j => A i.toNat j.toNat) rfl
        (by
          rintro k j x hj rfl
          have hk := (List.getElem?_eq_some_iff.1 hj).1
          obtain ⟨j0, j1⟩ := Up.mem huq j (List.mem_of_getElem? hj)
          obtain ⟨b, b1, b2⟩ := idx_get (xs := row) (i := j) j0 (by omega)
          have hck : ck ((List.length (((lst q).take k).map fun j => A i.toNat j.toNat) : Int) + 1 ≤ 4294967296) = some () := ck_ok (by rw [List.length_map, List.length_take]; omega)
          have hval : A i.toNat j.toNat = b2i b := by
            rw [hA]; unfold fM
            rw [List.getD_eq_getElem?_getD (l := t.map fun r => r.map b2i), List.getElem?_map, r2, Option.map_some, Option.getD_some, List.getD_eq_getElem?_getD, List.getElem?_map, b2]; rfl
          unfold ref_TalkRank_b880
          refine ⟨.next ((((lst q).take k).map fun j => A i.toNat j.toNat) ++ [A i.toNat j.toNat]), ?_, ?_⟩
          · rw [r1, bind_some', b1, bind_some', bif_some, bind_some', hck, bind_some', hval]; rfl
          · simp only
            rw [List.take_add_one, hj, List.map_append]; rfl)
        (by rintro x rfl; simp)
      have hck : ck ((List.length (((lst p).take k).map fun i => (lst q).map fun j => A i.toNat j.toNat) : Int) + 1 ≤ 4294967296) = some () := ck_ok (by rw [List.length_map, List.length_take]; omega)
      unfold ref_TalkRank_b883
      simp only
      rw [sr_listof hq63, bind_some', g1, bind_some', hck, bind_some']
      refine ⟨_, rfl, ?_⟩
      simp only
      rw [List.take_add_one, hi, List.map_append]; rfl)
    (by rintro x rfl; simp)
  exact q1
theorem sub_signed {n m p q : Nat} (h1 : n ≤ 4) (h2 : m ≤ 4) (hp : p < 2 ^ n) (hq : q < 2 ^ m) (hpc : pc p = pc q) {A : Nat → Nat → Int} (hAb : ∀ i j, i < n → j < m → (A i j).natAbs ≤ 20) {fuel : Nat} (hf : 10 ≤ fuel) :
    ref_Signed fuel ((lst p).map fun i => (lst q).map fun j => A i.toNat j.toNat) = some (dtm A p q) := by
  have hup := lst_up hp
  have huq := lst_up hq
  have hlp := up_len hup
  have hpl := lst_len p
  have hql := lst_len q
  have hsq : SqOk (pc p) ((lst p).map fun i => (lst q).map fun j => A i.toNat j.toNat) := by
    refine ⟨by rw [List.length_map, hpl], fun r hr => ?_, fun r hr v hv => ?_⟩
    · obtain ⟨i, _, rfl⟩ := List.mem_map.1 hr
      rw [List.length_map, hql, hpc]
    · obtain ⟨i, hi, rfl⟩ := List.mem_map.1 hr
      obtain ⟨j, hj, rfl⟩ := List.mem_map.1 hv
      obtain ⟨i0, i1⟩ := Up.mem hup i hi
      obtain ⟨j0, j1⟩ := Up.mem huq j hj
      exact hAb _ _ (by omega) (by omega)
  rw [signed_r (pc p) fuel _ (by omega) (by omega) hsq]
  congr 1
  unfold dtm
  have hcols : (lst q).map Int.toNat = (List.range (pc p)).map fun k => ((lst q).map Int.toNat).getD k 0 := by
    apply List.ext_getElem?
    intro k
    rw [List.getElem?_map, List.getElem?_map]
    by_cases hk : k < pc p
    · rw [List.getElem?_range hk, Option.map_some, List.getD_eq_getElem?_getD, List.getElem?_map, List.getElem?_eq_getElem (show k < (lst q).length by omega)]; rfl
    · rw [List.getElem?_eq_none (by omega), List.getElem?_eq_none (by simp; omega)]; rfl
  rw [hcols, Dt_map]
  refine Dt_congr (by simp) (fun k r r' hr hr' c hc => ?_)
  have hcl := List.mem_range.1 hc
  rw [List.map_map, List.getElem?_map] at hr hr'
  obtain ⟨i, hi, rfl⟩ := Option.map_eq_some_iff.1 hr
  rw [hi] at hr'
  obtain rfl := Option.some.inj hr'
  simp only [Function.comp, rf]
  rw [List.getD_eq_getElem?_getD, List.getElem?_map, List.getD_eq_getElem?_getD, List.getElem?_map, List.getElem?_eq_getElem (show c < (lst q).length by omega)]; rfl
/-- the greatest so far -/
def BstI (n m : Nat) (A : Nat → Nat → Int) (done : Nat → Nat → Prop) (B : Nat) : Prop :=
  (B = 0 ∨ ∃ p q, p < 2 ^ n ∧ q < 2 ^ m ∧ pc p = B ∧ pc q = B ∧ dtm A p q ≠ 0) ∧ ∀ p q, done p q → p < 2 ^ n → q < 2 ^ m → pc p = pc q → dtm A p q ≠ 0 → pc p ≤ B
theorem tref_pair {n m p q B : Nat} {t : List (List Bool)} (hn : t.length = n) (hm : ∀ r ∈ t, r.length = m) (h1 : n ≤ 4) (h2 : m ≤ 4) (hp : p < 2 ^ n) (hq : q < 2 ^ m) {A : Nat → Nat → Int} (hA : A = fM (t.map fun r => r.map b2i)) (hAb : ∀ i j, i < n → j < m → (A i j).natAbs ≤ 20) {fuel : Nat} (hf : 10 ≤ fuel)
    {done : Nat → Nat → Prop} (h : BstI n m A done B) (bp : Int) : ∃ B' : Nat, ref_TalkRank_g887 t fuel (bp, (p : Int)) ((B : Int), (q : Int)) = some (B' : Int) ∧ BstI n m A (fun x y => done x y ∨ (x = p ∧ y = q)) B' := by
  have hp63 : p < 2 ^ 63 := Nat.lt_of_lt_of_le hp (Nat.pow_le_pow_right (by decide) (by omega))
  have hq63 : q < 2 ^ 63 := Nat.lt_of_lt_of_le hq (Nat.pow_le_pow_right (by decide) (by omega))
  have hg : ref_TalkRank_g855 (bp, (p : Int)) ((B : Int), (q : Int)) = some (!decide (pc p = pc q ∧ B < pc p)) := by
    unfold ref_TalkRank_g855
    simp only
    rw [size_eq hp63, bind_some', size_eq hq63, bind_some']
    by_cases e : pc p = pc q
    · rw [show ((((pc p : Nat) : Int)) != ((pc q : Nat) : Int)) = false by simp [e], cond_false, bind_some']
      congr 1
      by_cases e2 : B < pc p
      · rw [decide_eq_false (by omega), decide_eq_true ⟨e, e2⟩]; rfl
      · rw [decide_eq_true (by omega), decide_eq_false (fun h => e2 h.2)]; rfl
    · rw [show ((((pc p : Nat) : Int)) != ((pc q : Nat) : Int)) = true by simp; omega, cond_true, decide_eq_false (fun h => e h.1)]; rfl
  unfold ref_TalkRank_g887
  rw [hg, bind_some']
  by_cases c : pc p = pc q ∧ B < pc p
  · rw [decide_eq_true c, Bool.not_true, cond_false]
    simp only
    rw [sr_listof hp63, bind_some', sub_mat hn hm h1 h2 hp hq hA, bind_some', sub_signed h1 h2 hp hq c.1 hAb hf, bind_some']
    by_cases z : dtm A p q = 0
    · rw [show (dtm A p q != 0) = false by simp [z], cond_false]
      refine ⟨B, rfl, h.1, fun x y hxy hx hy e hne => ?_⟩
      rcases hxy with hxy | ⟨rfl, rfl⟩
      · exact h.2 x y hxy hx hy e hne
      · exact (hne z).elim
    · rw [show (dtm A p q != 0) = true by simp [z], cond_true, size_eq hp63, bind_some']
      refine ⟨pc p, rfl, .inr ⟨p, q, hp, hq, rfl, c.1.symm, z⟩, fun x y hxy hx hy e hne => ?_⟩
      rcases hxy with hxy | ⟨rfl, rfl⟩
      · have := h.2 x y hxy hx hy e hne; omega
      · exact Nat.le_refl _
  · rw [decide_eq_false c, Bool.not_false, cond_true]
    refine ⟨B, rfl, h.1, fun x y hxy hx hy e hne => ?_⟩
    rcases hxy with hxy | ⟨rfl, rfl⟩
    · exact h.2 x y hxy hx hy e hne
    · by_cases e2 : B < pc x
      · exact (c ⟨e, e2⟩).elim
      · omega
theorem tref_eq {n m : Nat} {t : List (List Bool)} (hn : t.length = n) (hm : ∀ r ∈ t, r.length = m) (h1 : 1 ≤ n ∧ n ≤ 4) (h2 : 1 ≤ m ∧ m ≤ 4) {A : Nat → Nat → Int} (hA : A = fM (t.map fun r => r.map b2i)) (hAb : ∀ i j, i < n → j < m → (A i j).natAbs ≤ 20) {fuel : Nat} (hf : 100 ≤ fuel) :
    ∃ B : Nat, ref_TalkRank fuel t = some (B : Int) ∧ BstI n m A (fun _ _ => True) B := by
  have hp16 : 2 ^ n ≤ 16 := Nat.pow_le_pow_right (n := 2) (by decide) h1.2
  have hm16 : 2 ^ m ≤ 16 := Nat.pow_le_pow_right (n := 2) (by decide) h2.2
  obtain ⟨r0, e1, e2⟩ := idx_get (xs := t) (i := 0) (by omega) (by omega)
  have hr0 := hm r0 (List.mem_of_getElem? e2)
  have hsh : ∀ k : Nat, k ≤ 4 → bShl .i64 (1 : Int) (IntKind.wrap .u64 (k : Int)) = ((2 ^ k : Nat) : Int) ∧ ck (0 ≤ IntKind.wrap .u64 (k : Int)) = some () := fun k hk => by
    rw [wrap_u64 (by omega) (by omega)]
    exact ⟨bShl_one (by omega), ck_ok (by omega)⟩
  obtain ⟨s1, s2⟩ := hsh n h1.2
  obtain ⟨s3, s4⟩ := hsh m h2.2
  obtain ⟨y, q1, B, rfl, q2⟩ := iter_inv (f := ref_TalkRank_b892 t fuel) (fun x => ∃ B p : Nat, x = ((B : Int), (p : Int)) ∧ p ≤ 2 ^ n ∧ BstI n m A (fun x _ => x < p) B) (fun x => (16 - x.2).toNat) (fun y => ∃ B : Nat, y = (B : Int) ∧ BstI n m A (fun _ _ => True) B)
    (by
      rintro _ ⟨B, p, rfl, hp, hI⟩
      unfold ref_TalkRank_b892
      simp only
      rw [hn, s2, bind_some', s1]
      by_cases c : p < 2 ^ n
      · obtain ⟨z, g1, B', rfl, g2⟩ := iter_inv (f := ref_TalkRank_b889 t fuel ((B : Int), (p : Int))) (fun x => ∃ B' q : Nat, x = ((B' : Int), (q : Int)) ∧ q ≤ 2 ^ m ∧ BstI n m A (fun x y => x < p ∨ (x = p ∧ y < q)) B') (fun x => (16 - x.2).toNat) (fun y => ∃ B' : Nat, y = (B' : Int) ∧ BstI n m A (fun x _ => x < p + 1) B')
          (by
            rintro _ ⟨B', q, rfl, hq, hJ⟩
            unfold ref_TalkRank_b889
            simp only
            rw [e1, bind_some', hr0, s4, bind_some', s3]
            by_cases d : q < 2 ^ m
            · obtain ⟨B2, k1, k2⟩ := tref_pair (fuel := fuel) hn hm h1.2 h2.2 c d hA hAb (by omega) hJ (B : Int)
              rw [decide_eq_true (by omega), cond_true, k1, bind_some']
              refine ⟨_, rfl, ⟨B2, q + 1, by rw [w64_id (by omega) (by omega)]; rfl, by omega, k2.1, fun x y hxy hx hy e hne => k2.2 x y (by omega) hx hy e hne⟩, by simp only; rw [w64_id (by omega) (by omega)]; omega⟩
            · rw [decide_eq_false (by omega), cond_false]
              exact ⟨_, rfl, B', rfl, hJ.1, fun x y hxy hx hy e hne => hJ.2 x y (by omega) hx hy e hne⟩) fuel ((B : Int), (0 : Int)) (by simp only; omega) ⟨B, 0, rfl, Nat.zero_le _, hI.1, fun x y hxy hx hy e hne => hI.2 x y (by omega) hx hy e hne⟩
        rw [decide_eq_true (by omega), cond_true, g1, bind_some']
        exact ⟨_, rfl, ⟨B', p + 1, by rw [w64_id (by omega) (by omega)]; rfl, by omega, g2⟩, by simp only; rw [w64_id (by omega) (by omega)]; omega⟩
      · rw [decide_eq_false (by omega), cond_false]
        exact ⟨_, rfl, B, rfl, hI.1, fun x y _ hx hy e hne => hI.2 x y (by omega) hx hy e hne⟩) fuel ((0 : Int), (0 : Int)) (by simp only; omega) ⟨0, 0, rfl, Nat.zero_le _, .inl rfl, fun x y hxy => by omega⟩
  exact ⟨B, by unfold ref_TalkRank; rw [q1, bind_some'], q2⟩

theorem cast_toNat (l : List Nat) : (l.map fun (i : Nat) => (i : Int)).map Int.toNat = l := by
  rw [List.map_map]
  have : (Int.toNat ∘ fun (i : Nat) => (i : Int)) = id := by funext i; simp
  rw [this, List.map_id]
theorem TalkRanks_true (a0 : List (List Bool)) (f0 : Fits (.slice (.slice .bool)) a0) : ∃ fuel, law_TalkRanks fuel a0 = some true := by
  refine ⟨100, ?_⟩
  unfold law_TalkRanks
  rw [tk_check]
  by_cases h0 : tkAll a0 = 0
  · obtain ⟨n1, n2, m, m1, m2, hm⟩ := tk_ok h0
    obtain ⟨A, hA⟩ : ∃ A, A = fM (a0.map fun r => r.map b2i) := ⟨_, rfl⟩
    have hMx : Mx a0.length m (a0.map fun r => r.map b2i) A := by
      rw [hA]
      exact Mx.of (by simp) (fun r hr => by
        obtain ⟨q, hq, rfl⟩ := List.mem_map.1 hr
        rw [List.length_map]; exact hm q hq)
    have hAb : ∀ i j, i < a0.length → j < m → (A i j).natAbs ≤ 20 := by
      intro i j hi hj
      obtain ⟨row, g1, g2, g3⟩ := hMx.row i hi
      have g3 := g3 j hj
      rw [List.getElem?_map] at g1
      obtain ⟨q, _, rfl⟩ := Option.map_eq_some_iff.1 g1
      rw [List.getElem?_map] at g3
      obtain ⟨b, _, e⟩ := Option.map_eq_some_iff.1 g3
      rw [← e]
      cases b <;> decide
    obtain ⟨r, J, k1, k2, k3, k4, ⟨Is, k5, k6, k7, k8⟩, k9⟩ := rank_eq rfl hm ⟨n1, n2⟩ ⟨m1, m2⟩ (by rw [tk_wrong, h0]) (fuel := 100) (by decide) hA
    obtain ⟨B, b1, b2, b3⟩ := tref_eq rfl hm ⟨n1, n2⟩ ⟨m1, m2⟩ hA hAb (fuel := 100) (by decide)
    have e1 : r ≤ B := by
      obtain ⟨p, p1, p2⟩ := lst_of (n := a0.length) (by omega) (asc_up k7 k6 (s := 0) (fun x r e => Nat.zero_le _))
      obtain ⟨q, q1, q2⟩ := lst_of (n := m) (by omega) (asc_up k4 k3 (s := 0) (fun x r e => Nat.zero_le _))
      have hpl : pc p = r := by rw [← lst_len, p2, List.length_map, k5]
      have hql : pc q = r := by rw [← lst_len, q2, List.length_map, k2]
      have hd : dtm A p q = Dt (Is.map A) J := by
        unfold dtm
        rw [p2, q2, cast_toNat, List.map_map]
        congr 1
      have := b3 p q trivial p1 q1 (by omega) (by rw [hd]; exact k8)
      omega
    have e2 : B ≤ r := by
      rcases b2 with rfl | ⟨p, q, p1, q1, p2, q2, hd⟩
      · exact Nat.zero_le _
      · by_cases hlt : r < B
        · refine (hd ?_).elim
          have hz := k9 ((lst q).map Int.toNat) B hlt (fun j hj => by
            obtain ⟨x, hx, rfl⟩ := List.mem_map.1 hj
            have := Up.mem (lst_up q1) x hx
            omega) ((lst p).map Int.toNat) (by rw [List.length_map, lst_len, p2]) (fun i hi => by
            obtain ⟨x, hx, rfl⟩ := List.mem_map.1 hi
            have := Up.mem (lst_up p1) x hx
            omega)
          rw [List.map_map] at hz
          exact hz
        · omega
    rw [k1, h0, bind_some', bind_some', show ((0 : Int) != 0) = false from rfl, cond_false]
    simp only
    rw [b1, show ((0 : Int) == 0) = true from rfl, cond_true, bind_some', bind_some', show r = B by omega]
    simp
  · have hs : talk_Rank 100 a0 = some (0, tkAll a0) := by
      unfold talk_Rank
      rw [tk_wrong, bind_some', show (tkAll a0 != 0) = true by simp [h0], cond_true]
    rw [hs, bind_some', bind_some', show (tkAll a0 != 0) = true by simp [h0], cond_true]
    simp

end Go.Proofs.Ytnblafiefaalgaa.talkRanks
namespace Go.Proofs.Ytnblafiefaalgaa.talkRanks
open Go.ChangeShapes Go.WideShapes Go.ChangeAt Go.RowKit
open Go.ChangeMaps (open_string shut_string)
theorem own : ownKnob Try.prog.godebug = none := by kernel_rfl
theorem laidOut : laidOutB Try.prog = true := by kernel_rfl
theorem lifted (os : Os) (started : os.Started) (H : Type) (enc : TypeId × Value → H) :
    ReturnsInHanded {} Try.checked os 4 .any (Rows.talkRanksSpec.pre6 enc Try.prog Try.f4 Rows.talkRanksRow.domain false) (Rows.talkRanksSpec.post enc Try.prog Try.f4 false true false false) := by
  refine returnsInHanded_of_change (C := Try.checked) own started (by kernel_rfl) Try.func4
    (ChangeSpec.witness6 (enc := enc) (C := Try.checked) false ⟨#[], #[.slice none 0 0], []⟩ 8 (by kernel_rfl) (by kernel_rfl) (by kernel_rfl) (by kernel_rfl)) ?_
  intro W base args ds gs before hval0 hW hcnd _
  have hval : ∀ (j : Nat) t v, Try.f4.params[j]? = some t → args[j]? = some v → Value.okWide Try.prog W .any base t v := hval0
  have hW' := hW
  obtain ⟨p, q, hA0, hV, rfl, hfz, hnd⟩ := hW
  have hA : DataW.TrodAll enc Try.prog W 0 (fun _ => true) true Try.f4.params.toList args.toList ds p := hA0
  rw [Try.params4] at hA hval
  obtain ⟨v0, vs0, d0, ds0, p0, q0, hargs, rfl, rfl, h0, r0⟩ := trodAll_cons hA
  obtain ⟨rfl, rfl, rfl⟩ := trodAll_nil r0
  obtain rfl : args = #[v0] := by cases args; simp_all
  obtain ⟨rfl, rfl⟩ := trodVars_none hV
  obtain ⟨x0, f0, k0⟩ := Go.Sl.read_arg (u := (.slice (.slice .bool))) (by kernel_rfl) (by kernel_rfl) (hval 0 33 v0 rfl rfl) h0
  have lt0 : ∀ x ∈ p0, x.block < W.heap.size := by obtain ⟨m, hm⟩ := h0; exact DataW.trod_lt m _ _ _ hm
  clear hA0 hval0
  obtain ⟨fuel, hm⟩ := TalkRanks_true x0 f0
  refine (Go.Sl.law_of (vs := [v0]) (law_TalkRanks_ok hm) rfl (.cons (k0 _ _) .nil)).mono fun e W' ⟨he, bel⟩ => ?_
  subst he
  exact ⟨_, rfl, _, _, _, [], _, [], hW', trodAll_mk1 (shut_bool Try.underlying4 _), (trodAll_cons_mk (Below.trod laidOut (by kernel_rfl) (of_decide_eq_true (by kernel_rfl)) h0 bel lt0) trodAll_mk0), rfl, bel.frame _, fun h => by cases h⟩
theorem proved : Rows.TalkRanksSaid :=
  OpenClaim.holds_of_wide 4 Try.f4 rfl rfl rfl rfl rfl rfl rfl ⟨rfl, rfl, rfl, rfl, rfl⟩ rfl rfl rfl rfl rfl (by kernel_rfl) Try.func4 (by kernel_rfl)
    (of_decide_eq_true (by kernel_rfl)) (by unfold Func.isWrapper; first | (rw [if_pos (by decide +kernel)]; kernel_rfl) | (rw [if_neg (by decide +kernel)]; exact ⟨rfl, rfl⟩))
    (fun os started H enc _ => lifted os started H enc)
#print axioms proved
end Go.Proofs.Ytnblafiefaalgaa.talkRanks
