/- TalkFools holds for every input: no conditions. -/
import Derived.Test.YtjghcbdfpcpahaaRows
import Derived.WalkKit
import Derived.ProofKit
import Derived.OpenShut
import Derived.ShutString
import Derived.ChangeOld
import Derived.Below
import Derived.Test.YtjghcbdfpcpahaaTalkFoolsM
set_option linter.all false
set_option maxRecDepth 100000
namespace Go.Proofs.Ytjghcbdfpcpahaa.talkFools
open Go Go.Sl
theorem bit_eq {w i : Nat} (hw : w < 2 ^ 63) (hi : i < 63) : ref_Bit (w : Int) (i : Int) = some (w.testBit i) := by
  unfold ref_Bit
  have c : (decide ((i : Int) ≥ 0) && decide ((i : Int) < 63)) = true := by simp; omega
  have e : IntKind.wrap .u64 (i : Int) = (i : Int) := wrap_u64 (by omega) (by omega)
  rw [c, e, ck_ok (by omega)]
  simp only [cond_true, Option.bind_some, bit_mask hw hi]

theorem size_eq {w : Nat} (hw : w < 2 ^ 63) : ref_Size (w : Int) = some ((pc w : Nat) : Int) := by
  unfold ref_Size
  have := forI_count (body := ref_Size_b4 (w : Int)) (fin := fun x => x) (p := w.testBit) (n := 63) (by omega) (by
    intro j x hj
    unfold ref_Size_b4
    rw [bit_eq hw hj]
    cases w.testBit j <;> rfl)
  simp only [Int.cast_ofNat_Int] at this
  rw [this]; rfl

/-- lists in the order of the dictionary -/
def lx : List Int → List Int → Bool
  | [], [] => false
  | [], _ :: _ => true
  | _ :: _, [] => false
  | a :: ws, b :: bs => if a = b then lx ws bs else decide (a < b)
theorem lx_cons (a : Int) (l m : List Int) : lx (a :: l) (a :: m) = lx l m := by simp [lx]
theorem lx_lt {a b : Int} (h : a < b) (l m : List Int) : lx (a :: l) (b :: m) = true := by
  have : a ≠ b := by omega
  simp [lx, this, h]
theorem lx_self : ∀ l, lx l l = false
  | [] => rfl
  | a :: l => by rw [lx_cons]; exact lx_self l
theorem lx_tri : ∀ l m, lx l m = true ∨ l = m ∨ lx m l = true
  | [], [] => .inr (.inl rfl)
  | [], _ :: _ => .inl rfl
  | _ :: _, [] => .inr (.inr rfl)
  | a :: l, b :: m => by
    by_cases h : a = b
    · subst h
      rw [lx_cons, lx_cons]
      rcases lx_tri l m with h | h | h
      · exact .inl h
      · exact .inr (.inl (by rw [h]))
      · exact .inr (.inr h)
    · by_cases h2 : a < b
      · exact .inl (lx_lt h2 _ _)
      · exact .inr (.inr (lx_lt (by omega) _ _))
theorem lx_trans : ∀ {l m k}, lx l m = true → lx m k = true → lx l k = true
  | [], [], _, h, _ => by cases h
  | [], _ :: _, [], _, h => by cases h
  | [], _ :: _, _ :: _, _, _ => rfl
  | _ :: _, [], _, h, _ => by cases h
  | _ :: _, _ :: _, [], _, h => by cases h
  | a :: l, b :: m, c :: k, h, h' => by
    by_cases e : a = b
    · subst e
      rw [lx_cons] at h
      by_cases e : a = c
      · subst e
        rw [lx_cons] at h' ⊢
        exact lx_trans h h'
      · simp only [lx, if_neg e] at h' ⊢
        exact h'
    · simp only [lx, if_neg e, decide_eq_true_eq] at h
      by_cases e : b = c
      · subst e
        exact lx_lt h _ _
      · simp only [lx, if_neg e, decide_eq_true_eq] at h'
        exact lx_lt (by omega) _ _
theorem lx_at : ∀ (j : Nat) (a b : List Int) {u v : Int}, a.take j = b.take j → a[j]? = some u → b[j]? = some v → u ≠ v → lx a b = decide (u < v)
  | 0, a :: ws, b :: bs, u, v, _, h1, h2, h => by
    obtain rfl : a = u := by simpa using h1
    obtain rfl : b = v := by simpa using h2
    simp [lx, h]
  | j + 1, a :: ws, b :: bs, u, v, ht, h1, h2, h => by
    simp only [List.take_succ_cons, List.cons.injEq] at ht
    obtain ⟨rfl, ht⟩ := ht
    rw [lx_cons]
    exact lx_at j ws bs ht (by simpa using h1) (by simpa using h2) h
  | 0, [], _, _, _, _, h1, _, _ => by simp at h1
  | 0, _ :: _, [], _, _, _, _, h2, _ => by simp at h2
  | j + 1, [], _, _, _, _, h1, _, _ => by simp at h1
  | j + 1, _ :: _, [], _, _, _, _, h2, _ => by simp at h2
theorem lx_pre : ∀ (j : Nat) (a b : List Int), a.take j = b.take j → (a.length ≤ j ∨ b.length ≤ j) → lx a b = decide (a.length < b.length)
  | _, [], [], _, _ => rfl
  | _, [], _ :: _, _, _ => by simp [lx]
  | _, _ :: _, [], _, _ => by simp [lx]
  | 0, _ :: _, _ :: _, _, h => by simp at h
  | j + 1, a :: ws, b :: bs, ht, h => by
    simp only [List.take_succ_cons, List.cons.injEq] at ht
    obtain ⟨rfl, ht⟩ := ht
    rw [lx_cons, lx_pre j ws bs ht (by simpa using h)]
    simp
theorem sr_ahead {a b : List Int} {fuel : Nat} (h : a.length < fuel) (hf : a.length ≤ 1000) : ref_Ahead fuel a b = some (lx a b) := by
  unfold ref_Ahead
  obtain ⟨y, h1, h2⟩ := iter_inv (f := ref_Ahead_b1 a b) (fun x => ∃ j : Nat, j ≤ a.length ∧ j ≤ b.length ∧ x = (j : Int) ∧ a.take j = b.take j) (fun x => (a.length - x).toNat)
    (fun y => match y with | .ret r => r = lx a b | .brk _ => lx a b = decide ((a.length : Int) < (b.length : Int)))
    (by
      rintro _ ⟨j, hj, hjb, rfl, ht⟩
      unfold ref_Ahead_b1
      by_cases hlt : j < a.length ∧ j < b.length
      · rw [decide_eq_true (by omega), decide_eq_true (by omega)]
        obtain ⟨u, r1, r2⟩ := idx_get (xs := a) (i := (j : Int)) (by omega) (by omega)
        obtain ⟨v, q1, q2⟩ := idx_get (xs := b) (i := (j : Int)) (by omega) (by omega)
        rw [r1, q1, bind_some', bind_some']
        rw [Int.toNat_natCast] at r2 q2
        by_cases e : u = v
        · subst e
          have : (u != u) = false := by simp
          rw [this]
          refine ⟨_, rfl, ⟨j + 1, by omega, by omega, ?_, ?_⟩, ?_⟩
          · exact w64_id (by omega) (by omega)
          · rw [List.take_add_one, List.take_add_one, ht, r2, q2]
          · rw [w64_id (by omega) (by omega)]; omega
        · have : (u != v) = true := by simp [e]
          rw [this]
          exact ⟨_, rfl, (lx_at j a b ht r2 q2 e).symm⟩
      · have e : (decide ((j : Int) < (List.length a : Int)) && decide ((j : Int) < (List.length b : Int))) = false := by
          rw [and_dec]; exact decide_eq_false (by omega)
        rw [e]
        refine ⟨_, rfl, ?_⟩
        dsimp only
        rw [lx_pre j a b ht (by omega)]
        exact decide_eq_decide.2 (by omega)) fuel (0 : Int) (by omega) ⟨0, by omega, by omega, rfl, rfl⟩
  rw [h1, bind_some']
  cases y with
  | ret r => rw [show r = lx a b from h2]
  | brk u =>
    have h2 : lx a b = decide ((a.length : Int) < (b.length : Int)) := h2
    rw [h2]
/-- going up, from s on, below n -/
def Up (n : Int) : Int → List Int → Prop
  | _, [] => True
  | s, x :: r => s ≤ x ∧ x < n ∧ Up n (x + 1) r
theorem Up.len {n : Int} : ∀ {r : List Int} {s x : Int}, Up n s (x :: r) → x + 1 + r.length ≤ n
  | [], s, x, h => by simp; have := h.2.1; omega
  | y :: r, s, x, h => by
    have h1 := Up.len h.2.2
    have h2 := h.2.2.1
    rw [List.length_cons]; omega
theorem Up.low {n : Int} {s s' : Int} (h : s' ≤ s) : ∀ {r : List Int}, Up n s r → Up n s' r
  | [], _ => trivial
  | x :: r, h1 => ⟨by have := h1.1; omega, h1.2⟩
theorem Up.hi {n n' : Int} (h : n ≤ n') : ∀ {r : List Int} {s : Int}, Up n s r → Up n' s r
  | [], _, _ => trivial
  | x :: r, _, h1 => ⟨h1.1, by have := h1.2.1; omega, Up.hi h h1.2.2⟩
theorem Up.mem {n : Int} : ∀ {r : List Int} {s : Int}, Up n s r → ∀ v ∈ r, s ≤ v ∧ v < n
  | x :: r, s, h, v, hv => by
    rcases List.mem_cons.1 hv with rfl | hv
    · exact ⟨h.1, h.2.1⟩
    · have := Up.mem h.2.2 v hv
      have := h.1
      omega
/-- the places of a word ws a list -/
def lf (f : Nat → Bool) (s c : Nat) : List Int := ((List.range' s c).filter f).map fun (i : Nat) => (i : Int)
theorem lf_succ (f : Nat → Bool) (s c : Nat) : lf f s (c + 1) = bif f s then (s : Int) :: lf f (s + 1) c else lf f (s + 1) c := by
  unfold lf
  rw [List.range'_succ]
  cases h : f s <;> simp [h]
theorem lf_up {f : Nat → Bool} {n : Nat} (h : ∀ i, f i = true → i < n) : ∀ (c s : Nat), Up (n : Int) (s : Int) (lf f s c)
  | 0, s => trivial
  | c + 1, s => by
    have ih := lf_up h c (s + 1)
    rw [lf_succ]
    cases hf : f s with
    | false => exact Up.low (by omega) ih
    | true => exact ⟨by omega, by have := h s hf; omega, ih⟩
theorem lf_congr {f g : Nat → Bool} : ∀ c s, (∀ i, s ≤ i → f i = g i) → lf f s c = lf g s c
  | 0, s, _ => rfl
  | c + 1, s, h => by rw [lf_succ, lf_succ, h s (by omega), lf_congr c (s + 1) (fun i hi => h i (by omega))]
theorem lf_ext : ∀ (c s : Nat) (r : List Int), Up ((s + c : Nat) : Int) (s : Int) r → lf (fun (i : Nat) => r.any ((i : Int) == ·)) s c = r
  | 0, s, [], _ => rfl
  | 0, s, x :: r, h => by have := h.1; have := h.2.1; omega
  | c + 1, s, [], _ => by
    rw [lf_succ]
    have := lf_ext c (s + 1) [] trivial
    simpa using this
  | c + 1, s, x :: r, h => by
    rw [lf_succ]
    by_cases e : x = (s : Int)
    · subst e
      have h2 : Up ((s + 1 + c : Nat) : Int) ((s + 1 : Nat) : Int) r := by
        have := h.2.2
        rwa [show s + 1 + c = s + (c + 1) by omega]
      have h1 := lf_ext c (s + 1) r h2
      have h3 : lf (fun (i : Nat) => ((s : Int) :: r).any ((i : Int) == ·)) (s + 1) c = lf (fun (i : Nat) => r.any ((i : Int) == ·)) (s + 1) c := lf_congr c (s + 1) (fun i hi => by
        have : ((i : Int) == (s : Int)) = false := by simp; omega
        simp [this])
      rw [h3, h1]
      simp
    · have hx := h.1
      have hs : ((x :: r).any ((s : Int) == ·)) = false := by
        rw [List.any_eq_false]
        intro v hv
        have := Up.mem (n := ((s + (c + 1) : Nat) : Int)) (s := x) (r := x :: r) ⟨by omega, h.2⟩ v hv
        simp; omega
      have h1 := lf_ext c (s + 1) (x :: r) (by rw [show s + 1 + c = s + (c + 1) by omega]; exact ⟨by omega, h.2⟩)
      rw [hs, cond_false, h1]
theorem lf_mem {f : Nat → Bool} {c : Nat} {v : Int} (hv : 0 ≤ v ∧ v < (c : Int)) : (lf f 0 c).any (v == ·) = f v.toNat := by
  rw [Bool.eq_iff_iff, List.any_eq_true]
  unfold lf
  simp only [List.mem_map, List.mem_filter, List.mem_range'_1, beq_iff_eq]
  constructor
  · rintro ⟨x, ⟨i, ⟨_, hi⟩, rfl⟩, rfl⟩
    simpa using hi
  · intro h
    exact ⟨v, ⟨v.toNat, ⟨⟨by omega, by omega⟩, h⟩, by omega⟩, rfl⟩
def lst (m : Nat) : List Int := lf m.testBit 0 63
theorem lst_len (m : Nat) : (lst m).length = pc m := by
  unfold lst lf pc
  rw [List.length_map, List.range_eq_range', List.countP_eq_length_filter]
theorem lst_up {n m : Nat} (h : m < 2 ^ n) : Up (n : Int) 0 (lst m) := by
  refine lf_up (fun i hi => ?_) 63 0
  by_cases hlt : i < n
  · exact hlt
  · have : m.testBit i = false := Nat.testBit_lt_two_pow (Nat.lt_of_lt_of_le h (Nat.pow_le_pow_right (by omega) (by omega)))
    rw [this] at hi; cases hi
theorem lst_of {n : Nat} (hn : n ≤ 63) {r : List Int} (h : Up (n : Int) 0 r) : ∃ m, m < 2 ^ n ∧ lst m = r := by
  refine ⟨wd ((List.range n).map fun (i : Nat) => r.any ((i : Int) == ·)), ?_, ?_⟩
  · have := wd_lt ((List.range n).map fun (i : Nat) => r.any ((i : Int) == ·))
    simpa using this
  · have h1 := lf_ext 63 0 r (Up.hi (by omega) h)
    rw [← h1]
    unfold lst
    refine lf_congr 63 0 (fun i _ => ?_)
    rw [wd_bit, h1]
    by_cases hi : i < n
    · simp [List.getD_eq_getElem?_getD, hi]
    · have : (r.any ((i : Int) == ·)) = false := by
        rw [List.any_eq_false]
        intro v hv
        have := Up.mem h v hv
        simp; omega
      rw [this]
      simp [List.getD_eq_getElem?_getD, hi]
theorem sr_listof {w : Nat} (hw : w < 2 ^ 63) : ref_ListOf (w : Int) = some (lst w) := by
  unfold ref_ListOf
  obtain ⟨y, h1, h2⟩ := forI_inv (body := ref_ListOf_b4 (w : Int)) (fin := fun x => x) (lo := 0) (hi := 63) (x := ([] : List Int)) (fun i x => ∃ j : Nat, i = (j : Int) ∧ j ≤ 63 ∧ x = lf w.testBit 0 j) (fun y => y = lst w) (by omega) (by omega) ⟨0, rfl, by omega, rfl⟩
    (by
      rintro _ x _ hlt ⟨j, rfl, hj, rfl⟩
      have hl : (lf w.testBit 0 j).length ≤ j := by
        unfold lf
        rw [List.length_map]
        have := List.length_filter_le w.testBit (List.range' 0 j)
        simpa using this
      have e : lf w.testBit 0 (j + 1) = lf w.testBit 0 j ++ bif w.testBit j then [(j : Int)] else [] := by
        unfold lf
        rw [List.range'_concat, List.filter_append, List.map_append]
        cases hb : w.testBit j <;> simp [hb]
      have hck : ck ((List.length (lf w.testBit 0 j) : Int) + 1 ≤ 4294967296) = some () := ck_ok (by omega)
      unfold ref_ListOf_b4
      rw [bit_eq hw (by omega), bind_some', hck]
      cases hb : w.testBit j with
      | true => rw [hb] at e; exact ⟨_, rfl, j + 1, by omega, by omega, e.symm⟩
      | false => rw [hb] at e; exact ⟨_, rfl, j + 1, by omega, by omega, by rw [e]; simp⟩)
    (by
      rintro i x _ hi _ ⟨j, rfl, hj, rfl⟩
      have : j = 63 := by omega
      subst this; rfl)
  rw [h1, bind_some', h2]

theorem within_eq (a b c : Int) : ref_Within a b c = some (decide (a ≤ b ∧ b ≤ c)) := by
  unfold ref_Within
  rw [Bool.decide_and]

def tkLen (t : List (List Bool)) (l : List Bool) : Bool := (l.length : Int) != (((t[0]?).getD []).length : Int)
def tkAll (t : List (List Bool)) : Int :=
  bif !decide (1 ≤ (t.length : Int) ∧ (t.length : Int) ≤ 4) then 1 else bif !decide (1 ≤ (((t[0]?).getD []).length : Int) ∧ (((t[0]?).getD []).length : Int) ≤ 4) then 1 else bif t.any (tkLen t) then 3 else 0
theorem tk_head {t : List (List Bool)} (h : 1 ≤ t.length) : idx t 0 = some ((t[0]?).getD []) := by
  cases t with
  | nil => simp at h
  | cons a t => rfl
theorem tk_wrong (t : List (List Bool)) : talk_wrong t = some (tkAll t) := by
  unfold talk_wrong talk_wrong_g1 tkAll
  have e : ((decide ((List.length t : Int) < (1 : Int))) || (decide ((List.length t : Int) > (4 : Int)))) = !decide (1 ≤ (t.length : Int) ∧ (t.length : Int) ≤ 4) := by
    rw [or_dec, not_dec]; exact decide_eq_decide.2 (by omega)
  rw [e]
  by_cases h : 1 ≤ (t.length : Int) ∧ (t.length : Int) ≤ 4
  · rw [tk_head (by omega)]
    generalize hd : (t[0]?).getD [] = d
    have e2 : (bif decide ((List.length d : Int) < (1 : Int)) then (some true) else (some (decide ((List.length d : Int) > (4 : Int))))) = some (!decide (1 ≤ (d.length : Int) ∧ (d.length : Int) ≤ 4)) := by
      rw [bif_some]; congr 1
      by_cases h : (d.length : Int) < 1
      · have : ¬ (1 ≤ (d.length : Int) ∧ (d.length : Int) ≤ 4) := by omega
        simp only [h, decide_true, cond_true, this, decide_false, Bool.not_false]
      · rw [decide_eq_false h, cond_false, not_dec]; exact decide_eq_decide.2 (by omega)
    simp only [h, and_self, decide_true, Bool.not_true, cond_false, bind_some', e2]
    have e3 : slices_ContainsFunc_LLboolLbool_with_talk_wrong_1 t t = some (t.any (tkLen t)) := by
      unfold slices_ContainsFunc_LLboolLbool_with_talk_wrong_1 slices_IndexFunc_LLboolLbool_with_talk_wrong_1
      rcases forL_at (body := slices_IndexFunc_LLboolLbool_with_talk_wrong_1_b1 t) (fin := fun _ => (Esc.brk () : Esc Int Unit)) (p := tkLen t) (g := fun j => Esc.ret j) (l := t)
        (fun i a _ => by unfold slices_IndexFunc_LLboolLbool_with_talk_wrong_1_b1 talk_wrong_1 tkLen; rw [tk_head (by omega)]; simp only [bind_some']; cases ((List.length a : Int) != (List.length ((t[0]?).getD []) : Int)) <;> rfl) (i := 0) with ⟨h1, h2⟩ | ⟨h1, j, h2, h3, h4⟩
      · rw [h2, h1]; rfl
      · rw [h4, h1]; simp [h2]
    rw [e3]
    cases decide (1 ≤ (d.length : Int) ∧ (d.length : Int) ≤ 4) <;> cases t.any (tkLen t) <;> rfl
  · rw [decide_eq_false h]; rfl
theorem tk_check (t : List (List Bool)) : ref_TalkCheck t = some (tkAll t) := by
  unfold ref_TalkCheck ref_TalkCheck_g1 tkAll
  rw [within_eq, bind_some']
  by_cases h : 1 ≤ (t.length : Int) ∧ (t.length : Int) ≤ 4
  · rw [tk_head (by omega), bind_some', within_eq, bind_some']
    rw [forL_ex (p := tkLen t) (y := Esc.ret 3) (fun i a _ => by unfold ref_TalkCheck_b2 tkLen; rw [tk_head (by omega)]; simp only [bind_some']; cases ((List.length a : Int) != (List.length ((t[0]?).getD []) : Int)) <;> rfl)]
    simp only [h, and_self, decide_true, Bool.not_true, cond_false, bind_some']
    cases decide (1 ≤ (((t[0]?).getD []).length : Int) ∧ (((t[0]?).getD []).length : Int) ≤ 4) <;> cases t.any (tkLen t) <;> rfl
  · rw [decide_eq_false h]; rfl
theorem tk_ok {t : List (List Bool)} (h : tkAll t = 0) : 1 ≤ t.length ∧ t.length ≤ 4 ∧ ∃ n, 1 ≤ n ∧ n ≤ 4 ∧ ∀ r ∈ t, r.length = n := by
  unfold tkAll at h
  by_cases h1 : 1 ≤ (t.length : Int) ∧ (t.length : Int) ≤ 4
  · rw [decide_eq_true h1] at h
    by_cases h2 : 1 ≤ (((t[0]?).getD []).length : Int) ∧ (((t[0]?).getD []).length : Int) ≤ 4
    · rw [decide_eq_true h2] at h
      cases h3 : t.any (tkLen t) with
      | true => rw [h3] at h; cases h
      | false =>
        refine ⟨by omega, by omega, ((t[0]?).getD []).length, by omega, by omega, fun r hr => ?_⟩
        have := List.any_eq_false.1 h3 r hr
        unfold tkLen at this
        simp at this
        omega
    · rw [decide_eq_false h2] at h; cases h
  · rw [decide_eq_false h1] at h; cases h

/-- one list is at least as good as another: longer, or as long and not behind -/
def Dm (r r' : List Int) : Prop := r'.length < r.length ∨ (r'.length = r.length ∧ (r' = r ∨ lx r r' = true))
theorem Dm.refl (r : List Int) : Dm r r := .inr ⟨rfl, .inl rfl⟩
theorem Dm.trans {a b c : List Int} (h : Dm a b) (h' : Dm b c) : Dm a c := by
  rcases h with h | ⟨h, e⟩
  · rcases h' with h' | ⟨h', _⟩
    · exact .inl (by omega)
    · exact .inl (by omega)
  · rcases h' with h' | ⟨h', e'⟩
    · exact .inl (by omega)
    · refine .inr ⟨by omega, ?_⟩
      rcases e with rfl | e
      · exact e'
      · rcases e' with rfl | e'
        · exact .inr e
        · exact .inr (lx_trans e e')
theorem Dm.anti {a b : List Int} (h : Dm a b) (h' : Dm b a) : a = b := by
  rcases h with h | ⟨h, e⟩
  · rcases h' with h' | ⟨h', _⟩ <;> omega
  · rcases e with e | e
    · exact e.symm
    · rcases h' with h' | ⟨_, e'⟩
      · omega
      · rcases e' with e' | e'
        · exact e'
        · have := lx_trans e e'
          rw [lx_self] at this; cases this
theorem Dm.cons {a b : List Int} (x : Int) (h : Dm a b) : Dm (x :: a) (x :: b) := by
  rcases h with h | ⟨h, e⟩
  · exact .inl (by simp; omega)
  · refine .inr ⟨by simp; omega, ?_⟩
    rcases e with rfl | e
    · exact .inl rfl
    · exact .inr (by rw [lx_cons]; exact e)
/-- row of k, column of l -/
def cr (t : List (List Bool)) (C k l : Int) : Bool := (t.getD (k / C).toNat []).getD (l % C).toNat false
def nb (t : List (List Bool)) (C : Int) (c : Bool) (x a : Int) : Bool := !(cr t C x a == c) || !(cr t C a x == c)
def okc (t : List (List Bool)) (C : Int) (c : Bool) (l : List Int) (x : Int) : Bool := (cr t C x x == c) && l.all (nb t C c x)
def fk (t : List (List Bool)) (C : Int) (c : Bool) : List Int → List Int → Bool
  | _, [] => true
  | acc, x :: r => okc t C c acc x && fk t C c (acc ++ [x]) r
theorem fk_iff (t : List (List Bool)) (C : Int) (c : Bool) : ∀ (r acc : List Int), fk t C c acc r = true ↔ (∀ x ∈ r, cr t C x x = c) ∧ (∀ x ∈ r, ∀ a ∈ acc, nb t C c x a = true) ∧ r.Pairwise (fun a x => nb t C c x a = true)
  | [], acc => by simp [fk]
  | x :: r, acc => by
    rw [fk, Bool.and_eq_true, fk_iff t C c r (acc ++ [x]), okc, Bool.and_eq_true, List.all_eq_true, List.pairwise_cons, beq_iff_eq]
    constructor
    · rintro ⟨⟨h1, h2⟩, h3, h4, h5⟩
      refine ⟨?_, ?_, fun a ha => h4 a ha x (by simp), h5⟩
      · intro y hy
        rcases List.mem_cons.1 hy with rfl | hy
        · exact h1
        · exact h3 y hy
      · intro y hy a ha
        rcases List.mem_cons.1 hy with rfl | hy
        · exact h2 a ha
        · exact h4 y hy a (List.mem_append_left _ ha)
    · rintro ⟨h1, h2, h3, h4⟩
      refine ⟨⟨h1 x (by simp), h2 x (by simp)⟩, fun y hy => h1 y (by simp [hy]), ?_, h4⟩
      intro y hy a ha
      rcases List.mem_append.1 ha with ha | ha
      · exact h2 y (by simp [hy]) a ha
      · simp at ha
        subst ha
        exact h3 y hy
def FS (t : List (List Bool)) (C : Int) (l : List Int) : Bool := l.all fun a => l.all fun b => (cr t C b b == cr t C a a) && !((a != b) && ((cr t C a b == cr t C a a) && (cr t C b a == cr t C a a)))
theorem fs_iff (t : List (List Bool)) (C : Int) (l : List Int) : FS t C l = true ↔ ∀ a ∈ l, ∀ b ∈ l, cr t C b b = cr t C a a ∧ (a ≠ b → nb t C (cr t C a a) a b = true) := by
  unfold FS
  simp only [List.all_eq_true]
  constructor
  · intro h a ha b hb
    have := h a ha b hb
    unfold nb
    revert this
    by_cases e : a = b
    · subst e; simp
    · have e1 : (a != b) = true := by simp [e]
      rw [e1]
      generalize cr t C a a = p
      cases cr t C b b <;> cases cr t C a b <;> cases cr t C b a <;> cases p <;> simp
  · intro h a ha b hb
    have := h a ha b hb
    unfold nb at this
    revert this
    by_cases e : a = b
    · subst e; simp
    · have e1 : (a != b) = true := by simp [e]
      rw [e1]
      generalize cr t C a a = p
      cases cr t C b b <;> cases cr t C a b <;> cases cr t C b a <;> cases p <;> simp [e]
theorem nb_symm {t : List (List Bool)} {C : Int} {c : Bool} {x a : Int} (h : nb t C c x a = true) : nb t C c a x = true := by
  unfold nb at h ⊢
  rw [Bool.or_comm]; exact h
theorem Up.ne {n : Int} : ∀ {r : List Int} {s : Int}, Up n s r → r.Pairwise (· < ·)
  | [], _, _ => List.Pairwise.nil
  | x :: r, s, h => List.Pairwise.cons (fun y hy => by have := Up.mem h.2.2 y hy; omega) (Up.ne h.2.2)
theorem pair_all {R : Int → Int → Prop} : ∀ {l : List Int}, l.Pairwise R → ∀ a ∈ l, ∀ b ∈ l, a ≠ b → R a b ∨ R b a
  | [], _, a, ha, _, _, _ => by simp at ha
  | x :: l, h, a, ha, b, hb, hne => by
    rw [List.pairwise_cons] at h
    rcases List.mem_cons.1 ha with e1 | ha1
    · rcases List.mem_cons.1 hb with e2 | hb1
      · exact (hne (e1.trans e2.symm)).elim
      · rw [e1]; exact .inl (h.1 b hb1)
    · rcases List.mem_cons.1 hb with e2 | hb1
      · rw [e2]; exact .inr (h.1 a ha1)
      · exact pair_all h.2 a ha1 b hb1 hne
theorem fs_fk {t : List (List Bool)} {C n : Int} {l : List Int} (hu : Up n 0 l) : FS t C l = true ↔ (fk t C false [] l = true ∨ fk t C true [] l = true) := by
  rw [fs_iff]
  constructor
  · intro h
    cases l with
    | nil => exact .inl rfl
    | cons a r =>
      have hk : fk t C (cr t C a a) [] (a :: r) = true := by
        rw [fk_iff]
        refine ⟨fun x hx => (h a (by simp) x hx).1, fun x _ a ha => by simp at ha, ?_⟩
        refine List.Pairwise.imp_of_mem (R := (· < ·)) ?_ (Up.ne hu)
        intro x y hx hy hlt
        have e := (h a (by simp) y hy).1
        have := (h y hy x hx).2 (by omega)
        rw [e] at this; exact this
      cases hc : cr t C a a with
      | false => rw [hc] at hk; exact .inl hk
      | true => rw [hc] at hk; exact .inr hk
  · intro h
    have key : ∀ c, fk t C c [] l = true → ∀ a ∈ l, ∀ b ∈ l, cr t C b b = cr t C a a ∧ (a ≠ b → nb t C (cr t C a a) a b = true) := by
      intro c hc a ha b hb
      obtain ⟨h1, _, h3⟩ := (fk_iff t C c l []).1 hc
      refine ⟨by rw [h1 a ha, h1 b hb], fun hne => ?_⟩
      rw [h1 a ha]
      rcases pair_all h3 a ha b hb hne with h | h
      · exact nb_symm h
      · exact h
    rcases h with h | h
    · exact key _ h
    · exact key _ h
/-- the table's shape -/
structure Tab (t : List (List Bool)) (R C : Nat) : Prop where
  r1 : 1 ≤ R ∧ R ≤ 4
  c1 : 1 ≤ C ∧ C ≤ 4
  hr : t.length = R
  hc : ∀ r ∈ t, r.length = C
theorem Tab.n {t : List (List Bool)} {R C : Nat} (h : Tab t R C) : 1 ≤ R * C ∧ R * C ≤ 16 := by
  have h1 := h.r1
  have h2 := h.c1
  have a := Nat.mul_le_mul h1.2 h2.2
  have b := Nat.mul_le_mul h1.1 h2.1
  omega
theorem Tab.div {t : List (List Bool)} {R C : Nat} (h : Tab t R C) {k : Int} (hk : 0 ≤ k ∧ k < ((R * C : Nat) : Int)) : (0 ≤ k / (C : Int) ∧ k / (C : Int) < R) ∧ (0 ≤ k % (C : Int) ∧ k % (C : Int) < C) := by
  have h1 := h.r1
  have h2 := h.c1
  obtain ⟨k, rfl⟩ := Int.eq_ofNat_of_zero_le hk.1
  have hk2 : k < R * C := by omega
  have hd : k / C < R := (Nat.div_lt_iff_lt_mul (by omega)).2 hk2
  have hm := Nat.mod_lt k (show 0 < C by omega)
  have e1 : (k : Int) / (C : Int) = ((k / C : Nat) : Int) := by simp
  have e2 : (k : Int) % (C : Int) = ((k % C : Nat) : Int) := by simp
  rw [e1, e2]
  generalize k / C = q at *
  generalize k % C = m at *
  omega
theorem Tab.row {t : List (List Bool)} {R C : Nat} (h : Tab t R C) {r : Int} (hr : 0 ≤ r ∧ r < R) : idx t r = some (t.getD r.toNat []) ∧ (t.getD r.toNat []).length = C := by
  obtain ⟨x, h1, h2⟩ := idx_get (xs := t) (i := r) hr.1 (by have := h.hr; omega)
  have e : t.getD r.toNat [] = x := by rw [List.getD_eq_getElem?_getD, h2]; rfl
  rw [e]
  exact ⟨h1, h.hc x (List.mem_of_getElem? h2)⟩
theorem row_at {x : List Bool} {c : Int} {C : Nat} (hx : x.length = C) (hc : 0 ≤ c ∧ c < C) : idx x c = some (x.getD c.toNat false) := by
  obtain ⟨y, h1, h2⟩ := idx_get (xs := x) (i := c) hc.1 (by omega)
  rw [h1, List.getD_eq_getElem?_getD, h2]; rfl
def pr (C k : Int) : List Int := [k / C, k % C]
theorem tm_div {C : Nat} {k : Int} (hC : 1 ≤ C ∧ C ≤ 4) (hk : 0 ≤ k ∧ k < 1000) : w64 (Int.tdiv k (C : Int)) = k / (C : Int) ∧ Int.tmod k (C : Int) = k % (C : Int) := by
  obtain ⟨k, rfl⟩ := Int.eq_ofNat_of_zero_le hk.1
  rw [Int.tdiv_eq_ediv_of_nonneg (by omega), Int.tmod_eq_emod_of_nonneg (by omega)]
  refine ⟨?_, rfl⟩
  have e1 : (k : Int) / (C : Int) = ((k / C : Nat) : Int) := by simp
  have : k / C ≤ k := Nat.div_le_self _ _
  rw [e1]
  generalize k / C = q at *
  exact w64_id (by omega) (by omega)
theorem fool_test {t : List (List Bool)} {R C : Nat} (h : Tab t R C) (c : Bool) (v1 : List Bool) (hv : v1.length = C) {k : Int} (hk : 0 ≤ k ∧ k < ((R * C : Nat) : Int)) : ∀ (l : List Int) (i : Int) (x : Bool), (∀ a ∈ l, 0 ≤ a ∧ a < ((R * C : Nat) : Int)) →
    forL (talk_fool_b29 t c v1 k (t.getD (k / (C : Int)).toNat [])) (fun x589 => x589) (l.map (pr C)) i x = some (x && l.all (nb t C c k))
  | [], i, x, _ => by simp [forL]
  | a :: l, i, x, hl => by
    have hn := h.n
    obtain ⟨d1, d2⟩ := h.div hk
    obtain ⟨d3, d4⟩ := h.div (hl a (by simp))
    obtain ⟨r1, r2⟩ := h.row d1
    obtain ⟨r3, r4⟩ := h.row d3
    have ih := fun x => fool_test h c v1 hv hk l (i + 1) x (fun b hb => hl b (by simp [hb]))
    have hs : talk_fool_b29 t c v1 k (t.getD (k / (C : Int)).toNat []) i (pr C a) x = some (.next (x && nb t C c k a)) := by
      unfold talk_fool_b29
      have e0 : idx (pr C a) 1 = some (a % (C : Int)) := rfl
      have e1 : idx (pr C a) 0 = some (a / (C : Int)) := rfl
      have e2 : Int.tmod k (v1.length : Int) = k % (C : Int) := by rw [hv]; exact (tm_div h.c1 ⟨hk.1, by omega⟩).2
      rw [e0, e1, e2]
      simp only [bind_some']
      rw [row_at r2 d4, r3]
      simp only [bind_some']
      rw [row_at r4 d2]
      simp only [bind_some']
      unfold nb cr
      cases x with
      | false => rfl
      | true =>
        rw [cond_true, Bool.true_and]
        cases ((t.getD (k / (C : Int)).toNat []).getD (a % (C : Int)).toNat false == c) <;> rfl
    rw [List.map_cons]
    simp only [forL, hs]
    rw [ih, List.all_cons, Bool.and_assoc]
theorem fool_ok {t : List (List Bool)} {R C : Nat} (h : Tab t R C) (c : Bool) : ∀ (d fuel : Nat) (l : List Int) (s : Int), ((R * C : Nat) : Int) - s = (d : Int) → d < fuel → 0 ≤ s → (l.length : Int) ≤ s → (∀ a ∈ l, 0 ≤ a ∧ a < ((R * C : Nat) : Int)) →
    ∃ r, talk_fool fuel t (l.map (pr C)) s c = some ((l ++ r).map (pr C)) ∧ Up ((R * C : Nat) : Int) s r ∧ fk t C c l r = true ∧ ∀ r', Up ((R * C : Nat) : Int) s r' → fk t C c l r' = true → Dm r r' := by
  intro d
  induction d using Nat.strongRecOn with
  | ind d IH =>
    intro fuel l s hd hf hs hls hl
    obtain ⟨fuel, rfl⟩ : ∃ q, fuel = q + 1 := ⟨fuel - 1, by omega⟩
    have hn := h.n
    have hc1 := h.c1
    unfold talk_fool talk_fool_step
    have hr0 : (0 : Int) ≤ 0 ∧ (0 : Int) < R := by have := h.r1; omega
    obtain ⟨h0, h0l⟩ := h.row hr0
    rw [h0, bind_some']
    generalize t.getD (0 : Int).toNat [] = v1 at *
    have e1 : w64 ((List.length t : Int) * (List.length v1 : Int)) = ((R * C : Nat) : Int) := by
      rw [h.hr, h0l, ← Int.natCast_mul, w64_id (by omega) (by omega)]
    rw [e1]
    obtain ⟨y, h1, r, rfl, h2, h3, h4⟩ := forI_inv (body := talk_fool_b34 t (l.map (pr C)) c v1 (talk_fool fuel)) (fin := fun x => x) (lo := s) (hi := ((R * C : Nat) : Int)) (x := l.map (pr C))
      (fun x best => ∃ r, best = (l ++ r).map (pr C) ∧ Up ((R * C : Nat) : Int) s r ∧ fk t C c l r = true ∧ (∀ z q, r = z :: q → z < x) ∧ ∀ r', Up ((R * C : Nat) : Int) s r' → fk t C c l r' = true → Dm r r' ∨ (r' ≠ [] ∧ Up ((R * C : Nat) : Int) x r'))
      (fun y => ∃ r, y = (l ++ r).map (pr C) ∧ Up ((R * C : Nat) : Int) s r ∧ fk t C c l r = true ∧ ∀ r', Up ((R * C : Nat) : Int) s r' → fk t C c l r' = true → Dm r r') (by omega) (by omega)
      ⟨[], by simp, trivial, rfl, fun z q h => by simp at h, fun r' u _ => by
        cases r' with
        | nil => exact .inl (Dm.refl _)
        | cons z q => exact .inr ⟨by simp, u⟩⟩
      (by
        rintro x _ hx0 hx1 ⟨r, rfl, i1, i2, i3, i4⟩
        have hk : 0 ≤ x ∧ x < ((R * C : Nat) : Int) := ⟨by omega, hx1⟩
        obtain ⟨d1, d2⟩ := h.div hk
        obtain ⟨r1, r2⟩ := h.row d1
        obtain ⟨t1, t2⟩ := tm_div h.c1 (k := x) ⟨by omega, by omega⟩
        have hckC : ck ((List.length v1 : Int) ≠ 0) = some () := ck_ok (by omega)
        unfold talk_fool_b34 talk_fool_g32
        rw [hckC, bind_some', h0l, t1, t2, r1, bind_some', row_at r2 d2, bind_some', fool_test h c v1 h0l hk _ _ _ hl, bind_some']
        have eok : (((t.getD (x / (C : Int)).toNat []).getD (x % (C : Int)).toNat false == c) && l.all (nb t C c x)) = okc t C c l x := rfl
        rw [eok]
        cases hok : okc t C c l x with
        | false =>
          rw [Bool.not_false, cond_true, bind_some']
          refine ⟨_, rfl, r, rfl, i1, i2, fun z q e => by have := i3 z q e; omega, fun r' u1 u2 => ?_⟩
          rcases i4 r' u1 u2 with e | ⟨e, u⟩
          · exact .inl e
          · refine .inr ⟨e, ?_⟩
            cases r' with
            | nil => exact (e rfl).elim
            | cons z q =>
              by_cases ez : z = x
              · subst ez
                rw [fk, hok, Bool.false_and] at u2; cases u2
              · exact ⟨by have := u.1; omega, u.2⟩
        | true =>
          have es : sub (l.map (pr C)) 0 ((l.map (pr C)).length : Int) = l.map (pr C) := by
            simp only [sub, Int.toNat_natCast, Int.toNat_zero, Nat.sub_zero, List.drop_zero]
            exact List.take_of_length_le (by simp)
          have hll : (l.map (pr C)).length = l.length := by simp
          have hck1 : ck (0 ≤ (0 : Int) ∧ (0 : Int) ≤ (List.length (l.map (pr C)) : Int) ∧ (List.length (l.map (pr C)) : Int) ≤ (List.length (l.map (pr C)) : Int) ∧ (List.length (l.map (pr C)) : Int) = (List.length (l.map (pr C)) : Int)) = some () := ck_ok (by omega)
          have hck2 : ck ((List.length (l.map (pr C)) : Int) + 1 ≤ 4294967296) = some () := ck_ok (by omega)
          have ea : l.map (pr C) ++ [[x / (C : Int), x % (C : Int)]] = (l ++ [x]).map (pr C) := by simp [pr]
          obtain ⟨q, q1, q2, q3, q4⟩ := IH (d - (x - s).toNat - 1) (by omega) fuel (l ++ [x]) (x + 1) (by omega) (by omega) (by omega) (by simp; omega) (by
            intro a ha
            rcases List.mem_append.1 ha with ha | ha
            · exact hl a ha
            · simp at ha; subst ha; exact hk)
          rw [Bool.not_true, cond_false, hck1, bind_some', es, hck2, bind_some', w64_id (by omega) (by omega), ea, q1, bind_some']
          have el : decide ((List.length (List.map (pr C) (l ++ [x] ++ q)) : Int) > (List.length (List.map (pr C) (l ++ r)) : Int)) = decide (r.length < q.length + 1) := by
            apply decide_eq_decide.2
            simp only [List.length_map, List.length_append, List.length_singleton]; omega
          rw [el]
          have up : Up ((R * C : Nat) : Int) s (x :: q) := ⟨by omega, hk.2, q2⟩
          have fkx : fk t C c l (x :: q) = true := by rw [fk, hok, q3]; rfl
          by_cases hlt : r.length < q.length + 1
          · rw [decide_eq_true hlt, cond_true, bind_some']
            refine ⟨_, rfl, x :: q, by simp, up, fkx, fun z q' e => by injection e with e _; omega, fun r' u1 u2 => ?_⟩
            rcases i4 r' u1 u2 with e | ⟨e, u⟩
            · refine .inl (.inl ?_)
              rcases e with e | ⟨e, _⟩
              · simp; omega
              · simp; omega
            · cases r' with
              | nil => exact (e rfl).elim
              | cons z q' =>
                by_cases ez : z = x
                · subst ez
                  rw [fk, hok, Bool.true_and] at u2
                  exact .inl (Dm.cons _ (q4 q' u.2.2 u2))
                · exact .inr ⟨by simp, by have := u.1; omega, u.2⟩
          · rw [decide_eq_false hlt, cond_false, bind_some']
            refine ⟨_, rfl, r, rfl, i1, i2, fun z q e => by have := i3 z q e; omega, fun r' u1 u2 => ?_⟩
            rcases i4 r' u1 u2 with e | ⟨e, u⟩
            · exact .inl e
            · cases r' with
              | nil => exact (e rfl).elim
              | cons z q' =>
                by_cases ez : z = x
                · subst ez
                  rw [fk, hok, Bool.true_and] at u2
                  have hD := q4 q' u.2.2 u2
                  have hlen : q'.length ≤ q.length := by rcases hD with e | ⟨e, _⟩ <;> omega
                  cases r with
                  | nil => simp at hlt
                  | cons w r0 =>
                    have hw := i3 w r0 rfl
                    simp only [List.length_cons] at hlt
                    by_cases e2 : q'.length = r0.length
                    · exact .inl (.inr ⟨by simp [e2], .inr (lx_lt hw _ _)⟩)
                    · exact .inl (.inl (by simp; omega))
                · exact .inr ⟨by simp, by have := u.1; omega, u.2⟩)
      (by
        rintro x _ hx0 hx1 hx2 ⟨r, rfl, i1, i2, i3, i4⟩
        refine ⟨r, rfl, i1, i2, fun r' u1 u2 => ?_⟩
        rcases i4 r' u1 u2 with e | ⟨e, u⟩
        · exact e
        · cases r' with
          | nil => exact (e rfl).elim
          | cons z q => have := u.1; have := u.2.1; omega)
    rw [h1]
    exact ⟨r, rfl, h2, h3, h4⟩

/-- the whole search, of one colour -/
theorem fool_all {t : List (List Bool)} {R C : Nat} (h : Tab t R C) (c : Bool) : ∃ r, talk_fool 70000 t [] 0 c = some (r.map (pr C)) ∧ Up ((R * C : Nat) : Int) 0 r ∧ fk t C c [] r = true ∧ ∀ r', Up ((R * C : Nat) : Int) 0 r' → fk t C c [] r' = true → Dm r r' := by
  have hn := h.n
  obtain ⟨r, h1, h2, h3, h4⟩ := fool_ok h c (R * C) 70000 [] 0 (by omega) (by omega) (by omega) (by simp) (by simp)
  exact ⟨r, by simpa using h1, h2, h3, h4⟩
def cmpi (x y : Int) : Int := if x < y then -1 else if x > y then 1 else 0
theorem cmp_eq (x y : Int) : cmp_Compare_int x y = some (cmpi x y) := by
  unfold cmp_Compare_int cmp_isNaN_int cmpi
  simp only [bne_self_eq_false, bind_some', cond_false]
  by_cases h : x < y
  · rw [decide_eq_true h, if_pos h]; rfl
  · rw [decide_eq_false h, if_neg h]
    by_cases h2 : x > y
    · rw [decide_eq_true h2, if_pos h2]; rfl
    · rw [decide_eq_false h2, if_neg h2]; rfl
theorem cmp_pr {C : Nat} (hC : 1 ≤ C ∧ C ≤ 4) {k l : Int} (hk : 0 ≤ k) (hl : 0 ≤ l) : slices_Compare_Lintint (pr C k) (pr C l) = some (cmpi k l) := by
  have hd : (k / (C : Int) < l / (C : Int) → k < l) ∧ (k / (C : Int) > l / (C : Int) → k > l) ∧ (k / (C : Int) = l / (C : Int) → (k % (C : Int) < l % (C : Int) ↔ k < l) ∧ (k % (C : Int) > l % (C : Int) ↔ k > l)) := by
    rcases (show C = 1 ∨ C = 2 ∨ C = 3 ∨ C = 4 by omega) with rfl | rfl | rfl | rfl <;> simp only [Int.natCast_one, Int.cast_ofNat_Int] <;> refine ⟨by omega, by omega, fun _ => ⟨by omega, by omega⟩⟩
  unfold slices_Compare_Lintint pr
  generalize k / (C : Int) = a at *
  generalize l / (C : Int) = b at *
  generalize k % (C : Int) = d at *
  generalize l % (C : Int) = e at *
  obtain ⟨h1, h2, h3⟩ := hd
  have s0 : slices_Compare_Lintint_b1 [b, e] 0 a () = some (bif cmpi a b != 0 then .done (.ret (cmpi a b)) else .next ()) := by
    unfold slices_Compare_Lintint_b1
    have i0 : idx [b, e] 0 = some b := rfl
    rw [show decide ((0 : Int) ≥ (List.length [b, e] : Int)) = false from decide_eq_false (by simp), cond_false, i0, bind_some', cmp_eq, bind_some']
    cases (cmpi a b != 0) <;> rfl
  have s1 : slices_Compare_Lintint_b1 [b, e] 1 d () = some (bif cmpi d e != 0 then .done (.ret (cmpi d e)) else .next ()) := by
    unfold slices_Compare_Lintint_b1
    have i1 : idx [b, e] 1 = some e := rfl
    rw [show decide ((1 : Int) ≥ (List.length [b, e] : Int)) = false from decide_eq_false (by simp), cond_false, i1, bind_some', cmp_eq, bind_some']
    cases (cmpi d e != 0) <;> rfl
  simp only [forL, s0]
  by_cases q1 : a < b
  · have e1 : cmpi a b = -1 := by unfold cmpi; rw [if_pos q1]
    have e2 : cmpi k l = -1 := by unfold cmpi; rw [if_pos (h1 q1)]
    rw [e1, e2]; rfl
  · by_cases q2 : a > b
    · have e1 : cmpi a b = 1 := by unfold cmpi; rw [if_neg q1, if_pos q2]
      have := h2 q2
      have e2 : cmpi k l = 1 := by unfold cmpi; rw [if_neg (by omega), if_pos this]
      rw [e1, e2]; rfl
    · have e1 : cmpi a b = 0 := by unfold cmpi; rw [if_neg q1, if_neg q2]
      obtain ⟨h4, h5⟩ := h3 (by omega)
      rw [e1, show ((0 : Int) != 0) = false from rfl, cond_false]
      simp only []
      rw [show (0 : Int) + 1 = 1 from rfl, s1]
      have e2 : cmpi d e = cmpi k l := by
        unfold cmpi
        by_cases w1 : d < e
        · rw [if_pos w1, if_pos (h4.1 w1)]
        · rw [if_neg w1, if_neg (fun q => w1 (h4.2 q))]
          by_cases w2 : d > e
          · rw [if_pos w2, if_pos (h5.1 w2)]
          · rw [if_neg w2, if_neg (fun q => w2 (h5.2 q))]
      rw [e2]
      cases hb : (cmpi k l != 0) with
      | true => rfl
      | false =>
        have : cmpi k l = 0 := by simpa using hb
        rw [this]; rfl
theorem cmp_list {C : Nat} (hC : 1 ≤ C ∧ C ≤ 4) {l m : List Int} (hl : ∀ k ∈ l, 0 ≤ k) (hm : ∀ k ∈ m, 0 ≤ k) : ∃ v, slices_CompareFunc_L2intL2int2int2int_with_talk_Fool_1 (l.map (pr C)) (m.map (pr C)) = some v ∧ decide (v < 0) = lx l m := by
  unfold slices_CompareFunc_L2intL2int2int2int_with_talk_Fool_1
  obtain ⟨y, h1, h2⟩ := forL_inv (body := slices_CompareFunc_L2intL2int2int2int_with_talk_Fool_1_b1 (m.map (pr C))) (fin := fun _ => (Esc.brk () : Esc Int Unit)) (l := l.map (pr C)) (x := ())
    (fun j _ => l.take j = m.take j ∧ j ≤ m.length) (fun y => match y with | .ret v => decide (v < 0) = lx l m | .brk _ => l = m.take l.length ∧ l.length ≤ m.length) ⟨rfl, by omega⟩
    (by
      rintro j p _ hp ⟨ht, hj⟩
      rw [List.getElem?_map] at hp
      cases hk : l[j]? with
      | none => rw [hk] at hp; cases hp
      | some k =>
        rw [hk] at hp
        simp only [Option.map_some, Option.some.injEq] at hp
        subst hp
        have hjl := (List.getElem?_eq_some_iff.1 hk).1
        unfold slices_CompareFunc_L2intL2int2int2int_with_talk_Fool_1_b1 talk_Fool_1
        by_cases hlt : m.length ≤ j
        · rw [show decide ((j : Int) ≥ (List.length (m.map (pr C)) : Int)) = true from decide_eq_true (by simp; omega), cond_true]
          refine ⟨_, rfl, ?_⟩
          simp only
          rw [lx_pre j l m ht (.inr hlt)]
          symm
          exact decide_eq_false (by omega)
        · rw [show decide ((j : Int) ≥ (List.length (m.map (pr C)) : Int)) = false from decide_eq_false (by simp; omega), cond_false]
          obtain ⟨z, hz⟩ : ∃ z, m[j]? = some z := ⟨_, List.getElem?_eq_getElem (by omega)⟩
          have hi : idx (m.map (pr C)) (j : Int) = some (pr C z) := by
            obtain ⟨y, g1, g2⟩ := idx_get (xs := m.map (pr C)) (i := (j : Int)) (by omega) (by simp; omega)
            rw [Int.toNat_natCast, List.getElem?_map, hz] at g2
            rw [g1, ← g2]; rfl
          rw [hi, bind_some', cmp_pr hC (hl k (List.mem_of_getElem? hk)) (hm z (List.mem_of_getElem? hz)), bind_some', bind_some']
          by_cases e : k = z
          · subst e
            have : cmpi k k = 0 := by unfold cmpi; rw [if_neg (by omega), if_neg (by omega)]
            rw [this]
            exact ⟨_, rfl, by rw [List.take_add_one, List.take_add_one, ht, hk, hz], by omega⟩
          · have hne : (cmpi k z != 0) = true := by unfold cmpi; split <;> (try split) <;> simp <;> omega
            rw [hne, cond_true]
            refine ⟨_, rfl, ?_⟩
            simp only
            rw [lx_at j l m ht hk hz e]
            apply decide_eq_decide.2
            unfold cmpi; split <;> (try split) <;> omega)
    (by
      rintro _ ⟨ht, hj⟩
      rw [List.length_map] at ht hj
      rw [List.take_of_length_le (Nat.le_refl _)] at ht
      exact ⟨ht, hj⟩)
  rw [h1, bind_some']
  cases y with
  | ret v => exact ⟨v, rfl, h2⟩
  | brk u =>
    obtain ⟨h2, h3⟩ := h2
    have ex : lx l m = decide (l.length < m.length) := lx_pre l.length l m (by rw [List.take_of_length_le (Nat.le_refl _)]; exact h2) (.inl (Nat.le_refl _))
    by_cases hlt : l.length < m.length
    · refine ⟨-1, ?_, ?_⟩
      · simp only [List.length_map]
        rw [show decide ((l.length : Int) < (m.length : Int)) = true from decide_eq_true (by omega)]; rfl
      · rw [ex, decide_eq_true hlt]; rfl
    · refine ⟨0, ?_, ?_⟩
      · simp only [List.length_map]
        rw [show decide ((l.length : Int) < (m.length : Int)) = false from decide_eq_false (by omega)]; rfl
      · rw [ex, decide_eq_false hlt]; rfl
/-- what the program finds -/
theorem fool_main {t : List (List Bool)} {R C : Nat} (h : Tab t R C) (hw : tkAll t = 0) : ∃ r, talk_Fool 70000 t = some (r.map (pr C), 0) ∧ Up ((R * C : Nat) : Int) 0 r ∧ FS t C r = true ∧ ∀ r', Up ((R * C : Nat) : Int) 0 r' → FS t C r' = true → Dm r r' := by
  obtain ⟨a, a1, a2, a3, a4⟩ := fool_all h false
  obtain ⟨b, b1, b2, b3, b4⟩ := fool_all h true
  have fin : ∀ r, Dm r a → Dm r b → ∀ r', Up ((R * C : Nat) : Int) 0 r' → FS t C r' = true → Dm r r' := by
    intro r d1 d2 r' u f
    rcases (fs_fk u).1 f with e | e
    · exact d1.trans (a4 r' u e)
    · exact d2.trans (b4 r' u e)
  have ga := (fs_fk (t := t) (C := C) a2).2 (.inl a3)
  have gb := (fs_fk (t := t) (C := C) b2).2 (.inr b3)
  unfold talk_Fool
  rw [tk_wrong, bind_some', hw, show ((0 : Int) != 0) = false from rfl, cond_false, a1, bind_some', b1, bind_some']
  obtain ⟨v, v1, v2⟩ := cmp_list h.c1 (l := b) (m := a) (fun k hk => (Up.mem b2 k hk).1) (fun k hk => (Up.mem a2 k hk).1)
  have hg : talk_Fool_g1 (a.map (pr C)) (b.map (pr C)) = some (decide (b.length > a.length) || (decide (b.length = a.length) && lx b a)) := by
    unfold talk_Fool_g1
    simp only [List.length_map]
    by_cases e1 : b.length > a.length
    · rw [show decide ((b.length : Int) > (a.length : Int)) = true from decide_eq_true (by omega), decide_eq_true e1]; rfl
    · rw [show decide ((b.length : Int) > (a.length : Int)) = false from decide_eq_false (by omega), decide_eq_false e1, cond_false]
      by_cases e2 : b.length = a.length
      · rw [show ((b.length : Int) == (a.length : Int)) = true by simp [e2], cond_true, v1, bind_some', decide_eq_true e2, v2]; rfl
      · rw [show ((b.length : Int) == (a.length : Int)) = false by simp; omega, cond_false, decide_eq_false e2]; rfl
  rw [hg, bind_some']
  cases hb : (decide (b.length > a.length) || (decide (b.length = a.length) && lx b a)) with
  | true =>
    refine ⟨b, rfl, b2, gb, fin b ?_ (Dm.refl b)⟩
    simp only [Bool.or_eq_true, decide_eq_true_eq, Bool.and_eq_true] at hb
    rcases hb with e | ⟨e1, e2⟩
    · exact .inl e
    · exact .inr ⟨e1.symm, .inr e2⟩
  | false =>
    refine ⟨a, rfl, a2, ga, fin a (Dm.refl a) ?_⟩
    simp only [Bool.or_eq_false_iff, decide_eq_false_iff_not, Bool.and_eq_false_iff] at hb
    obtain ⟨e1, e2⟩ := hb
    rcases e2 with e2 | e2
    · exact .inl (by omega)
    · by_cases e3 : b.length = a.length
      · refine .inr ⟨e3, ?_⟩
        rcases lx_tri b a with q | q | q
        · rw [e2] at q; cases q
        · exact .inl q
        · exact .inr q
      · exact .inl (by omega)
theorem pw_up {n : Int} : ∀ {l : List Int} {s : Int}, l.Pairwise (· < ·) → (∀ x ∈ l, s ≤ x ∧ x < n) → Up n s l
  | [], _, _, _ => trivial
  | x :: l, s, h, hb => by
    rw [List.pairwise_cons] at h
    have h0 := hb x (by simp)
    exact ⟨h0.1, h0.2, pw_up h.2 fun y hy => by have := h.1 y hy; have := hb y (by simp [hy]); omega⟩
theorem fs_short {t : List (List Bool)} {R C : Nat} (h : Tab t R C) {r : List Int} (hu : Up ((R * C : Nat) : Int) 0 r) (hf : FS t C r = true) : r.length ≤ 4 := by
  have hc1 := h.c1
  have hr1 := h.r1
  have key : ∀ c, fk t C c [] r = true → r.length ≤ 4 := by
    intro c hc
    obtain ⟨h1, _, h3⟩ := (fk_iff t C c r []).1 hc
    have hp : (r.map (· / (C : Int))).Pairwise (· < ·) := by
      rw [List.pairwise_map]
      refine List.Pairwise.imp_of_mem (R := fun a x => a < x ∧ nb t C c x a = true) ?_ ((Up.ne hu).and h3)
      rintro a b ha hb ⟨hlt, hn⟩
      have hab : a / (C : Int) ≤ b / (C : Int) := Int.ediv_le_ediv (by omega) (by omega)
      have hne : a / (C : Int) ≠ b / (C : Int) := by
        intro e
        have x1 := h1 a ha
        have x2 := h1 b hb
        unfold nb cr at hn
        unfold cr at x1 x2
        rw [← e] at hn x2
        rw [x1, x2] at hn
        simp at hn
      omega
    have hu2 : Up (R : Int) 0 (r.map (· / (C : Int))) := pw_up hp (by
      intro x hx
      obtain ⟨k, hk, rfl⟩ := List.mem_map.1 hx
      exact (h.div (Up.mem hu k hk)).1)
    cases hl : r.map (· / (C : Int)) with
    | nil =>
      have := congrArg List.length hl
      simp at this
      simp [this]
    | cons x q =>
      rw [hl] at hu2
      have a := Up.len hu2
      have b := hu2.1
      have := congrArg List.length hl
      simp at this
      omega
  rcases (fs_fk hu).1 hf with e | e
  · exact key _ e
  · exact key _ e
theorem fs_ref {t : List (List Bool)} {R C : Nat} (h : Tab t R C) {w : Nat} (hw : w < 2 ^ (R * C)) : ref_FoolSet t (w : Int) = some (FS t C (lst w)) := by
  have hn := h.n
  have hc1 := h.c1
  have hw63 : w < 2 ^ 63 := Nat.lt_of_lt_of_le hw (Nat.pow_le_pow_right (by decide) (by omega))
  have hr0 : (0 : Int) ≤ 0 ∧ (0 : Int) < R := by have := h.r1; omega
  obtain ⟨h0, h0l⟩ := h.row hr0
  have hu := lst_up hw
  unfold ref_FoolSet
  rw [h0, bind_some', sr_listof hw63, bind_some']
  generalize t.getD (0 : Int).toNat [] = v1 at *
  rw [forL_ex (p := fun a => !((lst w).all fun b => (cr t C b b == cr t C a a) && !((a != b) && ((cr t C a b == cr t C a a) && (cr t C b a == cr t C a a))))) (y := Esc.ret false) (fun i a ha => by
    unfold ref_FoolSet_b29
    have hka := Up.mem hu a ha
    obtain ⟨d1, d2⟩ := h.div hka
    obtain ⟨r1, r2⟩ := h.row d1
    rw [forL_ex (p := fun b => !((cr t C b b == cr t C a a) && !((a != b) && ((cr t C a b == cr t C a a) && (cr t C b a == cr t C a a))))) (y := Esc.ret false) (fun j b hb => by
      have hkb := Up.mem hu b hb
      obtain ⟨d3, d4⟩ := h.div hkb
      obtain ⟨r3, r4⟩ := h.row d3
      obtain ⟨t1, t2⟩ := tm_div h.c1 (k := a) ⟨by omega, by omega⟩
      obtain ⟨t3, t4⟩ := tm_div h.c1 (k := b) ⟨by omega, by omega⟩
      have hckC : ck ((List.length v1 : Int) ≠ 0) = some () := ck_ok (by omega)
      unfold ref_FoolSet_b25 ref_FoolSet_g23
      rw [hckC, bind_some', h0l, t1, t2, t3, t4, r1, r3]
      simp only [bind_some']
      rw [row_at r2 d2, row_at r4 d4, row_at r2 d4, row_at r4 d2]
      simp only [bind_some']
      unfold cr
      generalize (t.getD (a / (C : Int)).toNat []).getD (a % (C : Int)).toNat false = p
      generalize (t.getD (b / (C : Int)).toNat []).getD (b % (C : Int)).toNat false = q
      generalize (t.getD (a / (C : Int)).toNat []).getD (b % (C : Int)).toNat false = u
      generalize (t.getD (b / (C : Int)).toNat []).getD (a % (C : Int)).toNat false = v
      cases (a != b) <;> cases p <;> cases q <;> cases u <;> cases v <;> rfl), bind_some']
    rw [← List.not_all_eq_any_not]
    cases ((lst w).all fun b => (cr t C b b == cr t C a a) && !((a != b) && ((cr t C a b == cr t C a a) && (cr t C b a == cr t C a a)))) <;> rfl), bind_some']
  rw [← List.not_all_eq_any_not]
  unfold FS
  cases ((lst w).all fun a => (lst w).all fun b => (cr t C b b == cr t C a a) && !((a != b) && ((cr t C a b == cr t C a a) && (cr t C b a == cr t C a a)))) <;> rfl
theorem wrap_small {n : Nat} (h : n ≤ 16) : IntKind.wrap .u64 (n : Int) = (n : Int) := wrap_u64 (by omega) (by omega)
theorem best_ref {t : List (List Bool)} {R C : Nat} (h : Tab t R C) (v6 : List Bool) (hv : v6.length = C) : ∃ r, iter (law_TalkFools_b25 t 70000 v6) 70000 ([], (0 : Int)) = some r ∧ Up ((R * C : Nat) : Int) 0 r ∧ FS t C r = true ∧ ∀ r', Up ((R * C : Nat) : Int) 0 r' → FS t C r' = true → Dm r r' := by
  have hn := h.n
  have hp : 2 ^ (R * C) ≤ 65536 := Nat.pow_le_pow_right (n := 2) (by decide) hn.2
  have e1 : w64 ((List.length t : Int) * (List.length v6 : Int)) = ((R * C : Nat) : Int) := by
    rw [h.hr, hv, ← Int.natCast_mul, w64_id (by omega) (by omega)]
  obtain ⟨y, h1, h2⟩ := iter_inv (f := law_TalkFools_b25 t 70000 v6)
    (fun x => ∃ m : Nat, m ≤ 2 ^ (R * C) ∧ x.2 = (m : Int) ∧ Up ((R * C : Nat) : Int) 0 x.1 ∧ FS t C x.1 = true ∧ ∀ m', m' < m → FS t C (lst m') = true → Dm x.1 (lst m'))
    (fun x => (65536 - x.2).toNat) (fun r => Up ((R * C : Nat) : Int) 0 r ∧ FS t C r = true ∧ ∀ r', Up ((R * C : Nat) : Int) 0 r' → FS t C r' = true → Dm r r')
    (by
      rintro ⟨best, _⟩ ⟨m, hm, rfl, hu, hf, hD⟩
      dsimp only at hu hf hD
      have hck : ck (0 ≤ IntKind.wrap .u64 ((R * C : Nat) : Int)) = some () := ck_ok (by rw [wrap_small hn.2]; omega)
      unfold law_TalkFools_b25
      dsimp only
      rw [e1, hck, bind_some', wrap_small hn.2, bShl_one (by omega)]
      by_cases hlt : m < 2 ^ (R * C)
      · rw [show decide ((m : Int) < ((2 ^ (R * C) : Nat) : Int)) = true from decide_eq_true (by omega), cond_true]
        have hw63 : m < 2 ^ 63 := Nat.lt_of_lt_of_le hlt (Nat.pow_le_pow_right (by decide) (by omega))
        have hb4 := fs_short h hu hf
        have hul := lst_up hlt
        have hll := lst_len m
        have hg : ∃ best', law_TalkFools_g23 t 70000 (best, (m : Int)) = some best' ∧ Up ((R * C : Nat) : Int) 0 best' ∧ FS t C best' = true ∧ Dm best' best ∧ (FS t C (lst m) = true → Dm best' (lst m)) := by
          unfold law_TalkFools_g23
          dsimp only
          rw [size_eq hw63, bind_some', fs_ref h hlt]
          by_cases c1 : pc m < best.length
          · rw [show decide (((pc m : Nat) : Int) < (best.length : Int)) = true from decide_eq_true (by omega)]
            exact ⟨best, rfl, hu, hf, Dm.refl _, fun _ => .inl (by omega)⟩
          · rw [show decide (((pc m : Nat) : Int) < (best.length : Int)) = false from decide_eq_false (by omega), Bool.false_or]
            by_cases c2 : pc m > 4
            · rw [show decide (((pc m : Nat) : Int) > 4) = true from decide_eq_true (by omega)]
              refine ⟨best, rfl, hu, hf, Dm.refl _, fun hfs => ?_⟩
              have := fs_short h hul hfs
              omega
            · rw [show decide (((pc m : Nat) : Int) > 4) = false from decide_eq_false (by omega), cond_false, bind_some', bind_some']
              cases hfs : FS t C (lst m) with
              | false => exact ⟨best, rfl, hu, hf, Dm.refl _, fun h => by cases h⟩
              | true =>
                rw [Bool.not_true, cond_false, sr_listof hw63, bind_some']
                by_cases c3 : pc m > best.length
                · rw [show decide (((pc m : Nat) : Int) > (best.length : Int)) = true from decide_eq_true (by omega)]
                  exact ⟨lst m, rfl, hul, hfs, .inl (by omega), fun _ => Dm.refl _⟩
                · rw [show decide (((pc m : Nat) : Int) > (best.length : Int)) = false from decide_eq_false (by omega), cond_false, sr_ahead (by omega) (by omega), bind_some', bind_some']
                  cases hlx : lx (lst m) best with
                  | true => exact ⟨lst m, rfl, hul, hfs, .inr ⟨by omega, .inr hlx⟩, fun _ => Dm.refl _⟩
                  | false =>
                    refine ⟨best, rfl, hu, hf, Dm.refl _, fun _ => .inr ⟨by omega, ?_⟩⟩
                    rcases lx_tri (lst m) best with q | q | q
                    · rw [hlx] at q; cases q
                    · exact .inl q
                    · exact .inr q
        obtain ⟨best', g1, g2, g3, g4, g5⟩ := hg
        rw [g1, bind_some', w64_id (by omega) (by omega)]
        refine ⟨_, rfl, ⟨m + 1, by omega, rfl, g2, g3, fun m' hm' hf' => ?_⟩, by dsimp only; omega⟩
        by_cases e : m' = m
        · subst e; exact g5 hf'
        · exact g4.trans (hD m' (by omega) hf')
      · rw [show decide ((m : Int) < ((2 ^ (R * C) : Nat) : Int)) = false from decide_eq_false (by omega), cond_false]
        refine ⟨_, rfl, hu, hf, fun r' u f => ?_⟩
        obtain ⟨m', b1, rfl⟩ := lst_of (by omega) u
        exact hD m' (by omega) f) 70000 ([], (0 : Int)) (by dsimp only; omega) ⟨0, Nat.zero_le _, rfl, trivial, rfl, fun m' hm' => by omega⟩
  exact ⟨y, h1, h2⟩
theorem TalkFools_true (a0 : List (List Bool)) (f0 : Fits (.slice (.slice .bool)) a0) : ∃ fuel, law_TalkFools fuel a0 = some true := by
  refine ⟨70000, ?_⟩
  unfold law_TalkFools
  rw [tk_check]
  by_cases hw : tkAll a0 = 0
  · obtain ⟨h1, h2, C, h3, h4, h5⟩ := tk_ok hw
    have h : Tab a0 a0.length C := ⟨⟨h1, h2⟩, ⟨h3, h4⟩, rfl, h5⟩
    have hn := h.n
    obtain ⟨r, p1, p2, p3, p4⟩ := fool_main h hw
    have hr0 : (0 : Int) ≤ 0 ∧ (0 : Int) < a0.length := by omega
    obtain ⟨g0, g0l⟩ := h.row hr0
    obtain ⟨b, b1, b2, b3, b4⟩ := best_ref h (a0.getD (0 : Int).toNat []) g0l
    have e : b = r := (b4 r p2 p3).anti (p4 b b2 b3)
    subst e
    rw [p1, bind_some', bind_some', hw, show ((0 : Int) != 0) = false from rfl, cond_false, g0, bind_some', b1, bind_some']
    generalize a0.getD (0 : Int).toNat [] = v6 at *
    have hs := fs_short h b2 b3
    have hl : forL (law_TalkFools_b28 v6) (fun x290 => x290) b 0 [] = some (b.map (pr C)) := by
      obtain ⟨y, q1, rfl⟩ := forL_inv (body := law_TalkFools_b28 v6) (fin := fun x => x) (l := b) (x := []) (fun j y => y = (b.take j).map (pr C)) (fun y => y = b.map (pr C)) (by simp)
        (by
          rintro j k _ hk rfl
          have hkm := Up.mem b2 k (List.mem_of_getElem? hk)
          obtain ⟨t1, t2⟩ := tm_div h.c1 (k := k) ⟨by omega, by omega⟩
          have hck1 : ck ((List.length v6 : Int) ≠ 0) = some () := ck_ok (by omega)
          have hck2 : ck ((List.length ((b.take j).map (pr C)) : Int) + 1 ≤ 4294967296) = some () := ck_ok (by rw [List.length_map, List.length_take]; omega)
          unfold law_TalkFools_b28
          rw [hck1, bind_some', hck2, bind_some', g0l, t1, t2]
          refine ⟨_, rfl, ?_⟩
          rw [List.take_add_one, hk]; simp [pr])
        (by rintro _ rfl; simp)
      exact q1
    rw [hl, bind_some', show ((0 : Int) == 0) = true from rfl, cond_true]
    have ht : ref_Twos (b.map (pr C)) (b.map (pr C)) = some true := by
      unfold ref_Twos
      rw [bne_self_eq_false, cond_false]
      obtain ⟨y, q1, rfl⟩ := forL_inv (body := ref_Twos_b1 (b.map (pr C))) (fin := fun _ => (Esc.brk () : Esc Bool Unit)) (l := b.map (pr C)) (x := ()) (fun _ _ => True) (fun y => y = .brk ()) trivial
        (by
          rintro j k _ hk _
          obtain ⟨y, g1, g2⟩ := idx_get (xs := b.map (pr C)) (i := (j : Int)) (by omega) (by have := (List.getElem?_eq_some_iff.1 hk).1; omega)
          rw [Int.toNat_natCast, hk] at g2
          injection g2 with g2
          subst g2
          unfold ref_Twos_b1
          have hq : deqT (.arr 2 tI) k k = true := eqL_refl (fun a => by simp [deqT, tI]) k
          rw [g1, bind_some', hq]
          exact ⟨_, rfl, trivial⟩)
        (by intro _ _; rfl)
      rw [q1]; rfl
    rw [ht]; rfl
  · have hp : talk_Fool 70000 a0 = some ([], tkAll a0) := by
      unfold talk_Fool
      rw [tk_wrong, bind_some', bif_t (by simp [hw])]
    rw [hp, bind_some', bind_some', bif_t (by simp [hw])]
    simp

end Go.Proofs.Ytjghcbdfpcpahaa.talkFools
namespace Go.Proofs.Ytjghcbdfpcpahaa.talkFools
open Go.ChangeShapes Go.WideShapes Go.ChangeAt Go.RowKit
open Go.ChangeMaps (open_string shut_string)
theorem own : ownKnob Try.prog.godebug = none := by kernel_rfl
theorem laidOut : laidOutB Try.prog = true := by kernel_rfl
theorem lifted (os : Os) (started : os.Started) (H : Type) (enc : TypeId × Value → H) :
    ReturnsInHanded {} Try.checked os 6 .any (Rows.talkFoolsSpec.pre6 enc Try.prog Try.f6 Rows.talkFoolsRow.domain false) (Rows.talkFoolsSpec.post enc Try.prog Try.f6 false true false false) := by
  refine returnsInHanded_of_change (C := Try.checked) own started (by kernel_rfl) Try.func6
    (ChangeSpec.witness6 (enc := enc) (C := Try.checked) false ⟨#[], #[.slice none 0 0], []⟩ 8 (by kernel_rfl) (by kernel_rfl) (by kernel_rfl) (by kernel_rfl)) ?_
  intro W base args ds gs before hval0 hW hcnd _
  have hval : ∀ (j : Nat) t v, Try.f6.params[j]? = some t → args[j]? = some v → Value.okWide Try.prog W .any base t v := hval0
  have hW' := hW
  obtain ⟨p, q, hA0, hV, rfl, hfz, hnd⟩ := hW
  have hA : DataW.TrodAll enc Try.prog W 0 (fun _ => true) true Try.f6.params.toList args.toList ds p := hA0
  rw [Try.params6] at hA hval
  obtain ⟨v0, vs0, d0, ds0, p0, q0, hargs, rfl, rfl, h0, r0⟩ := trodAll_cons hA
  obtain ⟨rfl, rfl, rfl⟩ := trodAll_nil r0
  obtain rfl : args = #[v0] := by cases args; simp_all
  obtain ⟨rfl, rfl⟩ := trodVars_none hV
  obtain ⟨x0, f0, k0⟩ := Go.Sl.read_arg (u := (.slice (.slice .bool))) (by kernel_rfl) (by kernel_rfl) (hval 0 22 v0 rfl rfl) h0
  have lt0 : ∀ x ∈ p0, x.block < W.heap.size := by obtain ⟨m, hm⟩ := h0; exact DataW.trod_lt m _ _ _ hm
  clear hA0 hval0
  obtain ⟨fuel, hm⟩ := TalkFools_true x0 f0
  refine (Go.Sl.law_of (vs := [v0]) (law_TalkFools_ok hm) rfl (.cons (k0 _ _) .nil)).mono fun e W' ⟨he, bel⟩ => ?_
  subst he
  exact ⟨_, rfl, _, _, _, [], _, [], hW', trodAll_mk1 (shut_bool Try.underlying4 _), (trodAll_cons_mk (Below.trod laidOut (by kernel_rfl) (of_decide_eq_true (by kernel_rfl)) h0 bel lt0) trodAll_mk0), rfl, bel.frame _, fun h => by cases h⟩
theorem proved : Rows.TalkFoolsSaid :=
  OpenClaim.holds_of_wide 6 Try.f6 rfl rfl rfl rfl rfl rfl rfl ⟨rfl, rfl, rfl, rfl, rfl⟩ rfl rfl rfl rfl rfl (by kernel_rfl) Try.func6 (by kernel_rfl)
    (of_decide_eq_true (by kernel_rfl)) (by unfold Func.isWrapper; first | (rw [if_pos (by decide +kernel)]; kernel_rfl) | (rw [if_neg (by decide +kernel)]; exact ⟨rfl, rfl⟩))
    (fun os started H enc _ => lifted os started H enc)
#print axioms proved
end Go.Proofs.Ytjghcbdfpcpahaa.talkFools
