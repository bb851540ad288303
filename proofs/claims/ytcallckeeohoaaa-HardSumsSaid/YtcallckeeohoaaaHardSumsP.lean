/- For any numbers and total hard.Sum returns the specified results: HardSums returns true and changes nothing; no conditions. -/
import Derived.Test.YtcallckeeohoaaaRows
import Derived.WalkKit
import Derived.ProofKit
import Derived.OpenShut
import Derived.ShutString
import Derived.ChangeOld
import Derived.Below
import Derived.Test.YtcallckeeohoaaaHardSumsM
set_option linter.all false
set_option maxRecDepth 100000
namespace Go.Proofs.Ytcallckeeohoaaa.hardSums
open Go Go.Sl

theorem within_eq (a b c : Int) : ref_Within a b c = some (decide (a ≤ b ∧ b ≤ c)) := by
  unfold ref_Within
  rw [Bool.decide_and]

theorem ref_Ints_eq (a b : List Int) : ref_Ints a b = some (decide (a = b)) := by
  unfold ref_Ints
  rw [len_ne]
  by_cases h : a.length = b.length
  · rw [forL_eqs (q := b) (fun n a c hc => by
      unfold ref_Ints_b1
      rw [idx_nat, hc]
      by_cases h : a = c <;> simp [h, bne_dec]) h]
    by_cases h2 : a = b <;> simp [h2, h]
  · have : ¬ a = b := fun e => h (by rw [e])
    simp [h, this]

theorem bit_eq {w i : Nat} (hw : w < 2 ^ 63) (hi : i < 63) : ref_Bit (w : Int) (i : Int) = some (w.testBit i) := by
  unfold ref_Bit
  have c : (decide ((i : Int) ≥ 0) && decide ((i : Int) < 63)) = true := by simp; omega
  have e : IntKind.wrap .u64 (i : Int) = (i : Int) := wrap_u64 (by omega) (by omega)
  rw [c, e, ck_ok (by omega)]
  simp only [cond_true, Option.bind_some, bit_mask hw hi]

/-- lists in the order of the dictionary -/
def lx : List Int → List Int → Bool
  | [], [] => false
  | [], _ :: _ => true
  | _ :: _, [] => false
  | a :: ws, b :: bs => if a = b then lx ws bs else decide (a < b)
theorem lx_cons (a : Int) (l m : List Int) : lx (a :: l) (a :: m) = lx l m := by simp [lx]
theorem lx_lt {a b : Int} (h : a < b) (l m : List Int) : lx (a :: l) (b :: m) = true := by
  have : a ≠ b := by omega
  simp [lx, this, h]
theorem lx_self : ∀ l, lx l l = false
  | [] => rfl
  | a :: l => by rw [lx_cons]; exact lx_self l
theorem lx_tri : ∀ l m, lx l m = true ∨ l = m ∨ lx m l = true
  | [], [] => .inr (.inl rfl)
  | [], _ :: _ => .inl rfl
  | _ :: _, [] => .inr (.inr rfl)
  | a :: l, b :: m => by
    by_cases h : a = b
    · subst h
      rw [lx_cons, lx_cons]
      rcases lx_tri l m with h | h | h
      · exact .inl h
      · exact .inr (.inl (by rw [h]))
      · exact .inr (.inr h)
    · by_cases h2 : a < b
      · exact .inl (lx_lt h2 _ _)
      · exact .inr (.inr (lx_lt (by omega) _ _))
theorem lx_trans : ∀ {l m k}, lx l m = true → lx m k = true → lx l k = true
  | [], [], _, h, _ => by cases h
  | [], _ :: _, [], _, h => by cases h
  | [], _ :: _, _ :: _, _, _ => rfl
  | _ :: _, [], _, h, _ => by cases h
  | _ :: _, _ :: _, [], _, h => by cases h
  | a :: l, b :: m, c :: k, h, h' => by
    by_cases e : a = b
    · subst e
      rw [lx_cons] at h
      by_cases e : a = c
      · subst e
        rw [lx_cons] at h' ⊢
        exact lx_trans h h'
      · simp only [lx, if_neg e] at h' ⊢
        exact h'
    · simp only [lx, if_neg e, decide_eq_true_eq] at h
      by_cases e : b = c
      · subst e
        exact lx_lt h _ _
      · simp only [lx, if_neg e, decide_eq_true_eq] at h'
        exact lx_lt (by omega) _ _
theorem lx_at : ∀ (j : Nat) (a b : List Int) {u v : Int}, a.take j = b.take j → a[j]? = some u → b[j]? = some v → u ≠ v → lx a b = decide (u < v)
  | 0, a :: ws, b :: bs, u, v, _, h1, h2, h => by
    obtain rfl : a = u := by simpa using h1
    obtain rfl : b = v := by simpa using h2
    simp [lx, h]
  | j + 1, a :: ws, b :: bs, u, v, ht, h1, h2, h => by
    simp only [List.take_succ_cons, List.cons.injEq] at ht
    obtain ⟨rfl, ht⟩ := ht
    rw [lx_cons]
    exact lx_at j ws bs ht (by simpa using h1) (by simpa using h2) h
  | 0, [], _, _, _, _, h1, _, _ => by simp at h1
  | 0, _ :: _, [], _, _, _, _, h2, _ => by simp at h2
  | j + 1, [], _, _, _, _, h1, _, _ => by simp at h1
  | j + 1, _ :: _, [], _, _, _, _, h2, _ => by simp at h2
theorem lx_pre : ∀ (j : Nat) (a b : List Int), a.take j = b.take j → (a.length ≤ j ∨ b.length ≤ j) → lx a b = decide (a.length < b.length)
  | _, [], [], _, _ => rfl
  | _, [], _ :: _, _, _ => by simp [lx]
  | _, _ :: _, [], _, _ => by simp [lx]
  | 0, _ :: _, _ :: _, _, h => by simp at h
  | j + 1, a :: ws, b :: bs, ht, h => by
    simp only [List.take_succ_cons, List.cons.injEq] at ht
    obtain ⟨rfl, ht⟩ := ht
    rw [lx_cons, lx_pre j ws bs ht (by simpa using h)]
    simp
theorem sr_ahead {a b : List Int} {fuel : Nat} (h : a.length < fuel) (hf : a.length ≤ 1000) : ref_Ahead fuel a b = some (lx a b) := by
  unfold ref_Ahead
  obtain ⟨y, h1, h2⟩ := iter_inv (f := ref_Ahead_b1 a b) (fun x => ∃ j : Nat, j ≤ a.length ∧ j ≤ b.length ∧ x = (j : Int) ∧ a.take j = b.take j) (fun x => (a.length - x).toNat)
    (fun y => match y with | .ret r => r = lx a b | .brk _ => lx a b = decide ((a.length : Int) < (b.length : Int)))
    (by
      rintro _ ⟨j, hj, hjb, rfl, ht⟩
      unfold ref_Ahead_b1
      by_cases hlt : j < a.length ∧ j < b.length
      · rw [decide_eq_true (by omega), decide_eq_true (by omega)]
        obtain ⟨u, r1, r2⟩ := idx_get (xs := a) (i := (j : Int)) (by omega) (by omega)
        obtain ⟨v, q1, q2⟩ := idx_get (xs := b) (i := (j : Int)) (by omega) (by omega)
        rw [r1, q1, bind_some', bind_some']
        rw [Int.toNat_natCast] at r2 q2
        by_cases e : u = v
        · subst e
          have : (u != u) = false := by simp
          rw [this]
          refine ⟨_, rfl, ⟨j + 1, by omega, by omega, ?_, ?_⟩, ?_⟩
          · exact w64_id (by omega) (by omega)
          · rw [List.take_add_one, List.take_add_one, ht, r2, q2]
          · rw [w64_id (by omega) (by omega)]; omega
        · have : (u != v) = true := by simp [e]
          rw [this]
          exact ⟨_, rfl, (lx_at j a b ht r2 q2 e).symm⟩
      · have e : (decide ((j : Int) < (List.length a : Int)) && decide ((j : Int) < (List.length b : Int))) = false := by
          rw [and_dec]; exact decide_eq_false (by omega)
        rw [e]
        refine ⟨_, rfl, ?_⟩
        dsimp only
        rw [lx_pre j a b ht (by omega)]
        exact decide_eq_decide.2 (by omega)) fuel (0 : Int) (by omega) ⟨0, by omega, by omega, rfl, rfl⟩
  rw [h1, bind_some']
  cases y with
  | ret r => rw [show r = lx a b from h2]
  | brk u =>
    have h2 : lx a b = decide ((a.length : Int) < (b.length : Int)) := h2
    rw [h2]
/-- going up, from s on, below n -/
def Up (n : Int) : Int → List Int → Prop
  | _, [] => True
  | s, x :: r => s ≤ x ∧ x < n ∧ Up n (x + 1) r
theorem Up.len {n : Int} : ∀ {r : List Int} {s x : Int}, Up n s (x :: r) → x + 1 + r.length ≤ n
  | [], s, x, h => by simp; have := h.2.1; omega
  | y :: r, s, x, h => by
    have h1 := Up.len h.2.2
    have h2 := h.2.2.1
    rw [List.length_cons]; omega
theorem Up.low {n : Int} {s s' : Int} (h : s' ≤ s) : ∀ {r : List Int}, Up n s r → Up n s' r
  | [], _ => trivial
  | x :: r, h1 => ⟨by have := h1.1; omega, h1.2⟩
theorem Up.hi {n n' : Int} (h : n ≤ n') : ∀ {r : List Int} {s : Int}, Up n s r → Up n' s r
  | [], _, _ => trivial
  | x :: r, _, h1 => ⟨h1.1, by have := h1.2.1; omega, Up.hi h h1.2.2⟩
theorem Up.mem {n : Int} : ∀ {r : List Int} {s : Int}, Up n s r → ∀ v ∈ r, s ≤ v ∧ v < n
  | x :: r, s, h, v, hv => by
    rcases List.mem_cons.1 hv with rfl | hv
    · exact ⟨h.1, h.2.1⟩
    · have := Up.mem h.2.2 v hv
      have := h.1
      omega
/-- the places of a word ws a list -/
def lf (f : Nat → Bool) (s c : Nat) : List Int := ((List.range' s c).filter f).map fun (i : Nat) => (i : Int)
theorem lf_succ (f : Nat → Bool) (s c : Nat) : lf f s (c + 1) = bif f s then (s : Int) :: lf f (s + 1) c else lf f (s + 1) c := by
  unfold lf
  rw [List.range'_succ]
  cases h : f s <;> simp [h]
theorem lf_up {f : Nat → Bool} {n : Nat} (h : ∀ i, f i = true → i < n) : ∀ (c s : Nat), Up (n : Int) (s : Int) (lf f s c)
  | 0, s => trivial
  | c + 1, s => by
    have ih := lf_up h c (s + 1)
    rw [lf_succ]
    cases hf : f s with
    | false => exact Up.low (by omega) ih
    | true => exact ⟨by omega, by have := h s hf; omega, ih⟩
theorem lf_congr {f g : Nat → Bool} : ∀ c s, (∀ i, s ≤ i → f i = g i) → lf f s c = lf g s c
  | 0, s, _ => rfl
  | c + 1, s, h => by rw [lf_succ, lf_succ, h s (by omega), lf_congr c (s + 1) (fun i hi => h i (by omega))]
theorem lf_ext : ∀ (c s : Nat) (r : List Int), Up ((s + c : Nat) : Int) (s : Int) r → lf (fun (i : Nat) => r.any ((i : Int) == ·)) s c = r
  | 0, s, [], _ => rfl
  | 0, s, x :: r, h => by have := h.1; have := h.2.1; omega
  | c + 1, s, [], _ => by
    rw [lf_succ]
    have := lf_ext c (s + 1) [] trivial
    simpa using this
  | c + 1, s, x :: r, h => by
    rw [lf_succ]
    by_cases e : x = (s : Int)
    · subst e
      have h2 : Up ((s + 1 + c : Nat) : Int) ((s + 1 : Nat) : Int) r := by
        have := h.2.2
        rwa [show s + 1 + c = s + (c + 1) by omega]
      have h1 := lf_ext c (s + 1) r h2
      have h3 : lf (fun (i : Nat) => ((s : Int) :: r).any ((i : Int) == ·)) (s + 1) c = lf (fun (i : Nat) => r.any ((i : Int) == ·)) (s + 1) c := lf_congr c (s + 1) (fun i hi => by
        have : ((i : Int) == (s : Int)) = false := by simp; omega
        simp [this])
      rw [h3, h1]
      simp
    · have hx := h.1
      have hs : ((x :: r).any ((s : Int) == ·)) = false := by
        rw [List.any_eq_false]
        intro v hv
        have := Up.mem (n := ((s + (c + 1) : Nat) : Int)) (s := x) (r := x :: r) ⟨by omega, h.2⟩ v hv
        simp; omega
      have h1 := lf_ext c (s + 1) (x :: r) (by rw [show s + 1 + c = s + (c + 1) by omega]; exact ⟨by omega, h.2⟩)
      rw [hs, cond_false, h1]
theorem lf_mem {f : Nat → Bool} {c : Nat} {v : Int} (hv : 0 ≤ v ∧ v < (c : Int)) : (lf f 0 c).any (v == ·) = f v.toNat := by
  rw [Bool.eq_iff_iff, List.any_eq_true]
  unfold lf
  simp only [List.mem_map, List.mem_filter, List.mem_range'_1, beq_iff_eq]
  constructor
  · rintro ⟨x, ⟨i, ⟨_, hi⟩, rfl⟩, rfl⟩
    simpa using hi
  · intro h
    exact ⟨v, ⟨v.toNat, ⟨⟨by omega, by omega⟩, h⟩, by omega⟩, rfl⟩
def lst (m : Nat) : List Int := lf m.testBit 0 63
theorem lst_len (m : Nat) : (lst m).length = pc m := by
  unfold lst lf pc
  rw [List.length_map, List.range_eq_range', List.countP_eq_length_filter]
theorem lst_up {n m : Nat} (h : m < 2 ^ n) : Up (n : Int) 0 (lst m) := by
  refine lf_up (fun i hi => ?_) 63 0
  by_cases hlt : i < n
  · exact hlt
  · have : m.testBit i = false := Nat.testBit_lt_two_pow (Nat.lt_of_lt_of_le h (Nat.pow_le_pow_right (by omega) (by omega)))
    rw [this] at hi; cases hi
theorem lst_of {n : Nat} (hn : n ≤ 63) {r : List Int} (h : Up (n : Int) 0 r) : ∃ m, m < 2 ^ n ∧ lst m = r := by
  refine ⟨wd ((List.range n).map fun (i : Nat) => r.any ((i : Int) == ·)), ?_, ?_⟩
  · have := wd_lt ((List.range n).map fun (i : Nat) => r.any ((i : Int) == ·))
    simpa using this
  · have h1 := lf_ext 63 0 r (Up.hi (by omega) h)
    rw [← h1]
    unfold lst
    refine lf_congr 63 0 (fun i _ => ?_)
    rw [wd_bit, h1]
    by_cases hi : i < n
    · simp [List.getD_eq_getElem?_getD, hi]
    · have : (r.any ((i : Int) == ·)) = false := by
        rw [List.any_eq_false]
        intro v hv
        have := Up.mem h v hv
        simp; omega
      rw [this]
      simp [List.getD_eq_getElem?_getD, hi]
theorem sr_listof {w : Nat} (hw : w < 2 ^ 63) : ref_ListOf (w : Int) = some (lst w) := by
  unfold ref_ListOf
  obtain ⟨y, h1, h2⟩ := forI_inv (body := ref_ListOf_b4 (w : Int)) (fin := fun x => x) (lo := 0) (hi := 63) (x := ([] : List Int)) (fun i x => ∃ j : Nat, i = (j : Int) ∧ j ≤ 63 ∧ x = lf w.testBit 0 j) (fun y => y = lst w) (by omega) (by omega) ⟨0, rfl, by omega, rfl⟩
    (by
      rintro _ x _ hlt ⟨j, rfl, hj, rfl⟩
      have hl : (lf w.testBit 0 j).length ≤ j := by
        unfold lf
        rw [List.length_map]
        have := List.length_filter_le w.testBit (List.range' 0 j)
        simpa using this
      have e : lf w.testBit 0 (j + 1) = lf w.testBit 0 j ++ bif w.testBit j then [(j : Int)] else [] := by
        unfold lf
        rw [List.range'_concat, List.filter_append, List.map_append]
        cases hb : w.testBit j <;> simp [hb]
      have hck : ck ((List.length (lf w.testBit 0 j) : Int) + 1 ≤ 4294967296) = some () := ck_ok (by omega)
      unfold ref_ListOf_b4
      rw [bit_eq hw (by omega), bind_some', hck]
      cases hb : w.testBit j with
      | true => rw [hb] at e; exact ⟨_, rfl, j + 1, by omega, by omega, e.symm⟩
      | false => rw [hb] at e; exact ⟨_, rfl, j + 1, by omega, by omega, by rw [e]; simp⟩)
    (by
      rintro i x _ hi _ ⟨j, rfl, hj, rfl⟩
      have : j = 63 := by omega
      subst this; rfl)
  rw [h1, bind_some', h2]

/-- what the places add up to -/
def tot (a : List Int) (r : List Int) : Int := r.foldr (fun i x => a.getD i.toNat 0 + x) 0
theorem tot_cons (a : List Int) (i : Int) (r : List Int) : tot a (i :: r) = a.getD i.toNat 0 + tot a r := rfl
structure BestS (a : List Int) (s left : Int) (r : List Int) : Prop where
  up : Up (a.length : Int) s r
  good : tot a r = left
  least : ∀ r', Up (a.length : Int) s r' → tot a r' = left → r' = r ∨ lx r r' = true
theorem BestS.uniq {a : List Int} {s left : Int} {r r' : List Int} (h : BestS a s left r) (h' : BestS a s left r') : r = r' := by
  rcases h.least r' h'.up h'.good with e | e
  · exact e.symm
  · rcases h'.least r h.up h.good with e' | e'
    · exact e'
    · have := lx_trans e e'
      rw [lx_self] at this; cases this
def hsOk (a : List Int) : Prop := a.length ≤ 16 ∧ ∀ v ∈ a, 0 ≤ v ∧ v ≤ 1000000000
theorem hs_get {a : List Int} (h : hsOk a) {i : Int} (hi : 0 ≤ i ∧ i < (a.length : Int)) : idx a i = some (a.getD i.toNat 0) ∧ 0 ≤ a.getD i.toNat 0 ∧ a.getD i.toNat 0 ≤ 1000000000 := by
  obtain ⟨c, h1, h2⟩ := idx_get (xs := a) hi.1 hi.2
  have e : a.getD i.toNat 0 = c := by rw [List.getD_eq_getElem?_getD, h2]; rfl
  rw [e]
  exact ⟨h1, h.2 c (List.mem_of_getElem? h2)⟩
theorem tot_nonneg {a : List Int} (h : hsOk a) : ∀ {r : List Int} {s : Int}, 0 ≤ s → Up (a.length : Int) s r → 0 ≤ tot a r
  | [], _, _, _ => by simp [tot]
  | x :: r, s, hs, hu => by
    rw [tot_cons]
    have h1 := (hs_get h ⟨by have := hu.1; omega, hu.2.1⟩).2.1
    have h2 := tot_nonneg h (by have := hu.1; omega) hu.2.2
    omega
theorem hs_search {a : List Int} (h : hsOk a) : ∀ (d fuel : Nat) (s left : Int) (t : List Int), 0 ≤ s → (a.length : Int) - s ≤ d → d + 2 ≤ fuel → -9223372036854775808 ≤ left ∧ left ≤ 9223372036854775807 → t.length + d ≤ 40 →
    ∃ l b, hard_Sum_2 fuel s left t a = some (l, b) ∧ (b = true → ∃ r, l = t ++ r ∧ BestS a s left r) ∧ (b = false → ∀ r', Up (a.length : Int) s r' → tot a r' ≠ left) := by
  intro d
  induction d with
  | zero =>
    intro fuel s left t hs hd hf hl ht
    obtain ⟨fuel, rfl⟩ : ∃ q, fuel = q + 1 := ⟨fuel - 1, by omega⟩
    show ∃ l b, hard_Sum_2_step (hard_Sum_2 fuel) fuel s left t a = some (l, b) ∧ _
    have hnil : ∀ r', Up (a.length : Int) s r' → r' = [] := fun r' hu => by
      cases r' with
      | nil => rfl
      | cons x r => have := hu.1; have := hu.2.1; omega
    unfold hard_Sum_2_step
    by_cases h0 : left = 0
    · subst h0
      exact ⟨t, true, rfl, fun _ => ⟨[], by simp, trivial, rfl, fun r' hu _ => .inl (hnil r' hu)⟩, fun e => by cases e⟩
    · have e0 : (left == (0 : Int)) = false := by simp [h0]
      have hfor : forI s (List.length a : Int) (hard_Sum_2_b9 left t a (hard_Sum_2 fuel)) (fun x75 => (.brk () : Esc (List Int × Bool) Unit)) () = some (.brk ()) := by
        unfold forI
        have := h.1
        rw [if_pos (by omega), show ((a.length : Int) - s).toNat = 0 by omega]; rfl
      rw [e0, cond_false, hfor, bind_some']
      exact ⟨[], false, rfl, (fun e => by cases e), fun _ r' hu e => by
        have := hnil r' hu
        subst this
        exact h0 e.symm⟩
  | succ d ih =>
    intro fuel s left t hs hd hf hl ht
    obtain ⟨fuel, rfl⟩ : ∃ q, fuel = q + 1 := ⟨fuel - 1, by omega⟩
    show ∃ l b, hard_Sum_2_step (hard_Sum_2 fuel) fuel s left t a = some (l, b) ∧ _
    have hlen := h.1
    unfold hard_Sum_2_step
    by_cases h0 : left = 0
    · subst h0
      refine ⟨t, true, rfl, fun _ => ⟨[], by simp, trivial, rfl, fun r' hu _ => ?_⟩, fun e => by cases e⟩
      cases r' with
      | nil => exact .inl rfl
      | cons x r => exact .inr rfl
    · have e0 : (left == (0 : Int)) = false := by simp [h0]
      rw [e0, cond_false]
      obtain ⟨y, h1, h2⟩ := forI_inv (body := hard_Sum_2_b9 left t a (hard_Sum_2 fuel)) (fin := fun x75 => (.brk () : Esc (List Int × Bool) Unit)) (lo := s) (hi := (a.length : Int)) (x := ())
        (fun x _ => ∀ r', Up (a.length : Int) s r' → tot a r' = left → Up (a.length : Int) x r')
        (fun y => match y with | .ret z => z.2 = true ∧ ∃ r, z.1 = t ++ r ∧ BestS a s left r | .brk _ => ∀ r', Up (a.length : Int) s r' → tot a r' ≠ left) (by omega) (by omega) (fun r' hu _ => hu)
        (by
          rintro x ⟨⟩ hx1 hx2 hx3
          obtain ⟨g1, g2, g3⟩ := hs_get h (i := x) ⟨by omega, hx2⟩
          have up1 : (∀ r'', Up (a.length : Int) (x + 1) r'' → a.getD x.toNat 0 + tot a r'' ≠ left) → ∀ r', Up (a.length : Int) s r' → tot a r' = left → Up (a.length : Int) (x + 1) r' := by
            intro hno r' u1 u2
            have u3 := hx3 r' u1 u2
            cases r' with
            | nil => trivial
            | cons z r'' =>
              by_cases e : z = x
              · subst e
                exact (hno r'' u3.2.2 u2).elim
              · exact ⟨by have := u3.1; omega, u3.2⟩
          unfold hard_Sum_2_b9 hard_Sum_2_g6
          rw [g1, bind_some']
          by_cases hgt : a.getD x.toNat 0 > left
          · rw [decide_eq_true hgt, cond_true, bind_some']
            exact ⟨_, rfl, up1 (fun r'' hu => by have := tot_nonneg h (by omega) hu; omega)⟩
          · rw [decide_eq_false hgt, cond_false]
            have e1 : sub t 0 (t.length : Int) = t := by simp [sub]
            have hck1 : ck (0 ≤ (0 : Int) ∧ (0 : Int) ≤ (List.length t : Int) ∧ (List.length t : Int) ≤ (List.length t : Int) ∧ (List.length t : Int) = (List.length t : Int)) = some () := ck_ok ⟨by omega, by omega, by omega, rfl⟩
            have hck2 : ck ((List.length t : Int) + 1 ≤ 4294967296) = some () := ck_ok (by omega)
            obtain ⟨l, b, q1, q2, q3⟩ := ih fuel (x + 1) (left - a.getD x.toNat 0) (t ++ [x]) (by omega) (by omega) (by omega) (by omega) (by simp; omega)
            rw [hck1, bind_some', e1, hck2, bind_some', w64_id (n := x + 1) (by omega) (by omega), w64_id (by omega) (by omega), q1, bind_some']
            cases b with
            | true =>
              obtain ⟨r, rfl, hb⟩ := q2 rfl
              refine ⟨_, rfl, rfl, x :: r, by simp, ⟨hx1, hx2, hb.up⟩, by rw [tot_cons, hb.good]; omega, fun r' u1 u2 => ?_⟩
              have u3 := hx3 r' u1 u2
              cases r' with
              | nil => exact (h0 u2.symm).elim
              | cons z r'' =>
                by_cases e : z = x
                · subst e
                  rw [tot_cons] at u2
                  rcases hb.least r'' u3.2.2 (by omega) with e | e
                  · exact .inl (by rw [e])
                  · exact .inr (by rw [lx_cons]; exact e)
                · exact .inr (lx_lt (by have := u3.1; omega) _ _)
            | false =>
              exact ⟨_, rfl, up1 (fun r'' hu e => q3 rfl r'' hu (by omega))⟩)
        (by
          rintro i ⟨⟩ _ hi _ hI r' u1 u2
          have u3 := hI r' u1 u2
          cases r' with
          | nil => exact h0 u2.symm
          | cons z r'' => have := u3.1; have := u3.2.1; omega)
      rw [h1, bind_some']
      cases y with
      | ret z => exact ⟨z.1, z.2, rfl, fun _ => h2.2, fun hf => by rw [h2.1] at hf; cases hf⟩
      | brk u => exact ⟨[], false, rfl, (fun hf => by cases hf), fun _ => h2⟩
/-- the total of a word's places -/
theorem tot_lf (a : List Int) (f : Nat → Bool) : ∀ (c s : Nat), tot a (lf f s (c + 1)) = (bif f s then a.getD s 0 else 0) + tot a (lf f (s + 1) c) := by
  intro c s
  rw [lf_succ]
  cases f s with
  | true => rw [cond_true, tot_cons, Int.toNat_natCast]; rfl
  | false => simp
theorem tot_snoc (a : List Int) : ∀ (r : List Int) (i : Int), tot a (r ++ [i]) = tot a r + a.getD i.toNat 0
  | [], i => by simp [tot]
  | x :: r, i => by rw [List.cons_append, tot_cons, tot_cons, tot_snoc a r i]; omega
theorem lf_snoc (f : Nat → Bool) (c : Nat) : lf f 0 (c + 1) = lf f 0 c ++ bif f c then [(c : Int)] else [] := by
  unfold lf
  rw [List.range'_concat, List.filter_append, List.map_append]
  cases hb : f c <;> simp [hb]
theorem hs_sum {a : List Int} (h : hsOk a) {m : Nat} (hm : m < 2 ^ a.length) (b : List Int) (fd : Bool) : forL (law_HardSums_b87 (b, fd, (m : Int))) (fun x829 => x829) a 0 (0 : Int) = some (tot a (lst m)) := by
  have hlen := h.1
  have hp : 2 ^ a.length ≤ 65536 := by
    have := Nat.pow_le_pow_right (n := 2) (by omega) hlen
    simpa using this
  obtain ⟨y, h1, h2⟩ := forL_inv (body := law_HardSums_b87 (b, fd, (m : Int))) (fin := fun x829 => x829) (l := a) (x := (0 : Int))
    (fun n x => x = tot a (lf m.testBit 0 n) ∧ 0 ≤ x ∧ x ≤ n * 1000000000) (fun y => y = tot a (lf m.testBit 0 a.length)) ⟨rfl, by omega, by omega⟩
    (by
      rintro n v x hv ⟨hx, x0, x1⟩
      have hlt := (List.getElem?_eq_some_iff.1 hv).1
      have hb := h.2 v (List.mem_of_getElem? hv)
      have hg : a.getD n 0 = v := by rw [List.getD_eq_getElem?_getD, hv]; rfl
      unfold law_HardSums_b87
      dsimp only
      rw [bit_eq (by omega) (by omega), bind_some', lf_snoc]
      cases hbt : m.testBit n with
      | true =>
        rw [cond_true, bind_some', w64_id (by omega) (by omega)]
        exact ⟨_, rfl, by rw [cond_true, tot_snoc, Int.toNat_natCast, hg, hx], by omega, by omega⟩
      | false =>
        exact ⟨_, rfl, by rw [cond_false, List.append_nil]; exact hx, by omega, by omega⟩)
    (by rintro x ⟨hx, _⟩; exact hx)
  have e : lst m = lf m.testBit 0 a.length := by
    have key : ∀ k, lf m.testBit 0 (a.length + k) = lf m.testBit 0 a.length := by
      intro k
      induction k with
      | zero => rfl
      | succ k ih =>
        rw [← Nat.add_assoc, lf_snoc, ih]
        have : m.testBit (a.length + k) = false := Nat.testBit_lt_two_pow (Nat.lt_of_lt_of_le hm (Nat.pow_le_pow_right (by omega) (by omega)))
        rw [this]; simp
    have := key (63 - a.length)
    rw [show a.length + (63 - a.length) = 63 by omega] at this
    exact this
  rw [h1, h2, e]
theorem hs_words {a : List Int} (h : hsOk a) (left : Int) : ∃ best found, iter (law_HardSums_b94 a left 100000) 100000 ([], false, (0 : Int)) = some (best, found) ∧ (found = true → BestS a 0 left best) ∧ (found = false → ∀ r, Up (a.length : Int) 0 r → tot a r ≠ left) := by
  have hlen := h.1
  have hp : 2 ^ a.length ≤ 65536 := by
    have := Nat.pow_le_pow_right (n := 2) (by omega) hlen
    simpa using this
  have hw : IntKind.wrap .u64 (a.length : Int) = (a.length : Int) := wrap_u64 (by omega) (by omega)
  have hck : ck (0 ≤ (a.length : Int)) = some () := ck_ok (by omega)
  have hb : ∀ (best : List Int) (found : Bool) (m : Nat), m < 2 ^ a.length → law_HardSums_b94 a left 100000 (best, found, (m : Int)) = some (.next (bif decide (tot a (lst m) = left) && (!found || lx (lst m) best) then (lst m, true, ((m + 1 : Nat) : Int)) else (best, found, ((m + 1 : Nat) : Int)))) := by
    intro best found m hm
    have hw1 : w64 ((m : Int) + 1) = ((m + 1 : Nat) : Int) := by rw [w64_id (by omega) (by omega)]; rfl
    have hll := lst_len m
    have hpc : pc m ≤ 63 := by
      have := List.countP_le_length (p := m.testBit) (l := List.range 63)
      simpa [pc] using this
    have hg : law_HardSums_g90 left 100000 (best, found, (m : Int)) (tot a (lst m)) = some (decide (tot a (lst m) = left) && (!found || lx (lst m) best)) := by
      unfold law_HardSums_g90
      dsimp only
      rw [beq_dec, sr_listof (by omega), bind_some', sr_ahead (by omega) (by omega)]
      cases decide (tot a (lst m) = left) <;> cases found <;> cases lx (lst m) best <;> rfl
    unfold law_HardSums_b94 law_HardSums_g92
    dsimp only
    rw [hw, hck, bind_some', bShl_one (by omega), decide_eq_true (by omega), cond_true, hs_sum h hm, bind_some', hg, bind_some', sr_listof (by omega), hw1]
    cases (decide (tot a (lst m) = left) && (!found || lx (lst m) best)) <;> rfl
  obtain ⟨y, h1, h2⟩ := iter_inv (f := law_HardSums_b94 a left 100000)
    (fun x => ∃ m : Nat, m ≤ 2 ^ a.length ∧ x.2.2 = (m : Int) ∧ (x.2.1 = true → (∃ m', m' < m ∧ lst m' = x.1) ∧ tot a x.1 = left ∧ ∀ m', m' < m → tot a (lst m') = left → lst m' = x.1 ∨ lx x.1 (lst m') = true) ∧ (x.2.1 = false → ∀ m', m' < m → tot a (lst m') ≠ left))
    (fun x => (65536 - x.2.2).toNat)
    (fun y => (y.2 = true → BestS a 0 left y.1) ∧ (y.2 = false → ∀ r, Up (a.length : Int) 0 r → tot a r ≠ left))
    (by
      rintro ⟨best, found, _⟩ ⟨m, hm, rfl, hT, hF⟩
      dsimp only at hT hF
      by_cases hlt : m < 2 ^ a.length
      · rw [hb best found m hlt]
        refine ⟨_, rfl, ?_⟩
        cases hc : decide (tot a (lst m) = left) && (!found || lx (lst m) best) with
        | true =>
          simp only [Bool.and_eq_true, decide_eq_true_eq, Bool.or_eq_true, Bool.not_eq_true'] at hc
          obtain ⟨c2, c3⟩ := hc
          simp only [cond_true]
          refine ⟨⟨m + 1, by omega, rfl, fun _ => ⟨⟨m, by omega, rfl⟩, c2, fun m' hm' u2 => ?_⟩, fun hx => by cases hx⟩, ?_⟩
          · by_cases e : m' = m
            · exact .inl (by rw [e])
            · rcases c3 with c3 | c3
              · exact (hF c3 m' (by omega) u2).elim
              · cases found with
                | false => exact (hF rfl m' (by omega) u2).elim
                | true =>
                  rcases (hT rfl).2.2 m' (by omega) u2 with e | e
                  · exact .inr (by rw [e]; exact c3)
                  · exact .inr (lx_trans c3 e)
          · omega
        | false =>
          simp only [cond_false]
          refine ⟨⟨m + 1, by omega, rfl, fun hx => ?_, fun hx m' hm' => ?_⟩, ?_⟩
          · obtain ⟨⟨m0, a1, a2⟩, a4, a5⟩ := hT hx
            refine ⟨⟨m0, by omega, a2⟩, a4, fun m' hm' u2 => ?_⟩
            by_cases e : m' = m
            · subst e
              have hx : found = true := hx
              rw [hx, decide_eq_true u2] at hc
              simp only [Bool.not_true, Bool.false_or, Bool.true_and] at hc
              rcases lx_tri (lst m') best with h | h | h
              · rw [hc] at h; cases h
              · exact .inl h
              · exact .inr h
            · exact a5 m' (by omega) u2
          · have hx : found = false := hx
            by_cases e : m' = m
            · subst e
              rw [hx] at hc
              simpa using hc
            · exact hF hx m' (by omega)
          · omega
      · have e : m = 2 ^ a.length := by omega
        subst e
        have hd : law_HardSums_b94 a left 100000 (best, found, ((2 ^ a.length : Nat) : Int)) = some (.done (best, found)) := by
          unfold law_HardSums_b94
          dsimp only
          rw [hw, hck, bind_some', bShl_one (by omega), decide_eq_false (by omega)]
          rfl
        rw [hd]
        refine ⟨_, rfl, fun hx => ?_, fun hx r u1 => ?_⟩
        · obtain ⟨⟨m0, a1, a2⟩, a4, a5⟩ := hT hx
          refine ⟨?_, a4, fun r' u1 u3 => ?_⟩
          · rw [← a2]; exact lst_up a1
          · obtain ⟨m', b1, b2⟩ := lst_of (by omega) u1
            subst b2
            exact a5 m' b1 u3
        · obtain ⟨m', b1, b2⟩ := lst_of (by omega) u1
          subst b2
          exact hF hx m' b1) 100000 ([], false, (0 : Int)) (by dsimp only; omega) ⟨0, Nat.zero_le _, rfl, (fun h => by cases h), fun _ m' hm' => by omega⟩
  exact ⟨y.1, y.2, h1, h2.1, h2.2⟩
def hsBad (v : Int) : Bool := !decide (0 ≤ v ∧ v ≤ 1000000000)
def hsAll (a : List Int) : Int := bif decide ((a.length : Int) > 16) then 1 else bif a.any hsBad then 4 else 0
theorem hs_bad (l : List Int) : slices_ContainsFunc_Lintint_with_hard_Sum_1 l = some (l.any hsBad) := by
  unfold slices_ContainsFunc_Lintint_with_hard_Sum_1 slices_IndexFunc_Lintint_with_hard_Sum_1
  have e : ∀ v : Int, ((decide (v < 0)) || (decide (v > 1000000000))) = hsBad v := fun v => by
    unfold hsBad; rw [or_dec, not_dec]; exact decide_eq_decide.2 (by omega)
  rcases forL_at (body := slices_IndexFunc_Lintint_with_hard_Sum_1_b1) (fin := fun _ => (Esc.brk () : Esc Int Unit)) (p := hsBad) (g := fun j => Esc.ret j) (l := l)
    (fun i a _ => by unfold slices_IndexFunc_Lintint_with_hard_Sum_1_b1 hard_Sum_1; rw [e]; cases hsBad a <;> rfl) (i := 0) with ⟨h1, h2⟩ | ⟨h1, j, h2, h3, h4⟩
  · rw [h2, h1]; rfl
  · rw [h4, h1]; simp [h2]
theorem hs_check (l : List Int) : ((bif decide ((List.length l : Int) > (16 : Int)) then (some (1 : Int)) else (some (0 : Int))).bind fun v6 => forL law_HardSums_b16 (fun x101 => x101) l 0 v6) = some (hsAll l) := by
  rw [bif_some, bind_some']
  obtain ⟨y, h1, h2⟩ := forL_inv (body := law_HardSums_b16) (fin := fun x101 => x101) (l := l) (x := (bif decide ((List.length l : Int) > (16 : Int)) then (1 : Int) else 0))
    (fun n x => x = bif decide ((l.length : Int) > 16) then 1 else bif (l.take n).any hsBad then 4 else 0) (fun y => y = hsAll l) (by simp)
    (by
      rintro n v x hv rfl
      have ht : l.take (n + 1) = l.take n ++ [v] := by rw [List.take_add_one, hv]; rfl
      unfold law_HardSums_b16 law_HardSums_g14
      rw [within_eq, ht, List.any_append]
      have e : hsBad v = !decide (0 ≤ v ∧ v ≤ 1000000000) := rfl
      simp only [List.any_cons, List.any_nil, Bool.or_false, e]
      cases decide ((l.length : Int) > 16) <;> cases (l.take n).any hsBad <;> cases decide (0 ≤ v ∧ v ≤ 1000000000) <;> exact ⟨_, rfl, rfl⟩)
    (by rintro x rfl; rw [List.take_length]; rfl)
  rw [h1, h2]
theorem HardSums_true (a0 : List Int) (a1 : Int) (f0 : Fits (.slice (.int .i64)) a0) (f1 : Fits (.int .i64) a1) : ∃ fuel, law_HardSums fuel a0 a1 = some true := by
  refine ⟨100000, ?_⟩
  have hc := hs_check a0
  unfold law_HardSums hard_Sum
  rw [hs_bad]
  by_cases hz : hsAll a0 = 0
  · have h : hsOk a0 := by
      unfold hsAll at hz
      cases h1 : decide ((a0.length : Int) > 16) with
      | true => rw [h1] at hz; cases hz
      | false =>
        rw [h1] at hz
        cases h2 : a0.any hsBad with
        | true => rw [h2] at hz; cases hz
        | false =>
          refine ⟨by have := of_decide_eq_false h1; omega, fun v hv => ?_⟩
          have := List.any_eq_false.1 h2 v hv
          unfold hsBad at this
          simpa using this
    have e1 : decide ((a0.length : Int) > 16) = false := decide_eq_false (by have := h.1; omega)
    have e2 : a0.any hsBad = false := by
      rw [List.any_eq_false]
      intro v hv
      have := h.2 v hv
      unfold hsBad
      simp [this]
    obtain ⟨l, b, q1, q2, q3⟩ := hs_search h 20 100000 0 a1 [] (by omega) (by have := h.1; omega) (by omega) f1.i64 (by simp)
    obtain ⟨best, found, r1, r2, r3⟩ := hs_words h a1
    rw [e1, cond_false] at hc ⊢
    rw [bind_some'] at hc
    rw [hz] at hc
    simp only [e2, bind_some', cond_false, q1, hc, r1, show ((0 : Int) != 0) = false from rfl]
    cases b with
    | false =>
      have q3 := q3 rfl
      cases found with
      | false => rfl
      | true =>
        have hb := r2 rfl
        exact (q3 best hb.up hb.good).elim
    | true =>
      obtain ⟨r, hr, hb⟩ := q2 rfl
      rw [List.nil_append] at hr
      subst hr
      cases found with
      | false => exact (r3 rfl l hb.up hb.good).elim
      | true =>
        have e := hb.uniq (r2 rfl)
        subst e
        simp [ref_Ints_eq]
  · have hne : (hsAll a0 != 0) = true := by simp [hz]
    have hv : (forL law_HardSums_b16 (fun x101 => x101) a0 0 (bif decide ((List.length a0 : Int) > (16 : Int)) then (1 : Int) else 0)) = some (hsAll a0) := by
      rw [bif_some, bind_some'] at hc; exact hc
    rw [bif_some]
    simp only [bind_some', hv, hne, cond_true]
    unfold hsAll at hz hne ⊢
    cases e1 : decide ((a0.length : Int) > 16) with
    | true => rfl
    | false =>
      rw [e1] at hz
      cases e2 : a0.any hsBad with
      | true => rfl
      | false => rw [e2] at hz; exact (hz rfl).elim

end Go.Proofs.Ytcallckeeohoaaa.hardSums
namespace Go.Proofs.Ytcallckeeohoaaa.hardSums
open Go.ChangeShapes Go.WideShapes Go.ChangeAt Go.RowKit
open Go.ChangeMaps (open_string shut_string)
theorem own : ownKnob Try.prog.godebug = none := by kernel_rfl
theorem laidOut : laidOutB Try.prog = true := by kernel_rfl
theorem lifted (os : Os) (started : os.Started) (H : Type) (enc : TypeId × Value → H) :
    ReturnsInHanded {} Try.checked os 7 .any (Rows.hardSumsSpec.pre6 enc Try.prog Try.f7 Rows.hardSumsRow.domain false) (Rows.hardSumsSpec.post enc Try.prog Try.f7 false true false false) := by
  refine returnsInHanded_of_change (C := Try.checked) own started (by kernel_rfl) Try.func7
    (ChangeSpec.witness6 (enc := enc) (C := Try.checked) false ⟨#[], #[.slice none 0 0, .int .i64 0], []⟩ 8 (by kernel_rfl) (by kernel_rfl) (by kernel_rfl) (by kernel_rfl)) ?_
  intro W base args ds gs before hval0 hW hcnd _
  have hval : ∀ (j : Nat) t v, Try.f7.params[j]? = some t → args[j]? = some v → Value.okWide Try.prog W .any base t v := hval0
  have hW' := hW
  obtain ⟨p, q, hA0, hV, rfl, hfz, hnd⟩ := hW
  have hA : DataW.TrodAll enc Try.prog W 0 (fun _ => true) true Try.f7.params.toList args.toList ds p := hA0
  rw [Try.params7] at hA hval
  obtain ⟨v0, vs0, d0, ds0, p0, q0, hargs, rfl, rfl, h0, r0⟩ := trodAll_cons hA
  obtain ⟨v1, vs1, d1, ds1, p1, q1, rfl, rfl, rfl, h1, r1⟩ := trodAll_cons r0
  obtain ⟨rfl, rfl, rfl⟩ := trodAll_nil r1
  obtain rfl : args = #[v0, v1] := by cases args; simp_all
  obtain ⟨rfl, rfl⟩ := trodVars_none hV
  obtain ⟨x0, f0, k0⟩ := Go.Sl.read_arg (u := (.slice (.int .i64))) (by kernel_rfl) (by kernel_rfl) (hval 0 29 v0 rfl rfl) h0
  have lt0 : ∀ x ∈ p0, x.block < W.heap.size := by obtain ⟨m, hm⟩ := h0; exact DataW.trod_lt m _ _ _ hm
  obtain ⟨x1, f1, k1⟩ := Go.Sl.read_arg (u := (.int .i64)) (by kernel_rfl) (by kernel_rfl) (hval 1 3 v1 rfl rfl) h1
  have lt1 : ∀ x ∈ p1, x.block < W.heap.size := by obtain ⟨m, hm⟩ := h1; exact DataW.trod_lt m _ _ _ hm
  clear hA0 hval0
  obtain ⟨fuel, hm⟩ := HardSums_true x0 x1 f0 f1
  refine (Go.Sl.law_of (vs := [v0, v1]) (law_HardSums_ok hm) rfl (.cons (k0 _ _) (.cons (k1 _ _) .nil))).mono fun e W' ⟨he, bel⟩ => ?_
  subst he
  exact ⟨_, rfl, _, _, _, [], _, [], hW', trodAll_mk1 (shut_bool Try.underlying4 _), (trodAll_cons_mk (Below.trod laidOut (by kernel_rfl) (of_decide_eq_true (by kernel_rfl)) h0 bel lt0) (trodAll_cons_mk (Below.trod laidOut (by kernel_rfl) (of_decide_eq_true (by kernel_rfl)) h1 bel lt1) trodAll_mk0)), rfl, bel.frame _, fun h => by cases h⟩
theorem proved : Rows.HardSumsSaid :=
  OpenClaim.holds_of_wide 7 Try.f7 rfl rfl rfl rfl rfl rfl rfl ⟨rfl, rfl, rfl, rfl, rfl⟩ rfl rfl rfl rfl rfl (by kernel_rfl) Try.func7 (by kernel_rfl)
    (of_decide_eq_true (by kernel_rfl)) (by unfold Func.isWrapper; first | (rw [if_pos (by decide +kernel)]; kernel_rfl) | (rw [if_neg (by decide +kernel)]; exact ⟨rfl, rfl⟩))
    (fun os started H enc _ => lifted os started H enc)
#print axioms proved
end Go.Proofs.Ytcallckeeohoaaa.hardSums
