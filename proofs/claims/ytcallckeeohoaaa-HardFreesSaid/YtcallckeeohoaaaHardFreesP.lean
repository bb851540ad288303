/- For any dots and lines hard.Free returns the specified results: HardFrees returns true and changes nothing; no conditions. -/
import Derived.Test.YtcallckeeohoaaaRows
import Derived.WalkKit
import Derived.ProofKit
import Derived.OpenShut
import Derived.ShutString
import Derived.ChangeOld
import Derived.Below
import Derived.Test.YtcallckeeohoaaaHardFreesM
set_option linter.all false
set_option maxRecDepth 100000
namespace Go.Proofs.Ytcallckeeohoaaa.hardFrees
open Go Go.Sl

theorem within_eq (a b c : Int) : ref_Within a b c = some (decide (a ≤ b ∧ b ≤ c)) := by
  unfold ref_Within
  rw [Bool.decide_and]

theorem ref_Ints_eq (a b : List Int) : ref_Ints a b = some (decide (a = b)) := by
  unfold ref_Ints
  rw [len_ne]
  by_cases h : a.length = b.length
  · rw [forL_eqs (q := b) (fun n a c hc => by
      unfold ref_Ints_b1
      rw [idx_nat, hc]
      by_cases h : a = c <;> simp [h, bne_dec]) h]
    by_cases h2 : a = b <;> simp [h2, h]
  · have : ¬ a = b := fun e => h (by rw [e])
    simp [h, this]

theorem bit_eq {w i : Nat} (hw : w < 2 ^ 63) (hi : i < 63) : ref_Bit (w : Int) (i : Int) = some (w.testBit i) := by
  unfold ref_Bit
  have c : (decide ((i : Int) ≥ 0) && decide ((i : Int) < 63)) = true := by simp; omega
  have e : IntKind.wrap .u64 (i : Int) = (i : Int) := wrap_u64 (by omega) (by omega)
  rw [c, e, ck_ok (by omega)]
  simp only [cond_true, Option.bind_some, bit_mask hw hi]

theorem size_eq {w : Nat} (hw : w < 2 ^ 63) : ref_Size (w : Int) = some ((pc w : Nat) : Int) := by
  unfold ref_Size
  have := forI_count (body := ref_Size_b4 (w : Int)) (fin := fun x => x) (p := w.testBit) (n := 63) (by omega) (by
    intro j x hj
    unfold ref_Size_b4
    rw [bit_eq hw hj]
    cases w.testBit j <;> rfl)
  simp only [Int.cast_ofNat_Int] at this
  rw [this]; rfl

/-- lists in the order of the dictionary -/
def lx : List Int → List Int → Bool
  | [], [] => false
  | [], _ :: _ => true
  | _ :: _, [] => false
  | a :: ws, b :: bs => if a = b then lx ws bs else decide (a < b)
theorem lx_cons (a : Int) (l m : List Int) : lx (a :: l) (a :: m) = lx l m := by simp [lx]
theorem lx_lt {a b : Int} (h : a < b) (l m : List Int) : lx (a :: l) (b :: m) = true := by
  have : a ≠ b := by omega
  simp [lx, this, h]
theorem lx_self : ∀ l, lx l l = false
  | [] => rfl
  | a :: l => by rw [lx_cons]; exact lx_self l
theorem lx_tri : ∀ l m, lx l m = true ∨ l = m ∨ lx m l = true
  | [], [] => .inr (.inl rfl)
  | [], _ :: _ => .inl rfl
  | _ :: _, [] => .inr (.inr rfl)
  | a :: l, b :: m => by
    by_cases h : a = b
    · subst h
      rw [lx_cons, lx_cons]
      rcases lx_tri l m with h | h | h
      · exact .inl h
      · exact .inr (.inl (by rw [h]))
      · exact .inr (.inr h)
    · by_cases h2 : a < b
      · exact .inl (lx_lt h2 _ _)
      · exact .inr (.inr (lx_lt (by omega) _ _))
theorem lx_trans : ∀ {l m k}, lx l m = true → lx m k = true → lx l k = true
  | [], [], _, h, _ => by cases h
  | [], _ :: _, [], _, h => by cases h
  | [], _ :: _, _ :: _, _, _ => rfl
  | _ :: _, [], _, h, _ => by cases h
  | _ :: _, _ :: _, [], _, h => by cases h
  | a :: l, b :: m, c :: k, h, h' => by
    by_cases e : a = b
    · subst e
      rw [lx_cons] at h
      by_cases e : a = c
      · subst e
        rw [lx_cons] at h' ⊢
        exact lx_trans h h'
      · simp only [lx, if_neg e] at h' ⊢
        exact h'
    · simp only [lx, if_neg e, decide_eq_true_eq] at h
      by_cases e : b = c
      · subst e
        exact lx_lt h _ _
      · simp only [lx, if_neg e, decide_eq_true_eq] at h'
        exact lx_lt (by omega) _ _
theorem lx_at : ∀ (j : Nat) (a b : List Int) {u v : Int}, a.take j = b.take j → a[j]? = some u → b[j]? = some v → u ≠ v → lx a b = decide (u < v)
  | 0, a :: ws, b :: bs, u, v, _, h1, h2, h => by
    obtain rfl : a = u := by simpa using h1
    obtain rfl : b = v := by simpa using h2
    simp [lx, h]
  | j + 1, a :: ws, b :: bs, u, v, ht, h1, h2, h => by
    simp only [List.take_succ_cons, List.cons.injEq] at ht
    obtain ⟨rfl, ht⟩ := ht
    rw [lx_cons]
    exact lx_at j ws bs ht (by simpa using h1) (by simpa using h2) h
  | 0, [], _, _, _, _, h1, _, _ => by simp at h1
  | 0, _ :: _, [], _, _, _, _, h2, _ => by simp at h2
  | j + 1, [], _, _, _, _, h1, _, _ => by simp at h1
  | j + 1, _ :: _, [], _, _, _, _, h2, _ => by simp at h2
theorem lx_pre : ∀ (j : Nat) (a b : List Int), a.take j = b.take j → (a.length ≤ j ∨ b.length ≤ j) → lx a b = decide (a.length < b.length)
  | _, [], [], _, _ => rfl
  | _, [], _ :: _, _, _ => by simp [lx]
  | _, _ :: _, [], _, _ => by simp [lx]
  | 0, _ :: _, _ :: _, _, h => by simp at h
  | j + 1, a :: ws, b :: bs, ht, h => by
    simp only [List.take_succ_cons, List.cons.injEq] at ht
    obtain ⟨rfl, ht⟩ := ht
    rw [lx_cons, lx_pre j ws bs ht (by simpa using h)]
    simp
theorem sr_ahead {a b : List Int} {fuel : Nat} (h : a.length < fuel) (hf : a.length ≤ 1000) : ref_Ahead fuel a b = some (lx a b) := by
  unfold ref_Ahead
  obtain ⟨y, h1, h2⟩ := iter_inv (f := ref_Ahead_b1 a b) (fun x => ∃ j : Nat, j ≤ a.length ∧ j ≤ b.length ∧ x = (j : Int) ∧ a.take j = b.take j) (fun x => (a.length - x).toNat)
    (fun y => match y with | .ret r => r = lx a b | .brk _ => lx a b = decide ((a.length : Int) < (b.length : Int)))
    (by
      rintro _ ⟨j, hj, hjb, rfl, ht⟩
      unfold ref_Ahead_b1
      by_cases hlt : j < a.length ∧ j < b.length
      · rw [decide_eq_true (by omega), decide_eq_true (by omega)]
        obtain ⟨u, r1, r2⟩ := idx_get (xs := a) (i := (j : Int)) (by omega) (by omega)
        obtain ⟨v, q1, q2⟩ := idx_get (xs := b) (i := (j : Int)) (by omega) (by omega)
        rw [r1, q1, bind_some', bind_some']
        rw [Int.toNat_natCast] at r2 q2
        by_cases e : u = v
        · subst e
          have : (u != u) = false := by simp
          rw [this]
          refine ⟨_, rfl, ⟨j + 1, by omega, by omega, ?_, ?_⟩, ?_⟩
          · exact w64_id (by omega) (by omega)
          · rw [List.take_add_one, List.take_add_one, ht, r2, q2]
          · rw [w64_id (by omega) (by omega)]; omega
        · have : (u != v) = true := by simp [e]
          rw [this]
          exact ⟨_, rfl, (lx_at j a b ht r2 q2 e).symm⟩
      · have e : (decide ((j : Int) < (List.length a : Int)) && decide ((j : Int) < (List.length b : Int))) = false := by
          rw [and_dec]; exact decide_eq_false (by omega)
        rw [e]
        refine ⟨_, rfl, ?_⟩
        dsimp only
        rw [lx_pre j a b ht (by omega)]
        exact decide_eq_decide.2 (by omega)) fuel (0 : Int) (by omega) ⟨0, by omega, by omega, rfl, rfl⟩
  rw [h1, bind_some']
  cases y with
  | ret r => rw [show r = lx a b from h2]
  | brk u =>
    have h2 : lx a b = decide ((a.length : Int) < (b.length : Int)) := h2
    rw [h2]
/-- going up, from s on, below n -/
def Up (n : Int) : Int → List Int → Prop
  | _, [] => True
  | s, x :: r => s ≤ x ∧ x < n ∧ Up n (x + 1) r
theorem Up.len {n : Int} : ∀ {r : List Int} {s x : Int}, Up n s (x :: r) → x + 1 + r.length ≤ n
  | [], s, x, h => by simp; have := h.2.1; omega
  | y :: r, s, x, h => by
    have h1 := Up.len h.2.2
    have h2 := h.2.2.1
    rw [List.length_cons]; omega
theorem Up.low {n : Int} {s s' : Int} (h : s' ≤ s) : ∀ {r : List Int}, Up n s r → Up n s' r
  | [], _ => trivial
  | x :: r, h1 => ⟨by have := h1.1; omega, h1.2⟩
theorem Up.hi {n n' : Int} (h : n ≤ n') : ∀ {r : List Int} {s : Int}, Up n s r → Up n' s r
  | [], _, _ => trivial
  | x :: r, _, h1 => ⟨h1.1, by have := h1.2.1; omega, Up.hi h h1.2.2⟩
theorem Up.mem {n : Int} : ∀ {r : List Int} {s : Int}, Up n s r → ∀ v ∈ r, s ≤ v ∧ v < n
  | x :: r, s, h, v, hv => by
    rcases List.mem_cons.1 hv with rfl | hv
    · exact ⟨h.1, h.2.1⟩
    · have := Up.mem h.2.2 v hv
      have := h.1
      omega
/-- the places of a word ws a list -/
def lf (f : Nat → Bool) (s c : Nat) : List Int := ((List.range' s c).filter f).map fun (i : Nat) => (i : Int)
theorem lf_succ (f : Nat → Bool) (s c : Nat) : lf f s (c + 1) = bif f s then (s : Int) :: lf f (s + 1) c else lf f (s + 1) c := by
  unfold lf
  rw [List.range'_succ]
  cases h : f s <;> simp [h]
theorem lf_up {f : Nat → Bool} {n : Nat} (h : ∀ i, f i = true → i < n) : ∀ (c s : Nat), Up (n : Int) (s : Int) (lf f s c)
  | 0, s => trivial
  | c + 1, s => by
    have ih := lf_up h c (s + 1)
    rw [lf_succ]
    cases hf : f s with
    | false => exact Up.low (by omega) ih
    | true => exact ⟨by omega, by have := h s hf; omega, ih⟩
theorem lf_congr {f g : Nat → Bool} : ∀ c s, (∀ i, s ≤ i → f i = g i) → lf f s c = lf g s c
  | 0, s, _ => rfl
  | c + 1, s, h => by rw [lf_succ, lf_succ, h s (by omega), lf_congr c (s + 1) (fun i hi => h i (by omega))]
theorem lf_ext : ∀ (c s : Nat) (r : List Int), Up ((s + c : Nat) : Int) (s : Int) r → lf (fun (i : Nat) => r.any ((i : Int) == ·)) s c = r
  | 0, s, [], _ => rfl
  | 0, s, x :: r, h => by have := h.1; have := h.2.1; omega
  | c + 1, s, [], _ => by
    rw [lf_succ]
    have := lf_ext c (s + 1) [] trivial
    simpa using this
  | c + 1, s, x :: r, h => by
    rw [lf_succ]
    by_cases e : x = (s : Int)
    · subst e
      have h2 : Up ((s + 1 + c : Nat) : Int) ((s + 1 : Nat) : Int) r := by
        have := h.2.2
        rwa [show s + 1 + c = s + (c + 1) by omega]
      have h1 := lf_ext c (s + 1) r h2
      have h3 : lf (fun (i : Nat) => ((s : Int) :: r).any ((i : Int) == ·)) (s + 1) c = lf (fun (i : Nat) => r.any ((i : Int) == ·)) (s + 1) c := lf_congr c (s + 1) (fun i hi => by
        have : ((i : Int) == (s : Int)) = false := by simp; omega
        simp [this])
      rw [h3, h1]
      simp
    · have hx := h.1
      have hs : ((x :: r).any ((s : Int) == ·)) = false := by
        rw [List.any_eq_false]
        intro v hv
        have := Up.mem (n := ((s + (c + 1) : Nat) : Int)) (s := x) (r := x :: r) ⟨by omega, h.2⟩ v hv
        simp; omega
      have h1 := lf_ext c (s + 1) (x :: r) (by rw [show s + 1 + c = s + (c + 1) by omega]; exact ⟨by omega, h.2⟩)
      rw [hs, cond_false, h1]
theorem lf_mem {f : Nat → Bool} {c : Nat} {v : Int} (hv : 0 ≤ v ∧ v < (c : Int)) : (lf f 0 c).any (v == ·) = f v.toNat := by
  rw [Bool.eq_iff_iff, List.any_eq_true]
  unfold lf
  simp only [List.mem_map, List.mem_filter, List.mem_range'_1, beq_iff_eq]
  constructor
  · rintro ⟨x, ⟨i, ⟨_, hi⟩, rfl⟩, rfl⟩
    simpa using hi
  · intro h
    exact ⟨v, ⟨v.toNat, ⟨⟨by omega, by omega⟩, h⟩, by omega⟩, rfl⟩
def lst (m : Nat) : List Int := lf m.testBit 0 63
theorem lst_len (m : Nat) : (lst m).length = pc m := by
  unfold lst lf pc
  rw [List.length_map, List.range_eq_range', List.countP_eq_length_filter]
theorem lst_up {n m : Nat} (h : m < 2 ^ n) : Up (n : Int) 0 (lst m) := by
  refine lf_up (fun i hi => ?_) 63 0
  by_cases hlt : i < n
  · exact hlt
  · have : m.testBit i = false := Nat.testBit_lt_two_pow (Nat.lt_of_lt_of_le h (Nat.pow_le_pow_right (by omega) (by omega)))
    rw [this] at hi; cases hi
theorem lst_of {n : Nat} (hn : n ≤ 63) {r : List Int} (h : Up (n : Int) 0 r) : ∃ m, m < 2 ^ n ∧ lst m = r := by
  refine ⟨wd ((List.range n).map fun (i : Nat) => r.any ((i : Int) == ·)), ?_, ?_⟩
  · have := wd_lt ((List.range n).map fun (i : Nat) => r.any ((i : Int) == ·))
    simpa using this
  · have h1 := lf_ext 63 0 r (Up.hi (by omega) h)
    rw [← h1]
    unfold lst
    refine lf_congr 63 0 (fun i _ => ?_)
    rw [wd_bit, h1]
    by_cases hi : i < n
    · simp [List.getD_eq_getElem?_getD, hi]
    · have : (r.any ((i : Int) == ·)) = false := by
        rw [List.any_eq_false]
        intro v hv
        have := Up.mem h v hv
        simp; omega
      rw [this]
      simp [List.getD_eq_getElem?_getD, hi]
theorem sr_listof {w : Nat} (hw : w < 2 ^ 63) : ref_ListOf (w : Int) = some (lst w) := by
  unfold ref_ListOf
  obtain ⟨y, h1, h2⟩ := forI_inv (body := ref_ListOf_b4 (w : Int)) (fin := fun x => x) (lo := 0) (hi := 63) (x := ([] : List Int)) (fun i x => ∃ j : Nat, i = (j : Int) ∧ j ≤ 63 ∧ x = lf w.testBit 0 j) (fun y => y = lst w) (by omega) (by omega) ⟨0, rfl, by omega, rfl⟩
    (by
      rintro _ x _ hlt ⟨j, rfl, hj, rfl⟩
      have hl : (lf w.testBit 0 j).length ≤ j := by
        unfold lf
        rw [List.length_map]
        have := List.length_filter_le w.testBit (List.range' 0 j)
        simpa using this
      have e : lf w.testBit 0 (j + 1) = lf w.testBit 0 j ++ bif w.testBit j then [(j : Int)] else [] := by
        unfold lf
        rw [List.range'_concat, List.filter_append, List.map_append]
        cases hb : w.testBit j <;> simp [hb]
      have hck : ck ((List.length (lf w.testBit 0 j) : Int) + 1 ≤ 4294967296) = some () := ck_ok (by omega)
      unfold ref_ListOf_b4
      rw [bit_eq hw (by omega), bind_some', hck]
      cases hb : w.testBit j with
      | true => rw [hb] at e; exact ⟨_, rfl, j + 1, by omega, by omega, e.symm⟩
      | false => rw [hb] at e; exact ⟨_, rfl, j + 1, by omega, by omega, by rw [e]; simp⟩)
    (by
      rintro i x _ hi _ ⟨j, rfl, hj, rfl⟩
      have : j = 63 := by omega
      subst this; rfl)
  rw [h1, bind_some', h2]

/-- the least that is good -/
structure Best (P : List Int → Bool) (n s : Int) (k : Nat) (t r : List Int) : Prop where
  up : Up n s r
  len : r.length = k
  good : P (t ++ r) = true
  least : ∀ r', Up n s r' → r'.length = k → P (t ++ r') = true → r' = r ∨ lx r r' = true
theorem Best.uniq {P : List Int → Bool} {n s : Int} {k : Nat} {t r r' : List Int} (h : Best P n s k t r) (h' : Best P n s k t r') : r = r' := by
  rcases h.least r' h'.up h'.len h'.good with e | e
  · exact e.symm
  · rcases h'.least r h.up h.len h.good with e' | e'
    · exact e'
    · have := lx_trans e e'
      rw [lx_self] at this; cases this
def srStart (a2 : List Int) : Option Int :=
bif decide ((List.length a2 : Int) > (0 : Int)) then
((idx a2 (w64 ((List.length a2 : Int) - (1 : Int)))).bind fun v11 =>
some (w64 (v11 + (1 : Int))))
else
(some (0 : Int))
def srBd (ok : List Int → Int → Option Bool) (rf : Int → Int → List Int → Option (List Int × Bool)) (a0 a1 : Int) (a2 : List Int) (x45 : Int) : Option (Flow Int (Esc (List Int × Bool) Unit)) :=
bif decide ((w64 (x45 + a1)) ≤ a0) then
(((ok a2 x45).bind fun r92 =>
bif !r92 then
(some (.brk ()))
else
((ck (0 ≤ (0 : Int) ∧ (0 : Int) ≤ (List.length a2 : Int) ∧ (List.length a2 : Int) ≤ (List.length a2 : Int) ∧ (List.length a2 : Int) = (List.length a2 : Int))).bind fun _ =>
(ck ((List.length (sub a2 (0 : Int) (List.length a2 : Int)) : Int) + 1 ≤ 4294967296)).bind fun _ =>
(rf a0 (w64 (a1 - (1 : Int))) ((sub a2 (0 : Int) (List.length a2 : Int)) ++ [x45])).bind fun r97 =>
bif r97.2 then
(some (Esc.ret (r97.1, true)))
else
(some (.brk ())))).bind fun v100 =>
match v100 with
| .ret v102 =>
(some (.done (.ret (v102.1, v102.2))))
| .brk v103 =>
(some (.next (w64 (x45 + (1 : Int))))))
else
(some (.done (.brk ())))
theorem sr_start (t : List Int) {x : Int} (h : t.length ≤ 100) (hx : 0 ≤ x ∧ x ≤ 100) : srStart (t ++ [x]) = some (x + 1) := by
  unfold srStart
  rw [List.length_append, List.length_singleton, decide_eq_true (by omega), cond_true, idx_last (by omega), List.getElem?_append_right (by omega)]
  simp only [Nat.sub_self, List.getElem?_cons_zero, bind_some']
  rw [w64_id (by omega) (by omega)]
theorem sr_search {n : Nat} (hn : n ≤ 16) {ok : List Int → Int → Option Bool} {leaf : List Int → Option Bool} {H Q : List Int → Bool} {srch : Nat → Int → Int → List Int → Option (List Int × Bool)}
    (hs : ∀ (fuel : Nat) (k : Int) (t : List Int), srch (fuel + 1) (n : Int) k t = bif k == 0 then (leaf t).bind fun r => some (t, r) else (srStart t).bind fun v13 => (iter (srBd ok (srch fuel) (n : Int) k t) fuel v13).bind fun v104 =>
      match v104 with
      | .ret v108 => some (v108.1, v108.2)
      | .brk v109 => some ([], false))
    (hok : ∀ t x, H t = true → 0 ≤ x → x < (n : Int) → ok t x = some (H (t ++ [x]))) (hleaf : ∀ t, H t = true → leaf t = some (Q t)) (hmono : ∀ t r, H (t ++ r) = true → H t = true) :
    ∀ (k fuel : Nat) (t : List Int) (s : Int), k + 20 ≤ fuel → srStart t = some s → 0 ≤ s → s ≤ n → t.length + k ≤ 16 → H t = true →
    ∃ l b, srch fuel (n : Int) (k : Int) t = some (l, b) ∧ (b = true → ∃ r, l = t ++ r ∧ Best (fun l => H l && Q l) n s k t r) ∧ (b = false → ∀ r', Up n s r' → r'.length = k → (H (t ++ r') && Q (t ++ r')) = false)
  | 0, fuel, t, s, hf, hst, hs0, hsn, ht, hH => by
    obtain ⟨fuel, rfl⟩ : ∃ q, fuel = q + 1 := ⟨fuel - 1, by omega⟩
    rw [hs, show (((0 : Nat) : Int) == 0) = true from rfl, cond_true, hleaf t hH]
    refine ⟨t, Q t, rfl, fun hq => ⟨[], by simp, trivial, rfl, by simp [hH, hq], fun r' _ hr' _ => .inl (List.eq_nil_of_length_eq_zero hr')⟩, fun hq r' _ hr' => ?_⟩
    rw [List.eq_nil_of_length_eq_zero hr', List.append_nil, hq, Bool.and_false]
  | k + 1, fuel, t, s, hf, hst, hs0, hsn, ht, hH => by
    obtain ⟨fuel, rfl⟩ : ∃ q, fuel = q + 1 := ⟨fuel - 1, by omega⟩
    have hk0 : (((k + 1 : Nat) : Int) == 0) = false := by simp; omega
    rw [hs, hk0, cond_false, hst, bind_some']
    obtain ⟨y, h1, h2⟩ := iter_inv (f := srBd ok (srch fuel) (n : Int) ((k + 1 : Nat) : Int) t)
      (fun x => s ≤ x ∧ x ≤ n ∧ ∀ r', Up n s r' → r'.length = k + 1 → (H (t ++ r') && Q (t ++ r')) = true → Up n x r') (fun x => (n + 1 - x).toNat)
      (fun y => match y with | .ret z => z.2 = true ∧ ∃ r, z.1 = t ++ r ∧ Best (fun l => H l && Q l) n s (k + 1) t r | .brk _ => ∀ r', Up n s r' → r'.length = k + 1 → (H (t ++ r') && Q (t ++ r')) = false)
      (by
        rintro x ⟨hx1, hx2, hx3⟩
        unfold srBd
        rw [w64_id (by omega) (by omega)]
        have up1 : (∀ r'', r''.length = k → Up n (x + 1) r'' → (H (t ++ x :: r'') && Q (t ++ x :: r'')) = false) → ∀ r', Up n s r' → r'.length = k + 1 → (H (t ++ r') && Q (t ++ r')) = true → Up n (x + 1) r' := by
          intro hno r' u1 u2 u3
          have u4 := hx3 r' u1 u2 u3
          cases r' with
          | nil => trivial
          | cons z r'' =>
            by_cases e : z = x
            · subst e
              rw [hno r'' (by simpa using u2) u4.2.2] at u3
              cases u3
            · exact ⟨by have := u4.1; omega, u4.2⟩
        by_cases hle : x + ((k + 1 : Nat) : Int) ≤ (n : Int)
        · rw [decide_eq_true hle, cond_true, hok t x hH (by omega) (by omega), bind_some']
          cases hHx : H (t ++ [x]) with
          | false =>
            simp only [Bool.not_false, cond_true, bind_some']
            rw [w64_id (by omega) (by omega)]
            refine ⟨_, rfl, ⟨by omega, by omega, up1 (fun r'' _ _ => ?_)⟩, by omega⟩
            cases hq : H (t ++ x :: r'') with
            | false => rfl
            | true =>
              have := hmono (t ++ [x]) r'' (by simpa using hq)
              rw [hHx] at this; cases this
          | true =>
            have e1 : sub t 0 (t.length : Int) = t := by simp [sub]
            have hck1 : ck (0 ≤ (0 : Int) ∧ (0 : Int) ≤ (List.length t : Int) ∧ (List.length t : Int) ≤ (List.length t : Int) ∧ True) = some () := ck_ok ⟨by omega, by omega, by omega, trivial⟩
            have hck2 : ck ((List.length t : Int) + 1 ≤ 4294967296) = some () := ck_ok (by omega)
            have e2 : w64 (((k + 1 : Nat) : Int) - 1) = (k : Int) := by rw [w64_id (by omega) (by omega)]; omega
            obtain ⟨l, b, q1, q2, q3⟩ := sr_search hn hs hok hleaf hmono k fuel (t ++ [x]) (x + 1) (by omega) (sr_start t (by omega) (by omega)) (by omega) (by omega) (by simp; omega) hHx
            simp only [Bool.not_true, cond_false]
            rw [hck1, bind_some', e1, hck2, bind_some', e2, q1, bind_some']
            cases b with
            | true =>
              obtain ⟨r, rfl, hb⟩ := q2 rfl
              refine ⟨_, rfl, rfl, x :: r, by simp, ⟨by omega, by omega, hb.up⟩, by simp [hb.len], by have := hb.good; simpa using this, ?_⟩
              intro r' u1 u2 u3
              have u4 := hx3 r' u1 u2 u3
              cases r' with
              | nil => simp at u2
              | cons z r'' =>
                by_cases e : z = x
                · subst e
                  rcases hb.least r'' u4.2.2 (by simpa using u2) (by simpa using u3) with e | e
                  · exact .inl (by rw [e])
                  · exact .inr (by rw [lx_cons]; exact e)
                · exact .inr (lx_lt (by have := u4.1; omega) _ _)
            | false =>
              simp only [cond_false, bind_some']
              rw [w64_id (by omega) (by omega)]
              refine ⟨_, rfl, ⟨by omega, by omega, up1 (fun r'' u1 u2 => ?_)⟩, by omega⟩
              have := q3 rfl r'' u2 u1
              simpa using this
        · rw [decide_eq_false hle, cond_false]
          refine ⟨_, rfl, fun r' u1 u2 => ?_⟩
          cases hq : (H (t ++ r') && Q (t ++ r')) with
          | false => rfl
          | true =>
            have u4 := hx3 r' u1 u2 hq
            cases r' with
            | nil => simp at u2
            | cons z r'' =>
              have := Up.len u4
              have := u4.1
              simp only [List.length_cons] at u2
              omega) fuel s (by omega) ⟨by omega, hsn, fun r' u _ _ => u⟩
    rw [h1, bind_some']
    cases y with
    | ret z => exact ⟨z.1, z.2, rfl, fun _ => h2.2, fun hf => by rw [h2.1] at hf; cases hf⟩
    | brk u => exact ⟨[], false, rfl, (fun hf => by cases hf), fun _ => h2⟩
/-- the least among all words -/
theorem sr_words {n k : Nat} (hn : n ≤ 16) {P : List Int → Bool} {body : List Int × Bool × Int → Option (Flow (List Int × Bool × Int) (List Int × Bool))}
    (hb : ∀ (best : List Int) (found : Bool) (m : Nat), m < 2 ^ n → (found = true → best.length = k) → body (best, found, (m : Int)) = some (.next (bif (decide (pc m = k) && P (lst m)) && (!found || lx (lst m) best) then (lst m, true, ((m + 1 : Nat) : Int)) else (best, found, ((m + 1 : Nat) : Int)))))
    (hd : ∀ (best : List Int) (found : Bool), body (best, found, ((2 ^ n : Nat) : Int)) = some (.done (best, found))) {fuel : Nat} (hf : 65536 < fuel) :
    ∃ best found, iter body fuel ([], false, (0 : Int)) = some (best, found) ∧ (found = true → Best P n 0 k [] best) ∧ (found = false → ∀ r, Up n 0 r → r.length = k → P r = false) := by
  have hp : 2 ^ n ≤ 65536 := by
    have := Nat.pow_le_pow_right (n := 2) (by omega) hn
    simpa using this
  obtain ⟨y, h1, h2⟩ := iter_inv (f := body)
    (fun x => ∃ m : Nat, m ≤ 2 ^ n ∧ x.2.2 = (m : Int) ∧ (x.2.1 = true → (∃ m', m' < m ∧ lst m' = x.1) ∧ x.1.length = k ∧ P x.1 = true ∧ ∀ m', m' < m → (lst m').length = k → P (lst m') = true → lst m' = x.1 ∨ lx x.1 (lst m') = true) ∧ (x.2.1 = false → ∀ m', m' < m → (lst m').length = k → P (lst m') = false))
    (fun x => (65536 - x.2.2).toNat)
    (fun y => (y.2 = true → Best P n 0 k [] y.1) ∧ (y.2 = false → ∀ r, Up n 0 r → r.length = k → P r = false))
    (by
      rintro ⟨best, found, _⟩ ⟨m, hm, rfl, hT, hF⟩
      dsimp only at hT hF
      by_cases hlt : m < 2 ^ n
      · rw [hb best found m hlt (fun h => (hT h).2.1)]
        refine ⟨_, rfl, ?_⟩
        cases hc : (decide (pc m = k) && P (lst m)) && (!found || lx (lst m) best) with
        | true =>
          simp only [Bool.and_eq_true, decide_eq_true_eq, Bool.or_eq_true, Bool.not_eq_true'] at hc
          obtain ⟨⟨c1, c2⟩, c3⟩ := hc
          simp only [cond_true]
          refine ⟨⟨m + 1, by omega, rfl, fun _ => ⟨⟨m, by omega, rfl⟩, by rw [lst_len]; exact c1, c2, fun m' hm' u1 u2 => ?_⟩, fun hx => by cases hx⟩, ?_⟩
          · by_cases e : m' = m
            · exact .inl (by rw [e])
            · rcases c3 with c3 | c3
              · rw [hF c3 m' (by omega) u1] at u2; cases u2
              · cases found with
                | false => rw [hF rfl m' (by omega) u1] at u2; cases u2
                | true =>
                  rcases (hT rfl).2.2.2 m' (by omega) u1 u2 with e | e
                  · exact .inr (by rw [e]; exact c3)
                  · exact .inr (lx_trans c3 e)
          · omega
        | false =>
          simp only [cond_false]
          refine ⟨⟨m + 1, by omega, rfl, fun hx => ?_, fun hx m' hm' u1 => ?_⟩, ?_⟩
          · obtain ⟨⟨m0, a1, a2⟩, a3, a4, a5⟩ := hT hx
            refine ⟨⟨m0, by omega, a2⟩, a3, a4, fun m' hm' u1 u2 => ?_⟩
            by_cases e : m' = m
            · subst e
              have hx : found = true := hx
              rw [lst_len] at u1
              rw [u2, hx, decide_eq_true u1] at hc
              simp only [Bool.and_self, Bool.not_true, Bool.false_or, Bool.true_and] at hc
              rcases lx_tri (lst m') best with h | h | h
              · rw [hc] at h; cases h
              · exact .inl h
              · exact .inr h
            · exact a5 m' (by omega) u1 u2
          · have hx : found = false := hx
            by_cases e : m' = m
            · subst e
              rw [lst_len] at u1
              rw [hx, decide_eq_true u1] at hc
              simpa using hc
            · exact hF hx m' (by omega) u1
          · omega
      · have e : m = 2 ^ n := by omega
        subst e
        rw [hd]
        refine ⟨_, rfl, fun hx => ?_, fun hx r u1 u2 => ?_⟩
        · obtain ⟨⟨m0, a1, a2⟩, a3, a4, a5⟩ := hT hx
          refine ⟨?_, a3, by simpa using a4, fun r' u1 u2 u3 => ?_⟩
          · rw [← a2]; exact lst_up a1
          · obtain ⟨m', b1, b2⟩ := lst_of (by omega) u1
            subst b2
            exact a5 m' b1 u2 (by simpa using u3)
        · obtain ⟨m', b1, b2⟩ := lst_of (by omega) u1
          subst b2
          exact hF hx m' b1 u2) fuel ([], false, (0 : Int)) (by dsimp only; omega) ⟨0, Nat.zero_le _, rfl, (fun h => by cases h), fun _ m' hm' => by omega⟩
  exact ⟨y.1, y.2, h1, h2.1, h2.2⟩

def two (s : List (List Int)) : Prop := ∀ v ∈ s, v.length = 2
theorem gr_two {v : List Int} (h : v.length = 2) : ∃ x y, v = [x, y] := by
  match v, h with
  | [x, y], _ => exact ⟨x, y, rfl⟩
def grBad (n : Int) (v : List Int) : Bool := !decide ((0 ≤ v.getD 0 0 ∧ v.getD 0 0 < n) ∧ (0 ≤ v.getD 1 0 ∧ v.getD 1 0 < n))
def grLoop (v : List Int) : Bool := v.getD 0 0 == v.getD 1 0
def grAll (n : Int) (e : List (List Int)) (k : Int) : Int :=
  bif !decide (0 ≤ n ∧ n ≤ 16) || decide ((e.length : Int) > 200) then 1 else bif e.any (grBad n) then 2 else bif e.any grLoop then 3 else bif !decide (0 ≤ k ∧ k ≤ n) then 4 else 0
theorem gr_loops {e : List (List Int)} (h : two e) : slices_ContainsFunc_L2int2int_with_hard_graph_1 e = some (e.any grLoop) := by
  unfold slices_ContainsFunc_L2int2int_with_hard_graph_1 slices_IndexFunc_L2int2int_with_hard_graph_1
  rcases forL_at (body := slices_IndexFunc_L2int2int_with_hard_graph_1_b1) (fin := fun _ => (Esc.brk () : Esc Int Unit)) (p := grLoop) (g := fun j => Esc.ret j) (l := e)
    (fun i a ha => by
      obtain ⟨x, y, rfl⟩ := gr_two (h a ha)
      unfold slices_IndexFunc_L2int2int_with_hard_graph_1_b1 hard_graph_1
      show (bif x == y then _ else _) = some (bif x == y then _ else _)
      cases (x == y) <;> rfl) (i := 0) with ⟨h1, h2⟩ | ⟨h1, j, h2, h3, h4⟩
  · rw [h2, h1]; rfl
  · rw [h4, h1]; simp [h2]
theorem gr_graph (n : Int) {e : List (List Int)} (h : two e) (k : Int) : hard_graph n e k = some (grAll n e k) := by
  unfold hard_graph grAll
  rw [gr_loops h]
  rw [forL_ex (p := grBad n) (y := Esc.ret 2) (fun i a ha => by
    obtain ⟨x, y, rfl⟩ := gr_two (h a ha)
    have e1 : hard_graph_g5 n [x, y] = some (grBad n [x, y]) := by
      show (bif decide (imin x y < 0) then some true else some (decide (imax x y ≥ n))) = some (!decide ((0 ≤ x ∧ x < n) ∧ (0 ≤ y ∧ y < n)))
      rw [bif_some, not_dec]
      congr 1
      unfold imin imax
      by_cases hmin : y < x
      · rw [if_pos hmin, if_neg (by omega)]
        by_cases h0 : y < 0
        · rw [decide_eq_true h0, cond_true]; exact (decide_eq_true (by omega)).symm
        · rw [decide_eq_false h0, cond_false]; exact decide_eq_decide.2 (by omega)
      · rw [if_neg hmin]
        by_cases h0 : x < 0
        · rw [decide_eq_true h0, cond_true]; exact (decide_eq_true (by omega)).symm
        · rw [decide_eq_false h0, cond_false]
          by_cases hmax : y > x
          · rw [if_pos hmax]; exact decide_eq_decide.2 (by omega)
          · rw [if_neg hmax]; exact decide_eq_decide.2 (by omega)
    unfold hard_graph_b7
    rw [e1, bind_some']
    cases grBad n [x, y] <;> rfl)]
  have e2 : ((decide (n < (0 : Int))) || (decide (n > (16 : Int)))) = !decide (0 ≤ n ∧ n ≤ 16) := by rw [or_dec, not_dec]; exact decide_eq_decide.2 (by omega)
  have e3 : ((decide (k < (0 : Int))) || (decide (k > n))) = !decide (0 ≤ k ∧ k ≤ n) := by rw [or_dec, not_dec]; exact decide_eq_decide.2 (by omega)
  rw [e2, e3]
  cases (!decide (0 ≤ n ∧ n ≤ 16) || decide ((e.length : Int) > 200)) <;> cases e.any (grBad n) <;> cases e.any grLoop <;> cases decide (0 ≤ k ∧ k ≤ n) <;> rfl
theorem gr_inside (n x y : Int) : ref_Inside n [x, y] = some (!grBad n [x, y]) := by
  unfold ref_Inside
  rw [forL_ex (p := fun v => decide (v < 0) || decide (v ≥ n)) (y := Esc.ret false) (fun i a _ => by unfold ref_Inside_b1; cases (decide (a < 0) || decide (a ≥ n)) <;> rfl)]
  have : ([x, y].any fun v => decide (v < 0) || decide (v ≥ n)) = grBad n [x, y] := by
    show ((decide (x < 0) || decide (x ≥ n)) || ((decide (y < 0) || decide (y ≥ n)) || false)) = !decide ((0 ≤ x ∧ x < n) ∧ (0 ≤ y ∧ y < n))
    rw [Bool.or_false, or_dec, or_dec, or_dec, not_dec]; exact decide_eq_decide.2 (by omega)
  rw [this]
  cases grBad n [x, y] <;> rfl
theorem gr_check (n : Int) {e : List (List Int)} (h : two e) (k : Int) : ref_DotsCheck n e k = some (grAll n e k) := by
  unfold ref_DotsCheck grAll
  rw [within_eq, within_eq, bind_some']
  rw [forL_ex (p := grBad n) (y := Esc.ret 2) (fun i a ha => by
    obtain ⟨x, y, rfl⟩ := gr_two (h a ha)
    unfold ref_DotsCheck_b1
    show ((ref_Inside n [x, y]).bind fun r38 => bif !r38 then _ else _) = _
    rw [gr_inside, bind_some']
    cases grBad n [x, y] <;> rfl)]
  rw [forL_ex (p := grLoop) (y := Esc.ret 3) (fun i a ha => by
    obtain ⟨x, y, rfl⟩ := gr_two (h a ha)
    unfold ref_DotsCheck_b5
    show (bif x == y then _ else _) = some (bif x == y then _ else _)
    cases (x == y) <;> rfl)]
  cases decide (0 ≤ n ∧ n ≤ 16) <;> cases decide ((e.length : Int) > 200) <;> cases e.any (grBad n) <;> cases e.any grLoop <;> cases decide (0 ≤ k ∧ k ≤ n) <;> rfl
theorem gr_ok {n : Int} {e : List (List Int)} {k : Int} (h : two e) (hz : grAll n e k = 0) : (0 ≤ n ∧ n ≤ 16) ∧ (0 ≤ k ∧ k ≤ n) ∧ ∀ v ∈ e, ∃ x y, v = [x, y] ∧ (0 ≤ x ∧ x < n) ∧ (0 ≤ y ∧ y < n) ∧ x ≠ y := by
  unfold grAll at hz
  by_cases h1 : 0 ≤ n ∧ n ≤ 16
  · rw [decide_eq_true h1] at hz
    cases h0 : decide ((e.length : Int) > 200) with
    | true => rw [h0] at hz; cases hz
    | false =>
      rw [h0] at hz
      cases h2 : e.any (grBad n) with
      | true => rw [h2] at hz; cases hz
      | false =>
        rw [h2] at hz
        cases h3 : e.any grLoop with
        | true => rw [h3] at hz; cases hz
        | false =>
          rw [h3] at hz
          by_cases h4 : 0 ≤ k ∧ k ≤ n
          · refine ⟨h1, h4, fun v hv => ?_⟩
            obtain ⟨x, y, rfl⟩ := gr_two (h v hv)
            have b1 := List.any_eq_false.1 h2 _ hv
            have b2 := List.any_eq_false.1 h3 _ hv
            have b1 : ¬ (!decide ((0 ≤ x ∧ x < n) ∧ (0 ≤ y ∧ y < n))) = true := b1
            have b2 : ¬ (x == y) = true := b2
            simp only [Bool.not_eq_true', decide_eq_false_iff_not, Decidable.not_not] at b1
            simp only [beq_iff_eq] at b2
            exact ⟨x, y, rfl, b1.1, b1.2, b2⟩
          · rw [decide_eq_false h4] at hz; cases hz
  · rw [decide_eq_false h1] at hz; cases hz
theorem gr_has (l : List Int) (x : Int) : slices_Contains_Lintint l x = some (l.any (x == ·)) := by
  unfold slices_Contains_Lintint slices_Index_Lintint
  rcases forL_at (body := slices_Index_Lintint_b1 x) (fin := fun _ => (Esc.brk () : Esc Int Unit)) (p := (x == ·)) (g := fun j => Esc.ret j) (l := l)
    (fun i a _ => by unfold slices_Index_Lintint_b1; cases (x == a) <;> rfl) (i := 0) with ⟨h1, h2⟩ | ⟨h1, j, h2, h3, h4⟩
  · rw [h2, h1]; rfl
  · rw [h4, h1]; simp [h2]
theorem gr_pow {n : Nat} (hn : n ≤ 16) : 2 ^ n ≤ 65536 := by
  have := Nat.pow_le_pow_right (n := 2) (by omega) hn
  simpa using this
theorem gr_bit {m n : Nat} (hn : n ≤ 16) (hm : m < 2 ^ n) {x : Int} (hx : 0 ≤ x ∧ x < (n : Int)) : ref_Bit (m : Int) x = some ((lst m).any (x == ·)) := by
  have hp := gr_pow hn
  obtain ⟨i, rfl⟩ := Int.eq_ofNat_of_zero_le hx.1
  rw [bit_eq (by omega) (by omega)]
  unfold lst
  rw [lf_mem ⟨by omega, by omega⟩, Int.toNat_natCast]

def frBad (l v : List Int) : Bool := l.any (v.getD 0 0 == ·) && l.any (v.getD 1 0 == ·)
def frH (e : List (List Int)) (l : List Int) : Bool := !e.any (frBad l)
def frNew (t : List Int) (x : Int) (v : List Int) : Bool := (v.getD 0 0 == x && t.any (v.getD 1 0 == ·)) || (v.getD 1 0 == x && t.any (v.getD 0 0 == ·))
theorem fr_ok {n : Int} {e : List (List Int)} (he : ∀ v ∈ e, ∃ x y, v = [x, y] ∧ (0 ≤ x ∧ x < n) ∧ (0 ≤ y ∧ y < n) ∧ x ≠ y) (t : List Int) (z : Int) (ht : frH e t = true) : hard_Free_1 t z e = some (frH e (t ++ [z])) := by
  have e0 : frH e (t ++ [z]) = !e.any (frNew t z) := by
    unfold frH at ht ⊢
    congr 1
    rw [Bool.eq_iff_iff, List.any_eq_true, List.any_eq_true]
    simp only [Bool.not_eq_true', List.any_eq_false] at ht
    constructor
    · rintro ⟨v, hv, hb⟩
      refine ⟨v, hv, ?_⟩
      have hb0 := ht v hv
      obtain ⟨x, y, rfl, _, _, hne⟩ := he v hv
      have hb : ((t ++ [z]).any (x == ·) && (t ++ [z]).any (y == ·)) = true := hb
      have hb0 : ¬ (t.any (x == ·) && t.any (y == ·)) = true := hb0
      show ((x == z && t.any (y == ·)) || (y == z && t.any (x == ·))) = true
      rw [List.any_append, List.any_append] at hb
      simp only [List.any_cons, List.any_nil, Bool.or_false] at hb
      have hxy : ¬ ((x == z) = true ∧ (y == z) = true) := by
        simp only [beq_iff_eq]; rintro ⟨rfl, rfl⟩; exact hne rfl
      cases h1 : t.any (x == ·) <;> cases h2 : t.any (y == ·) <;> cases h3 : (x == z) <;> cases h4 : (y == z) <;> simp_all
    · rintro ⟨v, hv, hb⟩
      refine ⟨v, hv, ?_⟩
      obtain ⟨x, y, rfl, _, _, hne⟩ := he v hv
      have hb : ((x == z && t.any (y == ·)) || (y == z && t.any (x == ·))) = true := hb
      show ((t ++ [z]).any (x == ·) && (t ++ [z]).any (y == ·)) = true
      rw [List.any_append, List.any_append]
      simp only [List.any_cons, List.any_nil, Bool.or_false]
      cases h1 : t.any (x == ·) <;> cases h2 : t.any (y == ·) <;> cases h3 : (x == z) <;> cases h4 : (y == z) <;> simp_all
  rw [e0]
  unfold hard_Free_1 slices_ContainsFunc_L2int2int_with_hard_Free_1_1 slices_IndexFunc_L2int2int_with_hard_Free_1_1
  rcases forL_at (body := slices_IndexFunc_L2int2int_with_hard_Free_1_1_b1 z t) (fin := fun _ => (Esc.brk () : Esc Int Unit)) (p := frNew t z) (g := fun j => Esc.ret j) (l := e)
    (fun i a ha => by
      obtain ⟨x, y, rfl, _⟩ := he a ha
      have e1 : hard_Free_1_1 [x, y] z t = some (frNew t z [x, y]) := by
        show (bif x == z then (slices_Contains_Lintint t y).bind fun r38 => bif r38 then some true else (bif y == z then (slices_Contains_Lintint t x).bind fun r42 => some r42 else some false) else (bif y == z then (slices_Contains_Lintint t x).bind fun r47 => some r47 else some false)).bind (fun v => some v) = some ((x == z && t.any (y == ·)) || (y == z && t.any (x == ·)))
        rw [gr_has, gr_has]
        cases t.any (x == ·) <;> cases t.any (y == ·) <;> cases (x == z) <;> cases (y == z) <;> rfl
      unfold slices_IndexFunc_L2int2int_with_hard_Free_1_1_b1
      rw [e1]
      cases frNew t z [x, y] <;> rfl) (i := 0) with ⟨h1, h2⟩ | ⟨h1, j, h2, h3, h4⟩
  · rw [h2, h1]; rfl
  · rw [h4, h1]; simp [h2]
theorem fr_mono {e : List (List Int)} (t r : List Int) (h : frH e (t ++ r) = true) : frH e t = true := by
  unfold frH at h ⊢
  simp only [Bool.not_eq_true', List.any_eq_false] at h ⊢
  intro v hv hb
  refine h v hv ?_
  unfold frBad at hb ⊢
  simp only [Bool.and_eq_true] at hb
  rw [List.any_append, List.any_append, hb.1, hb.2]; rfl
theorem fr_set {n : Nat} (hn : n ≤ 16) {e : List (List Int)} (he : ∀ v ∈ e, ∃ x y, v = [x, y] ∧ (0 ≤ x ∧ x < (n : Int)) ∧ (0 ≤ y ∧ y < (n : Int)) ∧ x ≠ y) {m : Nat} (hm : m < 2 ^ n) : ref_FreeSet e (m : Int) = some (frH e (lst m)) := by
  unfold ref_FreeSet frH
  rw [forL_ex (p := frBad (lst m)) (y := Esc.ret false) (fun i a ha => by
    obtain ⟨x, y, rfl, hx, hy, _⟩ := he a ha
    have e1 : ref_FreeSet_g5 (m : Int) [x, y] = some (frBad (lst m) [x, y]) := by
      show ((ref_Bit (m : Int) x).bind fun r95 => bif r95 then (ref_Bit (m : Int) y).bind fun r100 => some r100 else some false) = some ((lst m).any (x == ·) && (lst m).any (y == ·))
      rw [gr_bit hn hm hx, gr_bit hn hm hy]
      cases (lst m).any (x == ·) <;> cases (lst m).any (y == ·) <;> rfl
    unfold ref_FreeSet_b7
    rw [e1]
    cases frBad (lst m) [x, y] <;> rfl)]
  cases e.any (frBad (lst m)) <;> rfl
theorem fr_body {n k : Nat} (hn : n ≤ 16) {e : List (List Int)} (he : ∀ v ∈ e, ∃ x y, v = [x, y] ∧ (0 ≤ x ∧ x < (n : Int)) ∧ (0 ≤ y ∧ y < (n : Int)) ∧ x ≠ y) (hk : k ≤ n) (best : List Int) (found : Bool) (m : Nat) (hm : m < 2 ^ n) (hl : found = true → best.length = k) :
    law_HardFrees_b22 (n : Int) e (k : Int) 100000 (best, found, (m : Int)) = some (.next (bif (decide (pc m = k) && (frH e (lst m) && true)) && (!found || lx (lst m) best) then (lst m, true, ((m + 1 : Nat) : Int)) else (best, found, ((m + 1 : Nat) : Int)))) := by
  have hp := gr_pow hn
  have hw : IntKind.wrap .u64 (n : Int) = (n : Int) := wrap_u64 (by omega) (by omega)
  have hck : ck (0 ≤ (n : Int)) = some () := ck_ok (by omega)
  have hw1 : w64 ((m : Int) + 1) = ((m + 1 : Nat) : Int) := by rw [w64_id (by omega) (by omega)]; rfl
  unfold law_HardFrees_b22
  dsimp only
  rw [hw, hck, bind_some', bShl_one (by omega), decide_eq_true (by omega), cond_true, hw1]
  have hg : law_HardFrees_g19 e (k : Int) 100000 (best, found, (m : Int)) = some ((decide (pc m = k) && (frH e (lst m) && true)) && (!found || lx (lst m) best)) := by
    unfold law_HardFrees_g19
    dsimp only
    rw [size_eq (by omega), bind_some', fr_set hn he hm, sr_listof (by omega), bind_some', bind_some']
    have e1 : (((pc m : Nat) : Int) == (k : Int)) = decide (pc m = k) := by rw [beq_dec]; exact decide_eq_decide.2 (by omega)
    rw [e1]
    by_cases h1 : pc m = k
    · rw [decide_eq_true h1]
      cases found with
      | false => cases frH e (lst m) <;> rfl
      | true =>
        have hll := lst_len m
        rw [sr_ahead (by omega) (by omega)]
        cases frH e (lst m) <;> cases lx (lst m) best <;> rfl
    · rw [decide_eq_false h1]; rfl
  rw [hg, bind_some', sr_listof (by omega)]
  cases ((decide (pc m = k) && (frH e (lst m) && true)) && (!found || lx (lst m) best)) <;> rfl
theorem HardFrees_true (a0 : Int) (a1 : List (List Int)) (a2 : Int) (f0 : Fits (.int .i64) a0) (f1 : Fits (.slice (.arr 2 (.int .i64))) a1) (f2 : Fits (.int .i64) a2) : ∃ fuel, law_HardFrees fuel a0 a1 a2 = some true := by
  refine ⟨100000, ?_⟩
  have h2 : two a1 := fun v hv => (Fits.mem f1 hv).1
  unfold law_HardFrees hard_Free
  have fr_nil : frH a1 [] = true := by unfold frH; simp [frBad]
  rw [gr_graph a0 h2 a2, gr_check a0 h2 a2, bind_some']
  by_cases hz : grAll a0 a1 a2 = 0
  · obtain ⟨hn, hk, he⟩ := gr_ok h2 hz
    obtain ⟨n, rfl⟩ := Int.eq_ofNat_of_zero_le hn.1
    obtain ⟨k, rfl⟩ := Int.eq_ofNat_of_zero_le hk.1
    have hn16 : n ≤ 16 := by omega
    rw [hz, show ((0 : Int) != 0) = false from rfl, cond_false]
    obtain ⟨l, b, q1, q2, q3⟩ := sr_search hn16 (ok := fun t x => hard_Free_1 t x a1) (leaf := hard_Free_2) (H := frH a1) (Q := fun _ => true)
      (srch := fun fuel k0 k1 t => hard_search_with_hard_Free_1_with_hard_Free_2 fuel k0 k1 t a1) (fun fuel k t => rfl) (fun t x ht _ _ => fr_ok he t x ht) (fun t _ => rfl) fr_mono k 100000 [] 0 (by omega) rfl (by omega) (by omega) (by simp; omega) fr_nil
    obtain ⟨best, found, r1, r2, r3⟩ := sr_words hn16 (k := k) (P := fun l => frH a1 l && true) (fr_body hn16 he (by omega)) (fun best found => by
      have hp := gr_pow hn16
      have hw : IntKind.wrap .u64 (n : Int) = (n : Int) := wrap_u64 (by omega) (by omega)
      have hck : ck (0 ≤ (n : Int)) = some () := ck_ok (by omega)
      unfold law_HardFrees_b22
      dsimp only
      rw [hw, hck, bind_some', bShl_one (by omega), decide_eq_false (by omega)]
      rfl) (fuel := 100000) (by omega)
    have q1 : hard_search_with_hard_Free_1_with_hard_Free_2 100000 (n : Int) (k : Int) [] a1 = some (l, b) := q1
    simp only [q1, r1, bind_some', show ((0 : Int) != 0) = false from rfl, cond_false]
    cases b with
    | false =>
      have q3 := q3 rfl
      cases found with
      | false => rfl
      | true =>
        have hb := r2 rfl
        have := q3 best hb.up hb.len
        rw [hb.good] at this; cases this
    | true =>
      obtain ⟨r, hr, hb⟩ := q2 rfl
      rw [List.nil_append] at hr
      subst hr
      cases found with
      | false =>
        have := r3 rfl l hb.up hb.len
        have hg := hb.good
        rw [List.nil_append] at hg
        rw [hg] at this; cases this
      | true =>
        have e := hb.uniq (r2 rfl)
        subst e
        simp [ref_Ints_eq]
  · have e1 : (grAll a0 a1 a2 != 0) = true := by simp [hz]
    rw [e1, cond_true, bind_some', bind_some', e1, cond_true]
    simp

end Go.Proofs.Ytcallckeeohoaaa.hardFrees
namespace Go.Proofs.Ytcallckeeohoaaa.hardFrees
open Go.ChangeShapes Go.WideShapes Go.ChangeAt Go.RowKit
open Go.ChangeMaps (open_string shut_string)
theorem own : ownKnob Try.prog.godebug = none := by kernel_rfl
theorem laidOut : laidOutB Try.prog = true := by kernel_rfl
theorem lifted (os : Os) (started : os.Started) (H : Type) (enc : TypeId × Value → H) :
    ReturnsInHanded {} Try.checked os 8 .any (Rows.hardFreesSpec.pre6 enc Try.prog Try.f8 Rows.hardFreesRow.domain false) (Rows.hardFreesSpec.post enc Try.prog Try.f8 false true false false) := by
  refine returnsInHanded_of_change (C := Try.checked) own started (by kernel_rfl) Try.func8
    (ChangeSpec.witness6 (enc := enc) (C := Try.checked) false ⟨#[], #[.int .i64 0, .slice none 0 0, .int .i64 0], []⟩ 8 (by kernel_rfl) (by kernel_rfl) (by kernel_rfl) (by kernel_rfl)) ?_
  intro W base args ds gs before hval0 hW hcnd _
  have hval : ∀ (j : Nat) t v, Try.f8.params[j]? = some t → args[j]? = some v → Value.okWide Try.prog W .any base t v := hval0
  have hW' := hW
  obtain ⟨p, q, hA0, hV, rfl, hfz, hnd⟩ := hW
  have hA : DataW.TrodAll enc Try.prog W 0 (fun _ => true) true Try.f8.params.toList args.toList ds p := hA0
  rw [Try.params8] at hA hval
  obtain ⟨v0, vs0, d0, ds0, p0, q0, hargs, rfl, rfl, h0, r0⟩ := trodAll_cons hA
  obtain ⟨v1, vs1, d1, ds1, p1, q1, rfl, rfl, rfl, h1, r1⟩ := trodAll_cons r0
  obtain ⟨v2, vs2, d2, ds2, p2, q2, rfl, rfl, rfl, h2, r2⟩ := trodAll_cons r1
  obtain ⟨rfl, rfl, rfl⟩ := trodAll_nil r2
  obtain rfl : args = #[v0, v1, v2] := by cases args; simp_all
  obtain ⟨rfl, rfl⟩ := trodVars_none hV
  obtain ⟨x0, f0, k0⟩ := Go.Sl.read_arg (u := (.int .i64)) (by kernel_rfl) (by kernel_rfl) (hval 0 3 v0 rfl rfl) h0
  have lt0 : ∀ x ∈ p0, x.block < W.heap.size := by obtain ⟨m, hm⟩ := h0; exact DataW.trod_lt m _ _ _ hm
  obtain ⟨x1, f1, k1⟩ := Go.Sl.read_arg (u := (.slice (.arr 2 (.int .i64)))) (by kernel_rfl) (by kernel_rfl) (hval 1 58 v1 rfl rfl) h1
  have lt1 : ∀ x ∈ p1, x.block < W.heap.size := by obtain ⟨m, hm⟩ := h1; exact DataW.trod_lt m _ _ _ hm
  obtain ⟨x2, f2, k2⟩ := Go.Sl.read_arg (u := (.int .i64)) (by kernel_rfl) (by kernel_rfl) (hval 2 3 v2 rfl rfl) h2
  have lt2 : ∀ x ∈ p2, x.block < W.heap.size := by obtain ⟨m, hm⟩ := h2; exact DataW.trod_lt m _ _ _ hm
  clear hA0 hval0
  obtain ⟨fuel, hm⟩ := HardFrees_true x0 x1 x2 f0 f1 f2
  refine (Go.Sl.law_of (vs := [v0, v1, v2]) (law_HardFrees_ok hm) rfl (.cons (k0 _ _) (.cons (k1 _ _) (.cons (k2 _ _) .nil)))).mono fun e W' ⟨he, bel⟩ => ?_
  subst he
  exact ⟨_, rfl, _, _, _, [], _, [], hW', trodAll_mk1 (shut_bool Try.underlying4 _), (trodAll_cons_mk (Below.trod laidOut (by kernel_rfl) (of_decide_eq_true (by kernel_rfl)) h0 bel lt0) (trodAll_cons_mk (Below.trod laidOut (by kernel_rfl) (of_decide_eq_true (by kernel_rfl)) h1 bel lt1) (trodAll_cons_mk (Below.trod laidOut (by kernel_rfl) (of_decide_eq_true (by kernel_rfl)) h2 bel lt2) trodAll_mk0))), rfl, bel.frame _, fun h => by cases h⟩
theorem proved : Rows.HardFreesSaid :=
  OpenClaim.holds_of_wide 8 Try.f8 rfl rfl rfl rfl rfl rfl rfl ⟨rfl, rfl, rfl, rfl, rfl⟩ rfl rfl rfl rfl rfl (by kernel_rfl) Try.func8 (by kernel_rfl)
    (of_decide_eq_true (by kernel_rfl)) (by unfold Func.isWrapper; first | (rw [if_pos (by decide +kernel)]; kernel_rfl) | (rw [if_neg (by decide +kernel)]; exact ⟨rfl, rfl⟩))
    (fun os started H enc _ => lifted os started H enc)
#print axioms proved
end Go.Proofs.Ytcallckeeohoaaa.hardFrees
