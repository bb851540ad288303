/- For any square the program tells the greatest choice, the first one: PairsMosts returns true and changes nothing; no conditions. -/
import Derived.Test.YtjghcbdfpcpahaaRows
import Derived.WalkKit
import Derived.ProofKit
import Derived.OpenShut
import Derived.ShutString
import Derived.ChangeOld
import Derived.Below
import Derived.Test.YtjghcbdfpcpahaaPairsMostsM
set_option linter.all false
set_option maxRecDepth 100000
namespace Go.Proofs.Ytjghcbdfpcpahaa.pairsMosts
open Go Go.Sl

theorem within_eq (a b c : Int) : ref_Within a b c = some (decide (a ≤ b ∧ b ≤ c)) := by
  unfold ref_Within
  rw [Bool.decide_and]

theorem cc_grow {n : Nat} (h : n ≤ 4294967296) : slices_Grow_Lintint (n : Int) = some [] := by
  unfold slices_Grow_Lintint
  rw [decide_eq_false (by omega), cond_false, Int.sub_zero, w64_id (by omega) (by omega)]
  by_cases h0 : (n : Int) > 0
  · rw [decide_eq_true h0, cond_true, ck_ok (show 0 ≤ (n : Int) ∧ (n : Int) ≤ 4294967296 by omega)]; rfl
  · rw [decide_eq_false h0]; rfl
theorem flat_take {α : Type} {l : List (List α)} {n : Nat} {v : List α} (h : l[n]? = some v) : (l.take (n + 1)).flatten = (l.take n).flatten ++ v := by
  rw [List.take_add_one, h]; simp
theorem flat_le {α : Type} (l : List (List α)) (n : Nat) : (l.take n).flatten.length ≤ l.flatten.length := by
  have : l = l.take n ++ l.drop n := (List.take_append_drop n l).symm
  conv => rhs; rw [this, List.flatten_append, List.length_append]
  omega
theorem cc_concat {l : List (List Int)} (h : l.flatten.length ≤ 1000000) : slices_Concat_Lintint l = some l.flatten := by
  unfold slices_Concat_Lintint
  obtain ⟨y, h1, h2⟩ := forL_inv (body := slices_Concat_Lintint_b7) (fin := fun x => x) (l := l) (x := (0 : Int)) (fun n x => x = (((l.take n).flatten.length : Nat) : Int)) (fun y => y = ((l.flatten.length : Nat) : Int)) (by simp)
    (fun n v x hv hx => by
      subst hx
      have hle := flat_le l (n + 1)
      have he := flat_take hv
      rw [he, List.length_append] at hle
      unfold slices_Concat_Lintint_b7
      rw [w64_id (by omega) (by omega), decide_eq_false (by omega), cond_false]
      exact ⟨_, rfl, by rw [he, List.length_append]; omega⟩)
    (fun x hx => by rw [hx, List.take_length])
  rw [h1, bind_some', h2, cc_grow (by omega), bind_some']
  obtain ⟨z, h3, h4⟩ := forL_inv (body := slices_Concat_Lintint_b10) (fin := fun x => x) (l := l) (x := ([] : List Int)) (fun n x => x = (l.take n).flatten) (fun y => y = l.flatten) (by simp)
    (fun n v x hv hx => by
      subst hx
      have hle := flat_le l (n + 1)
      have he := flat_take hv
      rw [he, List.length_append] at hle
      have hck : ck ((List.length (l.take n).flatten : Int) + (List.length v : Int) ≤ 4294967296) = some () := ck_ok (by omega)
      unfold slices_Concat_Lintint_b10
      rw [hck, bind_some']
      exact ⟨_, rfl, he.symm⟩)
    (fun x hx => by rw [hx, List.take_length])
  rw [h3, bind_some', h4]

theorem ones_eq : ∀ w : Nat, w < 64 → math_bits_OnesCount (w : Int) = some ((pc w : Nat) : Int) := by
  decide +kernel

structure SqOk (n : Nat) (rows : List (List Int)) : Prop where
  len : rows.length = n
  row : ∀ r ∈ rows, r.length = n
  val : ∀ r ∈ rows, ∀ v ∈ r, v.natAbs ≤ 20
theorem without_eq {n : Nat} (hn : n ≤ 5) {r : List Int} {rows : List (List Int)} (h : SqOk (n + 1) (r :: rows)) {j : Nat} (hj : j ≤ n) : ref_without (r :: rows) (j : Int) = some (rows.map (·.eraseIdx j)) := by
  unfold ref_without
  have hl : rows.length = n := by have := h.len; simpa using this
  have hck : ck (0 ≤ (1 : Int) ∧ (1 : Int) ≤ (List.length (r :: rows) : Int) ∧ (List.length (r :: rows) : Int) ≤ (List.length (r :: rows) : Int)) = some () := ck_ok (by rw [List.length_cons]; omega)
  have es : sub (r :: rows) (1 : Int) (List.length (r :: rows) : Int) = rows := by
    simp only [sub, Int.toNat_natCast, List.length_cons]
    show List.take (rows.length + 1 - 1) rows = rows
    exact List.take_of_length_le (by omega)
  rw [hck, bind_some', es]
  obtain ⟨y, h1, rfl⟩ := forL_inv (body := ref_without_b1 (j : Int)) (fin := fun x => x) (l := rows) (x := ([] : List (List Int))) (fun k x => x = (rows.take k).map (·.eraseIdx j)) (fun y => y = rows.map (·.eraseIdx j)) (by simp)
    (by
      rintro k q x hq rfl
      have hq1 := h.row q (List.mem_cons_of_mem _ (List.mem_of_getElem? hq))
      have e1 : sub q (0 : Int) (j : Int) = q.take j := by simp [sub]
      have e2 : w64 ((j : Int) + 1) = ((j + 1 : Nat) : Int) := by rw [w64_id (by omega) (by omega)]; omega
      have e3 : sub q ((j + 1 : Nat) : Int) (List.length q : Int) = q.drop (j + 1) := by
        simp only [sub, Int.toNat_natCast]
        exact List.take_of_length_le (by simp)
      have c1 : ck (0 ≤ (0 : Int) ∧ (0 : Int) ≤ (j : Int) ∧ (j : Int) ≤ (List.length q : Int)) = some () := ck_ok (by omega)
      have c2 : ck ((0 : Int) + (List.length (q.take j) : Int) ≤ 4294967296) = some () := ck_ok (by rw [List.length_take]; omega)
      have c3 : ck (0 ≤ ((j + 1 : Nat) : Int) ∧ ((j + 1 : Nat) : Int) ≤ (List.length q : Int) ∧ (List.length q : Int) ≤ (List.length q : Int)) = some () := ck_ok (by omega)
      have c4 : ck ((List.length ([] ++ q.take j) : Int) + (List.length (q.drop (j + 1)) : Int) ≤ 4294967296) = some () := ck_ok (by rw [List.nil_append, List.length_take, List.length_drop]; omega)
      have c5 : ck ((List.length ((rows.take k).map (·.eraseIdx j)) : Int) + 1 ≤ 4294967296) = some () := ck_ok (by rw [List.length_map, List.length_take]; omega)
      unfold ref_without_b1
      rw [e1, e2, e3, c1, bind_some', c2, bind_some', c3, bind_some', c4, bind_some', c5, bind_some']
      refine ⟨_, rfl, ?_⟩
      simp only
      rw [List.take_add_one, hq, List.map_append, List.nil_append, ← List.eraseIdx_eq_take_drop_succ]; rfl)
    (by rintro x rfl; simp)
  rw [h1]; rfl
theorem sq_erase {n : Nat} {r : List Int} {rows : List (List Int)} (h : SqOk (n + 1) (r :: rows)) {j : Nat} (hj : j ≤ n) : SqOk n (rows.map (·.eraseIdx j)) := by
  refine ⟨by have := h.len; simpa using this, ?_, ?_⟩
  · intro q0 hq0
    obtain ⟨q, hq, rfl⟩ := List.mem_map.1 hq0
    have := h.row q (List.mem_cons_of_mem _ hq)
    rw [List.length_eraseIdx, if_pos (by omega), this]; rfl
  · intro q0 hq0 v hv
    obtain ⟨q, hq, rfl⟩ := List.mem_map.1 hq0
    exact h.val q (List.mem_cons_of_mem _ hq) v (List.mem_of_mem_eraseIdx hv)
def sqLen (a : List (List Int)) (r : List Int) : Bool := (List.length r : Int) != (List.length a : Int)
def sqBad (v : Int) : Bool := !decide (-20 ≤ v ∧ v ≤ 20)
def sqAll (a : List (List Int)) : Int := if 1 ≤ (a.length : Int) ∧ (a.length : Int) ≤ 6 then (bif a.any (sqLen a) then 3 else bif a.any (·.any sqBad) then 4 else 0) else 1
theorem sq_ref (a : List (List Int)) : ref_SquareCheck a = some (sqAll a) := by
  unfold ref_SquareCheck sqAll
  rw [within_eq, bind_some']
  by_cases h : 1 ≤ (a.length : Int) ∧ (a.length : Int) ≤ 6
  · rw [if_pos h, decide_eq_true h, Bool.not_true, cond_false, forL_ex (p := sqLen a) (y := Esc.ret 3) (fun i r _ => by unfold ref_SquareCheck_b1 sqLen; cases ((List.length r : Int) != (List.length a : Int)) <;> rfl), bind_some',
      forL_ex (p := fun r => r.any sqBad) (y := Esc.ret 4) (fun i r _ => by
        unfold ref_SquareCheck_b15
        rw [forL_ex (p := sqBad) (y := Esc.ret 4) (fun i v _ => by
          unfold ref_SquareCheck_b11 sqBad
          rw [within_eq, bind_some']
          cases !decide (-20 ≤ v ∧ v ≤ 20) <;> rfl), bind_some']
        cases r.any sqBad <;> rfl)]
    cases a.any (sqLen a) <;> cases a.any (·.any sqBad) <;> rfl
  · rw [if_neg h, decide_eq_false h]; rfl
theorem sq_len (a l : List (List Int)) : slices_ContainsFunc_LLintLint_with_pairs_wrong_1 l a = some (l.any (sqLen a)) := by
  unfold slices_ContainsFunc_LLintLint_with_pairs_wrong_1 slices_IndexFunc_LLintLint_with_pairs_wrong_1
  rcases forL_at (body := slices_IndexFunc_LLintLint_with_pairs_wrong_1_b1 a) (fin := fun _ => (Esc.brk () : Esc Int Unit)) (p := sqLen a) (g := fun j => Esc.ret j) (l := l)
    (fun i r _ => by unfold slices_IndexFunc_LLintLint_with_pairs_wrong_1_b1 pairs_wrong_1 sqLen; cases ((List.length r : Int) != (List.length a : Int)) <;> rfl) (i := 0) with ⟨h1, h2⟩ | ⟨h1, j, h2, h3, h4⟩
  · rw [h2, h1]; rfl
  · rw [h4, h1]; simp [h2]
theorem sq_val (l : List Int) : slices_ContainsFunc_Lintint_with_pairs_wrong_2 l = some (l.any sqBad) := by
  unfold slices_ContainsFunc_Lintint_with_pairs_wrong_2 slices_IndexFunc_Lintint_with_pairs_wrong_2
  rcases forL_at (body := slices_IndexFunc_Lintint_with_pairs_wrong_2_b1) (fin := fun _ => (Esc.brk () : Esc Int Unit)) (p := sqBad) (g := fun j => Esc.ret j) (l := l)
    (fun i a _ => by
      unfold slices_IndexFunc_Lintint_with_pairs_wrong_2_b1 pairs_wrong_2 sqBad
      have : (decide (a < (-20 : Int)) || decide (a > (20 : Int))) = !decide (-20 ≤ a ∧ a ≤ 20) := by
        by_cases h : -20 ≤ a ∧ a ≤ 20
        · rw [decide_eq_true h, decide_eq_false (by omega), decide_eq_false (by omega)]; rfl
        · rw [decide_eq_false h]
          simp only [Bool.not_false, Bool.or_eq_true, decide_eq_true_eq]; omega
      rw [this]
      cases !decide (-20 ≤ a ∧ a ≤ 20) <;> rfl) (i := 0) with ⟨h1, h2⟩ | ⟨h1, j, h2, h3, h4⟩
  · rw [h2, h1]; rfl
  · rw [h4, h1]; simp [h2]
theorem flat_len (m : Nat) : ∀ l : List (List Int), (∀ r ∈ l, r.length ≤ m) → l.flatten.length ≤ m * l.length
  | [], _ => by simp
  | r :: l, h => by
    have ih := flat_len m l (fun r hr => h r (by simp [hr]))
    have hr := h r (by simp)
    simp only [List.flatten_cons, List.length_append, List.length_cons, Nat.mul_succ]; omega
theorem sq_wrong (a : List (List Int)) : pairs_wrong a = some (sqAll a) := by
  unfold pairs_wrong sqAll
  by_cases h : 1 ≤ (a.length : Int) ∧ (a.length : Int) ≤ 6
  · have hb : ((decide ((List.length a : Int) < (1 : Int))) || (decide ((List.length a : Int) > (6 : Int)))) = false := by
      simp only [Bool.or_eq_false_iff, decide_eq_false_iff_not]; omega
    rw [if_pos h, hb, cond_false, sq_len, bind_some']
    cases h1 : a.any (sqLen a) with
    | true => rfl
    | false =>
      have hr : ∀ r ∈ a, r.length ≤ 6 := by
        intro r hr
        have := List.any_eq_false.1 h1 r hr
        unfold sqLen at this
        simp at this
        omega
      have := flat_len 6 a hr
      rw [cond_false, cond_false, cc_concat (by omega), bind_some', sq_val, bind_some', List.any_flatten]
      cases a.any (·.any sqBad) <;> rfl
  · have hb : ((decide ((List.length a : Int) < (1 : Int))) || (decide ((List.length a : Int) > (6 : Int)))) = true := by
      simp only [Bool.or_eq_true, decide_eq_true_eq]; omega
    rw [if_neg h, hb]; rfl
theorem sq_ok {a : List (List Int)} (h : sqAll a = 0) : (1 ≤ a.length ∧ a.length ≤ 6) ∧ SqOk a.length a := by
  unfold sqAll at h
  split at h
  · rename_i h1
    cases h2 : a.any (sqLen a) with
    | true => rw [h2] at h; cases h
    | false =>
      cases h3 : a.any (·.any sqBad) with
      | true => rw [h2, h3] at h; cases h
      | false =>
        refine ⟨by omega, rfl, ?_, ?_⟩
        · intro r hr
          have := List.any_eq_false.1 h2 r hr
          unfold sqLen at this
          simp at this
          omega
        · intro r hr v hv
          have h4 := List.any_eq_false.1 h3 r hr
          have h5 := List.any_eq_false.1 (Bool.eq_false_iff.2 h4) v hv
          unfold sqBad at h5
          simp at h5
          omega
  · cases h

theorem ref_Ints_eq (a b : List Int) : ref_Ints a b = some (decide (a = b)) := by
  unfold ref_Ints
  rw [len_ne]
  by_cases h : a.length = b.length
  · rw [forL_eqs (q := b) (fun n a c hc => by
      unfold ref_Ints_b1
      rw [idx_nat, hc]
      by_cases h : a = c <;> simp [h, bne_dec]) h]
    by_cases h2 : a = b <;> simp [h2, h]
  · have : ¬ a = b := fun e => h (by rw [e])
    simp [h, this]

/-- b is the greatest choice from the rows, l the first one, by the columns' names -/
def MS : Nat → List (List Int) → List Nat → Int → List Nat → Prop
  | 0, _, _, b, l => b = 0 ∧ l = []
  | n + 1, rows, cs, b, l => ∃ (j : Nat) (b' : Int) (l' : List Nat), j ≤ n ∧ MS n ((rows.drop 1).map (·.eraseIdx j)) (cs.eraseIdx j) b' l' ∧ b = (rows.headD []).getD j 0 + b' ∧ l = cs.getD j 0 :: l' ∧
      ∀ i, i ≤ n → ∀ b'' l'', MS n ((rows.drop 1).map (·.eraseIdx i)) (cs.eraseIdx i) b'' l'' → (rows.headD []).getD i 0 + b'' ≤ b ∧ (i < j → (rows.headD []).getD i 0 + b'' < b)
theorem MS.uniq : ∀ (n : Nat) {rows : List (List Int)} {cs : List Nat} {b b2 : Int} {l l2 : List Nat}, MS n rows cs b l → MS n rows cs b2 l2 → b = b2 ∧ l = l2
  | 0, _, _, _, _, _, _, h1, h2 => ⟨by rw [h1.1, h2.1], by rw [h1.2, h2.2]⟩
  | n + 1, rows, cs, b, b2, l, l2, ⟨j, b', l', hj, h, e1, e2, hm⟩, ⟨j2, b2', l2', hj2, g, f1, f2, gm⟩ => by
    have a1 := hm j2 hj2 _ _ g
    have a2 := gm j hj _ _ h
    have : j = j2 := by
      rcases Nat.lt_trichotomy j j2 with hlt | heq | hgt
      · have := a2.2 hlt; omega
      · exact heq
      · have := a1.2 hgt; omega
    subst this
    obtain ⟨u1, u2⟩ := MS.uniq n h g
    subst u1 u2
    exact ⟨by rw [e1, f1], by rw [e2, f2]⟩
theorem getD_erase (cs : List Nat) (j k : Nat) : (cs.eraseIdx j).getD k 0 = cs.getD (if k < j then k else k + 1) 0 := by
  rw [List.getD_eq_getElem?_getD, List.getD_eq_getElem?_getD, List.getElem?_eraseIdx]
  split <;> rfl
/-! ### what the document tells -/
def shiftP (j : Int) (p : Int) : Int := bif decide (p ≥ j) then p + 1 else p
theorem shift_loop {body : Int → Int → List Int → Option (Flow (List Int) (List Int))} {j : Int} {n : Nat} (hn : n ≤ 6) (pos : List Int) (hl : pos.length = n) (hp : ∀ p ∈ pos, 0 ≤ p ∧ p < (n : Int))
    (hb : ∀ (i : Int) (p : Int) (x : List Int), body i p x = ((bif decide (p ≥ j) then (some (w64 (p + (1 : Int)))) else (some p)).bind fun v => (ck ((List.length x : Int) + 1 ≤ 4294967296)).bind fun _ => some (.next (x ++ [v])))) :
    forL body (fun x => x) pos 0 [j] = some (j :: pos.map (shiftP j)) := by
  obtain ⟨y, h1, h2⟩ := forL_inv (body := body) (fin := fun x => x) (l := pos) (x := [j]) (fun k x => x = j :: (pos.take k).map (shiftP j)) (fun y => y = j :: pos.map (shiftP j)) (by simp)
    (by
      rintro k p x hk rfl
      have hkl := (List.getElem?_eq_some_iff.1 hk).1
      obtain ⟨p0, p1⟩ := hp p (List.mem_of_getElem? hk)
      have hck : ck ((List.length (j :: (pos.take k).map (shiftP j)) : Int) + 1 ≤ 4294967296) = some () := ck_ok (by simp; omega)
      rw [hb, hck]
      have e : (bif decide (p ≥ j) then (some (w64 (p + (1 : Int)))) else (some p)) = some (shiftP j p) := by
        unfold shiftP
        rw [w64_id (by omega) (by omega)]
        cases decide (p ≥ j) <;> rfl
      rw [e]
      refine ⟨_, rfl, ?_⟩
      simp only
      rw [List.take_add_one, hk]; simp)
    (by rintro x rfl; rw [List.take_length])
  rw [h1, h2]
theorem shift_names (cs : List Nat) (j : Nat) (pos : List Int) {n : Nat} (hp : ∀ p ∈ pos, 0 ≤ p ∧ p < (n : Int)) : (((j : Int) :: pos.map (shiftP j)).map fun p => cs.getD p.toNat 0) = cs.getD j 0 :: (pos.map fun p => (cs.eraseIdx j).getD p.toNat 0) := by
  rw [List.map_cons, List.map_map]
  congr 1
  refine List.map_congr_left fun p hpm => ?_
  obtain ⟨p0, p1⟩ := hp p hpm
  rw [Function.comp, getD_erase]
  unfold shiftP
  by_cases h : p ≥ (j : Int)
  · rw [decide_eq_true h, cond_true, if_neg (by omega)]
    congr 1; omega
  · rw [decide_eq_false h, cond_false, if_pos (by omega)]
theorem most_r : ∀ (n fuel : Nat) (rows : List (List Int)) (cs : List Nat), n ≤ 6 → n + 10 ≤ fuel → SqOk n rows → cs.length = n → ∃ (b : Int) (pos : List Int), ref_Greatest fuel rows = some (b, pos) ∧ pos.length = n ∧ (∀ p ∈ pos, 0 ≤ p ∧ p < (n : Int)) ∧
    MS n rows cs b (pos.map fun p => cs.getD p.toNat 0) ∧ b.natAbs ≤ 20 * n := by
  intro n
  induction n with
  | zero =>
    intro fuel rows cs _ hf h _
    obtain ⟨fuel, rfl⟩ : ∃ q, fuel = q + 1 := ⟨fuel - 1, by omega⟩
    have : rows = [] := List.eq_nil_of_length_eq_zero h.len
    subst this
    exact ⟨0, [], rfl, rfl, by simp, ⟨rfl, rfl⟩, by simp⟩
  | succ n ih =>
    intro fuel rows cs hn hf h hc
    obtain ⟨fuel, rfl⟩ : ∃ q, fuel = q + 1 := ⟨fuel - 1, by omega⟩
    obtain ⟨r, rows, rfl⟩ : ∃ r q, rows = r :: q := by
      cases rows with
      | nil => have := h.len; simp at this
      | cons r q => exact ⟨r, q, rfl⟩
    have hrl := h.row r (by simp)
    have hval : ∀ i, i ≤ n → idx r (i : Int) = some (r.getD i 0) ∧ (r.getD i 0).natAbs ≤ 20 := by
      intro i hi
      have hg : r[i]? = some (r.getD i 0) := by rw [List.getD_eq_getElem?_getD, List.getElem?_eq_getElem (by omega)]; rfl
      exact ⟨by rw [idx_nat, hg], h.val r (by simp) _ (List.mem_of_getElem? hg)⟩
    have hw : ∀ i, i ≤ n → ref_without (r :: rows) (i : Int) = some (rows.map (·.eraseIdx i)) := fun i hi => without_eq (by omega) h hi
    have hih : ∀ i, i ≤ n → ∃ (b : Int) (pos : List Int), ref_Greatest fuel (rows.map (·.eraseIdx i)) = some (b, pos) ∧ pos.length = n ∧ (∀ p ∈ pos, 0 ≤ p ∧ p < (n : Int)) ∧
        MS n (rows.map (·.eraseIdx i)) (cs.eraseIdx i) b (pos.map fun p => (cs.eraseIdx i).getD p.toNat 0) ∧ b.natAbs ≤ 20 * n :=
      fun i hi => ih fuel _ _ (by omega) (by omega) (sq_erase h hi) (by rw [List.length_eraseIdx, if_pos (by omega)]; omega)
    have hlen : ((r :: rows).length : Int) = ((n + 1 : Nat) : Int) := by rw [h.len]
    have i0 : idx (r :: rows) (0 : Int) = some r := rfl
    have h0 : ((List.length (r :: rows) : Int) == (0 : Int)) = false := by rw [hlen]; simp; omega
    -- what is known when the first j columns have been seen
    let Inv : Nat → Int → List Int → Prop := fun j best l => ∃ j0 b' pos', j0 < j ∧ ref_Greatest fuel (rows.map (·.eraseIdx j0)) = some (b', pos') ∧ best = r.getD j0 0 + b' ∧ l = (j0 : Int) :: pos'.map (shiftP j0) ∧
      ∀ i, i < j → ∀ b'' p'', ref_Greatest fuel (rows.map (·.eraseIdx i)) = some (b'', p'') → r.getD i 0 + b'' ≤ best ∧ (i < j0 → r.getD i 0 + b'' < best)
    have key : ∃ y, iterP (ref_Greatest_b113 (r :: rows) (ref_Greatest fuel)) (ref_Greatest_b143 (r :: rows) (ref_Greatest fuel)) fuel () = some y ∧ Inv (n + 1) y.1 y.2 := by
      obtain ⟨b0, p0, g1, g2, g3, g4, g5⟩ := hih 0 (by omega)
      obtain ⟨v1, v2⟩ := hval 0 (by omega)
      have e0 : ref_Greatest_b113 (r :: rows) (ref_Greatest fuel) () = some (.next (r.getD 0 0 + b0, 1, (0 : Int) :: p0.map (shiftP 0))) := by
        unfold ref_Greatest_b113
        have hw0 := hw 0 (by omega)
        simp only [Int.natCast_zero] at hw0 v1
        rw [hlen, decide_eq_true (by omega), cond_true, hw0, bind_some', g1, bind_some', i0, bind_some', v1, bind_some', shift_loop (body := ref_Greatest_b110) (j := 0) (by omega) p0 g2 g3 (fun _ _ _ => rfl), bind_some', w64_id (by omega) (by omega), Int.add_comm]
      unfold iterP
      rw [e0]
      simp only
      refine iter_inv (f := ref_Greatest_b143 (r :: rows) (ref_Greatest fuel)) (fun x => ∃ j : Nat, 1 ≤ j ∧ j ≤ n + 1 ∧ x.2.1 = (j : Int) ∧ x.2.2.length ≤ 7 ∧ 0 < x.2.2.length ∧ x.1.natAbs ≤ 20 * (n + 1) ∧ Inv j x.1 x.2.2) (fun x => (10 - x.2.1).toNat) (fun y => Inv (n + 1) y.1 y.2) ?_ fuel _ (by dsimp only; omega) ?_
      · rintro ⟨best, jj, l⟩ ⟨j, hj1, hj2, rfl, hl7, hl0, hbb, hinv⟩
        unfold ref_Greatest_b143
        dsimp only at *
        rw [hlen]
        by_cases hlt : j ≤ n
        · obtain ⟨b1, p1, g1, g2, g3, g4, g5⟩ := hih j hlt
          obtain ⟨v1, v2⟩ := hval j hlt
          have hck : ck (0 < List.length (l : List Int)) = some () := ck_ok hl0
          have hw1 : w64 (b1 + r.getD j 0) = r.getD j 0 + b1 := by rw [w64_id (by omega) (by omega)]; omega
          have hw2 : w64 ((j : Int) + 1) = ((j + 1 : Nat) : Int) := by rw [w64_id (by omega) (by omega)]; omega
          obtain ⟨j0, b', pos', q1, q2, q3, q4, q5⟩ := hinv
          rw [decide_eq_true (by omega), cond_true]
          unfold ref_Greatest_g141
          dsimp only
          rw [hw j hlt, bind_some', g1, bind_some', hck, bind_some', i0, bind_some', v1, bind_some', hw1, hw2]
          by_cases hgt : r.getD j 0 + b1 > best
          · rw [decide_eq_true hgt, cond_true, shift_loop (body := ref_Greatest_b138 (best, (j : Int), l)) (j := (j : Int)) (by omega) p1 g2 g3 (fun _ _ _ => rfl)]
            refine ⟨_, rfl, ⟨j + 1, by omega, by omega, rfl, by simp; omega, by simp, by dsimp only; omega, j, b1, p1, by omega, g1, rfl, rfl, fun i hi b'' p'' hv => ?_⟩, by dsimp only; omega⟩
            dsimp only
            by_cases e : i = j
            · subst e
              rw [g1] at hv
              simp only [Option.some.injEq, Prod.mk.injEq] at hv
              omega
            · have := q5 i (by omega) b'' p'' hv
              omega
          · rw [decide_eq_false hgt, cond_false]
            refine ⟨_, rfl, ⟨j + 1, by omega, by omega, rfl, hl7, hl0, hbb, j0, b', pos', by omega, q2, q3, q4, fun i hi b'' p'' hv => ?_⟩, by dsimp only; omega⟩
            dsimp only
            by_cases e : i = j
            · subst e
              rw [g1] at hv
              simp only [Option.some.injEq, Prod.mk.injEq] at hv
              omega
            · exact q5 i (by omega) b'' p'' hv
        · rw [decide_eq_false (by omega), cond_false]
          have : j = n + 1 := by omega
          subst this
          exact ⟨_, rfl, hinv⟩
      · refine ⟨1, by omega, by omega, rfl, by simp; omega, by simp, by dsimp only; omega, 0, b0, p0, by omega, g1, rfl, rfl, fun i hi b'' p'' hv => ?_⟩
        dsimp only
        have : i = 0 := by omega
        subst this
        rw [g1] at hv
        simp only [Option.some.injEq, Prod.mk.injEq] at hv
        omega
    obtain ⟨⟨best, l⟩, hy, j0, b', pos', q1, q2, q3, q4, q5⟩ := key
    dsimp only at q3 q4 q5
    obtain ⟨b1, p1, g1, g2, g3, g4, g5⟩ := hih j0 (by omega)
    rw [g1] at q2
    simp only [Option.some.injEq, Prod.mk.injEq] at q2
    obtain ⟨rfl, rfl⟩ := q2
    obtain ⟨v1, v2⟩ := hval j0 (by omega)
    refine ⟨best, l, ?_, ?_, ?_, ?_, by omega⟩
    · show ref_Greatest_step (ref_Greatest fuel) fuel (r :: rows) = _
      unfold ref_Greatest_step
      rw [h0, cond_false, hy]; rfl
    · rw [q4]; simp [g2]
    · rw [q4]
      intro p hp
      rcases List.mem_cons.1 hp with rfl | hp
      · omega
      · obtain ⟨p', hp', rfl⟩ := List.mem_map.1 hp
        obtain ⟨a0, a1⟩ := g3 p' hp'
        unfold shiftP
        by_cases hh : p' ≥ (j0 : Int)
        · rw [decide_eq_true hh, cond_true]; omega
        · rw [decide_eq_false hh, cond_false]; omega
    · refine ⟨j0, b1, _, by omega, g4, q3, by rw [q4, shift_names cs j0 p1 g3], fun i hi b'' l'' hm => ?_⟩
      obtain ⟨b2, p2, k1, k2, k3, k4, k5⟩ := hih i hi
      obtain ⟨rfl, _⟩ := MS.uniq n hm k4
      exact q5 i (by omega) _ _ k1
/-! ### what the program finds -/
def bt (s c : Nat) : Bool := s / 2 ^ c % 2 == 1
def cols (n s : Nat) : List Nat := (List.range n).filter (bt s)
theorem cf1 : ∀ n : Nat, n < 7 → ∀ s : Nat, s < 2 ^ n → ∀ i : Nat, i < (cols n s).length → (cols n s).getD i 0 < n ∧ bt s ((cols n s).getD i 0) = true ∧ cols n (s - 2 ^ ((cols n s).getD i 0)) = (cols n s).eraseIdx i ∧ 2 ^ ((cols n s).getD i 0) ≤ s := by decide +kernel
theorem cf2 : ∀ n : Nat, n < 7 → ∀ s : Nat, s < 2 ^ n → ∀ c : Nat, c < n → bt s c = true → (cols n s).idxOf c < (cols n s).length ∧ (cols n s).getD ((cols n s).idxOf c) 0 = c := by decide +kernel
theorem cf3 : ∀ n : Nat, n < 7 → ∀ s : Nat, s < 2 ^ n → ∀ j : Nat, j < (cols n s).length → ∀ i : Nat, i < j → (cols n s).getD i 0 < (cols n s).getD j 0 := by decide +kernel
theorem cf4 : ∀ n : Nat, n < 7 → ∀ s : Nat, s < 2 ^ n → (cols n s).length = pc s ∧ (cols n s).length ≤ n ∧ (0 < s → 0 < (cols n s).length) := by decide +kernel
theorem cf5 : ∀ s : Nat, s < 64 → ∀ c : Nat, c < 6 → bt s c = true → bClr .i64 (s : Int) (bShl .i64 (1 : Int) (c : Int)) = ((s - 2 ^ c : Nat) : Int) := by decide +kernel
theorem cf6 : ∀ s : Nat, s < 64 → ∀ j : Nat, j < 6 → (bAnd .i64 (bShr .i64 (s : Int) (j : Int)) (1 : Int) == (1 : Int)) = bt s j := by decide +kernel
theorem cf7 : ∀ n : Nat, n < 7 → cols n (2 ^ n - 1) = List.range n := by decide +kernel
def mA (m : List (List Int)) (r c : Nat) : Int := (m.getD r []).getD c 0
def rowsOf (m : List (List Int)) (n s : Nat) : List (List Int) := (m.drop (n - (cols n s).length)).map fun r => (cols n s).map fun c => r.getD c 0
theorem map_eraseIdx' {α β : Type} (f : α → β) : ∀ (l : List α) (i : Nat), (l.map f).eraseIdx i = (l.eraseIdx i).map f
  | [], _ => rfl
  | a :: l, 0 => rfl
  | a :: l, i + 1 => by simp only [List.map_cons, List.eraseIdx_cons_succ, map_eraseIdx' f l i]
theorem rows_step {m : List (List Int)} {n s k i : Nat} (hn : n < 7) (hs : s < 2 ^ n) (hk : (cols n s).length = k + 1) (hi : i ≤ k) (hm : m.length = n) :
    ((rowsOf m n s).drop 1).map (·.eraseIdx i) = rowsOf m n (s - 2 ^ ((cols n s).getD i 0)) ∧ (rowsOf m n s).headD [] = (cols n s).map (fun c => (m.getD (n - (k + 1)) []).getD c 0) := by
  obtain ⟨h1, h2, h3, h4⟩ := cf1 n hn s hs i (by omega)
  have hle := (cf4 n hn s hs).2.1
  constructor
  · unfold rowsOf
    rw [h3, List.length_eraseIdx, if_pos (by omega), hk, ← List.map_drop, List.drop_drop, List.map_map]
    have : n - (k + 1) + 1 = n - (k + 1 - 1) := by omega
    rw [this]
    refine List.map_congr_left fun r _ => ?_
    rw [Function.comp, map_eraseIdx']
  · unfold rowsOf
    have hlt : n - (k + 1) < m.length := by omega
    rw [hk, List.drop_eq_getElem_cons hlt, List.map_cons, List.headD_cons]
    have : m.getD (n - (k + 1)) [] = m[n - (k + 1)] := by rw [List.getD_eq_getElem?_getD, List.getElem?_eq_getElem hlt]; rfl
    rw [this]
def GoodV (m : List (List Int)) (n s : Nat) (v : Int) : Prop := ∃ l, MS (cols n s).length (rowsOf m n s) (cols n s) v l ∧ v.natAbs ≤ 20 * (cols n s).length
theorem least_ex (P : Nat → Prop) [DecidablePred P] : ∀ N : Nat, (∃ j, j < N ∧ P j) → ∃ j, j < N ∧ P j ∧ ∀ i, i < j → ¬ P i
  | 0, ⟨j, hj, _⟩ => by omega
  | N + 1, ⟨j, hj, hp⟩ => by
    by_cases h : ∃ i, i < N ∧ P i
    · obtain ⟨i, hi, h1, h2⟩ := least_ex P N h
      exact ⟨i, by omega, h1, h2⟩
    · have : j = N := by
        by_cases e : j = N
        · exact e
        · exact (h ⟨j, by omega, hp⟩).elim
      subst this
      exact ⟨j, by omega, hp, fun i hi hpi => h ⟨i, hi, hpi⟩⟩
theorem head_at {m : List (List Int)} {n s k i : Nat} (hn : n < 7) (hs : s < 2 ^ n) (hk : (cols n s).length = k + 1) (hi : i ≤ k) (hm : m.length = n) : ((rowsOf m n s).headD []).getD i 0 = mA m (n - (k + 1)) ((cols n s).getD i 0) := by
  rw [(rows_step hn hs hk hi hm).2]
  unfold mA
  rw [List.getD_eq_getElem?_getD, List.getElem?_map, List.getD_eq_getElem?_getD (l := cols n s), List.getElem?_eq_getElem (show i < (cols n s).length by omega)]
  rfl
/-- the best from the best of what is left -/
theorem good_of {m : List (List Int)} {n s k : Nat} {v : Int} {val : Nat → Int} (hn : n < 7) (hs : s < 2 ^ n) (hk : (cols n s).length = k + 1) (hm : m.length = n) (hb : v.natAbs ≤ 20 * (k + 1))
    (hg : ∀ c, c < n → bt s c = true → GoodV m n (s - 2 ^ c) (val (s - 2 ^ c))) (hle : ∀ c, c < n → bt s c = true → mA m (n - (k + 1)) c + val (s - 2 ^ c) ≤ v) (hat : ∃ c, c < n ∧ bt s c = true ∧ v = mA m (n - (k + 1)) c + val (s - 2 ^ c)) : GoodV m n s v := by
  obtain ⟨c, hc, hbc, hv⟩ := hat
  obtain ⟨f1, f2⟩ := cf2 n hn s hs c hc hbc
  obtain ⟨j, hj, hj1, hj2⟩ := least_ex (fun i => v = mA m (n - (k + 1)) ((cols n s).getD i 0) + val (s - 2 ^ ((cols n s).getD i 0))) (k + 1) ⟨(cols n s).idxOf c, by omega, by rw [f2]; exact hv⟩
  have at_ : ∀ i, i ≤ k → ∃ l, MS k ((rowsOf m n s).drop 1 |>.map (·.eraseIdx i)) ((cols n s).eraseIdx i) (val (s - 2 ^ ((cols n s).getD i 0))) l := by
    intro i hi
    obtain ⟨h1, h2, h3, h4⟩ := cf1 n hn s hs i (by omega)
    obtain ⟨l, hl, _⟩ := hg _ h1 h2
    rw [(rows_step hn hs hk hi hm).1, ← h3]
    have : (cols n (s - 2 ^ ((cols n s).getD i 0))).length = k := by rw [h3, List.length_eraseIdx, if_pos (by omega)]; omega
    rw [this] at hl
    exact ⟨l, hl⟩
  obtain ⟨l, hl⟩ := at_ j (by omega)
  refine ⟨(cols n s).getD j 0 :: l, ?_, by rw [hk]; exact hb⟩
  rw [hk]
  refine ⟨j, _, l, by omega, hl, by rw [head_at hn hs hk (by omega) hm]; exact hj1, rfl, fun i hi b'' l'' hms => ?_⟩
  obtain ⟨l2, hl2⟩ := at_ i hi
  obtain ⟨rfl, _⟩ := MS.uniq k hms hl2
  obtain ⟨h1, h2, _, _⟩ := cf1 n hn s hs i (by omega)
  have := hle _ h1 h2
  rw [head_at hn hs hk hi hm]
  refine ⟨this, fun hlt => ?_⟩
  have := hj2 i hlt
  omega
theorem mA_at {m : List (List Int)} {n r c : Nat} (h : SqOk n m) (hr : r < n) (hc : c < n) : ∃ row, idx m (r : Int) = some row ∧ m[r]? = some row ∧ idx row (c : Int) = some (mA m r c) ∧ (mA m r c).natAbs ≤ 20 := by
  have hl : r < m.length := by rw [h.len]; exact hr
  have hg : m[r]? = some m[r] := List.getElem?_eq_getElem hl
  have hrl := h.row m[r] (List.getElem_mem hl)
  have e : mA m r c = m[r].getD c 0 := by unfold mA; rw [List.getD_eq_getElem?_getD (l := m), hg]; rfl
  have hg2 : m[r][c]? = some (mA m r c) := by rw [e, List.getD_eq_getElem?_getD, List.getElem?_eq_getElem (by omega)]; rfl
  exact ⟨m[r], by rw [idx_nat]; exact hg, hg, by rw [idx_nat]; exact hg2, h.val m[r] (List.getElem_mem hl) _ (List.mem_of_getElem? hg2)⟩
theorem pow_lt64 {n s : Nat} (hn : n < 7) (hs : s < 2 ^ n) : s < 64 := Nat.lt_of_lt_of_le hs (by have := Nat.pow_le_pow_right (n := 2) (by omega) (show n ≤ 6 by omega); simpa using this)
theorem best_round {m : List (List Int)} {n s : Nat} {arr : List Int} (hn : n < 7) (h : SqOk n m) (hs : s < 2 ^ n) (hs1 : 0 < s) (hal : arr.length = 2 ^ n) (hgood : ∀ t, t < s → GoodV m n t (arr.getD t 0)) :
    ∃ y, forL (pairs_Most_b25 m ((s : Int), arr) ((pc s : Nat) : Int)) (fun x => x) m 0 (List.set arr s (-20 * (n : Int))) = some y ∧ y.length = 2 ^ n ∧ (∀ t, t ≠ s → y[t]? = arr[t]?) ∧ ∃ v, y[s]? = some v ∧ GoodV m n s v := by
  obtain ⟨c41, c42, c43⟩ := cf4 n hn s hs
  have hk1 := c43 hs1
  obtain ⟨k, hk⟩ : ∃ k, (cols n s).length = k + 1 := ⟨(cols n s).length - 1, by omega⟩
  have h64 := pow_lt64 hn hs
  have hclr : ∀ c, c < n → bt s c = true → s - 2 ^ c < s ∧ (arr.getD (s - 2 ^ c) 0).natAbs ≤ 20 * k ∧ GoodV m n (s - 2 ^ c) (arr.getD (s - 2 ^ c) 0) := by
    intro c hc hb
    obtain ⟨f1, f2⟩ := cf2 n hn s hs c hc hb
    obtain ⟨g1, g2, g3, g4⟩ := cf1 n hn s hs _ f1
    rw [f2] at g3 g4
    have hpos : 0 < 2 ^ c := Nat.two_pow_pos c
    have hlt : s - 2 ^ c < s := by omega
    have hg := hgood _ hlt
    obtain ⟨l, _, hb2⟩ := hg
    rw [g3, List.length_eraseIdx, if_pos f1, hk] at hb2
    exact ⟨hlt, hb2, hgood _ hlt⟩
  have hml : m.length = n := h.len
  obtain ⟨y, h1, h2, h3, v, h4, h5, h6, h7, h8⟩ := forL_inv (body := pairs_Most_b25 m ((s : Int), arr) ((pc s : Nat) : Int)) (fin := fun x => x) (l := m) (x := List.set arr s (-20 * (n : Int)))
    (fun J x => x.length = 2 ^ n ∧ (∀ t, t ≠ s → x[t]? = arr[t]?) ∧ ∃ v : Int, x[s]? = some v ∧ -20 * (n : Int) ≤ v ∧ v ≤ 20 * (n : Int) ∧ (∀ c, c < J → bt s c = true → mA m (n - (k + 1)) c + arr.getD (s - 2 ^ c) 0 ≤ v) ∧
      (v = -20 * (n : Int) ∨ ∃ c, c < J ∧ bt s c = true ∧ v = mA m (n - (k + 1)) c + arr.getD (s - 2 ^ c) 0))
    (fun x => x.length = 2 ^ n ∧ (∀ t, t ≠ s → x[t]? = arr[t]?) ∧ ∃ v : Int, x[s]? = some v ∧ -20 * (n : Int) ≤ v ∧ v ≤ 20 * (n : Int) ∧ (∀ c, c < n → bt s c = true → mA m (n - (k + 1)) c + arr.getD (s - 2 ^ c) 0 ≤ v) ∧
      (v = -20 * (n : Int) ∨ ∃ c, c < n ∧ bt s c = true ∧ v = mA m (n - (k + 1)) c + arr.getD (s - 2 ^ c) 0))
    ⟨by simpa using hal, fun t ht => by rw [List.getElem?_set]; rw [if_neg (Ne.symm ht)], _, by rw [List.getElem?_set, if_pos rfl, if_pos (by omega)], by omega, by omega, by omega, .inl rfl⟩
    (by
      rintro j row x hrow ⟨hx1, hx2, v, hx3, hx4, hx5, hx6, hx7⟩
      have hj : j < n := by have := (List.getElem?_eq_some_iff.1 hrow).1; omega
      have hck : ck (0 ≤ (j : Int)) = some () := ck_ok (by omega)
      unfold pairs_Most_b25 pairs_Most_g23
      dsimp only
      rw [hck, bind_some', cf6 s h64 j (by omega)]
      cases hb : bt s j with
      | false =>
        refine ⟨_, rfl, hx1, hx2, v, hx3, hx4, hx5, fun c hc hbc => ?_, ?_⟩
        · by_cases e : c = j
          · subst e; rw [hb] at hbc; cases hbc
          · exact hx6 c (by omega) hbc
        · rcases hx7 with hx7 | ⟨c, hc, r⟩
          · exact .inl hx7
          · exact .inr ⟨c, by omega, r⟩
      | true =>
        obtain ⟨d1, d2, d3⟩ := hclr j hj hb
        obtain ⟨row', r1, r2, r3, r4⟩ := mA_at h (show n - (k + 1) < n by omega) hj
        have hwn : w64 ((List.length m : Int) - ((pc s : Nat) : Int)) = ((n - (k + 1) : Nat) : Int) := by rw [← c41, hk, h.len, w64_id (by omega) (by omega)]; omega
        have hcl : idx x (bClr .i64 (s : Int) (bShl .i64 (1 : Int) (j : Int))) = some (arr.getD (s - 2 ^ j) 0) := by
          rw [cf5 s h64 j (by omega) hb, idx_nat, hx2 _ (by omega), List.getD_eq_getElem?_getD, List.getElem?_eq_getElem (by omega)]; rfl
        have hws : w64 (mA m (n - (k + 1)) j + arr.getD (s - 2 ^ j) 0) = mA m (n - (k + 1)) j + arr.getD (s - 2 ^ j) 0 := w64_id (by omega) (by omega)
        rw [cond_true, idx_nat, hx3, bind_some', hwn, r1, bind_some', r3, bind_some', hcl, bind_some', hws]
        generalize hu : mA m (n - (k + 1)) j + arr.getD (s - 2 ^ j) 0 = u at *
        have him : imax v u = if v < u then u else v := rfl
        refine ⟨_, rfl, by simpa using hx1, fun t ht => ?_, imax v u, ?_, ?_, ?_, fun c hc hbc => ?_, ?_⟩
        · rw [Int.toNat_natCast, List.getElem?_set, if_neg (Ne.symm ht)]; exact hx2 t ht
        · rw [Int.toNat_natCast, List.getElem?_set, if_pos rfl, if_pos (by omega)]
        · rw [him]; split <;> omega
        · rw [him]; split <;> omega
        · rw [him]
          by_cases e : c = j
          · subst e; rw [hu]; split <;> omega
          · have := hx6 c (by omega) hbc
            split <;> omega
        · rw [him]
          split
          · exact .inr ⟨j, by omega, hb, hu.symm⟩
          · rcases hx7 with hx7 | ⟨c, hc, r⟩
            · exact .inl hx7
            · exact .inr ⟨c, by omega, r⟩)
    (by rintro x hx; rw [hml] at hx; exact hx)
  refine ⟨y, h1, h2, h3, v, h4, ?_⟩
  obtain ⟨g1, g2, g3, g4⟩ := cf1 n hn s hs 0 (by omega)
  obtain ⟨row', r1, r2, r3, r4⟩ := mA_at h (show n - (k + 1) < n by omega) g1
  have hc0 := hclr _ g1 g2
  have hl0 := h7 _ g1 g2
  have hat : ∃ c, c < n ∧ bt s c = true ∧ v = mA m (n - (k + 1)) c + arr.getD (s - 2 ^ c) 0 := by
    rcases h8 with h8 | h8
    · exact ⟨_, g1, g2, by omega⟩
    · exact h8
  refine good_of (val := fun t => arr.getD t 0) hn hs hk hml ?_ (fun c hc hb => (hclr c hc hb).2.2) h7 hat
  obtain ⟨c, hc, hb, rfl⟩ := hat
  obtain ⟨_, _, _, _, r5⟩ := mA_at h (show n - (k + 1) < n by omega) hc
  have := (hclr c hc hb).2.1
  omega
/-- all of them -/
theorem best_all {m : List (List Int)} {n : Nat} (hn : n < 7) (h : SqOk n m) {fuel : Nat} (hf : 70 < fuel) : ∃ arr, iter (pairs_Most_b28 m) fuel ((1 : Int), List.replicate (2 ^ n) (0 : Int)) = some arr ∧ arr.length = 2 ^ n ∧ ∀ s, s < 2 ^ n → ∃ v, arr[s]? = some v ∧ GoodV m n s v := by
  have hp : 0 < 2 ^ n := Nat.two_pow_pos n
  have h64 : 2 ^ n ≤ 64 := by
    have := Nat.pow_le_pow_right (n := 2) (by omega) (show n ≤ 6 by omega)
    simpa using this
  have hshl : bShl .i64 (1 : Int) (List.length m : Int) = ((2 ^ n : Nat) : Int) := by rw [h.len]; exact bShl_one (by omega)
  refine iter_inv (f := pairs_Most_b28 m) (fun x => ∃ s : Nat, 0 < s ∧ s ≤ 2 ^ n ∧ x.1 = (s : Int) ∧ x.2.length = 2 ^ n ∧ ∀ t, t < s → ∃ v, x.2[t]? = some v ∧ GoodV m n t v) (fun x => (66 - x.1).toNat) (fun arr => arr.length = 2 ^ n ∧ ∀ s, s < 2 ^ n → ∃ v, arr[s]? = some v ∧ GoodV m n s v) ?_ fuel _ (by dsimp only; omega) ?_
  · rintro ⟨ss, arr⟩ ⟨s, hs0, hs1, rfl, hal, hg⟩
    unfold pairs_Most_b28
    dsimp only at *
    rw [hshl]
    by_cases hlt : s < 2 ^ n
    · have hs64 := pow_lt64 hn hlt
      have hgood : ∀ t, t < s → GoodV m n t (arr.getD t 0) := by
        intro t ht
        obtain ⟨v, hv, hgv⟩ := hg t ht
        have : arr.getD t 0 = v := by rw [List.getD_eq_getElem?_getD, hv]; rfl
        rw [this]; exact hgv
      obtain ⟨y, q1, q2, q3, q4⟩ := best_round hn h hlt hs0 hal hgood
      obtain ⟨v0, hv0, _⟩ := idx_get (xs := arr) (i := (s : Int)) (by omega) (by omega)
      have hw1 : w64 ((w64 (0 - (List.length m : Int))) * (20 : Int)) = -20 * (n : Int) := by
        rw [h.len, w64_id (n := 0 - (n : Int)) (by omega) (by omega), w64_id (by omega) (by omega)]; omega
      have hw2 : w64 ((s : Int) + 1) = ((s + 1 : Nat) : Int) := by rw [w64_id (by omega) (by omega)]; omega
      rw [decide_eq_true (by omega), cond_true, wrap_u64 (by omega) (by omega), ones_eq s hs64, bind_some', hv0, bind_some', hw1, Int.toNat_natCast, q1, bind_some', hw2]
      refine ⟨_, rfl, ⟨s + 1, by omega, by omega, rfl, q2, fun t ht => ?_⟩, by dsimp only; omega⟩
      by_cases e : t = s
      · subst e; exact q4
      · dsimp only
        rw [q3 t e]; exact hg t (by omega)
    · rw [decide_eq_false (by omega), cond_false]
      have : s = 2 ^ n := by omega
      subst this
      exact ⟨_, rfl, hal, hg⟩
  · refine ⟨1, by omega, by omega, rfl, by simp, fun t ht => ?_⟩
    have : t = 0 := by omega
    subst this
    refine ⟨0, by simp [hp], [], ?_, by simp⟩
    have hc : ∀ n : Nat, n < 7 → (cols n 0).length = 0 := by decide +kernel
    rw [hc n hn]
    exact ⟨rfl, rfl⟩
/-- the first choice that is as good -/
theorem pick_round {m : List (List Int)} {n s k : Nat} {arr l : List Int} {row : List Int} {v : Int} {rest : List Nat} (hn : n < 7) (h : SqOk n m) (hs : s < 2 ^ n) (hk : (cols n s).length = k + 1) (hal : arr.length = 2 ^ n)
    (hgood : ∀ t, t < 2 ^ n → ∃ v, arr[t]? = some v ∧ GoodV m n t v) (hv : arr[s]? = some v) (hms : MS (k + 1) (rowsOf m n s) (cols n s) v rest) (hrow : m[n - (k + 1)]? = some row) (hl : l.length ≤ 6) {fuel : Nat} (hf : 20 < fuel) :
    ∃ c rest' v', c < n ∧ bt s c = true ∧ 2 ^ c ≤ s ∧ rest = c :: rest' ∧ iter (pairs_Most_b55 m arr ((s : Int), l) row) fuel (0 : Int) = some (((s - 2 ^ c : Nat) : Int), l ++ [(c : Int)]) ∧ (cols n (s - 2 ^ c)).length = k ∧ arr[s - 2 ^ c]? = some v' ∧ MS k (rowsOf m n (s - 2 ^ c)) (cols n (s - 2 ^ c)) v' rest' := by
  have hml := h.len
  have hs64 := pow_lt64 hn hs
  have hle := (cf4 n hn s hs).2.1
  obtain ⟨j, b', l', hj, h1, h2, h3, h4⟩ := hms
  obtain ⟨g1, g2, g3, g4⟩ := cf1 n hn s hs j (by omega)
  rw [(rows_step hn hs hk hj hml).1, ← g3] at h1
  rw [head_at hn hs hk hj hml] at h2
  have hkc : ∀ i, i ≤ k → (cols n (s - 2 ^ ((cols n s).getD i 0))).length = k := by
    intro i hi
    rw [(cf1 n hn s hs i (by omega)).2.2.1, List.length_eraseIdx, if_pos (by omega)]; omega
  -- what a column gives
  have hval : ∀ i, i ≤ k → ∃ u l2, arr[s - 2 ^ ((cols n s).getD i 0)]? = some u ∧ MS k (rowsOf m n (s - 2 ^ ((cols n s).getD i 0))) (cols n (s - 2 ^ ((cols n s).getD i 0))) u l2 ∧ u.natAbs ≤ 20 * k := by
    intro i hi
    obtain ⟨u, hu, l2, hm2, hb2⟩ := hgood (s - 2 ^ ((cols n s).getD i 0)) (Nat.lt_of_le_of_lt (Nat.sub_le _ _) hs)
    rw [hkc i hi] at hm2 hb2
    exact ⟨u, l2, hu, hm2, hb2⟩
  obtain ⟨u, l2, u1, u2, u3⟩ := hval j hj
  obtain ⟨e1, e2⟩ := MS.uniq k h1 u2
  subst e1 e2
  refine ⟨(cols n s).getD j 0, l', b', g1, g2, g4, h3, ?_, hkc j hj, u1, u2⟩
  have hne : ∀ c, c < (cols n s).getD j 0 → bt s c = true → ∀ u, arr[s - 2 ^ c]? = some u → v ≠ mA m (n - (k + 1)) c + u ∧ u.natAbs ≤ 20 * k := by
    intro c hc hb u hu
    obtain ⟨f1, f2⟩ := cf2 n hn s hs c (by omega) hb
    have hij : (cols n s).idxOf c < j := by
      rcases Nat.lt_trichotomy ((cols n s).idxOf c) j with hlt | heq | hgt
      · exact hlt
      · rw [heq] at f2; omega
      · have := cf3 n hn s hs _ f1 j hgt; omega
    obtain ⟨u', l3, k1, k2, k3⟩ := hval ((cols n s).idxOf c) (by omega)
    rw [f2] at k1 k2
    rw [hu] at k1
    obtain rfl := Option.some.inj k1
    have hh := h4 ((cols n s).idxOf c) (by omega) u l3 (by
      rw [(rows_step hn hs hk (by omega) hml).1, ← (cf1 n hn s hs _ f1).2.2.1, f2]; exact k2)
    rw [head_at hn hs hk (by omega) hml, f2] at hh
    exact ⟨by have := hh.2 hij; omega, k3⟩
  have hget : ∀ c, c < n → bt s c = true → ∃ u, arr[s - 2 ^ c]? = some u := by
    intro c hc hb
    obtain ⟨u, hu, _⟩ := hgood (s - 2 ^ c) (Nat.lt_of_le_of_lt (Nat.sub_le _ _) hs)
    exact ⟨u, hu⟩
  have hrowat : ∀ c, c < n → idx row (c : Int) = some (mA m (n - (k + 1)) c) ∧ (mA m (n - (k + 1)) c).natAbs ≤ 20 := by
    intro c hc
    obtain ⟨row', r1, r2, r3, r4⟩ := mA_at h (show n - (k + 1) < n by omega) hc
    rw [hrow] at r2
    obtain rfl := Option.some.inj r2
    exact ⟨r3, r4⟩
  obtain ⟨y, q1, q2⟩ := iter_inv (f := pairs_Most_b55 m arr ((s : Int), l) row) (fun x => ∃ c : Nat, x = (c : Int) ∧ c ≤ (cols n s).getD j 0) (fun x => (10 - x).toNat) (fun y => y = (((s - 2 ^ ((cols n s).getD j 0) : Nat) : Int), l ++ [((((cols n s).getD j 0) : Nat) : Int)])) (by
      rintro _ ⟨c, rfl, hc⟩
      have hcn : c < n := by omega
      have hck : ck (0 ≤ (c : Int)) = some () := ck_ok (by omega)
      have hckl : ck ((List.length l : Int) + 1 ≤ 4294967296) = some () := ck_ok (by omega)
      have hw2 : w64 ((c : Int) + 1) = ((c + 1 : Nat) : Int) := by rw [w64_id (by omega) (by omega)]; omega
      unfold pairs_Most_b55 pairs_Most_g53
      dsimp only
      rw [hckl, hck, hml, decide_eq_true (by omega), cond_true, bind_some', cf6 s hs64 c (by omega), hw2]
      cases hb : bt s c with
      | false =>
        have : c ≠ (cols n s).getD j 0 := fun e => by rw [e, g2] at hb; cases hb
        exact ⟨_, rfl, ⟨c + 1, rfl, by omega⟩, by omega⟩
      | true =>
        obtain ⟨u, hu⟩ := hget c hcn hb
        obtain ⟨r1, r2⟩ := hrowat c hcn
        have hub : u.natAbs ≤ 20 * k := by
          by_cases e : c = (cols n s).getD j 0
          · subst e; rw [u1] at hu; obtain rfl := Option.some.inj hu; exact u3
          · exact (hne c (by omega) hb u hu).2
        rw [cond_true, cf5 s hs64 c (by omega) hb, idx_nat, hv, bind_some', r1, bind_some', idx_nat, hu, bind_some', w64_id (by omega) (by omega), bind_some']
        by_cases e : c = (cols n s).getD j 0
        · subst e
          rw [u1] at hu
          obtain rfl := Option.some.inj hu
          rw [show (v == mA m (n - (k + 1)) ((cols n s).getD j 0) + b') = true from by simpa using h2]
          exact ⟨_, rfl, rfl⟩
        · have := (hne c (by omega) hb u hu).1
          rw [show (v == mA m (n - (k + 1)) c + u) = false from by simpa using this]
          exact ⟨_, rfl, ⟨c + 1, rfl, by omega⟩, by omega⟩) fuel (0 : Int) (by omega) ⟨0, rfl, by omega⟩
  rw [q1, q2]
theorem rowsOf_full {m : List (List Int)} {n : Nat} (hn : n < 7) (h : SqOk n m) : rowsOf m n (2 ^ n - 1) = m := by
  unfold rowsOf
  rw [cf7 n hn, List.length_range, Nat.sub_self, List.drop_zero]
  conv => rhs; rw [← List.map_id m]
  refine List.map_congr_left fun r hr => ?_
  have hl := h.row r hr
  apply List.ext_getElem?
  intro i
  by_cases hi : i < n
  · rw [List.getElem?_map, List.getElem?_range hi]
    simp [List.getD_eq_getElem?_getD, List.getElem?_eq_getElem (show i < r.length by omega)]
  · rw [List.getElem?_eq_none (by simp; omega), List.getElem?_eq_none (by simp; omega)]
theorem PairsMosts_true (a0 : List (List Int)) (f0 : Fits (.slice (.slice (.int .i64))) a0) : ∃ fuel, law_PairsMosts fuel a0 = some true := by
  refine ⟨100, ?_⟩
  unfold law_PairsMosts pairs_Most
  rw [sq_wrong, sq_ref, bind_some']
  by_cases h0 : sqAll a0 = 0
  · obtain ⟨⟨l1, l2⟩, hsq⟩ := sq_ok h0
    rw [h0]
    generalize hN : a0.length = n at *
    have hp : 0 < 2 ^ n := Nat.two_pow_pos n
    have h64 : 2 ^ n ≤ 64 := by
      have := Nat.pow_le_pow_right (n := 2) (by omega) (show n ≤ 6 by omega)
      simpa using this
    have hshl : bShl .i64 (1 : Int) (n : Int) = ((2 ^ n : Nat) : Int) := bShl_one (by omega)
    have hck1 : ck (0 ≤ (n : Int)) = some () := ck_ok (by omega)
    have hck2 : ck (0 ≤ ((2 ^ n : Nat) : Int) ∧ ((2 ^ n : Nat) : Int) = ((2 ^ n : Nat) : Int) ∧ ((2 ^ n : Nat) : Int) ≤ 4294967296) = some () := ck_ok (by omega)
    have hw : w64 (((2 ^ n : Nat) : Int) - 1) = ((2 ^ n - 1 : Nat) : Int) := by rw [w64_id (by omega) (by omega)]; omega
    obtain ⟨arr, e1, e2, e3⟩ := best_all (m := a0) (n := n) (by omega) hsq (fuel := 100) (by omega)
    obtain ⟨v, hv, L, hL, hvb⟩ := e3 (2 ^ n - 1) (by omega)
    rw [cf7 n (by omega), List.length_range, rowsOf_full (by omega) hsq] at hL
    have hlenL : ∀ (k : Nat) (rows : List (List Int)) (cs : List Nat) (b : Int) (l : List Nat), MS k rows cs b l → l.length = k := by
      intro k
      induction k with
      | zero => rintro rows cs b l ⟨_, rfl⟩; rfl
      | succ k ih => rintro rows cs b l ⟨j, b', l', _, h1, _, rfl, _⟩; rw [List.length_cons, ih _ _ _ _ h1]
    have hLn := hlenL _ _ _ _ _ hL
    obtain ⟨y, p1, p2⟩ := forL_inv (body := pairs_Most_b58 a0 100 arr) (fin := fun x => x.2) (l := a0) (x := (((2 ^ n - 1 : Nat) : Int), ([] : List Int)))
      (fun i x => ∃ s : Nat, s < 2 ^ n ∧ x.1 = (s : Int) ∧ (cols n s).length + i = n ∧ x.2 = (L.take i).map (fun (c : Nat) => (c : Int)) ∧ ∃ b, arr[s]? = some b ∧ MS (cols n s).length (rowsOf a0 n s) (cols n s) b (L.drop i)) (fun y => y = L.map (fun (c : Nat) => (c : Int)))
      ⟨2 ^ n - 1, by omega, rfl, by rw [cf7 n (by omega), List.length_range]; rfl, rfl, v, hv, by rw [cf7 n (by omega), List.length_range, rowsOf_full (by omega) hsq]; exact hL⟩
      (by
        rintro i row ⟨ss, l⟩ hrow ⟨s, hs, rfl, hlen, rfl, b, hb, hms⟩
        have hi : i < n := by have := (List.getElem?_eq_some_iff.1 hrow).1; omega
        obtain ⟨k, hk⟩ : ∃ k, (cols n s).length = k + 1 := ⟨(cols n s).length - 1, by omega⟩
        rw [hk] at hms
        have hik : i = n - (k + 1) := by omega
        obtain ⟨c, rest', v', r1, r2, r3, r4, r5, r6, r7, r8⟩ := pick_round (fuel := 100) (l := (L.take i).map (fun (c : Nat) => (c : Int))) (by omega) hsq hs hk e2 e3 hb hms (by rw [← hik]; exact hrow) (by simp; omega) (by omega)
        unfold pairs_Most_b58
        try dsimp only
        rw [r5, bind_some']
        have hLi : L[i]? = some c := by
          have : (L.drop i)[0]? = some c := by rw [r4]; rfl
          rw [List.getElem?_drop] at this
          exact this
        have hLd : L.drop (i + 1) = rest' := by
          have : (L.drop i).drop 1 = rest' := by rw [r4]; rfl
          rw [List.drop_drop] at this
          exact this
        refine ⟨_, rfl, s - 2 ^ c, Nat.lt_of_le_of_lt (Nat.sub_le _ _) hs, rfl, by omega, ?_, v', r7, by rw [r6, hLd]; exact r8⟩
        try dsimp only
        rw [List.take_add_one, hLi]; simp)
      (by
        rintro ⟨ss, l⟩ ⟨s, _, _, _, rfl, _⟩
        try dsimp only
        rw [List.take_of_length_le (by omega)])
    have hfin : idx arr ((2 ^ n - 1 : Nat) : Int) = some v := by rw [idx_nat]; exact hv
    obtain ⟨b, pos, g1, g2, g3, g4, g5⟩ := most_r n 100 a0 (List.range n) (by omega) (by omega) hsq (by simp)
    obtain ⟨rfl, hpos⟩ := MS.uniq n hL g4
    have hposL : pos = L.map (fun (c : Nat) => (c : Int)) := by
      rw [hpos, List.map_map]
      conv => lhs; rw [← List.map_id pos]
      refine List.map_congr_left fun p hp => ?_
      obtain ⟨p0, p1⟩ := g3 p hp
      have : (List.range n).getD p.toNat 0 = p.toNat := by rw [List.getD_eq_getElem?_getD, List.getElem?_range (by omega)]; rfl
      rw [Function.comp, this]
      show p = _
      omega
    have hints : ref_Ints y pos = some true := by rw [ref_Ints_eq, p2, hposL]; simp
    rw [hshl, hck1, hck2, hw, Int.toNat_natCast, e1]
    show (((forL (pairs_Most_b58 a0 100 arr) (fun x576 => x576.2) a0 0 (((2 ^ n - 1 : Nat) : Int), [])).bind fun v674 => (idx arr ((2 ^ n - 1 : Nat) : Int)).bind fun v679 => some (v679, v674, (0 : Int))).bind fun r1 => _) = _
    rw [p1, hfin]
    show ((ref_Greatest 100 a0).bind fun r6 => _) = _
    rw [g1]
    simp [hints]
  · have h1 : (sqAll a0 != 0) = true := by simpa using h0
    simp only [h1, cond_true, bind_some', cond_false]
    simp

end Go.Proofs.Ytjghcbdfpcpahaa.pairsMosts
namespace Go.Proofs.Ytjghcbdfpcpahaa.pairsMosts
open Go.ChangeShapes Go.WideShapes Go.ChangeAt Go.RowKit
open Go.ChangeMaps (open_string shut_string)
theorem own : ownKnob Try.prog.godebug = none := by kernel_rfl
theorem laidOut : laidOutB Try.prog = true := by kernel_rfl
theorem lifted (os : Os) (started : os.Started) (H : Type) (enc : TypeId × Value → H) :
    ReturnsInHanded {} Try.checked os 11 .any (Rows.pairsMostsSpec.pre6 enc Try.prog Try.f11 Rows.pairsMostsRow.domain false) (Rows.pairsMostsSpec.post enc Try.prog Try.f11 false true false false) := by
  refine returnsInHanded_of_change (C := Try.checked) own started (by kernel_rfl) Try.func11
    (ChangeSpec.witness6 (enc := enc) (C := Try.checked) false ⟨#[], #[.slice none 0 0], []⟩ 8 (by kernel_rfl) (by kernel_rfl) (by kernel_rfl) (by kernel_rfl)) ?_
  intro W base args ds gs before hval0 hW hcnd _
  have hval : ∀ (j : Nat) t v, Try.f11.params[j]? = some t → args[j]? = some v → Value.okWide Try.prog W .any base t v := hval0
  have hW' := hW
  obtain ⟨p, q, hA0, hV, rfl, hfz, hnd⟩ := hW
  have hA : DataW.TrodAll enc Try.prog W 0 (fun _ => true) true Try.f11.params.toList args.toList ds p := hA0
  rw [Try.params11] at hA hval
  obtain ⟨v0, vs0, d0, ds0, p0, q0, hargs, rfl, rfl, h0, r0⟩ := trodAll_cons hA
  obtain ⟨rfl, rfl, rfl⟩ := trodAll_nil r0
  obtain rfl : args = #[v0] := by cases args; simp_all
  obtain ⟨rfl, rfl⟩ := trodVars_none hV
  obtain ⟨x0, f0, k0⟩ := Go.Sl.read_arg (u := (.slice (.slice (.int .i64)))) (by kernel_rfl) (by kernel_rfl) (hval 0 46 v0 rfl rfl) h0
  have lt0 : ∀ x ∈ p0, x.block < W.heap.size := by obtain ⟨m, hm⟩ := h0; exact DataW.trod_lt m _ _ _ hm
  clear hA0 hval0
  obtain ⟨fuel, hm⟩ := PairsMosts_true x0 f0
  refine (Go.Sl.law_of (vs := [v0]) (law_PairsMosts_ok hm) rfl (.cons (k0 _ _) .nil)).mono fun e W' ⟨he, bel⟩ => ?_
  subst he
  exact ⟨_, rfl, _, _, _, [], _, [], hW', trodAll_mk1 (shut_bool Try.underlying4 _), (trodAll_cons_mk (Below.trod laidOut (by kernel_rfl) (of_decide_eq_true (by kernel_rfl)) h0 bel lt0) trodAll_mk0), rfl, bel.frame _, fun h => by cases h⟩
theorem proved : Rows.PairsMostsSaid :=
  OpenClaim.holds_of_wide 11 Try.f11 rfl rfl rfl rfl rfl rfl rfl ⟨rfl, rfl, rfl, rfl, rfl⟩ rfl rfl rfl rfl rfl (by kernel_rfl) Try.func11 (by kernel_rfl)
    (of_decide_eq_true (by kernel_rfl)) (by unfold Func.isWrapper; first | (rw [if_pos (by decide +kernel)]; kernel_rfl) | (rw [if_neg (by decide +kernel)]; exact ⟨rfl, rfl⟩))
    (fun os started H enc _ => lifted os started H enc)
#print axioms proved
end Go.Proofs.Ytjghcbdfpcpahaa.pairsMosts
