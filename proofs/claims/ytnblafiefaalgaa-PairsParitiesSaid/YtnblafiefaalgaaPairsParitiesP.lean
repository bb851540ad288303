/- For any square pairs.Parity tells whether the sum of all choices is odd: PairsParities returns true and changes nothing; no conditions. -/
import Derived.Test.YtnblafiefaalgaaRows
import Derived.WalkKit
import Derived.ProofKit
import Derived.OpenShut
import Derived.ShutString
import Derived.ChangeOld
import Derived.Below
import Derived.Test.YtnblafiefaalgaaPairsParitiesM
set_option linter.all false
set_option maxRecDepth 100000
namespace Go.Proofs.Ytnblafiefaalgaa.pairsParities
open Go Go.Sl

theorem within_eq (a b c : Int) : ref_Within a b c = some (decide (a ≤ b ∧ b ≤ c)) := by
  unfold ref_Within
  rw [Bool.decide_and]

theorem cc_grow {n : Nat} (h : n ≤ 4294967296) : slices_Grow_Lintint (n : Int) = some [] := by
  unfold slices_Grow_Lintint
  rw [decide_eq_false (by omega), cond_false, Int.sub_zero, w64_id (by omega) (by omega)]
  by_cases h0 : (n : Int) > 0
  · rw [decide_eq_true h0, cond_true, ck_ok (show 0 ≤ (n : Int) ∧ (n : Int) ≤ 4294967296 by omega)]; rfl
  · rw [decide_eq_false h0]; rfl
theorem flat_take {α : Type} {l : List (List α)} {n : Nat} {v : List α} (h : l[n]? = some v) : (l.take (n + 1)).flatten = (l.take n).flatten ++ v := by
  rw [List.take_add_one, h]; simp
theorem flat_le {α : Type} (l : List (List α)) (n : Nat) : (l.take n).flatten.length ≤ l.flatten.length := by
  have : l = l.take n ++ l.drop n := (List.take_append_drop n l).symm
  conv => rhs; rw [this, List.flatten_append, List.length_append]
  omega
theorem cc_concat {l : List (List Int)} (h : l.flatten.length ≤ 1000000) : slices_Concat_Lintint l = some l.flatten := by
  unfold slices_Concat_Lintint
  obtain ⟨y, h1, h2⟩ := forL_inv (body := slices_Concat_Lintint_b7) (fin := fun x => x) (l := l) (x := (0 : Int)) (fun n x => x = (((l.take n).flatten.length : Nat) : Int)) (fun y => y = ((l.flatten.length : Nat) : Int)) (by simp)
    (fun n v x hv hx => by
      subst hx
      have hle := flat_le l (n + 1)
      have he := flat_take hv
      rw [he, List.length_append] at hle
      unfold slices_Concat_Lintint_b7
      rw [w64_id (by omega) (by omega), decide_eq_false (by omega), cond_false]
      exact ⟨_, rfl, by rw [he, List.length_append]; omega⟩)
    (fun x hx => by rw [hx, List.take_length])
  rw [h1, bind_some', h2, cc_grow (by omega), bind_some']
  obtain ⟨z, h3, h4⟩ := forL_inv (body := slices_Concat_Lintint_b10) (fin := fun x => x) (l := l) (x := ([] : List Int)) (fun n x => x = (l.take n).flatten) (fun y => y = l.flatten) (by simp)
    (fun n v x hv hx => by
      subst hx
      have hle := flat_le l (n + 1)
      have he := flat_take hv
      rw [he, List.length_append] at hle
      have hck : ck ((List.length (l.take n).flatten : Int) + (List.length v : Int) ≤ 4294967296) = some () := ck_ok (by omega)
      unfold slices_Concat_Lintint_b10
      rw [hck, bind_some']
      exact ⟨_, rfl, he.symm⟩)
    (fun x hx => by rw [hx, List.take_length])
  rw [h3, bind_some', h4]

structure SqOk (n : Nat) (rows : List (List Int)) : Prop where
  len : rows.length = n
  row : ∀ r ∈ rows, r.length = n
  val : ∀ r ∈ rows, ∀ v ∈ r, v.natAbs ≤ 20
theorem without_eq {n : Nat} (hn : n ≤ 5) {r : List Int} {rows : List (List Int)} (h : SqOk (n + 1) (r :: rows)) {j : Nat} (hj : j ≤ n) : ref_without (r :: rows) (j : Int) = some (rows.map (·.eraseIdx j)) := by
  unfold ref_without
  have hl : rows.length = n := by have := h.len; simpa using this
  have hck : ck (0 ≤ (1 : Int) ∧ (1 : Int) ≤ (List.length (r :: rows) : Int) ∧ (List.length (r :: rows) : Int) ≤ (List.length (r :: rows) : Int)) = some () := ck_ok (by rw [List.length_cons]; omega)
  have es : sub (r :: rows) (1 : Int) (List.length (r :: rows) : Int) = rows := by
    simp only [sub, Int.toNat_natCast, List.length_cons]
    show List.take (rows.length + 1 - 1) rows = rows
    exact List.take_of_length_le (by omega)
  rw [hck, bind_some', es]
  obtain ⟨y, h1, rfl⟩ := forL_inv (body := ref_without_b1 (j : Int)) (fin := fun x => x) (l := rows) (x := ([] : List (List Int))) (fun k x => x = (rows.take k).map (·.eraseIdx j)) (fun y => y = rows.map (·.eraseIdx j)) (by simp)
    (by
      rintro k q x hq rfl
      have hq1 := h.row q (List.mem_cons_of_mem _ (List.mem_of_getElem? hq))
      have e1 : sub q (0 : Int) (j : Int) = q.take j := by simp [sub]
      have e2 : w64 ((j : Int) + 1) = ((j + 1 : Nat) : Int) := by rw [w64_id (by omega) (by omega)]; omega
      have e3 : sub q ((j + 1 : Nat) : Int) (List.length q : Int) = q.drop (j + 1) := by
        simp only [sub, Int.toNat_natCast]
        exact List.take_of_length_le (by simp)
      have c1 : ck (0 ≤ (0 : Int) ∧ (0 : Int) ≤ (j : Int) ∧ (j : Int) ≤ (List.length q : Int)) = some () := ck_ok (by omega)
      have c2 : ck ((0 : Int) + (List.length (q.take j) : Int) ≤ 4294967296) = some () := ck_ok (by rw [List.length_take]; omega)
      have c3 : ck (0 ≤ ((j + 1 : Nat) : Int) ∧ ((j + 1 : Nat) : Int) ≤ (List.length q : Int) ∧ (List.length q : Int) ≤ (List.length q : Int)) = some () := ck_ok (by omega)
      have c4 : ck ((List.length ([] ++ q.take j) : Int) + (List.length (q.drop (j + 1)) : Int) ≤ 4294967296) = some () := ck_ok (by rw [List.nil_append, List.length_take, List.length_drop]; omega)
      have c5 : ck ((List.length ((rows.take k).map (·.eraseIdx j)) : Int) + 1 ≤ 4294967296) = some () := ck_ok (by rw [List.length_map, List.length_take]; omega)
      unfold ref_without_b1
      rw [e1, e2, e3, c1, bind_some', c2, bind_some', c3, bind_some', c4, bind_some', c5, bind_some']
      refine ⟨_, rfl, ?_⟩
      simp only
      rw [List.take_add_one, hq, List.map_append, List.nil_append, ← List.eraseIdx_eq_take_drop_succ]; rfl)
    (by rintro x rfl; simp)
  rw [h1]; rfl
theorem sq_erase {n : Nat} {r : List Int} {rows : List (List Int)} (h : SqOk (n + 1) (r :: rows)) {j : Nat} (hj : j ≤ n) : SqOk n (rows.map (·.eraseIdx j)) := by
  refine ⟨by have := h.len; simpa using this, ?_, ?_⟩
  · intro q0 hq0
    obtain ⟨q, hq, rfl⟩ := List.mem_map.1 hq0
    have := h.row q (List.mem_cons_of_mem _ hq)
    rw [List.length_eraseIdx, if_pos (by omega), this]; rfl
  · intro q0 hq0 v hv
    obtain ⟨q, hq, rfl⟩ := List.mem_map.1 hq0
    exact h.val q (List.mem_cons_of_mem _ hq) v (List.mem_of_mem_eraseIdx hv)

def sqLen (a : List (List Int)) (r : List Int) : Bool := (List.length r : Int) != (List.length a : Int)
def sqBad (v : Int) : Bool := !decide (-20 ≤ v ∧ v ≤ 20)
def sqAll (a : List (List Int)) : Int := if 1 ≤ (a.length : Int) ∧ (a.length : Int) ≤ 6 then (bif a.any (sqLen a) then 3 else bif a.any (·.any sqBad) then 4 else 0) else 1
theorem sq_ref (a : List (List Int)) : ref_SquareCheck a = some (sqAll a) := by
  unfold ref_SquareCheck sqAll
  rw [within_eq, bind_some']
  by_cases h : 1 ≤ (a.length : Int) ∧ (a.length : Int) ≤ 6
  · rw [if_pos h, decide_eq_true h, Bool.not_true, cond_false, forL_ex (p := sqLen a) (y := Esc.ret 3) (fun i r _ => by unfold ref_SquareCheck_b1 sqLen; cases ((List.length r : Int) != (List.length a : Int)) <;> rfl), bind_some',
      forL_ex (p := fun r => r.any sqBad) (y := Esc.ret 4) (fun i r _ => by
        unfold ref_SquareCheck_b15
        rw [forL_ex (p := sqBad) (y := Esc.ret 4) (fun i v _ => by
          unfold ref_SquareCheck_b11 sqBad
          rw [within_eq, bind_some']
          cases !decide (-20 ≤ v ∧ v ≤ 20) <;> rfl), bind_some']
        cases r.any sqBad <;> rfl)]
    cases a.any (sqLen a) <;> cases a.any (·.any sqBad) <;> rfl
  · rw [if_neg h, decide_eq_false h]; rfl
theorem sq_len (a l : List (List Int)) : slices_ContainsFunc_LLintLint_with_pairs_wrong_1 l a = some (l.any (sqLen a)) := by
  unfold slices_ContainsFunc_LLintLint_with_pairs_wrong_1 slices_IndexFunc_LLintLint_with_pairs_wrong_1
  rcases forL_at (body := slices_IndexFunc_LLintLint_with_pairs_wrong_1_b1 a) (fin := fun _ => (Esc.brk () : Esc Int Unit)) (p := sqLen a) (g := fun j => Esc.ret j) (l := l)
    (fun i r _ => by unfold slices_IndexFunc_LLintLint_with_pairs_wrong_1_b1 pairs_wrong_1 sqLen; cases ((List.length r : Int) != (List.length a : Int)) <;> rfl) (i := 0) with ⟨h1, h2⟩ | ⟨h1, j, h2, h3, h4⟩
  · rw [h2, h1]; rfl
  · rw [h4, h1]; simp [h2]
theorem sq_val (l : List Int) : slices_ContainsFunc_Lintint_with_pairs_wrong_2 l = some (l.any sqBad) := by
  unfold slices_ContainsFunc_Lintint_with_pairs_wrong_2 slices_IndexFunc_Lintint_with_pairs_wrong_2
  rcases forL_at (body := slices_IndexFunc_Lintint_with_pairs_wrong_2_b1) (fin := fun _ => (Esc.brk () : Esc Int Unit)) (p := sqBad) (g := fun j => Esc.ret j) (l := l)
    (fun i a _ => by
      unfold slices_IndexFunc_Lintint_with_pairs_wrong_2_b1 pairs_wrong_2 sqBad
      have : (decide (a < (-20 : Int)) || decide (a > (20 : Int))) = !decide (-20 ≤ a ∧ a ≤ 20) := by
        by_cases h : -20 ≤ a ∧ a ≤ 20
        · rw [decide_eq_true h, decide_eq_false (by omega), decide_eq_false (by omega)]; rfl
        · rw [decide_eq_false h]
          simp only [Bool.not_false, Bool.or_eq_true, decide_eq_true_eq]; omega
      rw [this]
      cases !decide (-20 ≤ a ∧ a ≤ 20) <;> rfl) (i := 0) with ⟨h1, h2⟩ | ⟨h1, j, h2, h3, h4⟩
  · rw [h2, h1]; rfl
  · rw [h4, h1]; simp [h2]
theorem flat_len (m : Nat) : ∀ l : List (List Int), (∀ r ∈ l, r.length ≤ m) → l.flatten.length ≤ m * l.length
  | [], _ => by simp
  | r :: l, h => by
    have ih := flat_len m l (fun r hr => h r (by simp [hr]))
    have hr := h r (by simp)
    simp only [List.flatten_cons, List.length_append, List.length_cons, Nat.mul_succ]; omega
theorem sq_wrong (a : List (List Int)) : pairs_wrong a = some (sqAll a) := by
  unfold pairs_wrong sqAll
  by_cases h : 1 ≤ (a.length : Int) ∧ (a.length : Int) ≤ 6
  · have hb : ((decide ((List.length a : Int) < (1 : Int))) || (decide ((List.length a : Int) > (6 : Int)))) = false := by
      simp only [Bool.or_eq_false_iff, decide_eq_false_iff_not]; omega
    rw [if_pos h, hb, cond_false, sq_len, bind_some']
    cases h1 : a.any (sqLen a) with
    | true => rfl
    | false =>
      have hr : ∀ r ∈ a, r.length ≤ 6 := by
        intro r hr
        have := List.any_eq_false.1 h1 r hr
        unfold sqLen at this
        simp at this
        omega
      have := flat_len 6 a hr
      rw [cond_false, cond_false, cc_concat (by omega), bind_some', sq_val, bind_some', List.any_flatten]
      cases a.any (·.any sqBad) <;> rfl
  · have hb : ((decide ((List.length a : Int) < (1 : Int))) || (decide ((List.length a : Int) > (6 : Int)))) = true := by
      simp only [Bool.or_eq_true, decide_eq_true_eq]; omega
    rw [if_neg h, hb]; rfl
theorem sq_ok {a : List (List Int)} (h : sqAll a = 0) : (1 ≤ a.length ∧ a.length ≤ 6) ∧ SqOk a.length a := by
  unfold sqAll at h
  split at h
  · rename_i h1
    cases h2 : a.any (sqLen a) with
    | true => rw [h2] at h; cases h
    | false =>
      cases h3 : a.any (·.any sqBad) with
      | true => rw [h2, h3] at h; cases h
      | false =>
        refine ⟨by omega, rfl, ?_, ?_⟩
        · intro r hr
          have := List.any_eq_false.1 h2 r hr
          unfold sqLen at this
          simp at this
          omega
        · intro r hr v hv
          have h4 := List.any_eq_false.1 h3 r hr
          have h5 := List.any_eq_false.1 (Bool.eq_false_iff.2 h4) v hv
          unfold sqBad at h5
          simp at h5
          omega
  · cases h

/-- expansion: each column in turn, signs by turns -/
def alt (f : Nat → List Nat → Int) : List Nat → Int
  | [] => 0
  | c :: cs => f c cs - alt (fun d rest => f d (c :: rest)) cs
/-- the sum of signed products, by the first row -/
def Dt : List (Nat → Int) → List Nat → Int
  | [], _ => 1
  | r :: rs, cols => alt (fun c rest => r c * Dt rs rest) cols
theorem alt_congr : ∀ {cols : List Nat} {f g : Nat → List Nat → Int}, (∀ pre d post, cols = pre ++ d :: post → f d (pre ++ post) = g d (pre ++ post)) → alt f cols = alt g cols
  | [], _, _, _ => rfl
  | c :: cs, f, g, h => by
    simp only [alt]
    rw [show f c cs = g c cs from h [] c cs rfl, alt_congr (f := fun d rest => f d (c :: rest)) (g := fun d rest => g d (c :: rest)) (fun pre d post e => h (c :: pre) d post (by rw [e]; rfl))]
theorem alt_lin (a b : Int) : ∀ (cols : List Nat) (f g : Nat → List Nat → Int), alt (fun c r => a * f c r + b * g c r) cols = a * alt f cols + b * alt g cols
  | [], _, _ => by simp [alt]
  | c :: cs, f, g => by
    simp only [alt]
    rw [alt_lin a b cs (fun d rest => f d (c :: rest)) (fun d rest => g d (c :: rest)), Int.mul_sub, Int.mul_sub]; omega
theorem alt_mul (a : Int) (cols : List Nat) (f : Nat → List Nat → Int) : alt (fun c r => a * f c r) cols = a * alt f cols := by
  have := alt_lin a 0 cols f f
  simp only [Int.zero_mul, Int.add_zero] at this
  exact this
theorem alt_zero (cols : List Nat) : alt (fun _ _ => 0) cols = 0 := by
  have := alt_mul 0 cols (fun _ _ => 0)
  simp only [Int.zero_mul] at this
  exact this
theorem alt_none {cols : List Nat} {f : Nat → List Nat → Int} (h : ∀ pre d post, cols = pre ++ d :: post → f d (pre ++ post) = 0) : alt f cols = 0 := by
  rw [alt_congr (g := fun _ _ => 0) h, alt_zero]
theorem Dt_lin (a b : Int) (u v : Nat → Int) (post : List (Nat → Int)) : ∀ (pre : List (Nat → Int)) (cols : List Nat),
    Dt (pre ++ (fun c => a * u c + b * v c) :: post) cols = a * Dt (pre ++ u :: post) cols + b * Dt (pre ++ v :: post) cols
  | [], cols => by
    simp only [List.nil_append, Dt]
    rw [← alt_lin]
    exact alt_congr (fun pre d post' _ => by simp only [Int.add_mul, Int.mul_assoc])
  | x :: pre, cols => by
    simp only [List.cons_append, Dt]
    rw [← alt_lin]
    refine alt_congr (fun pre' d post' _ => ?_)
    rw [Dt_lin a b u v post pre, Int.mul_add, Int.mul_left_comm, Int.mul_left_comm (x d) b]
theorem alt2_swap (x y : Nat → Int) : ∀ (cols : List Nat) (G : List Nat → Int),
    alt (fun c rest => x c * alt (fun d rest' => y d * G rest') rest) cols + alt (fun c rest => y c * alt (fun d rest' => x d * G rest') rest) cols = 0
  | [], _ => by simp [alt]
  | c :: cs, G => by
    have ih := alt2_swap x y cs (fun rest => G (c :: rest))
    simp only [alt]
    have e : ∀ (x y : Nat → Int), alt (fun d rest => x d * (y c * G rest - alt (fun e rest' => y e * G (c :: rest')) rest)) cs = y c * alt (fun d rest => x d * G rest) cs - alt (fun d rest => x d * alt (fun e rest' => y e * G (c :: rest')) rest) cs := by
      intro x y
      have := alt_lin (y c) (-1) cs (fun d rest => x d * G rest) (fun d rest => x d * alt (fun e rest' => y e * G (c :: rest')) rest)
      rw [alt_congr (g := fun d rest => y c * (x d * G rest) + -1 * (x d * alt (fun e rest' => y e * G (c :: rest')) rest)) (fun pre d post _ => by
        rw [Int.mul_sub, Int.mul_left_comm]; omega), this]
      omega
    rw [e x y, e y x]
    omega
theorem Dt_swap (x y : Nat → Int) (post : List (Nat → Int)) : ∀ (pre : List (Nat → Int)) (cols : List Nat), Dt (pre ++ x :: y :: post) cols = - Dt (pre ++ y :: x :: post) cols
  | [], cols => by
    have := alt2_swap x y cols (fun rest => Dt post rest)
    simp only [List.nil_append, Dt]
    omega
  | z :: pre, cols => by
    simp only [List.cons_append, Dt]
    rw [alt_congr (g := fun c rest => -1 * (z c * Dt (pre ++ y :: x :: post) rest)) (fun pre' d post' _ => by
      rw [Dt_swap x y post pre, Int.mul_neg]; omega), alt_mul]
    omega
theorem Dt_eq (u : Nat → Int) (pre post : List (Nat → Int)) : ∀ (k : Nat) (mid : List (Nat → Int)) (cols : List Nat), mid.length = k → Dt (pre ++ u :: mid ++ u :: post) cols = 0
  | 0, mid, cols, h => by
    obtain rfl : mid = [] := List.length_eq_zero_iff.1 h
    have := Dt_swap u u post pre cols
    simp only [List.append_assoc, List.cons_append, List.nil_append]
    omega
  | k + 1, mid, cols, h => by
    obtain ⟨mid', x, rfl⟩ : ∃ mid' x, mid = mid' ++ [x] := ⟨mid.dropLast, mid.getLast (by intro e; simp [e] at h), (List.dropLast_concat_getLast _).symm⟩
    have ih := Dt_eq u pre (x :: post) k mid' cols (by simpa using h)
    have := Dt_swap x u post (pre ++ u :: mid') cols
    simp only [List.append_assoc, List.cons_append, List.nil_append] at this ih ⊢
    rw [this, ih]; rfl
theorem Dt_trans (x y : Nat → Int) (pre mid post : List (Nat → Int)) (cols : List Nat) : Dt (pre ++ x :: mid ++ y :: post) cols = - Dt (pre ++ y :: mid ++ x :: post) cols := by
  have h0 := Dt_eq (fun c => 1 * x c + 1 * y c) pre post _ mid cols rfl
  rw [Dt_lin 1 1 x y post (pre ++ (fun c => 1 * x c + 1 * y c) :: mid)] at h0
  have e : ∀ z : Nat → Int, Dt (pre ++ (fun c => 1 * x c + 1 * y c) :: mid ++ z :: post) cols = Dt (pre ++ x :: mid ++ z :: post) cols + Dt (pre ++ y :: mid ++ z :: post) cols := by
    intro z
    have := Dt_lin 1 1 x y (mid ++ z :: post) pre cols
    simp only [List.append_assoc, List.cons_append] at this ⊢
    rw [this]; omega
  rw [e, e, Dt_eq x pre post _ mid cols rfl, Dt_eq y pre post _ mid cols rfl] at h0
  omega
theorem Dt_col0 {c : Nat} : ∀ (rows : List (Nat → Int)) (cols : List Nat), (∀ r ∈ rows, r c = 0) → c ∈ cols → rows.length = cols.length → Dt rows cols = 0
  | [], cols, _, hc, hl => by
    obtain rfl : cols = [] := List.length_eq_zero_iff.1 hl.symm
    simp at hc
  | r :: rs, cols, h, hc, hl => by
    simp only [Dt]
    refine alt_none (fun pre d post e => ?_)
    subst e
    by_cases hd : d = c
    · subst hd; rw [h r (by simp)]; simp
    · rw [Dt_col0 rs (pre ++ post) (fun r hr => h r (by simp [hr])) (by
        simp only [List.mem_append, List.mem_cons] at hc ⊢
        rcases hc with hc | hc | hc
        · exact .inl hc
        · exact (hd hc.symm).elim
        · exact .inr hc) (by simp at hl ⊢; omega), Int.mul_zero]
theorem Dt_tri (u : Nat → Int) (vs : List (Nat → Int)) (c : Nat) (cs : List Nat) (h : ∀ v ∈ vs, v c = 0) (hl : vs.length = cs.length) : Dt (u :: vs) (c :: cs) = u c * Dt vs cs := by
  simp only [Dt, alt]
  rw [alt_none (f := fun d rest => u d * Dt vs (c :: rest)) (fun pre d post e => by
    rw [Dt_col0 vs (c :: (pre ++ post)) h (by simp) (by rw [hl, e]; simp; omega), Int.mul_zero])]
  omega
/-- condensed: each row less what it takes of the first one -/
def cond1 (u : Nat → Int) (c : Nat) (v : Nat → Int) : Nat → Int := fun d => u c * v d + (- v c) * u d
theorem Dt_ops (u : Nat → Int) (c : Nat) (cols : List Nat) : ∀ (vs pre : List (Nat → Int)), Dt (u :: (pre ++ vs.map (cond1 u c))) cols = u c ^ vs.length * Dt (u :: (pre ++ vs)) cols
  | [], pre => by simp
  | v :: vs, pre => by
    have h1 := Dt_lin (u c) (- v c) v u (vs.map (cond1 u c)) (u :: pre) cols
    have h2 := Dt_eq u [] (vs.map (cond1 u c)) _ pre cols rfl
    have ih := Dt_ops u c cols vs (pre ++ [v])
    simp only [List.cons_append, List.append_assoc, List.nil_append, List.map_cons, List.length_cons] at h1 h2 ih ⊢
    show Dt (u :: (pre ++ (fun d => u c * v d + (- v c) * u d) :: vs.map (cond1 u c))) cols = _
    rw [h1, h2, ih, Int.pow_succ, Int.mul_zero, Int.add_zero, ← Int.mul_assoc, Int.mul_comm (u c)]
theorem chio (u : Nat → Int) (vs : List (Nat → Int)) (c : Nat) (cs : List Nat) (hl : vs.length = cs.length) : u c ^ vs.length * Dt (u :: vs) (c :: cs) = u c * Dt (vs.map (cond1 u c)) cs := by
  have h := Dt_ops u c (c :: cs) vs []
  simp only [List.nil_append] at h
  rw [← h]
  refine Dt_tri u _ c cs (fun v hv => ?_) (by simpa using hl)
  obtain ⟨v', _, rfl⟩ := List.mem_map.1 hv
  unfold cond1
  rw [Int.mul_comm (u c), Int.neg_mul]; omega
theorem Dt_congr : ∀ {rows rows' : List (Nat → Int)} {cols : List Nat}, rows.length = rows'.length → (∀ (k : Nat) (r r' : Nat → Int), rows[k]? = some r → rows'[k]? = some r' → ∀ c ∈ cols, r c = r' c) → Dt rows cols = Dt rows' cols
  | [], [], _, _, _ => rfl
  | [], _ :: _, _, h, _ => by simp at h
  | _ :: _, [], _, h, _ => by simp at h
  | r :: rs, r' :: rs', cols, hl, h => by
    simp only [Dt]
    refine alt_congr (fun pre d post e => ?_)
    subst e
    rw [h 0 r r' rfl rfl d (by simp), Dt_congr (by simpa using hl) (fun k q q' hq hq' c hc => h (k + 1) q q' (by simpa using hq) (by simpa using hq') c (by
      simp only [List.mem_append, List.mem_cons] at hc ⊢
      rcases hc with hc | hc
      · exact .inl hc
      · exact .inr (.inr hc)))]
theorem alt_map (φ : Nat → Nat) : ∀ (cols : List Nat) (f : Nat → List Nat → Int), alt f (cols.map φ) = alt (fun c rest => f (φ c) (rest.map φ)) cols
  | [], _ => rfl
  | c :: cs, f => by
    simp only [List.map_cons, alt]
    rw [alt_map φ cs]
theorem Dt_map (φ : Nat → Nat) : ∀ (rows : List (Nat → Int)) (cols : List Nat), Dt rows (cols.map φ) = Dt (rows.map fun r => fun c => r (φ c)) cols
  | [], _ => rfl
  | r :: rs, cols => by
    simp only [List.map_cons, Dt]
    rw [alt_map]
    exact alt_congr (fun pre d post _ => by rw [Dt_map φ rs])
/-- how great it can be -/
def bd (B : Nat) : Nat → Nat
  | 0 => 1
  | s + 1 => (s + 1) * (B * bd B s)
theorem alt_abs (K : Nat) : ∀ (cols : List Nat) (f : Nat → List Nat → Int), (∀ pre d post, cols = pre ++ d :: post → (f d (pre ++ post)).natAbs ≤ K) → (alt f cols).natAbs ≤ cols.length * K
  | [], _, _ => by simp [alt]
  | c :: cs, f, h => by
    have h1 := h [] c cs rfl
    have h2 := alt_abs K cs (fun d rest => f d (c :: rest)) (fun pre d post e => h (c :: pre) d post (by rw [e]; rfl))
    simp only [alt, List.length_cons, Nat.succ_mul, List.nil_append] at h1 ⊢
    omega
theorem Dt_abs (B : Nat) : ∀ (rows : List (Nat → Int)) (cols : List Nat), rows.length = cols.length → (∀ r ∈ rows, ∀ c ∈ cols, (r c).natAbs ≤ B) → (Dt rows cols).natAbs ≤ bd B cols.length
  | [], cols, hl, _ => by
    obtain rfl : cols = [] := List.length_eq_zero_iff.1 hl.symm
    simp [Dt, bd]
  | r :: rs, cols, hl, h => by
    obtain ⟨s, hs⟩ : ∃ s, cols.length = s + 1 := ⟨rs.length, by simpa using hl.symm⟩
    simp only [Dt]
    rw [hs, bd, ← hs]
    refine alt_abs _ _ _ (fun pre d post e => ?_)
    subst e
    have hp : (pre ++ post).length = s := by simp at hs ⊢; omega
    have := Dt_abs B rs (pre ++ post) (by simp at hl; rw [hp]; simp at hs; omega) (fun r' hr c hc => h r' (by simp [hr]) c (by
      simp only [List.mem_append, List.mem_cons] at hc ⊢
      rcases hc with hc | hc
      · exact .inl hc
      · exact .inr (.inr hc)))
    rw [hp] at this
    rw [Int.natAbs_mul]
    exact Nat.mul_le_mul (h r (by simp) d (by simp)) this

/-- what is left is minors with borders -/
structure BInv (n k : Nat) (p : Int) (A M : Nat → Nat → Int) : Prop where
  pz : p ≠ 0
  lead : p = Dt ((List.range k).map A) (List.range k)
  minors : ∀ (Is Js : List Nat), Is.length = Js.length → 0 < Is.length → (∀ i ∈ Is, k ≤ i ∧ i < n) → (∀ j ∈ Js, k ≤ j ∧ j < n) → Dt (Is.map M) Js = p ^ (Is.length - 1) * Dt ((List.range k ++ Is).map A) (List.range k ++ Js)
theorem BInv.init (n : Nat) (A : Nat → Nat → Int) : BInv n 0 1 A A := ⟨by decide, rfl, fun Is Js _ _ _ _ => by simp [Int.one_pow]⟩
theorem Dt_scale (p : Int) : ∀ (rows : List (Nat → Int)) (cols : List Nat), Dt (rows.map fun r => fun c => p * r c) cols = p ^ rows.length * Dt rows cols
  | [], _ => by simp [Dt]
  | r :: rs, cols => by
    simp only [List.map_cons, Dt, List.length_cons]
    rw [← alt_mul]
    exact alt_congr (fun pre d post _ => by rw [Dt_scale p rs, Int.pow_succ]; simp only [Int.mul_assoc, Int.mul_comm, Int.mul_left_comm])
theorem range_snoc (k : Nat) : List.range k ++ [k] = List.range (k + 1) := List.range_succ.symm
theorem Dt_one (r : Nat → Int) (c : Nat) : Dt [r] [c] = r c := by simp [Dt, alt]
theorem Dt_two (r s : Nat → Int) (c d : Nat) : Dt [r, s] [c, d] = r c * s d - r d * s c := by simp [Dt, alt]
/-- an entry is a minor -/
theorem BInv.entry {n k : Nat} {p : Int} {A M : Nat → Nat → Int} (h : BInv n k p A M) {i j : Nat} (hi : k ≤ i ∧ i < n) (hj : k ≤ j ∧ j < n) : M i j = Dt ((List.range k ++ [i]).map A) (List.range k ++ [j]) := by
  have := h.minors [i] [j] rfl (by simp) (by simpa using hi) (by simpa using hj)
  rw [List.map_cons, List.map_nil, Dt_one] at this
  rw [this]; simp
theorem BInv.abs {n k : Nat} {p : Int} {A M : Nat → Nat → Int} (h : BInv n k p A M) (hA : ∀ i j, i < n → j < n → (A i j).natAbs ≤ 20) {i j : Nat} (hi : k ≤ i ∧ i < n) (hj : k ≤ j ∧ j < n) : (M i j).natAbs ≤ bd 20 (k + 1) := by
  rw [h.entry hi hj]
  have := Dt_abs 20 ((List.range k ++ [i]).map A) (List.range k ++ [j]) (by simp) (fun r hr c hc => by
    obtain ⟨t, ht, rfl⟩ := List.mem_map.1 hr
    refine hA t c ?_ ?_
    · rcases List.mem_append.1 ht with ht | ht
      · have := List.mem_range.1 ht; omega
      · obtain rfl : t = i := by simpa using ht
        omega
    · rcases List.mem_append.1 hc with hc | hc
      · have := List.mem_range.1 hc; omega
      · obtain rfl : c = j := by simpa using hc
        omega)
  simpa using this
/-- the next entry is exact -/
theorem BInv.exact {n k : Nat} {p : Int} {A M : Nat → Nat → Int} (h : BInv n k p A M) (hA : ∀ i j, i < n → j < n → (A i j).natAbs ≤ 20) {i j : Nat} (hi : k < i ∧ i < n) (hj : k < j ∧ j < n) : ∃ Z : Int, M k k * M i j - M i k * M k j = p * Z ∧ Z.natAbs ≤ bd 20 (k + 2) := by
  have := h.minors [k, i] [k, j] rfl (by simp) (by simp; omega) (by simp; omega)
  simp only [List.map_cons, List.map_nil, Dt_two, List.length_cons, List.length_nil] at this
  refine ⟨Dt ((List.range k ++ [k, i]).map A) (List.range k ++ [k, j]), ?_, ?_⟩
  · rw [Int.mul_comm (M i k)]
    rw [this, show (0 + 1 + 1 - 1 : Nat) = 0 + 1 from rfl, Int.pow_succ, Int.pow_zero, Int.one_mul]
  · have := Dt_abs 20 ((List.range k ++ [k, i]).map A) (List.range k ++ [k, j]) (by simp) (fun r hr c hc => by
      obtain ⟨t, ht, rfl⟩ := List.mem_map.1 hr
      refine hA t c ?_ ?_
      · rcases List.mem_append.1 ht with ht | ht
        · have := List.mem_range.1 ht; omega
        · simp only [List.mem_cons, List.not_mem_nil, or_false] at ht
          omega
      · rcases List.mem_append.1 hc with hc | hc
        · have := List.mem_range.1 hc; omega
        · simp only [List.mem_cons, List.not_mem_nil, or_false] at hc
          omega)
    simpa using this
theorem BInv.step {n k : Nat} {p : Int} {A M M' : Nat → Nat → Int} (h : BInv n k p A M) (hk : k < n) (ha : M k k ≠ 0) (hM : ∀ i j, k < i → i < n → k < j → j < n → p * M' i j = M k k * M i j - M i k * M k j) : BInv n (k + 1) (M k k) A M' := by
  refine ⟨ha, by rw [h.entry ⟨Nat.le_refl _, hk⟩ ⟨Nat.le_refl _, hk⟩, range_snoc], fun Is Js hl h0 hI hJ => ?_⟩
  have hc := chio (M k) (Is.map M) k Js (by simpa using hl)
  have hm := h.minors (k :: Is) (k :: Js) (by simpa using hl) (by simp) (fun i hi => by
    rcases List.mem_cons.1 hi with rfl | hi
    · omega
    · have := hI i hi; omega) (fun j hj => by
    rcases List.mem_cons.1 hj with rfl | hj
    · omega
    · have := hJ j hj; omega)
  have e1 : Dt ((Is.map M).map (cond1 (M k) k)) Js = p ^ Is.length * Dt (Is.map M') Js := by
    have := Dt_scale p (Is.map M') Js
    rw [List.length_map] at this
    rw [← this]
    refine Dt_congr (by simp) (fun t r r' hr hr' c hc => ?_)
    simp only [List.getElem?_map, Option.map_map, Option.map_eq_some_iff] at hr hr'
    obtain ⟨i, hi, rfl⟩ := hr
    obtain ⟨i', hi', rfl⟩ := hr'
    rw [hi] at hi'
    obtain rfl := Option.some.inj hi'
    have hii := hI i (List.mem_of_getElem? hi)
    have hcc := hJ c hc
    have := hM i c (by omega) (by omega) (by omega) (by omega)
    simp only [Function.comp]
    rw [this]
    unfold cond1
    rw [Int.neg_mul]; omega
  have hrk : List.range k ++ k :: Is = List.range (k + 1) ++ Is := by rw [List.range_succ]; simp
  have hrk' : List.range k ++ k :: Js = List.range (k + 1) ++ Js := by rw [List.range_succ]; simp
  rw [hrk, hrk'] at hm
  simp only [List.map_cons, List.length_cons, Nat.add_sub_cancel] at hm
  rw [List.length_map, hm, e1] at hc
  obtain ⟨s, hs⟩ : ∃ s, Is.length = s + 1 := ⟨Is.length - 1, by omega⟩
  rw [hs] at hc ⊢
  simp only [Nat.add_sub_cancel]
  have hps : p ^ (s + 1) ≠ 0 := Int.pow_ne_zero h.pz
  generalize Dt ((List.range (k + 1) ++ Is).map A) (List.range (k + 1) ++ Js) = X at *
  generalize Dt (Is.map M') Js = Y at *
  have e2 : (M k k * p ^ (s + 1)) * (M k k ^ s * X) = (M k k * p ^ (s + 1)) * Y := by
    rw [Int.pow_succ] at hc
    have : M k k * p ^ (s + 1) * (M k k ^ s * X) = M k k ^ s * M k k * (p ^ (s + 1) * X) := by
      simp only [Int.mul_assoc, Int.mul_comm, Int.mul_left_comm]
    rw [this, hc, Int.mul_assoc]
  exact ((Int.mul_eq_mul_left_iff (Int.mul_ne_zero ha hps)).1 e2).symm
theorem BInv.perm {n k : Nat} {p : Int} {A M : Nat → Nat → Int} (h : BInv n k p A M) (σ : Nat → Nat) (h1 : ∀ i, i < k → σ i = i) (h2 : ∀ i, k ≤ i → i < n → k ≤ σ i ∧ σ i < n) : BInv n k p (fun i => A (σ i)) (fun i => M (σ i)) := by
  have e : (List.range k).map (fun i => A (σ i)) = (List.range k).map A := List.map_congr_left (fun i hi => by rw [h1 i (List.mem_range.1 hi)])
  refine ⟨h.pz, by rw [e]; exact h.lead, fun Is Js hl h0 hI hJ => ?_⟩
  have := h.minors (Is.map σ) Js (by simpa using hl) (by simpa using h0) (fun i hi => by
    obtain ⟨j, hj, rfl⟩ := List.mem_map.1 hi
    have := hI j hj
    exact h2 j this.1 this.2) hJ
  rw [List.length_map, List.map_append, List.map_map, List.map_map] at this
  rw [List.map_append, e]
  exact this
/-- nothing to take: the sum is 0 -/
theorem BInv.zero {n k : Nat} {p : Int} {A M : Nat → Nat → Int} (h : BInv n k p A M) (hk : k < n) (hz : ∀ i, k ≤ i → i < n → M i k = 0) : Dt ((List.range n).map A) (List.range n) = 0 := by
  have hr : List.range k ++ List.range' k (n - k) = List.range n := by
    rw [List.range_eq_range', List.range_eq_range']
    have := List.range'_append_1 (s := 0) (m := k) (n := n - k)
    rw [Nat.zero_add] at this
    rw [this]; congr 1; omega
  have hm := h.minors (List.range' k (n - k)) (List.range' k (n - k)) rfl (by simp; omega) (fun i hi => by
    rw [List.mem_range'_1] at hi; omega) (fun i hi => by rw [List.mem_range'_1] at hi; omega)
  rw [hr, Dt_col0 (c := k) ((List.range' k (n - k)).map M) (List.range' k (n - k)) (fun r hr => by
    obtain ⟨i, hi, rfl⟩ := List.mem_map.1 hr
    rw [List.mem_range'_1] at hi
    exact hz i (by omega) (by omega)) (by rw [List.mem_range'_1]; omega) (by simp)] at hm
  rcases Int.mul_eq_zero.1 hm.symm with h0 | h0
  · exact (Int.pow_ne_zero h.pz h0).elim
  · exact h0
def tr (a b : Nat) (i : Nat) : Nat := if i = a then b else if i = b then a else i
theorem Dt_tr {n a b : Nat} (hab : a < b) (hb : b < n) (A : Nat → Nat → Int) (cols : List Nat) : Dt ((List.range n).map fun i => A (tr a b i)) cols = - Dt ((List.range n).map A) cols := by
  have hr : List.range n = List.range a ++ a :: List.range' (a + 1) (b - a - 1) ++ b :: List.range' (b + 1) (n - b - 1) := by
    apply List.ext_getElem?
    intro i
    by_cases h1 : i < n
    · rw [List.getElem?_range h1]
      rcases Nat.lt_trichotomy i b with h | h | h
      · rw [List.getElem?_append_left (by simp; omega)]
        rcases Nat.lt_trichotomy i a with h' | h' | h'
        · rw [List.getElem?_append_left (by simp; omega), List.getElem?_range h']
        · rw [List.getElem?_append_right (by simp; omega), List.length_range, h', Nat.sub_self]; rfl
        · rw [List.getElem?_append_right (by simp; omega), List.length_range, show i - a = (i - a - 1) + 1 by omega, List.getElem?_cons_succ, List.getElem?_range' (by omega)]
          congr 1; omega
      · rw [List.getElem?_append_right (by simp; omega)]
        have : i - (List.range a ++ a :: List.range' (a + 1) (b - a - 1)).length = 0 := by simp; omega
        rw [this, h]; rfl
      · rw [List.getElem?_append_right (by simp; omega)]
        have : i - (List.range a ++ a :: List.range' (a + 1) (b - a - 1)).length = (i - b - 1) + 1 := by simp; omega
        rw [this, List.getElem?_cons_succ, List.getElem?_range' (by omega)]
        congr 1; omega
    · rw [List.getElem?_eq_none (by simp; omega), List.getElem?_eq_none (by simp; omega)]
  have m1 : ∀ (l : List Nat), (∀ i ∈ l, i ≠ a ∧ i ≠ b) → (l.map fun i => A (tr a b i)) = l.map A := fun l hl => List.map_congr_left (fun i hi => by
    have := hl i hi
    unfold tr; rw [if_neg this.1, if_neg this.2])
  rw [hr]
  simp only [List.map_append, List.map_cons]
  rw [m1 (List.range a) (fun i hi => by have := List.mem_range.1 hi; omega), m1 (List.range' (a + 1) (b - a - 1)) (fun i hi => by rw [List.mem_range'_1] at hi; omega), m1 (List.range' (b + 1) (n - b - 1)) (fun i hi => by rw [List.mem_range'_1] at hi; omega)]
  have ta : tr a b a = b := by unfold tr; rw [if_pos rfl]
  have tb : tr a b b = a := by unfold tr; rw [if_neg (by omega), if_pos rfl]
  rw [ta, tb]
  exact Dt_trans (A b) (A a) _ _ _ cols

/-- rows of a list hold what F says -/
structure Mx (n m : Nat) (M : List (List Int)) (F : Nat → Nat → Int) : Prop where
  len : M.length = n
  row : ∀ r, r < n → ∃ row, M[r]? = some row ∧ row.length = m ∧ ∀ c, c < m → row[c]? = some (F r c)
theorem Mx.congr {n m : Nat} {M : List (List Int)} {F G : Nat → Nat → Int} (h : Mx n m M F) (e : ∀ r c, r < n → c < m → F r c = G r c) : Mx n m M G := by
  refine ⟨h.len, fun r hr => ?_⟩
  obtain ⟨row, h1, h2, h3⟩ := h.row r hr
  exact ⟨row, h1, h2, fun c hc => by rw [h3 c hc, e r c hr hc]⟩
theorem Mx.set {n m : Nat} {M : List (List Int)} {F : Nat → Nat → Int} (h : Mx n m M F) {r c : Nat} (hr : r < n) {row : List Int} (hrow : M[r]? = some row) (v : Int) : Mx n m (M.set r (row.set c v)) (fun r' c' => if r' = r ∧ c' = c then v else F r' c') := by
  refine ⟨by rw [List.length_set]; exact h.len, fun r' hr' => ?_⟩
  obtain ⟨row', h1, h2, h3⟩ := h.row r' hr'
  have hl := h.len
  by_cases e : r' = r
  · subst e
    rw [hrow] at h1
    obtain rfl := Option.some.inj h1
    refine ⟨row.set c v, by rw [List.getElem?_set_self (by omega)], by rw [List.length_set]; exact h2, fun c' hc' => ?_⟩
    by_cases e' : c' = c
    · subst e'
      rw [List.getElem?_set_self (by omega)]; simp
    · rw [List.getElem?_set_ne (fun e => e' e.symm), h3 c' hc']; simp [e']
  · exact ⟨row', by rw [List.getElem?_set_ne (fun e' => e e'.symm)]; exact h1, h2, fun c' hc' => by rw [h3 c' hc']; simp [e]⟩
theorem Mx.swap {n m : Nat} {M : List (List Int)} {F : Nat → Nat → Int} (h : Mx n m M F) {a b : Nat} (ha : a < n) (hb : b < n) {ra rb : List Int} (h1 : M[a]? = some ra) (h2 : M[b]? = some rb) : Mx n m ((M.set a rb).set b ra) (fun i => F (tr a b i)) := by
  have hl := h.len
  obtain ⟨ra', k1, k2, k3⟩ := h.row a ha
  obtain ⟨rb', l1, l2, l3⟩ := h.row b hb
  rw [h1] at k1
  rw [h2] at l1
  obtain rfl := Option.some.inj k1
  obtain rfl := Option.some.inj l1
  refine ⟨by rw [List.length_set, List.length_set]; exact hl, fun r hr => ?_⟩
  by_cases e : r = b
  · subst e
    refine ⟨ra, by rw [List.getElem?_set_self (by rw [List.length_set]; omega)], k2, fun c hc => ?_⟩
    rw [k3 c hc]
    unfold tr
    by_cases e' : r = a
    · rw [if_pos e', e']
    · rw [if_neg e', if_pos rfl]
  · rw [List.getElem?_set_ne (fun e' => e e'.symm)]
    by_cases e' : r = a
    · subst e'
      refine ⟨rb, by rw [List.getElem?_set_self (by omega)], l2, fun c hc => ?_⟩
      rw [l3 c hc]
      unfold tr; rw [if_pos rfl]
    · rw [List.getElem?_set_ne (fun e'' => e' e''.symm)]
      obtain ⟨row, m1, m2, m3⟩ := h.row r hr
      refine ⟨row, m1, m2, fun c hc => ?_⟩
      rw [m3 c hc]
      unfold tr; rw [if_neg e', if_neg e]
theorem Mx.at {n m : Nat} {M : List (List Int)} {F : Nat → Nat → Int} (h : Mx n m M F) {r : Nat} (hr : r < n) : ∃ row, idx M (r : Int) = some row ∧ M[r]? = some row ∧ row.length = m ∧ ∀ c : Nat, c < m → idx row (c : Int) = some (F r c) := by
  obtain ⟨row, h1, h2, h3⟩ := h.row r hr
  exact ⟨row, by rw [idx_nat]; exact h1, h1, h2, fun c hc => by rw [idx_nat]; exact h3 c hc⟩
/-- what a list of rows holds -/
def fM (M : List (List Int)) (r c : Nat) : Int := (M.getD r []).getD c 0
theorem Mx.of {n m : Nat} {M : List (List Int)} (h1 : M.length = n) (h2 : ∀ r ∈ M, r.length = m) : Mx n m M (fM M) := by
  refine ⟨h1, fun r hr => ?_⟩
  have hg : M[r]? = some M[r] := List.getElem?_eq_getElem (by omega)
  have hl := h2 M[r] (List.getElem_mem _)
  refine ⟨M[r], hg, hl, fun c hc => ?_⟩
  unfold fM
  rw [List.getD_eq_getElem?_getD (l := M), hg, Option.getD_some, List.getD_eq_getElem?_getD, List.getElem?_eq_getElem (by omega)]; rfl
/-- the first row with something in a column -/
theorem first_row (P : List Int → Bool) {body : Int → List Int → Unit → Option (Flow Unit (Esc Int Unit))} {l : List (List Int)} (hb : ∀ i a, a ∈ l → body i a () = some (bif P a then .done (.ret i) else .next ())) :
    (forL body (fun _ => (Esc.brk () : Esc Int Unit)) l 0 () = some (.brk ()) ∧ ∀ a ∈ l, P a = false) ∨ ∃ (q : Nat) (a : List Int), forL body (fun _ => (Esc.brk () : Esc Int Unit)) l 0 () = some (.ret (q : Int)) ∧ l[q]? = some a ∧ P a = true := by
  obtain ⟨y, h1, h2⟩ := forL_inv (body := body) (fin := fun _ => (Esc.brk () : Esc Int Unit)) (l := l) (x := ()) (fun n _ => ∀ t a, t < n → l[t]? = some a → P a = false)
    (fun y => (y = .brk () ∧ ∀ a ∈ l, P a = false) ∨ ∃ (q : Nat) (a : List Int), y = .ret (q : Int) ∧ l[q]? = some a ∧ P a = true) (fun t a ht => by omega)
    (by
      rintro n a ⟨⟩ ha hI
      rw [hb n a (List.mem_of_getElem? ha)]
      cases hp : P a with
      | true => exact ⟨_, rfl, .inr ⟨n, a, rfl, ha, hp⟩⟩
      | false =>
        refine ⟨_, rfl, fun t b ht hb' => ?_⟩
        by_cases e : t = n
        · subst e
          rw [ha] at hb'
          rw [← Option.some.inj hb']; exact hp
        · exact hI t b (by omega) hb')
    (by
      rintro ⟨⟩ hI
      refine .inl ⟨rfl, fun a ha => ?_⟩
      obtain ⟨t, ht, e⟩ := List.getElem_of_mem ha
      exact hI t a ht (by rw [List.getElem?_eq_getElem ht, e]))
  rcases h2 with ⟨rfl, h2⟩ | ⟨q, a, rfl, h2⟩
  · exact .inl ⟨h1, h2⟩
  · exact .inr ⟨q, a, h1, h2⟩
theorem sub_drop {α : Type} (M : List α) (k : Nat) : sub M (k : Int) (List.length M : Int) = M.drop k := by
  simp only [sub, Int.toNat_natCast]
  exact List.take_of_length_le (by simp)

theorem wmul {a b : Int} {x y : Nat} (ha : a.natAbs ≤ x) (hb : b.natAbs ≤ y) (h : x * y < 9223372036854775808) : w64 (a * b) = a * b ∧ (a * b).natAbs ≤ x * y := by
  have h1 : (a * b).natAbs ≤ x * y := by rw [Int.natAbs_mul]; exact Nat.mul_le_mul ha hb
  generalize a * b = z at *
  generalize x * y = q at *
  exact ⟨w64_id (by omega) (by omega), h1⟩
theorem tdiv_exact {p Z : Int} (hp : p ≠ 0) : Int.tdiv (p * Z) p = Z := Int.mul_tdiv_cancel_left Z hp
theorem sg_inner {n k i : Nat} (hn : n ≤ 6) (hk : k < n) (hi : k < i ∧ i < n) {x1 : Int × Int × List (List Int)} {x2 : Int × List (List Int)} (hx2 : x2.1 = (i : Int)) {F : Nat → Nat → Int} {E : Nat → Int}
    (hF : ∀ c, k ≤ c → c < n → (F k c).natAbs ≤ 384000000 ∧ (F i c).natAbs ≤ 384000000) (hE : ∀ c, k < c → c < n → F k k * F i c - F i k * F k c = x1.2.1 * E c ∧ (E c).natAbs ≤ 100000000000) (hp : x1.2.1 ≠ 0)
    {M : List (List Int)} (hM : Mx n n M F) {fuel : Nat} (hf : 10 ≤ fuel) :
    ∃ M', iter (pairs_Signed_b81 (k : Int) x1 x2) fuel (w64 ((k : Int) + (1 : Int)), M) = some M' ∧ Mx n n M' (fun r c => if r = i ∧ k < c then E c else F r c) := by
  have hw : w64 ((k : Int) + 1) = ((k + 1 : Nat) : Int) := by rw [w64_id (by omega) (by omega)]; omega
  rw [hw]
  refine iter_inv (fun x => ∃ (j : Nat) (M' : List (List Int)), x = ((j : Int), M') ∧ k < j ∧ j ≤ n ∧ Mx n n M' (fun r c => if r = i ∧ k < c ∧ c < j then E c else F r c)) (fun x => ((n : Int) - x.1).toNat) (fun M' => Mx n n M' (fun r c => if r = i ∧ k < c then E c else F r c)) ?_ fuel _ (by simp only; omega)
    ⟨k + 1, M, rfl, by omega, by omega, hM.congr (fun r c _ _ => by rw [if_neg (by omega)])⟩
  rintro _ ⟨j, M', rfl, hj1, hj2, hM'⟩
  unfold pairs_Signed_b81
  simp only
  rw [hM'.len]
  by_cases hj : j < n
  · obtain ⟨ri, a1, a2, a3, a4⟩ := hM'.at hi.2
    obtain ⟨rk, b1, b2, b3, b4⟩ := hM'.at hk
    have e1 : idx ri (j : Int) = some (F i j) := by rw [a4 j hj]; simp
    have e2 : idx rk (k : Int) = some (F k k) := by rw [b4 k hk]; simp
    have e3 : idx ri (k : Int) = some (F i k) := by rw [a4 k hk]; simp
    have e4 : idx rk (j : Int) = some (F k j) := by rw [b4 j hj, if_neg (by omega)]
    have hck : ck (x2.1 ≠ (k : Int)) = some () := ck_ok (by omega)
    have hck2 : ck (x1.2.1 ≠ 0) = some () := ck_ok hp
    obtain ⟨g1, g2⟩ := hE j (by omega) hj
    obtain ⟨m1, m2⟩ := wmul (hF j (by omega) hj).2 (hF k (Nat.le_refl _) hk).1 (by decide)
    obtain ⟨m3, m4⟩ := wmul (hF k (Nat.le_refl _) hk).2 (hF j (by omega) hj).1 (by decide)
    have hd : w64 (Int.tdiv (w64 (w64 (F i j * F k k) - w64 (F i k * F k j))) x1.2.1) = E j := by
      have hx : F i j * F k k - F i k * F k j = x1.2.1 * E j := by rw [← g1, Int.mul_comm (F i j)]
      have hy : w64 (F i j * F k k - F i k * F k j) = F i j * F k k - F i k * F k j := by
        generalize F i j * F k k = X1 at *
        generalize F i k * F k j = X2 at *
        exact w64_id (by omega) (by omega)
      rw [m1, m3, hy, hx, tdiv_exact hp, w64_id (by omega) (by omega)]
    rw [decide_eq_true (by omega), cond_true, hx2, a1, bind_some', b1, bind_some']
    rw [hx2] at hck
    rw [hck, bind_some', e1, bind_some', e2, bind_some', e3, bind_some', e4, bind_some', hck2, bind_some', hd, Int.toNat_natCast, Int.toNat_natCast]
    refine ⟨_, rfl, ⟨j + 1, _, by rw [w64_id (by omega) (by omega)]; rfl, by omega, by omega, (hM'.set hi.2 a2 (E j) (c := j)).congr (fun r c _ _ => ?_)⟩, by simp only; rw [w64_id (by omega) (by omega)]; omega⟩
    by_cases q1 : r = i <;> by_cases q2 : c = j
    · subst q1; subst q2; rw [if_pos ⟨rfl, rfl⟩, if_pos ⟨rfl, by omega, by omega⟩]
    · rw [if_neg (fun h => q2 h.2)]
      by_cases q3 : k < c ∧ c < j
      · rw [if_pos ⟨q1, q3⟩, if_pos ⟨q1, q3.1, by omega⟩]
      · rw [if_neg (fun h => q3 h.2), if_neg (fun h => q3 ⟨h.2.1, by omega⟩)]
    · rw [if_neg (fun h => q1 h.1), if_neg (fun h => q1 h.1), if_neg (fun h => q1 h.1)]
    · rw [if_neg (fun h => q1 h.1), if_neg (fun h => q1 h.1), if_neg (fun h => q1 h.1)]
  · rw [decide_eq_false (by omega), cond_false]
    refine ⟨_, rfl, hM'.congr (fun r c _ hc => ?_)⟩
    by_cases q : r = i ∧ k < c
    · rw [if_pos q, if_pos ⟨q.1, q.2, by omega⟩]
    · rw [if_neg q, if_neg (fun h => q ⟨h.1, h.2.1⟩)]
theorem sg_outer {n k : Nat} (hn : n ≤ 6) (hk : k < n) {x1 : Int × Int × List (List Int)} {F E : Nat → Nat → Int}
    (hF : ∀ i c, k ≤ i → i < n → k ≤ c → c < n → k + 1 < n → (F i c).natAbs ≤ 384000000) (hE : ∀ i c, k < i → i < n → k < c → c < n → F k k * F i c - F i k * F k c = x1.2.1 * E i c ∧ (E i c).natAbs ≤ 100000000000) (hp : x1.2.1 ≠ 0)
    {M : List (List Int)} (hM : Mx n n M F) {fuel : Nat} (hf : 10 ≤ fuel) :
    ∃ M', iter (pairs_Signed_b84 fuel (k : Int) x1) fuel (w64 ((k : Int) + (1 : Int)), M) = some M' ∧ Mx n n M' (fun r c => if k < r ∧ k < c then E r c else F r c) := by
  have hw : w64 ((k : Int) + 1) = ((k + 1 : Nat) : Int) := by rw [w64_id (by omega) (by omega)]; omega
  rw [hw]
  refine iter_inv (fun x => ∃ (i : Nat) (M' : List (List Int)), x = ((i : Int), M') ∧ k < i ∧ i ≤ n ∧ Mx n n M' (fun r c => if k < r ∧ r < i ∧ k < c then E r c else F r c)) (fun x => ((n : Int) - x.1).toNat) (fun M' => Mx n n M' (fun r c => if k < r ∧ k < c then E r c else F r c)) ?_ fuel _ (by simp only; omega)
    ⟨k + 1, M, rfl, by omega, by omega, hM.congr (fun r c _ _ => by rw [if_neg (by omega)])⟩
  rintro _ ⟨i, M', rfl, hi1, hi2, hM'⟩
  unfold pairs_Signed_b84
  simp only
  rw [hM'.len]
  by_cases hi : i < n
  · obtain ⟨M2, h1, h2⟩ := sg_inner (i := i) hn hk ⟨hi1, hi⟩ (x1 := x1) (x2 := ((i : Int), M')) rfl (E := E i) (fun c hc1 hc2 => by
      rw [if_neg (by omega), if_neg (by omega)]
      exact ⟨hF k c (Nat.le_refl _) hk hc1 hc2 (by omega), hF i c (by omega) hi hc1 hc2 (by omega)⟩) (fun c hc1 hc2 => by
      rw [if_neg (by omega), if_neg (by omega), if_neg (by omega), if_neg (by omega)]
      exact hE i c hi1 hi hc1 hc2) hp hM' hf
    rw [decide_eq_true (by omega), cond_true, h1, bind_some']
    refine ⟨_, rfl, ⟨i + 1, M2, by rw [w64_id (by omega) (by omega)]; rfl, by omega, by omega, h2.congr (fun r c _ _ => ?_)⟩, by simp only; rw [w64_id (by omega) (by omega)]; omega⟩
    by_cases q1 : r = i
    · subst q1
      by_cases q2 : k < c
      · rw [if_pos ⟨rfl, q2⟩, if_pos ⟨by omega, by omega, q2⟩]
      · rw [if_neg (fun h => q2 h.2), if_neg (fun h => q2 h.2.2), if_neg (fun h => q2 h.2.2)]
    · rw [if_neg (fun h => q1 h.1)]
      by_cases q2 : k < r ∧ r < i ∧ k < c
      · rw [if_pos q2, if_pos ⟨q2.1, by omega, q2.2.2⟩]
      · rw [if_neg q2, if_neg (fun h => q2 ⟨h.1, by omega, h.2.2⟩)]
  · rw [decide_eq_false (by omega), cond_false]
    refine ⟨_, rfl, hM'.congr (fun r c hr _ => ?_)⟩
    by_cases q : k < r ∧ k < c
    · rw [if_pos q, if_pos ⟨q.1, by omega, q.2⟩]
    · rw [if_neg q, if_neg (fun h => q ⟨h.1, h.2.2⟩)]
def SInv (n : Nat) (d0 : Int) (k : Nat) (x : Int × Int × List (List Int)) : Prop :=
  ∃ (A F : Nat → Nat → Int), Mx n n x.2.2 F ∧ BInv n k x.2.1 A F ∧ (∀ i j, i < n → j < n → (A i j).natAbs ≤ 20) ∧ (x.1 = 1 ∨ x.1 = -1) ∧ x.1 * Dt ((List.range n).map A) (List.range n) = d0
theorem bd_mono : bd 20 1 = 20 ∧ bd 20 2 = 800 ∧ bd 20 3 = 48000 ∧ bd 20 4 = 3840000 ∧ bd 20 5 = 384000000 ∧ bd 20 6 = 46080000000 := by decide
theorem bd_le {k : Nat} (h : k ≤ 5) : bd 20 k ≤ 384000000 := by
  obtain ⟨b1, b2, b3, b4, b5, _⟩ := bd_mono
  have h0 : bd 20 0 = 1 := rfl
  rcases (show k = 0 ∨ k = 1 ∨ k = 2 ∨ k = 3 ∨ k = 4 ∨ k = 5 by omega) with rfl | rfl | rfl | rfl | rfl | rfl <;> omega
theorem bd_le6 {k : Nat} (h : k ≤ 6) : bd 20 k ≤ 46080000000 := by
  by_cases e : k = 6
  · subst e; rw [bd_mono.2.2.2.2.2]; omega
  · have := bd_le (k := k) (by omega); omega
theorem sg_stage {n k : Nat} (hn : n ≤ 6) (hk : k < n) {d0 : Int} {x : Int × Int × List (List Int)} (h : SInv n d0 k x) {fuel : Nat} (hf : 10 ≤ fuel) :
    (∃ x', pairs_Signed_b88 fuel (k : Int) x = some (.next x') ∧ SInv n d0 (k + 1) x') ∨ (pairs_Signed_b88 fuel (k : Int) x = some (.done (.ret (0, 0))) ∧ d0 = 0) := by
  obtain ⟨A, F, hM, hB, hA, hs, hd⟩ := h
  have hlen := hM.len
  have hck : ck (0 ≤ (k : Int) ∧ (k : Int) ≤ (List.length x.2.2 : Int) ∧ (List.length x.2.2 : Int) ≤ (List.length x.2.2 : Int)) = some () := ck_ok (by omega)
  unfold pairs_Signed_b88 slices_IndexFunc_LLintLint_with_pairs_Signed_1
  rw [hck, bind_some', sub_drop]
  have hrow : ∀ i a, a ∈ x.2.2.drop k → slices_IndexFunc_LLintLint_with_pairs_Signed_1_b1 (k : Int) i a () = some (bif (a.getD k 0 != 0) then .done (.ret i) else .next ()) := by
    intro i a ha
    obtain ⟨r, hr, e⟩ := List.getElem_of_mem (List.mem_of_mem_drop ha)
    obtain ⟨row, h1, h2, h3⟩ := hM.row r (by omega)
    rw [List.getElem?_eq_getElem hr, e] at h1
    obtain rfl := Option.some.inj h1
    unfold slices_IndexFunc_LLintLint_with_pairs_Signed_1_b1 pairs_Signed_1
    have : idx a (k : Int) = some (a.getD k 0) := by rw [idx_nat, List.getD_eq_getElem?_getD, h3 k hk]; rfl
    rw [this]
    simp only [bind_some']
    cases (a.getD k 0 != 0) <;> rfl
  have hat : ∀ (q : Nat) (a : List Int), (x.2.2.drop k)[q]? = some a → k + q < n ∧ x.2.2[k + q]? = some a ∧ a.getD k 0 = F (k + q) k := by
    intro q a ha
    rw [List.getElem?_drop] at ha
    have hlt := (List.getElem?_eq_some_iff.1 ha).1
    obtain ⟨row, h1, h2, h3⟩ := hM.row (k + q) (by omega)
    rw [ha] at h1
    obtain rfl := Option.some.inj h1
    exact ⟨by omega, ha, by rw [List.getD_eq_getElem?_getD, h3 k hk]; rfl⟩
  rcases first_row (fun a => a.getD k 0 != 0) hrow with ⟨h1, h2⟩ | ⟨q, a, h1, h2, h3⟩
  · right
    rw [h1]
    refine ⟨rfl, ?_⟩
    have hz := hB.zero hk (fun i hi1 hi2 => by
      obtain ⟨row, g1, g2, g3⟩ := hM.row i hi2
      have hm : row ∈ x.2.2.drop k := List.mem_of_getElem? (i := i - k) (by rw [List.getElem?_drop, show k + (i - k) = i by omega]; exact g1)
      have := h2 row hm
      rw [List.getD_eq_getElem?_getD, g3 k hk] at this
      simpa using this)
    rw [← hd, hz, Int.mul_zero]
  · left
    obtain ⟨q1, q2, q3⟩ := hat q a h2
    have hne : F (k + q) k ≠ 0 := by rw [← q3]; simpa using h3
    rw [h1]
    simp only [bind_some']
    rw [decide_eq_false (by omega), cond_false]
    -- the state behind the exchange
    obtain ⟨s', M', A', F', hg, hM', hB', hA', hs', hd', hne'⟩ : ∃ (s' : Int) (M' : List (List Int)) (A' F' : Nat → Nat → Int), pairs_Signed_g74 (k : Int) x (q : Int) = some (s', M') ∧ Mx n n M' F' ∧ BInv n k x.2.1 A' F' ∧ (∀ i j, i < n → j < n → (A' i j).natAbs ≤ 20) ∧ (s' = 1 ∨ s' = -1) ∧
        s' * Dt ((List.range n).map A') (List.range n) = d0 ∧ F' k k ≠ 0 := by
      unfold pairs_Signed_g74
      by_cases h0 : q = 0
      · subst h0
        rw [decide_eq_false (by omega), cond_false]
        exact ⟨x.1, x.2.2, A, F, rfl, hM, hB, hA, hs, hd, hne⟩
      · have hw : w64 ((k : Int) + (q : Int)) = ((k + q : Nat) : Int) := by rw [w64_id (by omega) (by omega)]; omega
        obtain ⟨ra, a1, a2, _⟩ := hM.at hk
        obtain ⟨rb, b1, b2, _⟩ := hM.at q1
        rw [decide_eq_true (by omega), cond_true, hw, b1, bind_some', a1, bind_some', Int.toNat_natCast, Int.toNat_natCast]
        refine ⟨w64 (0 - x.1), _, fun i => A (tr k (k + q) i), fun i => F (tr k (k + q) i), rfl, hM.swap hk q1 a2 b2, hB.perm (tr k (k + q)) (fun i hi => by unfold tr; rw [if_neg (by omega), if_neg (by omega)]) (fun i hi1 hi2 => by unfold tr; split <;> (try split) <;> omega),
          fun i j hi hj => hA _ j (by unfold tr; split <;> (try split) <;> omega) hj, ?_, ?_, ?_⟩
        · rw [w64_id (by omega) (by omega)]; omega
        · rw [w64_id (by omega) (by omega), Dt_tr (by omega) q1, ← hd, Int.mul_neg, Int.zero_sub, Int.neg_mul, Int.neg_neg]
        · show F (tr k (k + q) k) k ≠ 0
          unfold tr; rw [if_pos rfl]; exact hne
    rw [hg]
    simp only [bind_some']
    -- what comes next
    have hex : ∀ i j, ∃ Z : Int, k < i → i < n → k < j → j < n → F' k k * F' i j - F' i k * F' k j = x.2.1 * Z ∧ Z.natAbs ≤ bd 20 (k + 2) := by
      intro i j
      by_cases hc : (k < i ∧ i < n) ∧ (k < j ∧ j < n)
      · obtain ⟨Z, z1, z2⟩ := hB'.exact hA' hc.1 hc.2
        exact ⟨Z, fun _ _ _ _ => ⟨z1, z2⟩⟩
      · exact ⟨0, fun h1 h2 h3 h4 => (hc ⟨⟨h1, h2⟩, h3, h4⟩).elim⟩
    obtain ⟨E, hE⟩ : ∃ E : Nat → Nat → Int, ∀ i j, k < i → i < n → k < j → j < n → F' k k * F' i j - F' i k * F' k j = x.2.1 * E i j ∧ (E i j).natAbs ≤ bd 20 (k + 2) := ⟨fun i j => Classical.choose (hex i j), fun i j => Classical.choose_spec (hex i j)⟩
    obtain ⟨M2, m1, m2⟩ := sg_outer hn hk (x1 := x) (F := F') (E := E) (fun i c h1 h2 h3 h4 h5 => Nat.le_trans (hB'.abs hA' ⟨h1, h2⟩ ⟨h3, h4⟩) (bd_le (by omega))) (fun i c h1 h2 h3 h4 => by
      obtain ⟨e1, e2⟩ := hE i c h1 h2 h3 h4
      have := bd_le6 (k := k + 2) (by omega)
      exact ⟨e1, by omega⟩) hB'.pz hM' hf
    obtain ⟨rk, r1, r2, r3, r4⟩ := m2.at hk
    have e5 : idx rk (k : Int) = some (F' k k) := by rw [r4 k hk, if_neg (by omega)]
    rw [m1]
    simp only [bind_some']
    rw [r1]
    simp only [bind_some']
    rw [e5]
    refine ⟨(s', F' k k, M2), rfl, A', _, m2, hB'.step hk hne' (fun i j h1 h2 h3 h4 => ?_), hA', hs', hd'⟩
    rw [if_pos ⟨h1, h3⟩]
    exact (hE i j h1 h2 h3 h4).1.symm
theorem clone_int (l : List Int) (h : l.length ≤ 4294967295) : slices_Clone_Lintint l = some l := by
  unfold slices_Clone_Lintint
  cases l with
  | nil => first | rfl | simp
  | cons a l => first | (rw [ck_ok (by simp at h ⊢; omega)]; rfl) | (simp; omega) | rfl
theorem copy_rows {body : Int → List Int → List (List Int) → Option (Flow (List (List Int)) (List (List Int)))} {l : List (List Int)} (hl : l.length ≤ 100)
    (hb : ∀ i r x, r ∈ l → x.length ≤ 100 → body i r x = some (.next (x ++ [r]))) : forL body (fun x => x) l 0 [] = some l := by
  obtain ⟨y, h1, rfl⟩ := forL_inv (body := body) (fin := fun x => x) (l := l) (x := []) (fun n x => x = l.take n) (fun y => y = l) (by simp)
    (by
      rintro n r x hr rfl
      refine ⟨_, hb n r _ (List.mem_of_getElem? hr) (by rw [List.length_take]; omega), ?_⟩
      simp only
      rw [List.take_add_one, hr]; rfl)
    (by rintro x rfl; simp)
  exact h1
theorem signed_eq {n : Nat} {rows : List (List Int)} (hn : 1 ≤ n ∧ n ≤ 6) (h : SqOk n rows) (hw : pairs_wrong rows = some 0) {fuel : Nat} (hf : 10 ≤ fuel) : pairs_Signed fuel rows = some (Dt ((List.range n).map (fM rows)) (List.range n), 0) := by
  have hlen := h.len
  unfold pairs_Signed
  rw [hw, bind_some', show ((0 : Int) != 0) = false from rfl, cond_false]
  rw [copy_rows (by omega) (fun i r x hr hx => by
    have hrl := h.row r hr
    have hck : ck ((List.length x : Int) + 1 ≤ 4294967296) = some () := ck_ok (by omega)
    unfold pairs_Signed_b1
    rw [clone_int r (by omega), bind_some', hck, bind_some', Int.toNat_natCast, List.set_append_right _ _ (Nat.le_refl _), Nat.sub_self, List.set_cons_zero]), bind_some', hlen]
  have hA : ∀ i j, i < n → j < n → (fM rows i j).natAbs ≤ 20 := by
    intro i j hi hj
    have hg : rows[i]? = some rows[i] := List.getElem?_eq_getElem (by omega)
    have hl := h.row rows[i] (List.getElem_mem _)
    unfold fM
    rw [List.getD_eq_getElem?_getD (l := rows), hg, Option.getD_some, List.getD_eq_getElem?_getD, List.getElem?_eq_getElem (by omega)]
    exact h.val rows[i] (List.getElem_mem _) _ (List.getElem_mem _)
  obtain ⟨d0, hd0⟩ : ∃ d0, d0 = Dt ((List.range n).map (fM rows)) (List.range n) := ⟨_, rfl⟩
  have hdb : d0.natAbs ≤ 46080000000 := by
    have := Dt_abs 20 ((List.range n).map (fM rows)) (List.range n) (by simp) (fun r hr c hc => by
      obtain ⟨t, ht, rfl⟩ := List.mem_map.1 hr
      exact hA t c (List.mem_range.1 ht) (List.mem_range.1 hc))
    rw [← hd0, List.length_range] at this
    exact Nat.le_trans this (bd_le6 hn.2)
  obtain ⟨y, h1, h2⟩ := forI_inv (body := pairs_Signed_b88 fuel) (fin := fun x1619 => (Esc.brk (x1619.1, x1619.2.1) : Esc (Int × Int) (Int × Int))) (lo := 0) (hi := (n : Int)) (x := ((1 : Int), (1 : Int), rows))
    (fun i x => ∃ k : Nat, i = k ∧ k ≤ n ∧ SInv n d0 k x) (fun y => (∃ s l : Int, y = .brk (s, l) ∧ s * l = d0) ∨ (y = .ret (0, 0) ∧ d0 = 0)) (by omega) (by omega)
    ⟨0, rfl, by omega, fM rows, fM rows, Mx.of hlen h.row, BInv.init n _, hA, .inl rfl, by simp only [Int.one_mul]; exact hd0.symm⟩
    (by
      rintro i x hi0 hi ⟨k, rfl, hk, hI⟩
      rcases sg_stage hn.2 (by omega) hI hf with ⟨x', g1, g2⟩ | ⟨g1, g2⟩
      · exact ⟨_, g1, k + 1, by omega, by omega, g2⟩
      · exact ⟨_, g1, .inr ⟨rfl, g2⟩⟩)
    (by
      rintro i x _ h2 h3 ⟨k, rfl, hk, A, F, _, hB, _, _, hd⟩
      have : k = n := by omega
      subst this
      exact .inl ⟨x.1, x.2.1, rfl, by rw [hB.lead]; exact hd⟩)
  rw [h1, bind_some', ← hd0]
  rcases h2 with ⟨s, l, rfl, e⟩ | ⟨rfl, e⟩
  · simp only
    rw [e, w64_id (by omega) (by omega)]
  · rw [e]

/-- signs by turns -/
def sg1 : Nat → Int
  | 0 => 1
  | n + 1 => - sg1 n
theorem sg1_or (n : Nat) : sg1 n = 1 ∨ sg1 n = -1 := by
  induction n with
  | zero => exact .inl rfl
  | succ n ih => simp only [sg1]; omega
def sumTo (g : Nat → Int) : Nat → Int
  | 0 => 0
  | n + 1 => sumTo g n + g n
theorem sumTo_succ (g : Nat → Int) : ∀ n, sumTo g (n + 1) = g 0 + sumTo (fun j => g (j + 1)) n
  | 0 => by simp [sumTo]
  | n + 1 => by
    rw [sumTo, sumTo_succ g n]
    simp only [sumTo]; omega
theorem sumTo_congr {g h : Nat → Int} : ∀ {n : Nat}, (∀ j, j < n → g j = h j) → sumTo g n = sumTo h n
  | 0, _ => rfl
  | n + 1, e => by
    simp only [sumTo]
    rw [sumTo_congr (fun j hj => e j (by omega)), e n (by omega)]
theorem sumTo_neg (g : Nat → Int) : ∀ n, sumTo (fun j => - g j) n = - sumTo g n
  | 0 => rfl
  | n + 1 => by simp only [sumTo]; rw [sumTo_neg g n]; omega
theorem alt_sum : ∀ (cols : List Nat) (f : Nat → List Nat → Int), alt f cols = sumTo (fun j => sg1 j * f (cols.getD j 0) (cols.eraseIdx j)) cols.length
  | [], _ => rfl
  | c :: cs, f => by
    rw [List.length_cons, sumTo_succ]
    simp only [alt]
    rw [alt_sum cs]
    have e1 : sg1 0 * f ((c :: cs).getD 0 0) ((c :: cs).eraseIdx 0) = f c cs := by simp [sg1]
    have e2 : sumTo (fun j => sg1 (j + 1) * f ((c :: cs).getD (j + 1) 0) ((c :: cs).eraseIdx (j + 1))) cs.length = - sumTo (fun j => sg1 j * f (cs.getD j 0) (c :: cs.eraseIdx j)) cs.length := by
      rw [← sumTo_neg]
      refine sumTo_congr (fun j hj => ?_)
      simp [sg1, Int.neg_mul]
    rw [e1, e2]; omega
def skip (j c : Nat) : Nat := if c < j then c else c + 1
theorem range_erase {n j : Nat} (hj : j ≤ n) : (List.range (n + 1)).eraseIdx j = (List.range n).map (skip j) := by
  apply List.ext_getElem?
  intro i
  rw [List.getElem?_eraseIdx, List.getElem?_map]
  unfold skip
  by_cases h : i < j
  · rw [if_pos h, List.getElem?_range (by omega), List.getElem?_range (by omega), Option.map_some, if_pos h]
  · rw [if_neg h]
    by_cases h2 : i < n
    · rw [List.getElem?_range (by omega), List.getElem?_range h2, Option.map_some, if_neg h]
    · rw [List.getElem?_eq_none (by simp; omega), List.getElem?_eq_none (by simp; omega)]; rfl
def rf (r : List Int) (c : Nat) : Int := r.getD c 0
theorem rf_erase (r : List Int) (j : Nat) : rf (r.eraseIdx j) = fun c => rf r (skip j c) := by
  funext c
  unfold rf skip
  rw [List.getD_eq_getElem?_getD, List.getElem?_eraseIdx, List.getD_eq_getElem?_getD]
  split <;> rfl
theorem Dt_rows {n j : Nat} (hj : j ≤ n) (rows : List (List Int)) : Dt (rows.map rf) ((List.range (n + 1)).eraseIdx j) = Dt ((rows.map (·.eraseIdx j)).map rf) (List.range n) := by
  rw [range_erase hj, Dt_map, List.map_map, List.map_map]
  congr 1
  refine List.map_congr_left (fun r _ => ?_)
  simp only [Function.comp]
  rw [rf_erase]
theorem fM_rows {n : Nat} {rows : List (List Int)} (h : rows.length = n) : (List.range n).map (fM rows) = rows.map rf := by
  apply List.ext_getElem?
  intro i
  rw [List.getElem?_map, List.getElem?_map]
  by_cases hi : i < n
  · rw [List.getElem?_range hi, List.getElem?_eq_getElem (show i < rows.length by omega)]
    simp only [Option.map_some]
    congr 1
    funext c
    unfold fM rf
    rw [List.getD_eq_getElem?_getD (l := rows), List.getElem?_eq_getElem (show i < rows.length by omega)]; rfl
  · rw [List.getElem?_eq_none (by simp; omega), List.getElem?_eq_none (by omega)]; rfl
theorem Dt_rf_abs {n : Nat} {rows : List (List Int)} (h : SqOk n rows) : (Dt (rows.map rf) (List.range n)).natAbs ≤ bd 20 n := by
  have := Dt_abs 20 (rows.map rf) (List.range n) (by simp [h.len]) (fun r hr c hc => by
    obtain ⟨row, hrow, rfl⟩ := List.mem_map.1 hr
    have hl := h.row row hrow
    have hcn := List.mem_range.1 hc
    unfold rf
    rw [List.getD_eq_getElem?_getD, List.getElem?_eq_getElem (by omega)]
    exact h.val row hrow _ (List.getElem_mem _))
  simpa using this

theorem band_one (a : Int) : bAnd .i64 a (1 : Int) = a % 2 := by
  have h : (BitVec.ofInt 64 a &&& BitVec.ofInt 64 1).toNat = (a % 2).toNat := by
    rw [BitVec.toNat_and, BitVec.toNat_ofInt]
    have e1 : (BitVec.ofInt 64 1).toNat = 1 := by decide
    rw [e1, Nat.and_one_is_mod]
    omega
  unfold bAnd
  show IntKind.wrap .i64 ((BitVec.ofInt 64 a &&& BitVec.ofInt 64 1).toNat : Int) = a % 2
  rw [h, Int.toNat_of_nonneg (Int.emod_nonneg a (by decide))]
  rcases Int.emod_two_eq a with e | e <;> rw [e] <;> rfl
theorem tmod_odd (a : Int) : ((Int.tmod a (2 : Int) == (1 : Int)) || (Int.tmod a (2 : Int) == (-1 : Int))) = (a % 2 == 1) := by
  rcases Int.le_total 0 a with h | h
  · rw [Int.tmod_eq_emod_of_nonneg h]
    rcases Int.emod_two_eq a with e | e <;> rw [e] <;> rfl
  · obtain ⟨b, rfl⟩ : ∃ b, a = -b := ⟨-a, by omega⟩
    rw [Int.neg_tmod, Int.tmod_eq_emod_of_nonneg (by omega)]
    have : (-b) % 2 = b % 2 := by omega
    rw [this]
    rcases Int.emod_two_eq b with e | e <;> rw [e] <;> rfl
/-- the sum of all choices, and that with signs: they differ by something even -/
theorem ways_even : ∀ (n fuel : Nat) (rows : List (List Int)), n ≤ 6 → n < fuel → SqOk n rows → ∃ W t : Int, ref_Ways fuel rows = some W ∧ W.natAbs ≤ bd 20 n ∧ W = Dt (rows.map rf) (List.range n) + 2 * t
  | n, 0, rows, _, h, _ => by omega
  | 0, fuel + 1, rows, _, _, h => by
    have := h.len
    obtain rfl : rows = [] := List.length_eq_zero_iff.1 this
    exact ⟨1, 0, rfl, by decide, by rfl⟩
  | n + 1, fuel + 1, rows, hn, hf, h => by
    match rows, h with
    | [], h => exact absurd h.len (by simp)
    | r :: rs, h =>
      have hlen := h.len
      have hrl := h.row r (by simp)
      obtain ⟨g, hg⟩ : ∃ g : Nat → Int, g = fun j => rf r j * Dt (rs.map rf) ((List.range (n + 1)).eraseIdx j) := ⟨_, rfl⟩
      have hb5 : bd 20 n ≤ 384000000 := bd_le (by omega)
      have hlen2 : (((List.length (r :: rs) : Nat) : Int) == (0 : Int)) = false := by rw [hlen, beq_eq_false_iff_ne]; omega
      obtain ⟨y, q1, q2, t, q3⟩ := forL_inv (body := ref_Ways_b1 (r :: rs) (ref_Ways fuel)) (fin := fun x23 => x23) (l := r :: rs) (x := (0 : Int))
        (fun k x => x.natAbs ≤ k * (20 * bd 20 n) ∧ ∃ t : Int, x = sumTo (fun j => sg1 j * g j) k + 2 * t) (fun y => y.natAbs ≤ (n + 1) * (20 * bd 20 n) ∧ ∃ t : Int, y = sumTo (fun j => sg1 j * g j) (n + 1) + 2 * t) ⟨by simp, 0, by simp [sumTo]⟩
        (by
          rintro k a x ha ⟨hx, t, ht⟩
          have hk := (List.getElem?_eq_some_iff.1 ha).1
          rw [hlen] at hk
          have i1 : idx (r :: rs) (0 : Int) = some r := rfl
          have i2 : idx r (k : Int) = some (rf r k) := by
            rw [idx_nat]; unfold rf
            rw [List.getD_eq_getElem?_getD, List.getElem?_eq_getElem (by omega)]; rfl
          have hr20 : (rf r k).natAbs ≤ 20 := by
            unfold rf
            rw [List.getD_eq_getElem?_getD, List.getElem?_eq_getElem (by omega)]
            exact h.val r (by simp) _ (List.getElem_mem _)
          have i3 := without_eq (by omega) h (j := k) (by omega)
          obtain ⟨W, t', i4, i5, i6⟩ := ways_even n fuel _ (by omega) (by omega) (sq_erase h (j := k) (by omega))
          rw [← Dt_rows (by omega)] at i6
          have hm : (rf r k * W).natAbs ≤ 20 * bd 20 n := by rw [Int.natAbs_mul]; exact Nat.mul_le_mul hr20 i5
          have hkb : k * (20 * bd 20 n) ≤ 6 * (20 * 384000000) := Nat.mul_le_mul (by omega) (by omega)
          have hge : rf r k * Dt (rs.map rf) ((List.range (n + 1)).eraseIdx k) = g k := by rw [hg]
          have he : rf r k * W = g k + 2 * (rf r k * t') := by rw [i6, Int.mul_add, hge, Int.mul_left_comm]
          have w1 : w64 (rf r k * W) = rf r k * W := w64_id (by omega) (by omega)
          have w2 : w64 (x + rf r k * W) = x + rf r k * W := w64_id (by omega) (by omega)
          unfold ref_Ways_b1
          rw [i1, bind_some', i2, bind_some', i3, bind_some', i4, bind_some', w1, w2]
          refine ⟨_, rfl, ?_, ?_⟩
          · rw [Nat.succ_mul]
            generalize rf r k * W = m at *
            generalize 20 * bd 20 n = Q at *
            generalize k * Q = KQ at *
            omega
          · simp only [sumTo]
            rw [he, ht]
            generalize rf r k * t' = m at *
            generalize g k = gk at *
            generalize sumTo (fun j => sg1 j * g j) k = S at *
            rcases sg1_or k with e | e
            · exact ⟨t + m, by rw [e]; omega⟩
            · exact ⟨t + gk + m, by rw [e]; omega⟩)
        (by rintro x hx; rw [hlen] at hx; exact hx)
      refine ⟨y, t, ?_, ?_, ?_⟩
      · show ref_Ways_step (ref_Ways fuel) fuel (r :: rs) = _
        unfold ref_Ways_step
        rw [hlen2, cond_false, q1, bind_some']
      · exact q2
      · rw [q3]
        simp only [List.map_cons, Dt]
        rw [alt_sum, List.length_range]
        congr 1
        refine sumTo_congr (fun j hj => ?_)
        rw [hg, List.getD_eq_getElem?_getD, List.getElem?_range hj]; rfl

theorem PairsParities_true (a0 : List (List Int)) (f0 : Fits (.slice (.slice (.int .i64))) a0) : ∃ fuel, law_PairsParities fuel a0 = some true := by
  refine ⟨100, ?_⟩
  unfold law_PairsParities pairs_Parity
  rw [sq_ref]
  by_cases h0 : sqAll a0 = 0
  · obtain ⟨hn, hsq⟩ := sq_ok h0
    obtain ⟨W, t, w1, _, w2⟩ := ways_even a0.length 100 a0 hn.2 (by omega) hsq
    rw [signed_eq hn hsq (by rw [sq_wrong, h0]) (by omega), h0, bind_some', bind_some', bind_some', show ((0 : Int) != 0) = false from rfl, cond_false, w1, bind_some']
    simp only
    rw [tmod_odd, band_one, fM_rows rfl, w2, show ((0 : Int) == 0) = true from rfl, Bool.true_and]
    generalize Dt (a0.map rf) (List.range a0.length) = d
    have : (d + 2 * t) % 2 = d % 2 := by omega
    rw [this]; simp
  · have hs : pairs_Signed 100 a0 = some (0, sqAll a0) := by
      unfold pairs_Signed
      rw [sq_wrong, bind_some', show (sqAll a0 != 0) = true by simp [h0], cond_true]
    rw [hs, bind_some', bind_some', bind_some', show (sqAll a0 != 0) = true by simp [h0], cond_true]
    have : (bAnd .i64 (0 : Int) (1 : Int) == (1 : Int)) = false := by rw [band_one]; rfl
    rw [this]
    simp

end Go.Proofs.Ytnblafiefaalgaa.pairsParities
namespace Go.Proofs.Ytnblafiefaalgaa.pairsParities
open Go.ChangeShapes Go.WideShapes Go.ChangeAt Go.RowKit
open Go.ChangeMaps (open_string shut_string)
theorem own : ownKnob Try.prog.godebug = none := by kernel_rfl
theorem laidOut : laidOutB Try.prog = true := by kernel_rfl
theorem lifted (os : Os) (started : os.Started) (H : Type) (enc : TypeId × Value → H) :
    ReturnsInHanded {} Try.checked os 8 .any (Rows.pairsParitiesSpec.pre6 enc Try.prog Try.f8 Rows.pairsParitiesRow.domain false) (Rows.pairsParitiesSpec.post enc Try.prog Try.f8 false true false false) := by
  refine returnsInHanded_of_change (C := Try.checked) own started (by kernel_rfl) Try.func8
    (ChangeSpec.witness6 (enc := enc) (C := Try.checked) false ⟨#[], #[.slice none 0 0], []⟩ 8 (by kernel_rfl) (by kernel_rfl) (by kernel_rfl) (by kernel_rfl)) ?_
  intro W base args ds gs before hval0 hW hcnd _
  have hval : ∀ (j : Nat) t v, Try.f8.params[j]? = some t → args[j]? = some v → Value.okWide Try.prog W .any base t v := hval0
  have hW' := hW
  obtain ⟨p, q, hA0, hV, rfl, hfz, hnd⟩ := hW
  have hA : DataW.TrodAll enc Try.prog W 0 (fun _ => true) true Try.f8.params.toList args.toList ds p := hA0
  rw [Try.params8] at hA hval
  obtain ⟨v0, vs0, d0, ds0, p0, q0, hargs, rfl, rfl, h0, r0⟩ := trodAll_cons hA
  obtain ⟨rfl, rfl, rfl⟩ := trodAll_nil r0
  obtain rfl : args = #[v0] := by cases args; simp_all
  obtain ⟨rfl, rfl⟩ := trodVars_none hV
  obtain ⟨x0, f0, k0⟩ := Go.Sl.read_arg (u := (.slice (.slice (.int .i64)))) (by kernel_rfl) (by kernel_rfl) (hval 0 57 v0 rfl rfl) h0
  have lt0 : ∀ x ∈ p0, x.block < W.heap.size := by obtain ⟨m, hm⟩ := h0; exact DataW.trod_lt m _ _ _ hm
  clear hA0 hval0
  obtain ⟨fuel, hm⟩ := PairsParities_true x0 f0
  refine (Go.Sl.law_of (vs := [v0]) (law_PairsParities_ok hm) rfl (.cons (k0 _ _) .nil)).mono fun e W' ⟨he, bel⟩ => ?_
  subst he
  exact ⟨_, rfl, _, _, _, [], _, [], hW', trodAll_mk1 (shut_bool Try.underlying4 _), (trodAll_cons_mk (Below.trod laidOut (by kernel_rfl) (of_decide_eq_true (by kernel_rfl)) h0 bel lt0) trodAll_mk0), rfl, bel.frame _, fun h => by cases h⟩
theorem proved : Rows.PairsParitiesSaid :=
  OpenClaim.holds_of_wide 8 Try.f8 rfl rfl rfl rfl rfl rfl rfl ⟨rfl, rfl, rfl, rfl, rfl⟩ rfl rfl rfl rfl rfl (by kernel_rfl) Try.func8 (by kernel_rfl)
    (of_decide_eq_true (by kernel_rfl)) (by unfold Func.isWrapper; first | (rw [if_pos (by decide +kernel)]; kernel_rfl) | (rw [if_neg (by decide +kernel)]; exact ⟨rfl, rfl⟩))
    (fun os started H enc _ => lifted os started H enc)
#print axioms proved
end Go.Proofs.Ytnblafiefaalgaa.pairsParities
