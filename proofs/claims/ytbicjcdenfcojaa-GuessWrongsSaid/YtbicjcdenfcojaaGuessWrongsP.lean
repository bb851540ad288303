/- For any three squares guess.Wrong returns the specified results: GuessWrongs returns true and changes nothing; no conditions. -/
import Derived.Test.YtbicjcdenfcojaaRows
import Derived.WalkKit
import Derived.ProofKit
import Derived.OpenShut
import Derived.ShutString
import Derived.ChangeOld
import Derived.Below
import Derived.Test.YtbicjcdenfcojaaGuessWrongsM
set_option linter.all false
set_option maxRecDepth 100000
namespace Go.Proofs.Ytbicjcdenfcojaa.guessWrongs
open Go Go.Sl

theorem within_eq (a b c : Int) : ref_Within a b c = some (decide (a ≤ b ∧ b ≤ c)) := by
  unfold ref_Within
  rw [Bool.decide_and]

theorem cc_grow {n : Nat} (h : n ≤ 4294967296) : slices_Grow_Lintint (n : Int) = some [] := by
  unfold slices_Grow_Lintint
  rw [decide_eq_false (by omega), cond_false, Int.sub_zero, w64_id (by omega) (by omega)]
  by_cases h0 : (n : Int) > 0
  · rw [decide_eq_true h0, cond_true, ck_ok (show 0 ≤ (n : Int) ∧ (n : Int) ≤ 4294967296 by omega)]; rfl
  · rw [decide_eq_false h0]; rfl
theorem flat_take {α : Type} {l : List (List α)} {n : Nat} {v : List α} (h : l[n]? = some v) : (l.take (n + 1)).flatten = (l.take n).flatten ++ v := by
  rw [List.take_add_one, h]; simp
theorem flat_le {α : Type} (l : List (List α)) (n : Nat) : (l.take n).flatten.length ≤ l.flatten.length := by
  have : l = l.take n ++ l.drop n := (List.take_append_drop n l).symm
  conv => rhs; rw [this, List.flatten_append, List.length_append]
  omega
theorem cc_concat {l : List (List Int)} (h : l.flatten.length ≤ 1000000) : slices_Concat_Lintint l = some l.flatten := by
  unfold slices_Concat_Lintint
  obtain ⟨y, h1, h2⟩ := forL_inv (body := slices_Concat_Lintint_b7) (fin := fun x => x) (l := l) (x := (0 : Int)) (fun n x => x = (((l.take n).flatten.length : Nat) : Int)) (fun y => y = ((l.flatten.length : Nat) : Int)) (by simp)
    (fun n v x hv hx => by
      subst hx
      have hle := flat_le l (n + 1)
      have he := flat_take hv
      rw [he, List.length_append] at hle
      unfold slices_Concat_Lintint_b7
      rw [w64_id (by omega) (by omega), decide_eq_false (by omega), cond_false]
      exact ⟨_, rfl, by rw [he, List.length_append]; omega⟩)
    (fun x hx => by rw [hx, List.take_length])
  rw [h1, bind_some', h2, cc_grow (by omega), bind_some']
  obtain ⟨z, h3, h4⟩ := forL_inv (body := slices_Concat_Lintint_b10) (fin := fun x => x) (l := l) (x := ([] : List Int)) (fun n x => x = (l.take n).flatten) (fun y => y = l.flatten) (by simp)
    (fun n v x hv hx => by
      subst hx
      have hle := flat_le l (n + 1)
      have he := flat_take hv
      rw [he, List.length_append] at hle
      have hck : ck ((List.length (l.take n).flatten : Int) + (List.length v : Int) ≤ 4294967296) = some () := ck_ok (by omega)
      unfold slices_Concat_Lintint_b10
      rw [hck, bind_some']
      exact ⟨_, rfl, he.symm⟩)
    (fun x hx => by rw [hx, List.take_length])
  rw [h3, bind_some', h4]

theorem cc_grow2 {n : Nat} (h : n ≤ 4294967296) : slices_Grow_LLintLint (n : Int) = some [] := by
  unfold slices_Grow_LLintLint
  rw [decide_eq_false (by omega), cond_false, Int.sub_zero, w64_id (by omega) (by omega)]
  by_cases h0 : (n : Int) > 0
  · rw [decide_eq_true h0, cond_true, ck_ok (show 0 ≤ (n : Int) ∧ (n : Int) ≤ 4294967296 by omega)]; rfl
  · rw [decide_eq_false h0]; rfl
theorem cc_concat2 {l : List (List (List Int))} (h : l.flatten.length ≤ 1000000) : slices_Concat_LLintLint l = some l.flatten := by
  unfold slices_Concat_LLintLint
  obtain ⟨y, h1, h2⟩ := forL_inv (body := slices_Concat_LLintLint_b7) (fin := fun x => x) (l := l) (x := (0 : Int)) (fun n x => x = (((l.take n).flatten.length : Nat) : Int)) (fun y => y = ((l.flatten.length : Nat) : Int)) (by simp)
    (fun n v x hv hx => by
      subst hx
      have hle := flat_le l (n + 1)
      have he := flat_take hv
      rw [he, List.length_append] at hle
      unfold slices_Concat_LLintLint_b7
      rw [w64_id (by omega) (by omega), decide_eq_false (by omega), cond_false]
      exact ⟨_, rfl, by rw [he, List.length_append]; omega⟩)
    (fun x hx => by rw [hx, List.take_length])
  rw [h1, bind_some', h2, cc_grow2 (by omega), bind_some']
  obtain ⟨z, h3, h4⟩ := forL_inv (body := slices_Concat_LLintLint_b10) (fin := fun x => x) (l := l) (x := ([] : List (List Int))) (fun n x => x = (l.take n).flatten) (fun y => y = l.flatten) (by simp)
    (fun n v x hv hx => by
      subst hx
      have hle := flat_le l (n + 1)
      have he := flat_take hv
      rw [he, List.length_append] at hle
      have hck : ck ((List.length (l.take n).flatten : Int) + (List.length v : Int) ≤ 4294967296) = some () := ck_ok (by omega)
      unfold slices_Concat_LLintLint_b10
      rw [hck, bind_some']
      exact ⟨_, rfl, he.symm⟩)
    (fun x hx => by rw [hx, List.take_length])
  rw [h3, bind_some', h4]


/-- sums over the first numbers -/
def lsum (n : Nat) (g : Nat → Int) : Int := (List.range n).foldl (fun a t => a + g t) 0
theorem lsum_succ (n : Nat) (g : Nat → Int) : lsum (n + 1) g = lsum n g + g n := by
  unfold lsum; rw [List.range_succ, List.foldl_append]; rfl
theorem lsum_sub : ∀ (n : Nat) (g h : Nat → Int), lsum n (fun t => g t - h t) = lsum n g - lsum n h
  | 0, g, h => by simp [lsum]
  | n + 1, g, h => by rw [lsum_succ, lsum_succ, lsum_succ, lsum_sub n]; omega
theorem lsum_add : ∀ (n : Nat) (g h : Nat → Int), lsum n (fun t => g t + h t) = lsum n g + lsum n h
  | 0, g, h => by simp [lsum]
  | n + 1, g, h => by rw [lsum_succ, lsum_succ, lsum_succ, lsum_add n]; omega
theorem lsum_mul : ∀ (n : Nat) (k : Int) (g : Nat → Int), lsum n (fun t => k * g t) = k * lsum n g
  | 0, k, g => by simp [lsum]
  | n + 1, k, g => by rw [lsum_succ, lsum_succ, lsum_mul n, Int.mul_add]
theorem lsum_congr : ∀ (n : Nat) {g h : Nat → Int}, (∀ t, t < n → g t = h t) → lsum n g = lsum n h
  | 0, g, h, e => rfl
  | n + 1, g, h, e => by rw [lsum_succ, lsum_succ, lsum_congr n (fun t ht => e t (by omega)), e n (by omega)]
theorem lsum_zero (n : Nat) : lsum n (fun _ => 0) = 0 := by
  induction n with
  | zero => rfl
  | succ n ih => rw [lsum_succ, ih]; rfl
theorem lsum_one : ∀ (n x : Nat) (g : Nat → Int), x < n → lsum n (fun t => if x = t then g t else 0) = g x
  | 0, x, g, h => by omega
  | n + 1, x, g, h => by
    rw [lsum_succ]
    rcases Nat.lt_or_ge x n with h1 | h1
    · rw [lsum_one n x g h1, if_neg (by omega)]; omega
    · have : x = n := by omega
      subst this
      rw [if_pos rfl, lsum_congr x (h := fun _ => 0) (fun t ht => if_neg (by omega)), lsum_zero]; omega
theorem lsum_bound : ∀ (n : Nat) {g : Nat → Int} {b : Int}, (∀ t, t < n → -b ≤ g t ∧ g t ≤ b) → -(n * b) ≤ lsum n g ∧ lsum n g ≤ n * b
  | 0, g, b, h => by simp [lsum]
  | n + 1, g, b, h => by
    have h1 := lsum_bound n (fun t ht => h t (by omega))
    have h2 := h n (by omega)
    rw [lsum_succ]
    have e : ((n + 1 : Nat) : Int) * b = n * b + b := by rw [Int.natCast_add, Int.add_mul]; simp
    rw [e]; omega

theorem bit_eq {w i : Nat} (hw : w < 2 ^ 63) (hi : i < 63) : ref_Bit (w : Int) (i : Int) = some (w.testBit i) := by
  unfold ref_Bit
  have c : (decide ((i : Int) ≥ 0) && decide ((i : Int) < 63)) = true := by simp; omega
  have e : IntKind.wrap .u64 (i : Int) = (i : Int) := wrap_u64 (by omega) (by omega)
  rw [c, e, ck_ok (by omega)]
  simp only [cond_true, Option.bind_some, bit_mask hw hi]

def gBad (v : Int) : Bool := decide (v < 0) || decide (v ≥ 7)
def gForm (n : Int) (m : List (List Int)) : Bool := (m.length : Int) != n || m.any fun r => (r.length : Int) != n
def gsAll (a b c : List (List Int)) : Int :=
  bif !decide (1 ≤ (a.length : Int) ∧ (a.length : Int) ≤ 4) then 1 else bif [a, b, c].any (gForm a.length) then 3 else bif [a, b, c].any (fun m => m.any fun r => r.any gBad) then 4 else 0
theorem gs_rows (l : List (List Int)) (n : Int) : slices_ContainsFunc_LLintLint_with_guess_wrong_1 l n = some (l.any fun r => (r.length : Int) != n) := by
  unfold slices_ContainsFunc_LLintLint_with_guess_wrong_1 slices_IndexFunc_LLintLint_with_guess_wrong_1
  rcases forL_at (body := slices_IndexFunc_LLintLint_with_guess_wrong_1_b1 n) (fin := fun _ => (Esc.brk () : Esc Int Unit)) (p := fun r => (r.length : Int) != n) (g := fun j => Esc.ret j) (l := l)
    (fun i a _ => by unfold slices_IndexFunc_LLintLint_with_guess_wrong_1_b1 guess_wrong_1; cases ((List.length a : Int) != n) <;> rfl) (i := 0) with ⟨h1, h2⟩ | ⟨h1, j, h2, h3, h4⟩
  · rw [h2, h1]; rfl
  · rw [h4, h1]; simp [h2]
theorem gs_bad (l : List Int) : slices_ContainsFunc_Lintint_with_guess_wrong_2 l = some (l.any gBad) := by
  unfold slices_ContainsFunc_Lintint_with_guess_wrong_2 slices_IndexFunc_Lintint_with_guess_wrong_2
  rcases forL_at (body := slices_IndexFunc_Lintint_with_guess_wrong_2_b1) (fin := fun _ => (Esc.brk () : Esc Int Unit)) (p := gBad) (g := fun j => Esc.ret j) (l := l)
    (fun i a _ => by unfold slices_IndexFunc_Lintint_with_guess_wrong_2_b1 guess_wrong_2 gBad; cases (decide (a < 0) || decide (a ≥ 7)) <;> rfl) (i := 0) with ⟨h1, h2⟩ | ⟨h1, j, h2, h3, h4⟩
  · rw [h2, h1]; rfl
  · rw [h4, h1]; simp [h2]
theorem gs_inside (l : List Int) : ref_Inside 7 l = some (!l.any gBad) := by
  unfold ref_Inside
  rw [forL_ex (p := gBad) (y := Esc.ret false) (fun i a _ => by unfold ref_Inside_b1 gBad; cases (decide (a < 0) || decide (a ≥ 7)) <;> rfl)]
  cases (l.any gBad) <;> rfl
theorem gs_form {n : Nat} {m : List (List Int)} (h : gForm n m = false) : m.length = n ∧ ∀ r ∈ m, r.length = n := by
  unfold gForm at h
  simp only [Bool.or_eq_false_iff] at h
  refine ⟨by have := h.1; simp at this; omega, fun r hr => ?_⟩
  have := List.any_eq_false.1 h.2 r hr
  simp at this; omega
theorem gs_flen {n : Nat} : ∀ {m : List (List Int)}, (∀ r ∈ m, r.length = n) → m.flatten.length = m.length * n
  | [], _ => by simp
  | r :: m, h => by
    have := gs_flen (m := m) (fun q hq => h q (by simp [hq]))
    rw [List.flatten_cons, List.length_append, this, h r (by simp), List.length_cons, Nat.add_mul]; omega
theorem gs_wrong (a b c : List (List Int)) : guess_wrong [a, b, c] = some (gsAll a b c) := by
  unfold guess_wrong gsAll
  have e0 : idx [a, b, c] 0 = some a := rfl
  have e : ((decide ((List.length a : Int) < (1 : Int))) || (decide ((List.length a : Int) > (4 : Int)))) = !decide (1 ≤ (a.length : Int) ∧ (a.length : Int) ≤ 4) := by
    rw [or_dec, not_dec]; exact decide_eq_decide.2 (by omega)
  rw [e0, bind_some', e]
  by_cases h : 1 ≤ (a.length : Int) ∧ (a.length : Int) ≤ 4
  · rw [decide_eq_true h, forL_ex (p := gForm a.length) (y := Esc.ret 3) (fun i m _ => by
      unfold guess_wrong_b7 guess_wrong_g5 gForm
      rw [gs_rows]
      cases ((m.length : Int) != (a.length : Int)) <;> cases (m.any fun r => (r.length : Int) != (a.length : Int)) <;> rfl)]
    cases hf : [a, b, c].any (gForm a.length) with
    | true => rfl
    | false =>
      have hm : ∀ m ∈ [a, b, c], m.length = a.length ∧ ∀ r ∈ m, r.length = a.length := fun m hm => gs_form (by simpa using List.any_eq_false.1 hf m hm)
      have ha := hm a (by simp)
      have hb := hm b (by simp)
      have hc := hm c (by simp)
      have h1 : [a, b, c].flatten.length ≤ 12 := by
        simp only [List.flatten_cons, List.flatten_nil, List.append_nil, List.length_append]; omega
      have h2 : ∀ r ∈ [a, b, c].flatten, r.length = a.length := by
        intro r hr
        obtain ⟨m, hm1, hm2⟩ := List.mem_flatten.1 hr
        exact (hm m hm1).2 r hm2
      have h3 : [a, b, c].flatten.flatten.length ≤ 48 := by
        rw [gs_flen h2]
        exact Nat.le_trans (Nat.mul_le_mul h1 (show a.length ≤ 4 by omega)) (by omega)
      simp only [Bool.not_true, cond_false, bind_some']
      rw [cc_concat2 (by omega), bind_some', cc_concat (by omega), bind_some', gs_bad, bind_some']
      have e4 : [a, b, c].flatten.flatten.any gBad = [a, b, c].any (fun m => m.any fun r => r.any gBad) := by
        rw [List.any_flatten, List.any_flatten]
      rw [e4]
      cases [a, b, c].any (fun m => m.any fun r => r.any gBad) <;> rfl
  · rw [decide_eq_false h]; rfl
theorem gs_check (a b c : List (List Int)) : ref_SquaresCheck a b c = some (gsAll a b c) := by
  unfold ref_SquaresCheck gsAll
  rw [within_eq, bind_some']
  have hA : forI (0 : Int) (3 : Int) (ref_SquaresCheck_b12 a b c) (fun x63 => (Esc.brk () : Esc Int Unit)) () = some (bif [a, b, c].any (gForm a.length) then Esc.ret 3 else Esc.brk ()) := by
    have := forI_forL (body := ref_SquaresCheck_b12 a b c) (fin := fun _ => (Esc.brk () : Esc Int Unit)) (x := ()) (l := [a, b, c]) (by simp)
    have e3 : (([a, b, c] : List (List (List Int))).length : Int) = 3 := rfl
    rw [e3] at this
    rw [this]
    have hr : ∀ (i : Nat) m, [a, b, c][i]? = some m → ref_SquaresCheck_b12 a b c (i : Int) () = some (bif gForm a.length m then .done (.ret 3) else .next ()) := by
      intro i m hi
      unfold ref_SquaresCheck_b12 gForm
      rw [idx_nat, hi, bind_some', forL_ex (p := fun r : List Int => (r.length : Int) != (a.length : Int)) (y := Esc.ret 3) (fun i r _ => by unfold ref_SquaresCheck_b8; cases ((r.length : Int) != (a.length : Int)) <;> rfl)]
      cases ((m.length : Int) != (a.length : Int)) <;> cases (m.any fun r => (r.length : Int) != (a.length : Int)) <;> rfl
    have r0 := hr 0 a rfl
    have r1 := hr 1 b rfl
    have r2 := hr 2 c rfl
    have i0 : ((0 : Nat) : Int) = 0 := rfl
    have i1 : ((1 : Nat) : Int) = 0 + 1 := rfl
    have i2 : ((2 : Nat) : Int) = 0 + 1 + 1 := rfl
    rw [i0] at r0; rw [i1] at r1; rw [i2] at r2
    simp only [forL, r0, r1, r2, List.any_cons, List.any_nil, Bool.or_false]
    cases gForm a.length a <;> cases gForm a.length b <;> cases gForm a.length c <;> rfl
  have hB : forI (0 : Int) (3 : Int) (ref_SquaresCheck_b26 a b c) (fun x170 => (Esc.brk () : Esc Int Unit)) () = some (bif [a, b, c].any (fun m => m.any fun r => r.any gBad) then Esc.ret 4 else Esc.brk ()) := by
    have := forI_forL (body := ref_SquaresCheck_b26 a b c) (fin := fun _ => (Esc.brk () : Esc Int Unit)) (x := ()) (l := [a, b, c]) (by simp)
    have e3 : (([a, b, c] : List (List (List Int))).length : Int) = 3 := rfl
    rw [e3] at this
    rw [this]
    have hr : ∀ (i : Nat) m, [a, b, c][i]? = some m → ref_SquaresCheck_b26 a b c (i : Int) () = some (bif (m.any fun r => r.any gBad) then .done (.ret 4) else .next ()) := by
      intro i m hi
      unfold ref_SquaresCheck_b26
      rw [idx_nat, hi, bind_some', forL_ex (p := fun r : List Int => r.any gBad) (y := Esc.ret 4) (fun i r _ => by unfold ref_SquaresCheck_b22; rw [gs_inside, bind_some']; cases (r.any gBad) <;> rfl)]
      cases (m.any fun r => r.any gBad) <;> rfl
    have r0 := hr 0 a rfl
    have r1 := hr 1 b rfl
    have r2 := hr 2 c rfl
    have i0 : ((0 : Nat) : Int) = 0 := rfl
    have i1 : ((1 : Nat) : Int) = 0 + 1 := rfl
    have i2 : ((2 : Nat) : Int) = 0 + 1 + 1 := rfl
    rw [i0] at r0; rw [i1] at r1; rw [i2] at r2
    simp only [forL, r0, r1, r2, List.any_cons, List.any_nil, Bool.or_false]
    cases (a.any fun r => r.any gBad) <;> cases (b.any fun r => r.any gBad) <;> cases (c.any fun r => r.any gBad) <;> rfl
  rw [hA, hB]
  cases decide (1 ≤ (a.length : Int) ∧ (a.length : Int) ≤ 4) <;> cases [a, b, c].any (gForm a.length) <;> cases [a, b, c].any (fun m => m.any fun r => r.any gBad) <;> rfl
/-- a square of numbers below 7 -/
def Sq (n : Nat) (m : List (List Int)) : Prop := m.length = n ∧ ∀ r ∈ m, r.length = n ∧ ∀ v ∈ r, 0 ≤ v ∧ v < 7
theorem gs_ok {a b c : List (List Int)} (h : gsAll a b c = 0) : 1 ≤ a.length ∧ a.length ≤ 4 ∧ Sq a.length a ∧ Sq a.length b ∧ Sq a.length c := by
  unfold gsAll at h
  by_cases h1 : 1 ≤ (a.length : Int) ∧ (a.length : Int) ≤ 4
  · rw [decide_eq_true h1] at h
    cases h2 : [a, b, c].any (gForm a.length) with
    | true => rw [h2] at h; cases h
    | false =>
      rw [h2] at h
      cases h3 : [a, b, c].any (fun m => m.any fun r => r.any gBad) with
      | true => rw [h3] at h; cases h
      | false =>
        have hm : ∀ m ∈ [a, b, c], Sq a.length m := fun m hm => by
          obtain ⟨q1, q2⟩ := gs_form (by simpa using List.any_eq_false.1 h2 m hm)
          refine ⟨q1, fun r hr => ⟨q2 r hr, fun v hv => ?_⟩⟩
          have w1 : (m.any fun r => r.any gBad) = false := by simpa using List.any_eq_false.1 h3 m hm
          have w2 : r.any gBad = false := by simpa using List.any_eq_false.1 w1 r hr
          have w3 := List.any_eq_false.1 w2 v hv
          unfold gBad at w3
          simp only [Bool.or_eq_true, decide_eq_true_eq, not_or] at w3
          omega
        exact ⟨by omega, by omega, hm a (by simp), hm b (by simp), hm c (by simp)⟩
  · rw [decide_eq_false h1] at h; cases h
def E (m : List (List Int)) (i j : Nat) : Int := (m.getD i []).getD j 0
theorem row_get {n : Nat} {r v : List Int} (hl : r.length = n) {j : Nat} (hj : j < n) : r[j]? = some (r.getD j 0) := by
  rw [List.getD_eq_getElem?_getD, List.getElem?_eq_getElem (by omega)]; rfl
theorem Sq.row {n : Nat} {m : List (List Int)} (h : Sq n m) {i : Nat} (hi : i < n) : m[i]? = some (m.getD i []) ∧ (m.getD i []).length = n ∧ ∀ j, j < n → (m.getD i [])[j]? = some (E m i j) ∧ 0 ≤ E m i j ∧ E m i j < 7 := by
  have e : m.getD i [] = m[i]'(by rw [h.1]; exact hi) := by rw [List.getD_eq_getElem?_getD, List.getElem?_eq_getElem]; rfl
  have hm := h.2 _ (List.getElem_mem (show i < m.length by rw [h.1]; exact hi))
  rw [← e] at hm
  refine ⟨by rw [List.getD_eq_getElem?_getD, List.getElem?_eq_getElem (by rw [h.1]; exact hi)]; rfl, hm.1, fun j hj => ?_⟩
  have hg := row_get (v := []) hm.1 hj
  exact ⟨hg, hm.2 _ (List.mem_of_getElem? hg)⟩
theorem lsum_swap : ∀ (n m : Nat) (f : Nat → Nat → Int), lsum n (fun j => lsum m (fun k => f j k)) = lsum m (fun k => lsum n (fun j => f j k))
  | 0, m, f => by
    have : ∀ k, lsum 0 (fun j => f j k) = 0 := fun k => rfl
    simp only [this, lsum_zero]; rfl
  | n + 1, m, f => by
    rw [lsum_succ, lsum_swap n m f, ← lsum_add]
    exact lsum_congr m (fun k _ => by rw [lsum_succ])
theorem lsum_mod : ∀ (n : Nat) {f g : Nat → Int}, (∀ i, i < n → f i % 7 = g i % 7) → lsum n f % 7 = lsum n g % 7
  | 0, f, g, _ => rfl
  | n + 1, f, g, h => by
    have h1 := lsum_mod n (fun i hi => h i (by omega))
    have h2 := h n (by omega)
    rw [lsum_succ, lsum_succ]; omega
theorem lsum_range : ∀ (n : Nat) {f : Nat → Int} {b : Int}, (∀ i, i < n → 0 ≤ f i ∧ f i ≤ b) → 0 ≤ lsum n f ∧ lsum n f ≤ n * b
  | 0, f, b, _ => by simp [lsum]
  | n + 1, f, b, h => by
    have h1 := lsum_range n (fun i hi => h i (by omega))
    have h2 := h n (by omega)
    rw [lsum_succ]
    have e : ((n + 1 : Nat) : Int) * b = n * b + b := by rw [Int.natCast_add, Int.add_mul]; simp
    rw [e]; omega
theorem mul66 {a b : Int} (ha : 0 ≤ a ∧ a < 7) (hb : 0 ≤ b ∧ b < 7) : 0 ≤ a * b ∧ a * b ≤ 36 := by
  refine ⟨Int.mul_nonneg ha.1 hb.1, ?_⟩
  have := Int.mul_le_mul (show a ≤ 6 by omega) (show b ≤ 6 by omega) hb.1 (by omega)
  omega
def dotr (n : Nat) (m : List (List Int)) (v : List Int) (i : Nat) : Int := lsum n (fun j => E m i j * v.getD j 0) % 7
theorem rmap_len (n : Nat) (f : Nat → Int) : ((List.range n).map f).length = n := by simp
theorem rmap_getD {n : Nat} (f : Nat → Int) {i : Nat} (h : i < n) : ((List.range n).map f).getD i 0 = f i := by
  rw [List.getD_eq_getElem?_getD, List.getElem?_map, List.getElem?_range h]; rfl
theorem gt_times {n : Nat} (hn : n ≤ 4) {m : List (List Int)} (hm : Sq n m) {v : List Int} (hv : v.length = n) (hv7 : ∀ j, j < n → 0 ≤ v.getD j 0 ∧ v.getD j 0 < 7) : guess_times m v = some ((List.range n).map (dotr n m v)) := by
  unfold guess_times
  obtain ⟨y, h1, h2⟩ := forL_inv (body := guess_times_b10 v) (fin := fun x => x) (l := m) (x := ([] : List Int)) (fun k x => x = (List.range k).map (dotr n m v)) (fun y => y = (List.range n).map (dotr n m v)) rfl
    (fun i r x hr hx => by
      have hi : i < n := by rw [← hm.1]; exact (List.getElem?_eq_some_iff.1 hr).1
      obtain ⟨q1, q2, q3⟩ := hm.row hi
      rw [q1] at hr
      obtain rfl := Option.some.inj hr
      have hin : forL (guess_times_b7 v) (fun x81 => x81) (m.getD i []) 0 (0 : Int) = some (lsum n (fun j => E m i j * v.getD j 0)) := by
        obtain ⟨z, g1, g2⟩ := forL_inv (body := guess_times_b7 v) (fin := fun x => x) (l := m.getD i []) (x := (0 : Int)) (fun k x => x = lsum k (fun j => E m i j * v.getD j 0)) (fun y => y = lsum n (fun j => E m i j * v.getD j 0)) rfl
          (fun j a x ha hx => by
            have hj : j < n := by rw [← q2]; exact (List.getElem?_eq_some_iff.1 ha).1
            obtain ⟨u1, u2⟩ := q3 j hj
            rw [u1] at ha
            obtain rfl := Option.some.inj ha
            have hb := mul66 u2 (hv7 j hj)
            have hr := lsum_range j (f := fun j => E m i j * v.getD j 0) (b := 36) (fun t ht => mul66 (q3 t (by omega)).2 (hv7 t (by omega)))
            subst hx
            unfold guess_times_b7
            rw [idx_nat, row_get (v := []) hv hj, bind_some', w64_id (n := E m i j * v.getD j 0) (by omega) (by omega), w64_id (by omega) (by omega)]
            exact ⟨_, rfl, by rw [lsum_succ]⟩)
          (fun x hx => by rw [hx, q2])
        rw [g1, g2]
      have hr := lsum_range n (f := fun j => E m i j * v.getD j 0) (b := 36) (fun t ht => mul66 (q3 t ht).2 (hv7 t ht))
      subst hx
      have hck : ck ((List.length ((List.range i).map (dotr n m v)) : Int) + 1 ≤ 4294967296) = some () := ck_ok (by rw [rmap_len]; omega)
      unfold guess_times_b10
      rw [hin, bind_some', hck, bind_some', Int.tmod_eq_emod_of_nonneg hr.1]
      exact ⟨_, rfl, by rw [List.range_succ, List.map_append]; rfl⟩)
    (fun x hx => by rw [hx, hm.1])
  rw [h1, h2]; rfl
theorem g_eqs (a b : List Int) : slices_Equal_Lintint a b = some (decide (a = b)) := by
  unfold slices_Equal_Lintint
  rw [len_ne]
  by_cases h : a.length = b.length
  · rw [forL_eqs (q := b) (fun n x c hc => by
      unfold slices_Equal_Lintint_b1
      rw [idx_nat, hc, bind_some']
      by_cases hx : x = c
      · subst hx; simp
      · have : (x != c) = true := by simpa using hx
        simp [hx, this]) h]
    by_cases hab : a = b <;> simp [h, hab]
  · have : a ≠ b := fun e => h (by rw [e])
    simp [h, this]
def v01 (w n : Nat) : List Int := (List.range n).map fun j => if w.testBit j then 1 else 0
theorem v01_get {w n j : Nat} (h : j < n) : (v01 w n).getD j 0 = if w.testBit j then 1 else 0 := rmap_getD _ h
theorem dotr_range (n : Nat) (m : List (List Int)) (v : List Int) (i : Nat) : 0 ≤ dotr n m v i ∧ dotr n m v i < 7 := by unfold dotr; omega
/-- is it right in a row? -/
def rowOk (n : Nat) (a b c : List (List Int)) (w i : Nat) : Bool := decide (dotr n a ((List.range n).map (dotr n b (v01 w n))) i = dotr n c (v01 w n) i)
def prodOk (n : Nat) (a b c : List (List Int)) (w : Nat) : Bool := (List.range n).all (rowOk n a b c w)
theorem g_prod {n : Nat} (hn : n ≤ 4) {a b c : List (List Int)} (ha : Sq n a) (hb : Sq n b) (hc : Sq n c) (w : Nat) : guess_product a b c (v01 w n) = some (prodOk n a b c w) := by
  have hv : ∀ j, j < n → 0 ≤ (v01 w n).getD j 0 ∧ (v01 w n).getD j 0 < 7 := fun j hj => by rw [v01_get hj]; split <;> omega
  unfold guess_product
  rw [gt_times hn hb (v := v01 w n) (rmap_len _ _) hv, bind_some', gt_times hn ha (rmap_len _ _) (fun j hj => by rw [rmap_getD _ hj]; exact dotr_range _ _ _ _), bind_some', gt_times hn hc (v := v01 w n) (rmap_len _ _) hv, bind_some', g_eqs, bind_some']
  congr 1
  unfold prodOk
  rw [Bool.eq_iff_iff, decide_eq_true_iff, List.all_eq_true]
  constructor
  · intro e i hi
    have hi := List.mem_range.1 hi
    unfold rowOk
    rw [decide_eq_true_iff]
    have := congrArg (fun l : List Int => l.getD i 0) e
    simp only [rmap_getD _ hi] at this
    exact this
  · intro h
    apply List.map_congr_left
    intro i hi
    have := h i hi
    unfold rowOk at this
    exact of_decide_eq_true this
theorem g_row {n : Nat} (hn : n ≤ 4) {a b c : List (List Int)} (ha : Sq n a) (hb : Sq n b) (hc : Sq n c) {w i : Nat} (hi : i < n) :
    (lsum n (fun j => if w.testBit j then lsum n (fun k => E a i k * E b k j) + 7 - E c i j else 0) % 7 = 0) ↔ rowOk n a b c w i = true := by
  unfold rowOk dotr
  rw [decide_eq_true_iff]
  have e1 : lsum n (fun j => E a i j * ((List.range n).map (fun i => lsum n (fun j => E b i j * (v01 w n).getD j 0) % 7)).getD j 0) % 7 = lsum n (fun k => E a i k * lsum n (fun j => E b k j * (v01 w n).getD j 0)) % 7 := by
    refine lsum_mod n (fun k hk => ?_)
    rw [rmap_getD _ hk, Int.mul_emod, Int.emod_emod_of_dvd _ (Int.dvd_refl 7), ← Int.mul_emod]
  have e2 : lsum n (fun k => E a i k * lsum n (fun j => E b k j * (v01 w n).getD j 0)) = lsum n (fun j => lsum n (fun k => E a i k * E b k j) * (v01 w n).getD j 0) := by
    have : ∀ k, E a i k * lsum n (fun j => E b k j * (v01 w n).getD j 0) = lsum n (fun j => E a i k * (E b k j * (v01 w n).getD j 0)) := fun k => (lsum_mul n _ _).symm
    simp only [this]
    rw [lsum_swap]
    refine lsum_congr n (fun j _ => ?_)
    rw [Int.mul_comm, ← lsum_mul]
    exact lsum_congr n (fun k _ => by rw [← Int.mul_assoc, Int.mul_comm])
  have e3 : lsum n (fun j => if w.testBit j then lsum n (fun k => E a i k * E b k j) + 7 - E c i j else 0) =
      lsum n (fun j => lsum n (fun k => E a i k * E b k j) * (v01 w n).getD j 0) + 7 * lsum n (fun j => (v01 w n).getD j 0) - lsum n (fun j => E c i j * (v01 w n).getD j 0) := by
    rw [← lsum_mul, ← lsum_add, ← lsum_sub]
    refine lsum_congr n (fun j hj => ?_)
    rw [v01_get hj]
    split <;> omega
  rw [e1, e2, e3]
  omega
theorem g_ref {n : Nat} (hn : n ≤ 4) {a b c : List (List Int)} (ha : Sq n a) (hb : Sq n b) (hc : Sq n c) {w : Nat} (hw : w < 2 ^ 63) : ref_Product a b c (w : Int) = some (prodOk n a b c w) := by
  have hrow : ∀ (i : Nat) r, a[i]? = some r → ref_Product_b109 a b c (w : Int) (i : Int) r () = some (said (fun _ : Unit => Esc.ret false) (bif rowOk n a b c w i then none else some ())) := by
    intro i r hr
    have hi : i < n := by rw [← ha.1]; exact (List.getElem?_eq_some_iff.1 hr).1
    obtain ⟨q1, q2, q3⟩ := ha.row hi
    obtain ⟨c1, c2, c3⟩ := hc.row hi
    rw [q1] at hr
    obtain rfl := Option.some.inj hr
    have hbnd : ∀ j, j < n → 0 ≤ lsum n (fun k => E a i k * E b k j) ∧ lsum n (fun k => E a i k * E b k j) ≤ n * 36 := fun j hj => lsum_range n (fun k hk => mul66 (q3 k hk).2 ((hb.row hk).2.2 j hj).2)
    have hterm : ∀ j, j < n → 0 ≤ (if w.testBit j then lsum n (fun k => E a i k * E b k j) + 7 - E c i j else 0) ∧ (if w.testBit j then lsum n (fun k => E a i k * E b k j) + 7 - E c i j else 0) ≤ 151 := by
      intro j hj
      have := hbnd j hj
      have := (c3 j hj).2
      split <;> omega
    have hout : forL (ref_Product_b106 a b c (w : Int) (i : Int) (a.getD i [])) (fun x1158 => x1158) a 0 (0 : Int) = some (lsum n (fun j => if w.testBit j then lsum n (fun k => E a i k * E b k j) + 7 - E c i j else 0)) := by
      obtain ⟨z, g1, g2⟩ := forL_inv (body := ref_Product_b106 a b c (w : Int) (i : Int) (a.getD i [])) (fin := fun x => x) (l := a) (x := (0 : Int)) (fun k x => x = lsum k (fun j => if w.testBit j then lsum n (fun k => E a i k * E b k j) + 7 - E c i j else 0)) (fun y => y = lsum n (fun j => if w.testBit j then lsum n (fun k => E a i k * E b k j) + 7 - E c i j else 0)) rfl
        (fun j q x hq hx => by
          have hj : j < n := by rw [← ha.1]; exact (List.getElem?_eq_some_iff.1 hq).1
          have hx0 := lsum_range j (fun t ht => hterm t (by omega))
          have hj0 := hbnd j hj
          have hcj := c3 j hj
          subst hx
          unfold ref_Product_b106 ref_Product_g104
          rw [bit_eq hw (by omega), bind_some']
          cases hbit : w.testBit j with
          | false => exact ⟨_, rfl, by rw [lsum_succ, hbit]; simp⟩
          | true =>
            generalize hX : lsum j (fun j => if w.testBit j then lsum n (fun k => E a i k * E b k j) + 7 - E c i j else 0) = X at *
            have hin : forL (ref_Product_b101 b (a.getD i []) (j : Int)) (fun x1265 => x1265) a 0 X = some (X + lsum n (fun k => E a i k * E b k j)) := by
              obtain ⟨u, s1, s2⟩ := forL_inv (body := ref_Product_b101 b (a.getD i []) (j : Int)) (fin := fun x => x) (l := a) (x := X) (fun k x => x = X + lsum k (fun k => E a i k * E b k j)) (fun y => y = X + lsum n (fun k => E a i k * E b k j)) (by simp [lsum])
                (fun k q x hq hx => by
                  have hk : k < n := by rw [← ha.1]; exact (List.getElem?_eq_some_iff.1 hq).1
                  obtain ⟨b1, b2, b3⟩ := hb.row hk
                  have hm := mul66 (q3 k hk).2 (b3 j hj).2
                  have hl := lsum_range k (f := fun k => E a i k * E b k j) (b := 36) (fun t ht => mul66 (q3 t (by omega)).2 ((hb.row (show t < n by omega)).2.2 j hj).2)
                  subst hx
                  unfold ref_Product_b101
                  rw [idx_nat, (q3 k hk).1, bind_some', idx_nat, b1, bind_some', idx_nat, (b3 j hj).1, bind_some', w64_id (n := E a i k * E b k j) (by omega) (by omega), w64_id (by omega) (by omega)]
                  exact ⟨_, rfl, by rw [lsum_succ]; omega⟩)
                (fun x hx => by rw [hx, ha.1])
              rw [s1, s2]
            simp only [Bool.not_true, cond_false]
            rw [hin, bind_some', idx_nat, c1, bind_some', idx_nat, hcj.1, bind_some', w64_id (n := X + lsum n (fun k => E a i k * E b k j) + 7) (by omega) (by omega), w64_id (by omega) (by omega), bind_some']
            refine ⟨_, rfl, ?_⟩
            rw [lsum_succ, hX, hbit, if_pos rfl]; omega)
        (fun x hx => by rw [hx, ha.1])
      rw [g1, g2]
    have hpos := lsum_range n hterm
    unfold ref_Product_b109
    rw [hout, bind_some', Int.tmod_eq_emod_of_nonneg hpos.1]
    have hiff := g_row hn ha hb hc (w := w) hi
    cases hro : rowOk n a b c w i with
    | true => rw [(hiff.2 hro)]; rfl
    | false =>
      have : (lsum n (fun j => if w.testBit j then lsum n (fun k => E a i k * E b k j) + 7 - E c i j else 0) % 7 != 0) = true := by
        rw [bne_iff_ne]
        intro e
        rw [hiff.1 e] at hro; cases hro
      rw [this]; rfl
  unfold ref_Product
  rw [forL_findI (f := fun i _ => bif rowOk n a b c w i then none else some ()) (g := fun _ : Unit => Esc.ret false) (fun i r hr => hrow i r hr)]
  cases hf : firstOf (fun i (_ : List Int) => bif rowOk n a b c w i then none else some ()) 0 a with
  | none =>
    have : prodOk n a b c w = true := by
      unfold prodOk
      rw [List.all_eq_true]
      intro i hi
      have hi := List.mem_range.1 hi
      have := firstOf_none hf (ha.row hi).1
      cases hro : rowOk n a b c w i with
      | true => rfl
      | false => rw [hro] at this; cases this
    rw [this]; rfl
  | some u =>
    obtain ⟨j, r, h1, h2⟩ := firstOf_some hf
    have hj : j < n := by rw [← ha.1]; exact (List.getElem?_eq_some_iff.1 h1).1
    have : prodOk n a b c w = false := by
      unfold prodOk
      rw [List.all_eq_false]
      refine ⟨j, List.mem_range.2 hj, ?_⟩
      cases hro : rowOk n a b c w j with
      | true => rw [hro] at h2; cases h2
      | false => simp
    rw [this]; rfl

theorem iter_seq {X Y : Type} {f : X → Option (Flow X Y)} {s : Nat → X} {y : Y} {n : Nat} (hs : ∀ j, j < n → f (s j) = some (.next (s (j + 1)))) (hf : f (s n) = some (.done y)) : ∀ (k j fuel : Nat), j + k = n → k < fuel → iter f fuel (s j) = some y
  | k, j, 0, _, h => by omega
  | 0, j, fuel + 1, h, _ => by
    have : j = n := by omega
    subst this
    simp only [iter, hf]
  | k + 1, j, fuel + 1, h, hk => by
    simp only [iter, hs j (by omega)]
    exact iter_seq hs hf k (j + 1) fuel (by omega) (by omega)

theorem GuessWrongs_true (a0 a1 a2 : List (List Int)) (f0 : Fits (.slice (.slice (.int .i64))) a0) (f1 : Fits (.slice (.slice (.int .i64))) a1) (f2 : Fits (.slice (.slice (.int .i64))) a2) : ∃ fuel, law_GuessWrongs fuel a0 a1 a2 = some true := by
  refine ⟨100, ?_⟩
  unfold law_GuessWrongs guess_Wrong
  rw [gs_wrong, gs_check]
  simp only [bind_some']
  by_cases hz : gsAll a0 a1 a2 = 0
  · obtain ⟨h1, h2, ha, hb, hc⟩ := gs_ok hz
    have hp : 2 ^ a0.length ≤ 16 := by
      have := Nat.pow_le_pow_right (n := 2) (by omega) h2
      simpa using this
    rw [hz, ck_ok (by omega), bShl_one (by omega)]
    simp only [bne_self_eq_false, cond_false, bind_some']
    have hcnt : forI (0 : Int) ((2 ^ a0.length : Nat) : Int) (guess_Wrong_b34 a0 a1 a2) (fun x182 => x182) (0 : Int) = some (((List.range (2 ^ a0.length)).countP (fun w => !prodOk a0.length a0 a1 a2 w) : Nat) : Int) := by
      refine forI_count (p := fun w => !prodOk a0.length a0 a1 a2 w) (by omega) (fun w x hw => ?_)
      have hv : forL (guess_Wrong_b29 (w : Int)) (fun x252 => x252) (List.replicate a0.length (0 : Int)) 0 (List.replicate a0.length (0 : Int)) = some (v01 w a0.length) := by
        obtain ⟨y, p1, p2⟩ := forL_inv (body := guess_Wrong_b29 (w : Int)) (fin := fun x => x) (l := List.replicate a0.length (0 : Int)) (x := List.replicate a0.length (0 : Int)) (fun n x => n ≤ a0.length ∧ x = (List.range n).map (fun j => if w.testBit j then (1 : Int) else 0) ++ List.replicate (a0.length - n) 0) (fun y => y = v01 w a0.length) ⟨by omega, by simp⟩
          (fun n v x hv hx => by
            have hn := (List.getElem?_eq_some_iff.1 hv).1
            rw [List.length_replicate] at hn
            have hrep : List.replicate (a0.length - n) (0 : Int) = 0 :: List.replicate (a0.length - (n + 1)) 0 := by
              rw [show a0.length - n = (a0.length - (n + 1)) + 1 by omega]; rfl
            obtain ⟨_, rfl⟩ := hx
            rw [hrep]
            have hi : idx ((List.range n).map (fun j => if w.testBit j then (1 : Int) else 0) ++ 0 :: List.replicate (a0.length - (n + 1)) 0) (n : Int) = some 0 := by
              rw [idx_nat, List.getElem?_append_right (by simp)]; simp
            have hbit : bAnd .i64 (bShr .i64 (w : Int) (n : Int)) 1 = if w.testBit n then 1 else 0 := by
              rw [bShr_nat64 (by omega)]
              have hlt : w / 2 ^ n < 2 ^ 63 := Nat.lt_of_le_of_lt (Nat.div_le_self _ _) (by omega)
              have := bAnd_nat (a := w / 2 ^ n) (b := 1) hlt (by omega)
              rw [show ((1 : Nat) : Int) = 1 from rfl] at this
              rw [this, Nat.and_one_is_mod]
              have h2 := Nat.testBit_eq_decide_div_mod_eq (x := w) (i := n)
              rw [h2]
              have := Nat.mod_two_eq_zero_or_one (w / 2 ^ n)
              rcases this with h | h <;> rw [h] <;> rfl
            unfold guess_Wrong_b29
            rw [ck_ok (by omega), bind_some', hi, bind_some', Int.toNat_natCast, List.set_append_right _ _ (by simp), hbit]
            refine ⟨.next ((List.range (n + 1)).map (fun j => if w.testBit j then (1 : Int) else 0) ++ List.replicate (a0.length - (n + 1)) 0), ?_, by omega, rfl⟩
            rw [List.range_succ, List.map_append, List.map_cons, List.map_nil, List.append_assoc]
            simp)
          (fun x hx => by
            rw [List.length_replicate] at hx
            rw [hx.2]; simp [v01])
        rw [p1, p2]
      unfold guess_Wrong_b34 guess_Wrong_g32
      rw [ck_ok (show 0 ≤ (a0.length : Int) ∧ (a0.length : Int) = (a0.length : Int) ∧ (a0.length : Int) ≤ 4294967296 by omega), bind_some', Int.toNat_natCast, hv, bind_some', g_prod h2 ha hb hc, bind_some', bif_some]; rfl
    have hlaw : iter (law_GuessWrongs_b4 a0 a1 a2) 100 ((0 : Int), (0 : Int)) = some (((List.range (2 ^ a0.length)).countP (fun w => !prodOk a0.length a0 a1 a2 w) : Nat) : Int) := by
      have ew : IntKind.wrap .u64 (a0.length : Int) = (a0.length : Int) := wrap_u64 (by omega) (by omega)
      refine iter_seq (f := law_GuessWrongs_b4 a0 a1 a2) (s := fun w => ((((List.range w).countP (fun w => !prodOk a0.length a0 a1 a2 w) : Nat) : Int), (w : Int))) (n := 2 ^ a0.length) (fun w hw => ?_) ?_ (2 ^ a0.length) 0 100 (by omega) (by omega)
      · have hle : (List.range w).countP (fun w => !prodOk a0.length a0 a1 a2 w) ≤ w := by
          have := List.countP_le_length (p := fun w => !prodOk a0.length a0 a1 a2 w) (l := List.range w)
          simp at this; omega
        unfold law_GuessWrongs_b4
        dsimp only
        rw [ew, ck_ok (by omega), bind_some', bShl_one (by omega), decide_eq_true (by omega), cond_true, g_ref h2 ha hb hc (by omega), bind_some', bif_some, bind_some', w64_id (n := (w : Int) + 1) (by omega) (by omega), List.range_succ, List.countP_append]
        cases hq : prodOk a0.length a0 a1 a2 w with
        | true => simp [hq]
        | false => simp [hq]; rw [w64_id (by omega) (by omega)]
      · unfold law_GuessWrongs_b4
        dsimp only
        rw [ew, ck_ok (by omega), bind_some', bShl_one (by omega), decide_eq_false (by omega), cond_false]
    rw [hcnt, hlaw]
    simp
  · have e1 : (gsAll a0 a1 a2 != 0) = true := by simp [hz]
    rw [e1]
    simp [e1]

end Go.Proofs.Ytbicjcdenfcojaa.guessWrongs
namespace Go.Proofs.Ytbicjcdenfcojaa.guessWrongs
open Go.ChangeShapes Go.WideShapes Go.ChangeAt Go.RowKit
open Go.ChangeMaps (open_string shut_string)
theorem own : ownKnob Try.prog.godebug = none := by kernel_rfl
theorem laidOut : laidOutB Try.prog = true := by kernel_rfl
theorem lifted (os : Os) (started : os.Started) (H : Type) (enc : TypeId × Value → H) :
    ReturnsInHanded {} Try.checked os 8 .any (Rows.guessWrongsSpec.pre6 enc Try.prog Try.f8 Rows.guessWrongsRow.domain false) (Rows.guessWrongsSpec.post enc Try.prog Try.f8 false true false false) := by
  refine returnsInHanded_of_change (C := Try.checked) own started (by kernel_rfl) Try.func8
    (ChangeSpec.witness6 (enc := enc) (C := Try.checked) false ⟨#[], #[.slice none 0 0, .slice none 0 0, .slice none 0 0], []⟩ 8 (by kernel_rfl) (by kernel_rfl) (by kernel_rfl) (by kernel_rfl)) ?_
  intro W base args ds gs before hval0 hW hcnd _
  have hval : ∀ (j : Nat) t v, Try.f8.params[j]? = some t → args[j]? = some v → Value.okWide Try.prog W .any base t v := hval0
  have hW' := hW
  obtain ⟨p, q, hA0, hV, rfl, hfz, hnd⟩ := hW
  have hA : DataW.TrodAll enc Try.prog W 0 (fun _ => true) true Try.f8.params.toList args.toList ds p := hA0
  rw [Try.params8] at hA hval
  obtain ⟨v0, vs0, d0, ds0, p0, q0, hargs, rfl, rfl, h0, r0⟩ := trodAll_cons hA
  obtain ⟨v1, vs1, d1, ds1, p1, q1, rfl, rfl, rfl, h1, r1⟩ := trodAll_cons r0
  obtain ⟨v2, vs2, d2, ds2, p2, q2, rfl, rfl, rfl, h2, r2⟩ := trodAll_cons r1
  obtain ⟨rfl, rfl, rfl⟩ := trodAll_nil r2
  obtain rfl : args = #[v0, v1, v2] := by cases args; simp_all
  obtain ⟨rfl, rfl⟩ := trodVars_none hV
  obtain ⟨x0, f0, k0⟩ := Go.Sl.read_arg (u := (.slice (.slice (.int .i64)))) (by kernel_rfl) (by kernel_rfl) (hval 0 49 v0 rfl rfl) h0
  have lt0 : ∀ x ∈ p0, x.block < W.heap.size := by obtain ⟨m, hm⟩ := h0; exact DataW.trod_lt m _ _ _ hm
  obtain ⟨x1, f1, k1⟩ := Go.Sl.read_arg (u := (.slice (.slice (.int .i64)))) (by kernel_rfl) (by kernel_rfl) (hval 1 49 v1 rfl rfl) h1
  have lt1 : ∀ x ∈ p1, x.block < W.heap.size := by obtain ⟨m, hm⟩ := h1; exact DataW.trod_lt m _ _ _ hm
  obtain ⟨x2, f2, k2⟩ := Go.Sl.read_arg (u := (.slice (.slice (.int .i64)))) (by kernel_rfl) (by kernel_rfl) (hval 2 49 v2 rfl rfl) h2
  have lt2 : ∀ x ∈ p2, x.block < W.heap.size := by obtain ⟨m, hm⟩ := h2; exact DataW.trod_lt m _ _ _ hm
  clear hA0 hval0
  obtain ⟨fuel, hm⟩ := GuessWrongs_true x0 x1 x2 f0 f1 f2
  refine (Go.Sl.law_of (vs := [v0, v1, v2]) (law_GuessWrongs_ok hm) rfl (.cons (k0 _ _) (.cons (k1 _ _) (.cons (k2 _ _) .nil)))).mono fun e W' ⟨he, bel⟩ => ?_
  subst he
  exact ⟨_, rfl, _, _, _, [], _, [], hW', trodAll_mk1 (shut_bool Try.underlying4 _), (trodAll_cons_mk (Below.trod laidOut (by kernel_rfl) (of_decide_eq_true (by kernel_rfl)) h0 bel lt0) (trodAll_cons_mk (Below.trod laidOut (by kernel_rfl) (of_decide_eq_true (by kernel_rfl)) h1 bel lt1) (trodAll_cons_mk (Below.trod laidOut (by kernel_rfl) (of_decide_eq_true (by kernel_rfl)) h2 bel lt2) trodAll_mk0))), rfl, bel.frame _, fun h => by cases h⟩
theorem proved : Rows.GuessWrongsSaid :=
  OpenClaim.holds_of_wide 8 Try.f8 rfl rfl rfl rfl rfl rfl rfl ⟨rfl, rfl, rfl, rfl, rfl⟩ rfl rfl rfl rfl rfl (by kernel_rfl) Try.func8 (by kernel_rfl)
    (of_decide_eq_true (by kernel_rfl)) (by unfold Func.isWrapper; first | (rw [if_pos (by decide +kernel)]; kernel_rfl) | (rw [if_neg (by decide +kernel)]; exact ⟨rfl, rfl⟩))
    (fun os started H enc _ => lifted os started H enc)
#print axioms proved
end Go.Proofs.Ytbicjcdenfcojaa.guessWrongs
