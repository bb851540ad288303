/- For any dots and any two the program tells the first of the shortest ways, or that there is none: HalfWays returns true and changes nothing; no conditions. -/
import Derived.Test.YtkkmiclmbhbmjaaRows
import Derived.WalkKit
import Derived.ProofKit
import Derived.OpenShut
import Derived.ShutString
import Derived.ChangeOld
import Derived.Below
import Derived.Test.YtkkmiclmbhbmjaaHalfWaysM
set_option linter.all false
set_option maxRecDepth 100000
namespace Go.Proofs.Ytkkmiclmbhbmjaa.halfWays
open Go Go.Sl

theorem within_eq (a b c : Int) : ref_Within a b c = some (decide (a ≤ b ∧ b ≤ c)) := by
  unfold ref_Within
  rw [Bool.decide_and]

theorem cc_grow {n : Nat} (h : n ≤ 4294967296) : slices_Grow_Lintint (n : Int) = some [] := by
  unfold slices_Grow_Lintint
  rw [decide_eq_false (by omega), cond_false, Int.sub_zero, w64_id (by omega) (by omega)]
  by_cases h0 : (n : Int) > 0
  · rw [decide_eq_true h0, cond_true, ck_ok (show 0 ≤ (n : Int) ∧ (n : Int) ≤ 4294967296 by omega)]; rfl
  · rw [decide_eq_false h0]; rfl
theorem flat_take {α : Type} {l : List (List α)} {n : Nat} {v : List α} (h : l[n]? = some v) : (l.take (n + 1)).flatten = (l.take n).flatten ++ v := by
  rw [List.take_add_one, h]; simp
theorem flat_le {α : Type} (l : List (List α)) (n : Nat) : (l.take n).flatten.length ≤ l.flatten.length := by
  have : l = l.take n ++ l.drop n := (List.take_append_drop n l).symm
  conv => rhs; rw [this, List.flatten_append, List.length_append]
  omega
theorem cc_concat {l : List (List Int)} (h : l.flatten.length ≤ 1000000) : slices_Concat_Lintint l = some l.flatten := by
  unfold slices_Concat_Lintint
  obtain ⟨y, h1, h2⟩ := forL_inv (body := slices_Concat_Lintint_b7) (fin := fun x => x) (l := l) (x := (0 : Int)) (fun n x => x = (((l.take n).flatten.length : Nat) : Int)) (fun y => y = ((l.flatten.length : Nat) : Int)) (by simp)
    (fun n v x hv hx => by
      subst hx
      have hle := flat_le l (n + 1)
      have he := flat_take hv
      rw [he, List.length_append] at hle
      unfold slices_Concat_Lintint_b7
      rw [w64_id (by omega) (by omega), decide_eq_false (by omega), cond_false]
      exact ⟨_, rfl, by rw [he, List.length_append]; omega⟩)
    (fun x hx => by rw [hx, List.take_length])
  rw [h1, bind_some', h2, cc_grow (by omega), bind_some']
  obtain ⟨z, h3, h4⟩ := forL_inv (body := slices_Concat_Lintint_b10) (fin := fun x => x) (l := l) (x := ([] : List Int)) (fun n x => x = (l.take n).flatten) (fun y => y = l.flatten) (by simp)
    (fun n v x hv hx => by
      subst hx
      have hle := flat_le l (n + 1)
      have he := flat_take hv
      rw [he, List.length_append] at hle
      have hck : ck ((List.length (l.take n).flatten : Int) + (List.length v : Int) ≤ 4294967296) = some () := ck_ok (by omega)
      unfold slices_Concat_Lintint_b10
      rw [hck, bind_some']
      exact ⟨_, rfl, he.symm⟩)
    (fun x hx => by rw [hx, List.take_length])
  rw [h3, bind_some', h4]

def hfBad (n : Int) (v : Int) : Bool := decide (v < 0) || decide (v ≥ n)
def hfLong (l : List Int) : Bool := decide ((l.length : Int) > 4)
def hfAll (t : List (List Int)) (d : List Int) : Int :=
  bif !decide (1 ≤ (t.length : Int) ∧ (t.length : Int) ≤ 8) then 1 else bif t.any hfLong then 1 else bif t.any (fun l => l.any (hfBad t.length)) then 2 else bif d.any (hfBad t.length) then 2 else 0
theorem hf_inside (n : Int) (l : List Int) : ref_Inside n l = some (!l.any (hfBad n)) := by
  unfold ref_Inside
  rw [forL_ex (p := hfBad n) (y := Esc.ret false) (fun i a _ => by unfold ref_Inside_b1 hfBad; cases (decide (a < 0) || decide (a ≥ n)) <;> rfl)]
  cases (l.any (hfBad n)) <;> rfl
theorem hf_bad (l : List Int) (n : Int) : slices_ContainsFunc_Lintint_with_half_wrong_2 l n = some (l.any (hfBad n)) := by
  unfold slices_ContainsFunc_Lintint_with_half_wrong_2 slices_IndexFunc_Lintint_with_half_wrong_2
  rcases forL_at (body := slices_IndexFunc_Lintint_with_half_wrong_2_b1 n) (fin := fun _ => (Esc.brk () : Esc Int Unit)) (p := hfBad n) (g := fun j => Esc.ret j) (l := l)
    (fun i a _ => by unfold slices_IndexFunc_Lintint_with_half_wrong_2_b1 half_wrong_2 hfBad; cases (decide (a < 0) || decide (a ≥ n)) <;> rfl) (i := 0) with ⟨h1, h2⟩ | ⟨h1, j, h2, h3, h4⟩
  · rw [h2, h1]; rfl
  · rw [h4, h1]; simp [h2]
theorem hf_long (l : List (List Int)) : slices_ContainsFunc_LLintLint_with_half_wrong_1 l = some (l.any hfLong) := by
  unfold slices_ContainsFunc_LLintLint_with_half_wrong_1 slices_IndexFunc_LLintLint_with_half_wrong_1
  rcases forL_at (body := slices_IndexFunc_LLintLint_with_half_wrong_1_b1) (fin := fun _ => (Esc.brk () : Esc Int Unit)) (p := hfLong) (g := fun j => Esc.ret j) (l := l)
    (fun i a _ => by unfold slices_IndexFunc_LLintLint_with_half_wrong_1_b1 half_wrong_1 hfLong; cases (decide ((a.length : Int) > 4)) <;> rfl) (i := 0) with ⟨h1, h2⟩ | ⟨h1, j, h2, h3, h4⟩
  · rw [h2, h1]; rfl
  · rw [h4, h1]; simp [h2]
theorem hf_flat : ∀ {t : List (List Int)}, t.any hfLong = false → t.flatten.length ≤ 4 * t.length
  | [], _ => by simp
  | l :: t, h => by
    simp only [List.any_cons, Bool.or_eq_false_iff] at h
    have := hf_flat h.2
    have h1 := h.1
    unfold hfLong at h1
    simp only [decide_eq_false_iff_not] at h1
    simp only [List.flatten_cons, List.length_append, List.length_cons]
    omega
theorem hf_wrong (t : List (List Int)) {d : List Int} (hd : d.length ≤ 2) : half_wrong t d = some (hfAll t d) := by
  unfold half_wrong half_wrong_g1 hfAll
  rw [hf_long]
  have e : ((decide ((List.length t : Int) < (1 : Int))) || (decide ((List.length t : Int) > (8 : Int)))) = !decide (1 ≤ (t.length : Int) ∧ (t.length : Int) ≤ 8) := by
    rw [or_dec, not_dec]; exact decide_eq_decide.2 (by omega)
  rw [e]
  by_cases h : 1 ≤ (t.length : Int) ∧ (t.length : Int) ≤ 8
  · rw [decide_eq_true h]
    cases hl : t.any hfLong with
    | true => rfl
    | false =>
      have hfl := hf_flat hl
      rw [cc_concat (by omega)]
      simp only [Bool.not_true, cond_false, bind_some']
      rw [cc_concat (l := [t.flatten, d]) (by simp only [List.flatten_cons, List.flatten_nil, List.append_nil, List.length_append]; omega)]
      simp only [bind_some', hf_bad, List.flatten_cons, List.flatten_nil, List.append_nil, List.any_append, List.any_flatten]
      cases (t.any fun l => l.any (hfBad t.length)) <;> cases d.any (hfBad t.length) <;> rfl
  · rw [decide_eq_false h]; rfl
theorem hf_check (t : List (List Int)) (d : List Int) : ref_NextsCheck t d = some (hfAll t d) := by
  unfold ref_NextsCheck hfAll
  rw [within_eq, bind_some', hf_inside]
  rw [forL_ex (p := hfLong) (y := Esc.ret 1) (fun i a _ => by unfold ref_NextsCheck_b1 hfLong; cases (decide ((a.length : Int) > 4)) <;> rfl)]
  rw [forL_ex (p := fun l => l.any (hfBad t.length)) (y := Esc.ret 2) (fun i a _ => by unfold ref_NextsCheck_b5; rw [hf_inside, bind_some']; cases (a.any (hfBad t.length)) <;> rfl)]
  cases decide (1 ≤ (t.length : Int) ∧ (t.length : Int) ≤ 8) <;> cases t.any hfLong <;> cases (t.any fun l => l.any (hfBad t.length)) <;> cases d.any (hfBad t.length) <;> rfl
theorem hf_ok {t : List (List Int)} {d : List Int} (h : hfAll t d = 0) : 1 ≤ t.length ∧ t.length ≤ 8 ∧ (∀ l ∈ t, l.length ≤ 4 ∧ ∀ v ∈ l, 0 ≤ v ∧ v < (t.length : Int)) ∧ ∀ v ∈ d, 0 ≤ v ∧ v < (t.length : Int) := by
  unfold hfAll at h
  by_cases h1 : 1 ≤ (t.length : Int) ∧ (t.length : Int) ≤ 8
  · rw [decide_eq_true h1] at h
    cases h2 : t.any hfLong with
    | true => rw [h2] at h; cases h
    | false =>
      rw [h2] at h
      cases h3 : (t.any fun l => l.any (hfBad t.length)) with
      | true => rw [h3] at h; cases h
      | false =>
        rw [h3] at h
        cases h4 : d.any (hfBad t.length) with
        | true => rw [h4] at h; cases h
        | false =>
          have good : ∀ l : List Int, l.any (hfBad t.length) = false → ∀ v ∈ l, 0 ≤ v ∧ v < (t.length : Int) := by
            intro l hl v hv
            have := List.any_eq_false.1 hl v hv
            unfold hfBad at this
            simp only [Bool.or_eq_true, decide_eq_true_eq, not_or] at this
            omega
          refine ⟨by omega, by omega, fun l hl => ⟨?_, good l ?_⟩, good d h4⟩
          · have := List.any_eq_false.1 h2 l hl
            unfold hfLong at this
            simp only [decide_eq_true_eq] at this
            omega
          · have := List.any_eq_false.1 h3 l hl
            simpa using this
  · rw [decide_eq_false h1] at h; cases h

def hcRow (t : List (List Int)) (v : Int) : List Int := t.getD v.toNat []
def hcAdd (x : List Int) (v : Int) : List Int := bif !x.any (v == ·) then x ++ [v] else x
def hcOnce (l : List Int) : List Int := l.foldl hcAdd []
def hcL (t : List (List Int)) (a : Int) : Nat → List Int
  | 0 => [a]
  | d + 1 => hcOnce ((hcL t a d).flatMap (hcRow t))
theorem mem_add (x : List Int) (v w : Int) : w ∈ hcAdd x v ↔ w ∈ x ∨ w = v := by
  unfold hcAdd
  cases h : x.any (v == ·) with
  | false => simp
  | true =>
    obtain ⟨u, hu, e⟩ := List.any_eq_true.1 h
    have : v = u := by simpa using e
    subst this
    constructor
    · exact Or.inl
    · rintro (h | rfl)
      · exact h
      · exact hu
theorem mem_once : ∀ (l x : List Int) (w : Int), w ∈ l.foldl hcAdd x ↔ w ∈ x ∨ w ∈ l
  | [], x, w => by simp
  | v :: l, x, w => by
    rw [List.foldl_cons, mem_once l, mem_add, List.mem_cons]
    constructor
    · rintro ((h | h) | h)
      · exact .inl h
      · exact .inr (.inl h)
      · exact .inr (.inr h)
    · rintro (h | h | h)
      · exact .inl (.inl h)
      · exact .inl (.inr h)
      · exact .inr h
theorem len_once : ∀ (l x : List Int), (l.foldl hcAdd x).length ≤ x.length + l.length
  | [], x => by simp
  | v :: l, x => by
    have h := len_once l (hcAdd x v)
    have h2 : (hcAdd x v).length ≤ x.length + 1 := by
      unfold hcAdd; cases !x.any (v == ·) <;> simp
    rw [List.foldl_cons, List.length_cons]; omega
theorem hc_has2 (l : List Int) (x : Int) : ref_Has x l = some (l.any (x == ·)) := by
  unfold ref_Has
  rw [forL_ex (p := (x == ·)) (y := Esc.ret true) (fun i a _ => by unfold ref_Has_b1; cases (x == a) <;> rfl)]
  cases (l.any (x == ·)) <;> rfl
theorem hc_has3 (l : List Int) (x : Int) : ref_Has_i2 l x = some (l.any (x == ·)) := by
  unfold ref_Has_i2
  rw [forL_ex (p := (x == ·)) (y := Esc.ret true) (fun i a _ => by unfold ref_Has_i2_b1; cases (x == a) <;> rfl)]
  cases (l.any (x == ·)) <;> rfl
theorem hc_once {l : List Int} (h : l.length ≤ 2000000) : ref_once l = some (hcOnce l) := by
  unfold ref_once
  obtain ⟨y, h1, h2⟩ := forL_inv (body := ref_once_b5) (fin := fun x => x) (l := l) (x := ([] : List Int)) (fun n x => x = (l.take n).foldl hcAdd []) (fun y => y = hcOnce l) (by simp)
    (fun n v x hv hx => by
      subst hx
      have hlt := (List.getElem?_eq_some_iff.1 hv).1
      have hle := len_once (l.take n) []
      have hle : (List.foldl hcAdd [] (l.take n)).length ≤ n := by
        have : (l.take n).length ≤ n := by simp; omega
        simp only [List.length_nil] at hle; omega
      have e : (l.take (n + 1)).foldl hcAdd [] = hcAdd ((l.take n).foldl hcAdd []) v := by rw [List.take_add_one, hv]; simp
      rw [e]
      generalize (l.take n).foldl hcAdd [] = y at *
      have hck : ck ((List.length y : Int) + 1 ≤ 4294967296) = some () := ck_ok (by omega)
      unfold ref_once_b5 hcAdd
      rw [hc_has2, bind_some', hck]
      cases y.any (v == ·) <;> exact ⟨_, rfl, rfl⟩)
    (fun x hx => by rw [hx, List.take_length]; rfl)
  rw [h1, bind_some', h2]
structure HOk (t : List (List Int)) (a : Int) : Prop where
  lo : 1 ≤ t.length
  hi : t.length ≤ 8
  row : ∀ l ∈ t, l.length ≤ 4 ∧ ∀ v ∈ l, 0 ≤ v ∧ v < (t.length : Int)
  fr : 0 ≤ a ∧ a < (t.length : Int)
theorem HOk.get {t : List (List Int)} {a : Int} (h : HOk t a) {v : Int} (hv : 0 ≤ v ∧ v < (t.length : Int)) : idx t v = some (hcRow t v) ∧ (hcRow t v).length ≤ 4 ∧ ∀ w ∈ hcRow t v, 0 ≤ w ∧ w < (t.length : Int) := by
  obtain ⟨l, hl, hg⟩ := idx_get (xs := t) hv.1 hv.2
  have e : hcRow t v = l := by unfold hcRow; rw [List.getD_eq_getElem?_getD, hg]; rfl
  rw [e]
  exact ⟨hl, h.row l (List.mem_of_getElem? hg)⟩
theorem hc_flatlen {t : List (List Int)} {a : Int} (h : HOk t a) : ∀ (l : List Int), (∀ v ∈ l, 0 ≤ v ∧ v < (t.length : Int)) → (l.flatMap (hcRow t)).length ≤ 4 * l.length
  | [], _ => by simp
  | v :: l, hl => by
    have h1 := hc_flatlen h l (fun w hw => hl w (by simp [hw]))
    have h2 := (h.get (hl v (by simp))).2.1
    rw [List.flatMap_cons, List.length_append, List.length_cons]; omega
theorem hc_L {t : List (List Int)} {a : Int} (h : HOk t a) : ∀ d, (∀ v ∈ hcL t a d, 0 ≤ v ∧ v < (t.length : Int)) ∧ (hcL t a d).length ≤ 4 ^ d
  | 0 => ⟨fun v hv => by have : v = a := by simpa [hcL] using hv
                         subst this; exact h.fr, by simp [hcL]⟩
  | d + 1 => by
    obtain ⟨h1, h2⟩ := hc_L h d
    have h3 := hc_flatlen h _ h1
    have h4 := len_once ((hcL t a d).flatMap (hcRow t)) []
    refine ⟨fun v hv => ?_, ?_⟩
    · have hv' := (mem_once _ _ _).1 hv
      rcases hv' with hv' | hv'
      · simp at hv'
      · obtain ⟨u, hu, hw⟩ := List.mem_flatMap.1 hv'
        exact (h.get (h1 u hu)).2.2 v hw
    · show (hcOnce _).length ≤ _
      unfold hcOnce
      simp only [List.length_nil] at h4
      rw [Nat.pow_succ]; omega
theorem hc_mem_succ {t : List (List Int)} {a : Int} (d : Nat) (w : Int) : w ∈ hcL t a (d + 1) ↔ ∃ v ∈ hcL t a d, w ∈ hcRow t v := by
  show w ∈ hcOnce _ ↔ _
  unfold hcOnce
  rw [mem_once]
  simp only [List.not_mem_nil, false_or, List.mem_flatMap]
def hcR (t : List (List Int)) (a : Int) (k : Nat) (v : Int) : Bool := (List.range (k + 1)).any fun d => (hcL t a d).any (v == ·)
theorem hcR_iff (t : List (List Int)) (a : Int) (k : Nat) (v : Int) : hcR t a k v = true ↔ ∃ d, d ≤ k ∧ v ∈ hcL t a d := by
  unfold hcR
  rw [List.any_eq_true]
  constructor
  · rintro ⟨d, hd, h⟩
    obtain ⟨u, hu, e⟩ := List.any_eq_true.1 h
    have : v = u := by simpa using e
    subst this
    exact ⟨d, by have := List.mem_range.1 hd; omega, hu⟩
  · rintro ⟨d, hd, h⟩
    exact ⟨d, List.mem_range.2 (by omega), List.any_eq_true.2 ⟨v, h, by simp⟩⟩
/-- the distance from a to v -/
def Dist (t : List (List Int)) (a v r : Int) : Prop := (∃ d : Nat, d ≤ t.length ∧ r = (d : Int) ∧ v ∈ hcL t a d ∧ ∀ j, j < d → v ∉ hcL t a j) ∨ (r = -1 ∧ ∀ j, j ≤ t.length → v ∉ hcL t a j)
theorem Dist.uniq {t : List (List Int)} {a v r s : Int} (h1 : Dist t a v r) (h2 : Dist t a v s) : r = s := by
  rcases h1 with ⟨d, hd, rfl, hm, hn⟩ | ⟨rfl, hn⟩ <;> rcases h2 with ⟨e, he, rfl, hm', hn'⟩ | ⟨rfl, hn'⟩
  · have : ¬ d < e := fun h => hn' d h hm
    have : ¬ e < d := fun h => hn e h hm'
    omega
  · exact (hn' d hd hm).elim
  · exact (hn e he hm').elim
  · rfl
def hcD (t : List (List Int)) (a v : Int) : Int := match (List.range (t.length + 1)).find? (fun d => (hcL t a d).any (v == ·)) with | some d => (d : Int) | none => -1
theorem hc_any {l : List Int} {v : Int} : l.any (v == ·) = true ↔ v ∈ l := by
  rw [List.any_eq_true]
  constructor
  · rintro ⟨u, hu, e⟩
    have : v = u := by simpa using e
    rw [this]; exact hu
  · exact fun h => ⟨v, h, by simp⟩
theorem hcD_dist (t : List (List Int)) (a v : Int) : Dist t a v (hcD t a v) := by
  unfold hcD
  cases hf : (List.range (t.length + 1)).find? (fun d => (hcL t a d).any (v == ·)) with
  | none =>
    refine .inr ⟨rfl, fun j hj hm => ?_⟩
    have := List.find?_eq_none.1 hf j (List.mem_range.2 (by omega))
    exact this (hc_any.2 hm)
  | some d =>
    have h1 := List.find?_some hf
    have hd := List.mem_range.1 (List.mem_of_find?_eq_some hf)
    refine .inl ⟨d, by omega, rfl, hc_any.1 h1, fun j hj hm => ?_⟩
    rw [List.find?_range_eq_some] at hf
    have := hf.2.2 j hj
    rw [hc_any.2 hm] at this
    simp at this
theorem hc_far {t : List (List Int)} {a : Int} (h : HOk t a) (v : Int) {fuel : Nat} (hf : 12 < fuel) : ref_Far fuel t a v = some (hcD t a v) := by
  have key : ∃ r, ref_Far fuel t a v = some r ∧ Dist t a v r := ?_
  · obtain ⟨r, h1, h2⟩ := key; rw [h1, h2.uniq (hcD_dist t a v)]
  unfold ref_Far
  have hh := h.hi
  obtain ⟨y, h1, h2⟩ := iter_inv (f := ref_Far_b10 t v) (fun x => ∃ d : Nat, d ≤ t.length + 1 ∧ x = (hcL t a d, (d : Int)) ∧ ∀ j, j < d → v ∉ hcL t a j) (fun x => (10 - x.2).toNat)
    (fun y => match y with | .ret r => ∃ d : Nat, d ≤ t.length ∧ r = (d : Int) ∧ v ∈ hcL t a d ∧ ∀ j, j < d → v ∉ hcL t a j | .brk _ => ∀ j, j < t.length + 1 → v ∉ hcL t a j)
    (by
      rintro _ ⟨d, hd, rfl, hn⟩
      unfold ref_Far_b10
      dsimp only
      by_cases hle : d ≤ t.length
      · rw [decide_eq_true (by omega), cond_true, hc_has3, bind_some']
        cases hc : (hcL t a d).any (v == ·) with
        | true =>
          obtain ⟨u, hu, e⟩ := List.any_eq_true.1 hc
          have : v = u := by simpa using e
          subst this
          exact ⟨_, rfl, d, hle, rfl, hu, hn⟩
        | false =>
          obtain ⟨b1, b2⟩ := hc_L h d
          have hp : 4 ^ d ≤ 65536 := by
            have := Nat.pow_le_pow_right (n := 4) (by omega) (show d ≤ 8 by omega)
            simpa using this
          have b3 := hc_flatlen h _ b1
          obtain ⟨y, q1, q2⟩ := forL_inv (body := ref_Far_b7 t) (fin := fun x => x) (l := hcL t a d) (x := ([] : List Int)) (fun n x => x = ((hcL t a d).take n).flatMap (hcRow t)) (fun y => y = (hcL t a d).flatMap (hcRow t)) (by simp)
            (fun n u x hu hx => by
              subst hx
              have hlt := (List.getElem?_eq_some_iff.1 hu).1
              obtain ⟨g1, g2, _⟩ := h.get (b1 u (List.mem_of_getElem? hu))
              have g3 := hc_flatlen h ((hcL t a d).take n) (fun w hw => b1 w (List.mem_of_mem_take hw))
              have g4 : ((hcL t a d).take n).length ≤ n := by simp; omega
              have hck : ck ((List.length (((hcL t a d).take n).flatMap (hcRow t)) : Int) + (List.length (hcRow t u) : Int) ≤ 4294967296) = some () := ck_ok (by omega)
              unfold ref_Far_b7
              rw [g1, bind_some', hck]
              refine ⟨_, rfl, ?_⟩
              rw [List.take_add_one, hu]; simp)
            (fun x hx => by rw [hx, List.take_length])
          rw [cond_false, q1, bind_some', q2]
          have hck : ck ((0 : Int) + (List.length ((hcL t a d).flatMap (hcRow t)) : Int) ≤ 4294967296) = some () := ck_ok (by omega)
          rw [hck, bind_some', List.nil_append, hc_once (by omega), bind_some', w64_id (by omega) (by omega)]
          refine ⟨_, rfl, ⟨d + 1, by omega, rfl, fun j hj => ?_⟩, ?_⟩
          · by_cases e : j = d
            · subst e
              intro hm
              have := List.any_eq_false.1 hc v hm
              simp at this
            · exact hn j (by omega)
          · dsimp only; omega
      · rw [decide_eq_false (by omega), cond_false]
        exact ⟨_, rfl, fun j hj => hn j (by omega)⟩) fuel ([a], (0 : Int)) (by dsimp only; omega) ⟨0, by omega, rfl, fun j hj => by omega⟩
  rw [h1, bind_some']
  cases y with
  | ret r =>
    obtain ⟨d, hd, rfl, hm, hn⟩ := h2
    exact ⟨(d : Int), rfl, .inl ⟨d, hd, rfl, hm, hn⟩⟩
  | brk u => exact ⟨-1, rfl, .inr ⟨rfl, fun j hj => h2 j (by omega)⟩⟩
theorem hc_first {t : List (List Int)} : ∀ (d : Nat) (i v : Int), v ∈ hcL t i (d + 1) ↔ ∃ j ∈ hcRow t i, v ∈ hcL t j d
  | 0, i, v => by
    rw [hc_mem_succ]
    simp [hcL]
  | d + 1, i, v => by
    rw [hc_mem_succ]
    constructor
    · rintro ⟨u, hu, hv⟩
      obtain ⟨j, hj, hu⟩ := (hc_first d i u).1 hu
      exact ⟨j, hj, (hc_mem_succ d v).2 ⟨u, hu, hv⟩⟩
    · rintro ⟨j, hj, hv⟩
      obtain ⟨u, hu, hv⟩ := (hc_mem_succ d v).1 hv
      exact ⟨u, (hc_first d i u).2 ⟨j, hj, hu⟩, hv⟩
theorem hcD_range (t : List (List Int)) (a v : Int) : hcD t a v = -1 ∨ 0 ≤ hcD t a v ∧ hcD t a v ≤ (t.length : Int) := by
  rcases hcD_dist t a v with ⟨d, hd, e, _⟩ | ⟨e, _⟩ <;> omega
/-- one step more -/
theorem hcD_step {t : List (List Int)} (i v : Int) {K : Nat} (hK : K < t.length) (hn : ¬ (0 ≤ hcD t i v ∧ hcD t i v ≤ (K : Int))) : (∃ j ∈ hcRow t i, hcD t j v = (K : Int)) ↔ hcD t i v = (K : Int) + 1 := by
  constructor
  · rintro ⟨j, hj, hd⟩
    rcases hcD_dist t j v with ⟨d, hd1, e, hm, _⟩ | ⟨e, _⟩
    · have : d = K := by omega
      subst this
      have hm2 := (hc_first d i v).2 ⟨j, hj, hm⟩
      rcases hcD_dist t i v with ⟨d', hd', e', _, hn'⟩ | ⟨e', hn'⟩
      · have : ¬ d + 1 < d' := fun h => hn' _ h hm2
        omega
      · exact (hn' _ (by omega) hm2).elim
    · omega
  · intro hd
    rcases hcD_dist t i v with ⟨d, hd1, e, hm, hnn⟩ | ⟨e, _⟩
    · have : d = K + 1 := by omega
      subst this
      obtain ⟨j, hj, hm⟩ := (hc_first K i v).1 hm
      refine ⟨j, hj, ?_⟩
      rcases hcD_dist t j v with ⟨d', hd', e', hm', hn'⟩ | ⟨e', hn'⟩
      · have h1 : ¬ K < d' := fun h => hn' _ h hm
        have h2 : ¬ d' < K := fun h => hnn (d' + 1) (by omega) ((hc_first d' i v).2 ⟨j, hj, hm'⟩)
        omega
      · exact (hn' K (by omega) hm).elim
    · omega
/-! ### what the program finds -/
def hcO (t : List (List Int)) (v : Int) (K : Nat) (i : Nat) : Int := if 0 ≤ hcD t (i : Int) v ∧ hcD t (i : Int) v ≤ (K : Int) then hcD t (i : Int) v else -1
theorem hcO_eq {t : List (List Int)} {v : Int} {K L : Nat} (h : K ≤ L) (i : Nat) : hcO t v L i = (K : Int) ↔ hcD t (i : Int) v = (K : Int) := by
  unfold hcO
  split <;> omega
theorem far_contains {t : List (List Int)} {v : Int} {K m : Nat} {x l : List Int} (hx : ∀ w, w < t.length → x[w]? = some (if w < m then hcO t v (K + 1) w else hcO t v K w)) (hl : ∀ u ∈ l, 0 ≤ u ∧ u < (t.length : Int)) :
    slices_ContainsFunc_Lintint_with_half_far_1 l (K : Int) x = some (l.any fun j => hcD t j v == (K : Int)) := by
  unfold slices_ContainsFunc_Lintint_with_half_far_1 slices_IndexFunc_Lintint_with_half_far_1
  rcases forL_at (body := slices_IndexFunc_Lintint_with_half_far_1_b1 (K : Int) x) (fin := fun _ => (Esc.brk () : Esc Int Unit)) (p := fun j => hcD t j v == (K : Int)) (g := fun j => Esc.ret j) (l := l)
    (fun i a ha => by
      obtain ⟨a0, a1⟩ := hl a ha
      have ea : ((a.toNat : Nat) : Int) = a := by omega
      have hg := hx a.toNat (by omega)
      have hi : idx x a = x[a.toNat]? := by rw [← ea]; exact idx_nat
      have e : ((if a.toNat < m then hcO t v (K + 1) a.toNat else hcO t v K a.toNat) == (K : Int)) = (hcD t a v == (K : Int)) := by
        have h1 := hcO_eq (t := t) (v := v) (K := K) (L := K + 1) (by omega) a.toNat
        have h2 := hcO_eq (t := t) (v := v) (K := K) (L := K) (by omega) a.toNat
        rw [ea] at h1 h2
        rw [Bool.eq_iff_iff, beq_iff_eq, beq_iff_eq]
        split
        · exact h1
        · exact h2
      unfold slices_IndexFunc_Lintint_with_half_far_1_b1 half_far_1
      rw [hi, hg]
      simp only [bind_some', e]
      cases (hcD t a v == (K : Int)) <;> rfl) (i := 0) with ⟨h1, h2⟩ | ⟨h1, j, h2, h3, h4⟩
  · rw [h2, h1]; rfl
  · rw [h4, h1]; simp [h2]
theorem far_repeat {n : Nat} (h1 : 1 ≤ n) (h8 : n ≤ 8) : slices_Repeat_Lintint 40 [(-1 : Int)] (n : Int) = some (List.replicate n (-1)) := by
  have : n = 1 ∨ n = 2 ∨ n = 3 ∨ n = 4 ∨ n = 5 ∨ n = 6 ∨ n = 7 ∨ n = 8 := by omega
  rcases this with rfl | rfl | rfl | rfl | rfl | rfl | rfl | rfl <;> rfl
theorem half_far_eq {t : List (List Int)} {v : Int} (h : HOk t v) : half_far 40 t v = some ((List.range t.length).map fun (i : Nat) => hcD t (i : Int) v) := by
  have h8 := h.hi
  obtain ⟨v0, v1⟩ := h.fr
  have ev : ((v.toNat : Nat) : Int) = v := by omega
  unfold half_far
  rw [far_repeat h.lo h.hi, bind_some']
  obtain ⟨z, hz, _⟩ := idx_get (xs := List.replicate t.length (-1 : Int)) (i := v) v0 (by simpa using v1)
  rw [hz, bind_some']
  obtain ⟨y, q1, q2⟩ := forL_inv (body := half_far_b82 t) (fin := fun x => x) (l := t) (x := List.set (List.replicate t.length (-1 : Int)) v.toNat 0) (fun K x => x.length = t.length ∧ ∀ w, w < t.length → x[w]? = some (hcO t v K w))
    (fun y => y = (List.range t.length).map fun (i : Nat) => hcD t (i : Int) v)
    (by
      refine ⟨by simp, fun w hw => ?_⟩
      rw [List.getElem?_set]
      have hd0 : hcD t (w : Int) v = 0 ↔ v = (w : Int) := by
        rcases hcD_dist t (w : Int) v with ⟨d, hd, e, hm, hn⟩ | ⟨e, hn⟩
        · constructor
          · intro h0
            have : d = 0 := by omega
            subst this
            simpa [hcL] using hm
          · intro hv
            have : ¬ 0 < d := fun hlt => hn 0 hlt (by simp [hcL, hv])
            omega
        · constructor
          · omega
          · intro hv; exact (hn 0 (by omega) (by simp [hcL, hv])).elim
      have hO : hcO t v 0 w = if v.toNat = w then 0 else -1 := by
        unfold hcO
        by_cases e : v.toNat = w
        · have := hd0.2 (by omega)
          rw [if_pos e, if_pos (by omega), this]
        · have : ¬ hcD t (w : Int) v = 0 := fun hh => e (by have := hd0.1 hh; omega)
          rw [if_neg e, if_neg (by omega)]
      rw [hO]
      by_cases e : v.toNat = w
      · rw [if_pos e, if_pos e, if_pos (by simp; omega)]
      · rw [if_neg e, if_neg e]; simp [hw])
    (fun K r x hr ⟨hx, hxw⟩ => by
      have hK := (List.getElem?_eq_some_iff.1 hr).1
      unfold half_far_b82
      obtain ⟨y, p1, p2⟩ := forL_inv (body := half_far_b79 (K : Int)) (fin := fun x => x) (l := t) (x := x) (fun m x => x.length = t.length ∧ ∀ w, w < t.length → x[w]? = some (if w < m then hcO t v (K + 1) w else hcO t v K w))
        (fun y => y.length = t.length ∧ ∀ w, w < t.length → y[w]? = some (hcO t v (K + 1) w))
        ⟨hx, fun w hw => by rw [hxw w hw, if_neg (by omega)]⟩
        (fun m r x hm ⟨hx, hxw⟩ => by
          have hmt := (List.getElem?_eq_some_iff.1 hm).1
          have hrow : r = hcRow t (m : Int) := by unfold hcRow; rw [List.getD_eq_getElem?_getD]; simp [hm]
          have hrr := (h.get (v := (m : Int)) ⟨by omega, by omega⟩).2.2
          have hxm := hxw m hmt
          rw [if_neg (Nat.lt_irrefl m)] at hxm
          have hcont := far_contains (K := K) (l := r) hxw (by rw [hrow]; exact hrr)
          have hkeep : hcO t v (K + 1) m = hcO t v K m → ∀ w, w < t.length → x[w]? = some (if w < m + 1 then hcO t v (K + 1) w else hcO t v K w) := by
            intro he w hw
            rw [hxw w hw]
            by_cases e1 : w < m
            · rw [if_pos e1, if_pos (by omega)]
            · rw [if_neg e1]
              by_cases e2 : w = m
              · subst e2; rw [if_pos (by omega), he]
              · rw [if_neg (by omega)]
          unfold half_far_b79 half_far_g77 half_far_g75
          rw [idx_nat, hxm]
          simp only [bind_some']
          by_cases hin : 0 ≤ hcD t (m : Int) v ∧ hcD t (m : Int) v ≤ (K : Int)
          · have hO : hcO t v K m = hcD t (m : Int) v := by unfold hcO; rw [if_pos hin]
            have hO2 : hcO t v (K + 1) m = hcD t (m : Int) v := by unfold hcO; rw [if_pos (by omega)]
            rw [decide_eq_false (by omega), cond_false]
            exact ⟨_, rfl, hx, hkeep (by rw [hO, hO2])⟩
          · have hO : hcO t v K m = -1 := by unfold hcO; rw [if_neg hin]
            have hstep := hcD_step (t := t) (m : Int) v hK hin
            have hany : (r.any fun j => hcD t j v == (K : Int)) = true ↔ hcD t (m : Int) v = (K : Int) + 1 := by
              rw [← hstep, List.any_eq_true, hrow]
              constructor
              · rintro ⟨j, hj, e⟩; exact ⟨j, hj, by simpa using e⟩
              · rintro ⟨j, hj, e⟩; exact ⟨j, hj, by simpa using e⟩
            rw [hO, decide_eq_true (by omega), cond_true, hcont]
            simp only [bind_some']
            cases ha : (r.any fun j => hcD t j v == (K : Int)) with
            | true =>
              have hd := hany.1 ha
              have hO2 : hcO t v (K + 1) m = (K : Int) + 1 := by unfold hcO; rw [if_pos (by omega), hd]
              rw [cond_true, w64_id (by omega) (by omega)]
              refine ⟨_, rfl, by simpa using hx, fun w hw => ?_⟩
              rw [List.getElem?_set, show ((m : Int)).toNat = m from rfl]
              by_cases e : m = w
              · subst e; rw [if_pos rfl, if_pos (by omega), if_pos (by omega), hO2]
              · rw [if_neg e, hxw w hw]
                by_cases e1 : w < m
                · rw [if_pos e1, if_pos (by omega)]
                · rw [if_neg e1, if_neg (by omega)]
            | false =>
              have hd : ¬ hcD t (m : Int) v = (K : Int) + 1 := fun hh => by rw [hany.2 hh] at ha; cases ha
              have hO2 : hcO t v (K + 1) m = -1 := by unfold hcO; rw [if_neg (by omega)]
              rw [cond_false]
              exact ⟨_, rfl, hx, hkeep (by rw [hO, hO2])⟩)
        (fun x ⟨hx, hxw⟩ => ⟨hx, fun w hw => by rw [hxw w hw, if_pos hw]⟩)
      rw [p1, bind_some']
      exact ⟨_, rfl, p2⟩)
    (fun x ⟨hx, hxw⟩ => by
      apply List.ext_getElem?
      intro w
      by_cases hw : w < t.length
      · rw [hxw w hw]
        have hr := hcD_range t (w : Int) v
        have : hcO t v t.length w = hcD t (w : Int) v := by unfold hcO; split <;> omega
        rw [this]; simp [hw]
      · rw [List.getElem?_eq_none (by omega), List.getElem?_eq_none (by simp; omega)])
  rw [q1, bind_some', q2]

theorem ref_Ints_eq (a b : List Int) : ref_Ints a b = some (decide (a = b)) := by
  unfold ref_Ints
  rw [len_ne]
  by_cases h : a.length = b.length
  · rw [forL_eqs (q := b) (fun n a c hc => by
      unfold ref_Ints_b1
      rw [idx_nat, hc]
      by_cases h : a = c <;> simp [h, bne_dec]) h]
    by_cases h2 : a = b <;> simp [h2, h]
  · have : ¬ a = b := fun e => h (by rw [e])
    simp [h, this]

/-- x is the least element that P takes, or -1 -/
def Lst (P : Int → Prop) (x : Int) : Prop := (x = -1 ∧ ∀ j, 0 ≤ j → ¬ P j) ∨ (0 ≤ x ∧ P x ∧ ∀ j, 0 ≤ j → P j → x ≤ j)
theorem Lst.uniq {P : Int → Prop} {x y : Int} (h1 : Lst P x) (h2 : Lst P y) : x = y := by
  rcases h1 with ⟨rfl, a⟩ | ⟨a1, a2, a3⟩ <;> rcases h2 with ⟨rfl, b⟩ | ⟨b1, b2, b3⟩
  · rfl
  · exact (a y b1 b2).elim
  · exact (b x a1 a2).elim
  · have := a3 y b1 b2
    have := b3 x a1 a2
    omega
/-- the program's choice -/
theorem way_pick {t : List (List Int)} {v c : Int} (h : HOk t v) (hc : 0 ≤ c ∧ c < (t.length : Int)) (hd : 1 ≤ hcD t c v) (s : List Int) :
    ∃ x, forL (half_Way_b23 ((List.range t.length).map fun (i : Nat) => hcD t (i : Int) v) (c, s)) (fun x => x) (hcRow t c) 0 (-1) = some x ∧ Lst (fun j => j ∈ hcRow t c ∧ hcD t j v = hcD t c v - 1) x := by
  have hrow := (h.get hc).2.2
  have hr := hcD_range t c v
  have hi : ∀ u : Int, 0 ≤ u ∧ u < (t.length : Int) → idx ((List.range t.length).map fun (i : Nat) => hcD t (i : Int) v) u = some (hcD t u v) := by
    intro u hu
    have ev : ((u.toNat : Nat) : Int) = u := by omega
    have hlt : u.toNat < t.length := by omega
    rw [← ev, idx_nat]; simp [hlt, ev]
  have h8 := h.hi
  refine forL_inv (fun n x => (x = -1 ∧ ∀ j ∈ (hcRow t c).take n, hcD t j v ≠ hcD t c v - 1) ∨ (0 ≤ x ∧ x ∈ hcRow t c ∧ hcD t x v = hcD t c v - 1 ∧ ∀ j ∈ (hcRow t c).take n, hcD t j v = hcD t c v - 1 → x ≤ j)) _ (.inl ⟨rfl, by simp⟩) ?_ ?_
  · intro n u x hu hx
    have hm := List.mem_of_getElem? hu
    have hur := hrow u hm
    unfold half_Way_b23 half_Way_g21
    dsimp only
    rw [hi u hur, hi c hc]
    simp only [bind_some']
    rw [w64_id (by omega) (by omega)]
    have ht : ∀ j, j ∈ (hcRow t c).take (n + 1) ↔ j ∈ (hcRow t c).take n ∨ j = u := by
      intro j; rw [List.take_add_one, hu]; simp
    by_cases e : hcD t u v = hcD t c v - 1
    · rw [show (hcD t u v == hcD t c v - 1) = true from by simpa using e, Bool.true_and]
      by_cases e2 : x < 0 ∨ u < x
      · rw [show (decide (x < 0) || decide (u < x)) = true from by simpa using e2, cond_true]
        refine ⟨_, rfl, .inr ⟨hur.1, hm, e, fun j hj hjd => ?_⟩⟩
        rcases (ht j).1 hj with hj | rfl
        · rcases hx with ⟨_, hx⟩ | ⟨_, _, _, hx⟩
          · exact (hx j hj hjd).elim
          · have := hx j hj hjd; omega
        · omega
      · rw [show (decide (x < 0) || decide (u < x)) = false from by simpa using e2, cond_false]
        refine ⟨_, rfl, ?_⟩
        rcases hx with ⟨rfl, hx⟩ | ⟨x0, x1, x2, hx⟩
        · omega
        · refine .inr ⟨x0, x1, x2, fun j hj hjd => ?_⟩
          rcases (ht j).1 hj with hj | rfl
          · exact hx j hj hjd
          · omega
    · rw [show (hcD t u v == hcD t c v - 1) = false from by simpa using e, Bool.false_and, cond_false]
      refine ⟨_, rfl, ?_⟩
      rcases hx with ⟨rfl, hx⟩ | ⟨x0, x1, x2, hx⟩
      · refine .inl ⟨rfl, fun j hj => ?_⟩
        rcases (ht j).1 hj with hj | rfl
        · exact hx j hj
        · exact e
      · refine .inr ⟨x0, x1, x2, fun j hj hjd => ?_⟩
        rcases (ht j).1 hj with hj | rfl
        · exact hx j hj hjd
        · exact (e hjd).elim
  · intro x hx
    rw [List.take_length] at hx
    rcases hx with ⟨rfl, hx⟩ | ⟨x0, x1, x2, hx⟩
    · exact .inl ⟨rfl, fun j _ ⟨hj, hd⟩ => hx j hj hd⟩
    · exact .inr ⟨x0, ⟨x1, x2⟩, fun j _ ⟨hj, hd⟩ => hx j hj hd⟩
/-- the document's choice -/
theorem ref_pick {t : List (List Int)} {v c : Int} (h : HOk t v) (hc : 0 ≤ c ∧ c < (t.length : Int)) (hd : 1 ≤ hcD t c v) (s : List Int) :
    ∃ x, forL (ref_FirstWay_b70 t v 40 (c, s)) (fun x => x) t 0 (-1) = some x ∧ Lst (fun j => j ∈ hcRow t c ∧ hcD t j v = hcD t c v - 1) x := by
  have ok : ∀ u : Int, 0 ≤ u ∧ u < (t.length : Int) → HOk t u := fun u hu => ⟨h.lo, h.hi, h.row, hu⟩
  have hrow := (h.get hc).2.2
  have hr := hcD_range t c v
  have h8 := h.hi
  refine forL_inv (fun n x => (x = -1 ∧ ∀ j : Int, 0 ≤ j → j < (n : Int) → ¬ (j ∈ hcRow t c ∧ hcD t j v = hcD t c v - 1)) ∨ (0 ≤ x ∧ (x ∈ hcRow t c ∧ hcD t x v = hcD t c v - 1) ∧ ∀ j : Int, 0 ≤ j → (j ∈ hcRow t c ∧ hcD t j v = hcD t c v - 1) → x ≤ j)) _ (.inl ⟨rfl, by omega⟩) ?_ ?_
  · intro n r x hr' hx
    have hn := (List.getElem?_eq_some_iff.1 hr').1
    unfold ref_FirstWay_b70 ref_FirstWay_g67
    dsimp only
    rcases hx with ⟨rfl, hx⟩ | ⟨x0, x1, x2⟩
    · rw [(h.get hc).1, hc_far (ok (n : Int) ⟨by omega, by omega⟩) v (by omega), hc_far (ok c hc) v (by omega)]
      simp only [bind_some', hc_has3]
      rw [w64_id (by omega) (by omega)]
      have fin : ¬ ((n : Int) ∈ hcRow t c ∧ hcD t (n : Int) v = hcD t c v - 1) → ∀ j : Int, 0 ≤ j → j < ((n + 1 : Nat) : Int) → ¬ (j ∈ hcRow t c ∧ hcD t j v = hcD t c v - 1) := by
        intro hne j j0 j1
        by_cases e : j = (n : Int)
        · rw [e]; exact hne
        · exact hx j j0 (by omega)
      cases ha : (hcRow t c).any ((n : Int) == ·) with
      | false =>
        refine ⟨_, rfl, .inl ⟨rfl, fin fun hh => ?_⟩⟩
        rw [hc_any.2 hh.1] at ha; cases ha
      | true =>
        have hm := hc_any.1 ha
        by_cases e : hcD t (n : Int) v = hcD t c v - 1
        · rw [show (hcD t (n : Int) v == hcD t c v - 1) = true from by simpa using e]
          have e3 : decide (hcD t (n : Int) v ≥ 0) = true := by simp; omega
          rw [e3]
          refine ⟨_, rfl, .inr ⟨by omega, ⟨hm, e⟩, fun j j0 hj => ?_⟩⟩
          by_cases hlt : j < (n : Int)
          · exact (hx j j0 hlt hj).elim
          · omega
        · rw [show (hcD t (n : Int) v == hcD t c v - 1) = false from by simpa using e]
          exact ⟨_, rfl, .inl ⟨rfl, fin fun hh => e hh.2⟩⟩
    · rw [decide_eq_false (by omega)]
      exact ⟨_, rfl, .inr ⟨x0, x1, x2⟩⟩
  · intro x hx
    rcases hx with ⟨rfl, hx⟩ | ⟨x0, x1, x2⟩
    · refine .inl ⟨rfl, fun j j0 hj => ?_⟩
      exact hx j j0 (hrow j hj.1).2 hj
    · exact .inr ⟨x0, x1, x2⟩
theorem pick_is {t : List (List Int)} {v c x : Int} (h : HOk t v) (hc : 0 ≤ c ∧ c < (t.length : Int)) (hd : 1 ≤ hcD t c v) (hx : Lst (fun j => j ∈ hcRow t c ∧ hcD t j v = hcD t c v - 1) x) : x ∈ hcRow t c ∧ hcD t x v = hcD t c v - 1 := by
  rcases hx with ⟨_, hx⟩ | ⟨_, h2, _⟩
  · exfalso
    rcases hcD_dist t c v with ⟨d, hd1, e, hm, hn⟩ | ⟨e, _⟩
    · obtain ⟨K, rfl⟩ : ∃ K, d = K + 1 := ⟨d - 1, by omega⟩
      have hnot : ¬ (0 ≤ hcD t c v ∧ hcD t c v ≤ (K : Int)) := by omega
      obtain ⟨j, hj, hjd⟩ := (hcD_step c v (K := K) (by omega) hnot).2 (by omega)
      exact hx j ((h.get hc).2.2 j hj).1 ⟨hj, by omega⟩
    · omega
  · exact h2
theorem HalfWays_true (x0 : List (List Int)) (x1 x2 : Int) (f0 : Fits (.slice (.slice (.int .i64))) x0) (f1 : Fits (.int .i64) x1) (f2 : Fits (.int .i64) x2) : ∃ fuel, law_HalfWays fuel x0 x1 x2 = some true := by
  refine ⟨40, ?_⟩
  unfold law_HalfWays law_HalfWays_g4 half_Way
  rw [hf_wrong x0 (by simp), hf_check]
  simp only [bind_some']
  by_cases h0 : hfAll x0 [x1, x2] = 0
  · rw [h0]
    obtain ⟨t1, t2, t3, t4⟩ := hf_ok h0
    have ok : ∀ v : Int, 0 ≤ v ∧ v < (x0.length : Int) → HOk x0 v := fun v hv => ⟨t1, t2, t3, hv⟩
    have o1 := t4 x1 (by simp)
    have o2 := t4 x2 (by simp)
    have hr := hcD_range x0 x1 x2
    have hi : idx ((List.range x0.length).map fun (i : Nat) => hcD x0 (i : Int) x2) x1 = some (hcD x0 x1 x2) := by
      have ev : ((x1.toNat : Nat) : Int) = x1 := by omega
      have hlt : x1.toNat < x0.length := by omega
      rw [← ev, idx_nat]; simp [hlt, ev]
    rw [half_far_eq (ok x2 o2), hc_far (ok x1 o1) x2 (by omega)]
    simp only [bind_some', hi]
    by_cases hneg : hcD x0 x1 x2 < 0
    · rw [decide_eq_true hneg]; rfl
    · rw [decide_eq_false hneg]
      obtain ⟨y, e1, e2, _⟩ := iter_eq (f := half_Way_b26 x0 x2 ((List.range x0.length).map fun (i : Nat) => hcD x0 (i : Int) x2)) (f' := ref_FirstWay_b73 x0 x2 40)
        (fun s => (0 ≤ s.1 ∧ s.1 < (x0.length : Int)) ∧ 0 ≤ hcD x0 s.1 x2 ∧ (s.2.length : Int) + hcD x0 s.1 x2 ≤ 10) (fun s => (hcD x0 s.1 x2).toNat) (fun _ => True)
        (by
          rintro ⟨c, s⟩ ⟨hc, hd, hs⟩
          dsimp only at hc hd hs
          unfold half_Way_b26 ref_FirstWay_b73
          dsimp only
          by_cases e : c = x2
          · rw [show (c != x2) = false from by simpa using e]
            exact ⟨_, rfl, rfl, trivial⟩
          · rw [show (c != x2) = true from by simpa using e]
            have hd1 : 1 ≤ hcD x0 c x2 := by
              rcases hcD_dist x0 c x2 with ⟨d, _, e', hm, _⟩ | ⟨e', _⟩
              · by_cases hd0 : d = 0
                · subst hd0
                  have : x2 = c := by simpa [hcL] using hm
                  omega
                · omega
              · omega
            obtain ⟨p, q1, q2⟩ := way_pick (ok x2 o2) hc hd1 s
            obtain ⟨p', q1', q2'⟩ := ref_pick (ok x2 o2) hc hd1 s
            obtain rfl := q2.uniq q2'
            obtain ⟨pm, pd⟩ := pick_is (ok x2 o2) hc hd1 q2
            have hp := ((ok x2 o2).get hc).2.2 p pm
            have hck : ck ((List.length s : Int) + 1 ≤ 4294967296) = some () := ck_ok (by omega)
            rw [hck, ((ok x2 o2).get hc).1]
            simp only [cond_true, bind_some', q1, q1']
            refine ⟨_, rfl, rfl, ⟨hp, by dsimp only; omega, ?_⟩, by dsimp only; omega⟩
            dsimp only
            rw [List.length_append, List.length_singleton]; omega) 40 (x1, [x1]) (by dsimp only; omega) ⟨o1, by dsimp only; omega, by dsimp only; simp; omega⟩
      unfold ref_FirstWay
      rw [e1, e2]
      have hi2 : ref_Ints y y = some true := by rw [ref_Ints_eq]; simp
      simp [hi2]
  · have hne : (hfAll x0 [x1, x2] == 0) = false := by simpa using h0
    have hne2 : (hfAll x0 [x1, x2] != 0) = true := by simpa using h0
    rw [hne]
    simp only [hne2, cond_false, bind_some', cond_true]
    simp

end Go.Proofs.Ytkkmiclmbhbmjaa.halfWays
namespace Go.Proofs.Ytkkmiclmbhbmjaa.halfWays
open Go.ChangeShapes Go.WideShapes Go.ChangeAt Go.RowKit
open Go.ChangeMaps (open_string shut_string)
theorem own : ownKnob Try.prog.godebug = none := by kernel_rfl
theorem laidOut : laidOutB Try.prog = true := by kernel_rfl
theorem lifted (os : Os) (started : os.Started) (H : Type) (enc : TypeId × Value → H) :
    ReturnsInHanded {} Try.checked os 13 .any (Rows.halfWaysSpec.pre6 enc Try.prog Try.f13 Rows.halfWaysRow.domain false) (Rows.halfWaysSpec.post enc Try.prog Try.f13 false true false false) := by
  refine returnsInHanded_of_change (C := Try.checked) own started (by kernel_rfl) Try.func13
    (ChangeSpec.witness6 (enc := enc) (C := Try.checked) false ⟨#[], #[.slice none 0 0, .int .i64 0, .int .i64 0], []⟩ 8 (by kernel_rfl) (by kernel_rfl) (by kernel_rfl) (by kernel_rfl)) ?_
  intro W base args ds gs before hval0 hW hcnd _
  have hval : ∀ (j : Nat) t v, Try.f13.params[j]? = some t → args[j]? = some v → Value.okWide Try.prog W .any base t v := hval0
  have hW' := hW
  obtain ⟨p, q, hA0, hV, rfl, hfz, hnd⟩ := hW
  have hA : DataW.TrodAll enc Try.prog W 0 (fun _ => true) true Try.f13.params.toList args.toList ds p := hA0
  rw [Try.params13] at hA hval
  obtain ⟨v0, vs0, d0, ds0, p0, q0, hargs, rfl, rfl, h0, r0⟩ := trodAll_cons hA
  obtain ⟨v1, vs1, d1, ds1, p1, q1, rfl, rfl, rfl, h1, r1⟩ := trodAll_cons r0
  obtain ⟨v2, vs2, d2, ds2, p2, q2, rfl, rfl, rfl, h2, r2⟩ := trodAll_cons r1
  obtain ⟨rfl, rfl, rfl⟩ := trodAll_nil r2
  obtain rfl : args = #[v0, v1, v2] := by cases args; simp_all
  obtain ⟨rfl, rfl⟩ := trodVars_none hV
  obtain ⟨x0, f0, k0⟩ := Go.Sl.read_arg (u := (.slice (.slice (.int .i64)))) (by kernel_rfl) (by kernel_rfl) (hval 0 61 v0 rfl rfl) h0
  have lt0 : ∀ x ∈ p0, x.block < W.heap.size := by obtain ⟨m, hm⟩ := h0; exact DataW.trod_lt m _ _ _ hm
  obtain ⟨x1, f1, k1⟩ := Go.Sl.read_arg (u := (.int .i64)) (by kernel_rfl) (by kernel_rfl) (hval 1 3 v1 rfl rfl) h1
  have lt1 : ∀ x ∈ p1, x.block < W.heap.size := by obtain ⟨m, hm⟩ := h1; exact DataW.trod_lt m _ _ _ hm
  obtain ⟨x2, f2, k2⟩ := Go.Sl.read_arg (u := (.int .i64)) (by kernel_rfl) (by kernel_rfl) (hval 2 3 v2 rfl rfl) h2
  have lt2 : ∀ x ∈ p2, x.block < W.heap.size := by obtain ⟨m, hm⟩ := h2; exact DataW.trod_lt m _ _ _ hm
  clear hA0 hval0
  obtain ⟨fuel, hm⟩ := HalfWays_true x0 x1 x2 f0 f1 f2
  refine (Go.Sl.law_of (vs := [v0, v1, v2]) (law_HalfWays_ok hm) rfl (.cons (k0 _ _) (.cons (k1 _ _) (.cons (k2 _ _) .nil)))).mono fun e W' ⟨he, bel⟩ => ?_
  subst he
  exact ⟨_, rfl, _, _, _, [], _, [], hW', trodAll_mk1 (shut_bool Try.underlying4 _), (trodAll_cons_mk (Below.trod laidOut (by kernel_rfl) (of_decide_eq_true (by kernel_rfl)) h0 bel lt0) (trodAll_cons_mk (Below.trod laidOut (by kernel_rfl) (of_decide_eq_true (by kernel_rfl)) h1 bel lt1) (trodAll_cons_mk (Below.trod laidOut (by kernel_rfl) (of_decide_eq_true (by kernel_rfl)) h2 bel lt2) trodAll_mk0))), rfl, bel.frame _, fun h => by cases h⟩
theorem proved : Rows.HalfWaysSaid :=
  OpenClaim.holds_of_wide 13 Try.f13 rfl rfl rfl rfl rfl rfl rfl ⟨rfl, rfl, rfl, rfl, rfl⟩ rfl rfl rfl rfl rfl (by kernel_rfl) Try.func13 (by kernel_rfl)
    (of_decide_eq_true (by kernel_rfl)) (by unfold Func.isWrapper; first | (rw [if_pos (by decide +kernel)]; kernel_rfl) | (rw [if_neg (by decide +kernel)]; exact ⟨rfl, rfl⟩))
    (fun os started H enc _ => lifted os started H enc)
#print axioms proved
end Go.Proofs.Ytkkmiclmbhbmjaa.halfWays
