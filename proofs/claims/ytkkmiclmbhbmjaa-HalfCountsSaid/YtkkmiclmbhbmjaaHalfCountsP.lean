/- For any dots and one of them half.Counts returns the specified results: HalfCounts returns true and changes nothing; no conditions. -/
import Derived.Test.YtkkmiclmbhbmjaaRows
import Derived.WalkKit
import Derived.ProofKit
import Derived.OpenShut
import Derived.ShutString
import Derived.ChangeOld
import Derived.Below
import Derived.Test.YtkkmiclmbhbmjaaHalfCountsM
set_option linter.all false
set_option maxRecDepth 100000
namespace Go.Proofs.Ytkkmiclmbhbmjaa.halfCounts
open Go Go.Sl

theorem within_eq (a b c : Int) : ref_Within a b c = some (decide (a ≤ b ∧ b ≤ c)) := by
  unfold ref_Within
  rw [Bool.decide_and]

theorem cc_grow {n : Nat} (h : n ≤ 4294967296) : slices_Grow_Lintint (n : Int) = some [] := by
  unfold slices_Grow_Lintint
  rw [decide_eq_false (by omega), cond_false, Int.sub_zero, w64_id (by omega) (by omega)]
  by_cases h0 : (n : Int) > 0
  · rw [decide_eq_true h0, cond_true, ck_ok (show 0 ≤ (n : Int) ∧ (n : Int) ≤ 4294967296 by omega)]; rfl
  · rw [decide_eq_false h0]; rfl
theorem flat_take {α : Type} {l : List (List α)} {n : Nat} {v : List α} (h : l[n]? = some v) : (l.take (n + 1)).flatten = (l.take n).flatten ++ v := by
  rw [List.take_add_one, h]; simp
theorem flat_le {α : Type} (l : List (List α)) (n : Nat) : (l.take n).flatten.length ≤ l.flatten.length := by
  have : l = l.take n ++ l.drop n := (List.take_append_drop n l).symm
  conv => rhs; rw [this, List.flatten_append, List.length_append]
  omega
theorem cc_concat {l : List (List Int)} (h : l.flatten.length ≤ 1000000) : slices_Concat_Lintint l = some l.flatten := by
  unfold slices_Concat_Lintint
  obtain ⟨y, h1, h2⟩ := forL_inv (body := slices_Concat_Lintint_b7) (fin := fun x => x) (l := l) (x := (0 : Int)) (fun n x => x = (((l.take n).flatten.length : Nat) : Int)) (fun y => y = ((l.flatten.length : Nat) : Int)) (by simp)
    (fun n v x hv hx => by
      subst hx
      have hle := flat_le l (n + 1)
      have he := flat_take hv
      rw [he, List.length_append] at hle
      unfold slices_Concat_Lintint_b7
      rw [w64_id (by omega) (by omega), decide_eq_false (by omega), cond_false]
      exact ⟨_, rfl, by rw [he, List.length_append]; omega⟩)
    (fun x hx => by rw [hx, List.take_length])
  rw [h1, bind_some', h2, cc_grow (by omega), bind_some']
  obtain ⟨z, h3, h4⟩ := forL_inv (body := slices_Concat_Lintint_b10) (fin := fun x => x) (l := l) (x := ([] : List Int)) (fun n x => x = (l.take n).flatten) (fun y => y = l.flatten) (by simp)
    (fun n v x hv hx => by
      subst hx
      have hle := flat_le l (n + 1)
      have he := flat_take hv
      rw [he, List.length_append] at hle
      have hck : ck ((List.length (l.take n).flatten : Int) + (List.length v : Int) ≤ 4294967296) = some () := ck_ok (by omega)
      unfold slices_Concat_Lintint_b10
      rw [hck, bind_some']
      exact ⟨_, rfl, he.symm⟩)
    (fun x hx => by rw [hx, List.take_length])
  rw [h3, bind_some', h4]

def hfBad (n : Int) (v : Int) : Bool := decide (v < 0) || decide (v ≥ n)
def hfLong (l : List Int) : Bool := decide ((l.length : Int) > 4)
def hfAll (t : List (List Int)) (d : List Int) : Int :=
  bif !decide (1 ≤ (t.length : Int) ∧ (t.length : Int) ≤ 8) then 1 else bif t.any hfLong then 1 else bif t.any (fun l => l.any (hfBad t.length)) then 2 else bif d.any (hfBad t.length) then 2 else 0
theorem hf_inside (n : Int) (l : List Int) : ref_Inside n l = some (!l.any (hfBad n)) := by
  unfold ref_Inside
  rw [forL_ex (p := hfBad n) (y := Esc.ret false) (fun i a _ => by unfold ref_Inside_b1 hfBad; cases (decide (a < 0) || decide (a ≥ n)) <;> rfl)]
  cases (l.any (hfBad n)) <;> rfl
theorem hf_bad (l : List Int) (n : Int) : slices_ContainsFunc_Lintint_with_half_wrong_2 l n = some (l.any (hfBad n)) := by
  unfold slices_ContainsFunc_Lintint_with_half_wrong_2 slices_IndexFunc_Lintint_with_half_wrong_2
  rcases forL_at (body := slices_IndexFunc_Lintint_with_half_wrong_2_b1 n) (fin := fun _ => (Esc.brk () : Esc Int Unit)) (p := hfBad n) (g := fun j => Esc.ret j) (l := l)
    (fun i a _ => by unfold slices_IndexFunc_Lintint_with_half_wrong_2_b1 half_wrong_2 hfBad; cases (decide (a < 0) || decide (a ≥ n)) <;> rfl) (i := 0) with ⟨h1, h2⟩ | ⟨h1, j, h2, h3, h4⟩
  · rw [h2, h1]; rfl
  · rw [h4, h1]; simp [h2]
theorem hf_long (l : List (List Int)) : slices_ContainsFunc_LLintLint_with_half_wrong_1 l = some (l.any hfLong) := by
  unfold slices_ContainsFunc_LLintLint_with_half_wrong_1 slices_IndexFunc_LLintLint_with_half_wrong_1
  rcases forL_at (body := slices_IndexFunc_LLintLint_with_half_wrong_1_b1) (fin := fun _ => (Esc.brk () : Esc Int Unit)) (p := hfLong) (g := fun j => Esc.ret j) (l := l)
    (fun i a _ => by unfold slices_IndexFunc_LLintLint_with_half_wrong_1_b1 half_wrong_1 hfLong; cases (decide ((a.length : Int) > 4)) <;> rfl) (i := 0) with ⟨h1, h2⟩ | ⟨h1, j, h2, h3, h4⟩
  · rw [h2, h1]; rfl
  · rw [h4, h1]; simp [h2]
theorem hf_flat : ∀ {t : List (List Int)}, t.any hfLong = false → t.flatten.length ≤ 4 * t.length
  | [], _ => by simp
  | l :: t, h => by
    simp only [List.any_cons, Bool.or_eq_false_iff] at h
    have := hf_flat h.2
    have h1 := h.1
    unfold hfLong at h1
    simp only [decide_eq_false_iff_not] at h1
    simp only [List.flatten_cons, List.length_append, List.length_cons]
    omega
theorem hf_wrong (t : List (List Int)) {d : List Int} (hd : d.length ≤ 2) : half_wrong t d = some (hfAll t d) := by
  unfold half_wrong half_wrong_g1 hfAll
  rw [hf_long]
  have e : ((decide ((List.length t : Int) < (1 : Int))) || (decide ((List.length t : Int) > (8 : Int)))) = !decide (1 ≤ (t.length : Int) ∧ (t.length : Int) ≤ 8) := by
    rw [or_dec, not_dec]; exact decide_eq_decide.2 (by omega)
  rw [e]
  by_cases h : 1 ≤ (t.length : Int) ∧ (t.length : Int) ≤ 8
  · rw [decide_eq_true h]
    cases hl : t.any hfLong with
    | true => rfl
    | false =>
      have hfl := hf_flat hl
      rw [cc_concat (by omega)]
      simp only [Bool.not_true, cond_false, bind_some']
      rw [cc_concat (l := [t.flatten, d]) (by simp only [List.flatten_cons, List.flatten_nil, List.append_nil, List.length_append]; omega)]
      simp only [bind_some', hf_bad, List.flatten_cons, List.flatten_nil, List.append_nil, List.any_append, List.any_flatten]
      cases (t.any fun l => l.any (hfBad t.length)) <;> cases d.any (hfBad t.length) <;> rfl
  · rw [decide_eq_false h]; rfl
theorem hf_check (t : List (List Int)) (d : List Int) : ref_NextsCheck t d = some (hfAll t d) := by
  unfold ref_NextsCheck hfAll
  rw [within_eq, bind_some', hf_inside]
  rw [forL_ex (p := hfLong) (y := Esc.ret 1) (fun i a _ => by unfold ref_NextsCheck_b1 hfLong; cases (decide ((a.length : Int) > 4)) <;> rfl)]
  rw [forL_ex (p := fun l => l.any (hfBad t.length)) (y := Esc.ret 2) (fun i a _ => by unfold ref_NextsCheck_b5; rw [hf_inside, bind_some']; cases (a.any (hfBad t.length)) <;> rfl)]
  cases decide (1 ≤ (t.length : Int) ∧ (t.length : Int) ≤ 8) <;> cases t.any hfLong <;> cases (t.any fun l => l.any (hfBad t.length)) <;> cases d.any (hfBad t.length) <;> rfl
theorem hf_ok {t : List (List Int)} {d : List Int} (h : hfAll t d = 0) : 1 ≤ t.length ∧ t.length ≤ 8 ∧ (∀ l ∈ t, l.length ≤ 4 ∧ ∀ v ∈ l, 0 ≤ v ∧ v < (t.length : Int)) ∧ ∀ v ∈ d, 0 ≤ v ∧ v < (t.length : Int) := by
  unfold hfAll at h
  by_cases h1 : 1 ≤ (t.length : Int) ∧ (t.length : Int) ≤ 8
  · rw [decide_eq_true h1] at h
    cases h2 : t.any hfLong with
    | true => rw [h2] at h; cases h
    | false =>
      rw [h2] at h
      cases h3 : (t.any fun l => l.any (hfBad t.length)) with
      | true => rw [h3] at h; cases h
      | false =>
        rw [h3] at h
        cases h4 : d.any (hfBad t.length) with
        | true => rw [h4] at h; cases h
        | false =>
          have good : ∀ l : List Int, l.any (hfBad t.length) = false → ∀ v ∈ l, 0 ≤ v ∧ v < (t.length : Int) := by
            intro l hl v hv
            have := List.any_eq_false.1 hl v hv
            unfold hfBad at this
            simp only [Bool.or_eq_true, decide_eq_true_eq, not_or] at this
            omega
          refine ⟨by omega, by omega, fun l hl => ⟨?_, good l ?_⟩, good d h4⟩
          · have := List.any_eq_false.1 h2 l hl
            unfold hfLong at this
            simp only [decide_eq_true_eq] at this
            omega
          · have := List.any_eq_false.1 h3 l hl
            simpa using this
  · rw [decide_eq_false h1] at h; cases h

theorem iter_seq {X Y : Type} {f : X → Option (Flow X Y)} {s : Nat → X} {y : Y} {n : Nat} (hs : ∀ j, j < n → f (s j) = some (.next (s (j + 1)))) (hf : f (s n) = some (.done y)) : ∀ (k j fuel : Nat), j + k = n → k < fuel → iter f fuel (s j) = some y
  | k, j, 0, _, h => by omega
  | 0, j, fuel + 1, h, _ => by
    have : j = n := by omega
    subst this
    simp only [iter, hf]
  | k + 1, j, fuel + 1, h, hk => by
    simp only [iter, hs j (by omega)]
    exact iter_seq hs hf k (j + 1) fuel (by omega) (by omega)

def hcRow (t : List (List Int)) (v : Int) : List Int := t.getD v.toNat []
def hcAdd (x : List Int) (v : Int) : List Int := bif !x.any (v == ·) then x ++ [v] else x
def hcOnce (l : List Int) : List Int := l.foldl hcAdd []
def hcL (t : List (List Int)) (a : Int) : Nat → List Int
  | 0 => [a]
  | d + 1 => hcOnce ((hcL t a d).flatMap (hcRow t))
theorem mem_add (x : List Int) (v w : Int) : w ∈ hcAdd x v ↔ w ∈ x ∨ w = v := by
  unfold hcAdd
  cases h : x.any (v == ·) with
  | false => simp
  | true =>
    obtain ⟨u, hu, e⟩ := List.any_eq_true.1 h
    have : v = u := by simpa using e
    subst this
    constructor
    · exact Or.inl
    · rintro (h | rfl)
      · exact h
      · exact hu
theorem mem_once : ∀ (l x : List Int) (w : Int), w ∈ l.foldl hcAdd x ↔ w ∈ x ∨ w ∈ l
  | [], x, w => by simp
  | v :: l, x, w => by
    rw [List.foldl_cons, mem_once l, mem_add, List.mem_cons]
    constructor
    · rintro ((h | h) | h)
      · exact .inl h
      · exact .inr (.inl h)
      · exact .inr (.inr h)
    · rintro (h | h | h)
      · exact .inl (.inl h)
      · exact .inl (.inr h)
      · exact .inr h
theorem len_once : ∀ (l x : List Int), (l.foldl hcAdd x).length ≤ x.length + l.length
  | [], x => by simp
  | v :: l, x => by
    have h := len_once l (hcAdd x v)
    have h2 : (hcAdd x v).length ≤ x.length + 1 := by
      unfold hcAdd; cases !x.any (v == ·) <;> simp
    rw [List.foldl_cons, List.length_cons]; omega
theorem hc_has2 (l : List Int) (x : Int) : ref_Has x l = some (l.any (x == ·)) := by
  unfold ref_Has
  rw [forL_ex (p := (x == ·)) (y := Esc.ret true) (fun i a _ => by unfold ref_Has_b1; cases (x == a) <;> rfl)]
  cases (l.any (x == ·)) <;> rfl
theorem hc_has3 (l : List Int) (x : Int) : ref_Has_i2 l x = some (l.any (x == ·)) := by
  unfold ref_Has_i2
  rw [forL_ex (p := (x == ·)) (y := Esc.ret true) (fun i a _ => by unfold ref_Has_i2_b1; cases (x == a) <;> rfl)]
  cases (l.any (x == ·)) <;> rfl
theorem hc_once {l : List Int} (h : l.length ≤ 2000000) : ref_once l = some (hcOnce l) := by
  unfold ref_once
  obtain ⟨y, h1, h2⟩ := forL_inv (body := ref_once_b5) (fin := fun x => x) (l := l) (x := ([] : List Int)) (fun n x => x = (l.take n).foldl hcAdd []) (fun y => y = hcOnce l) (by simp)
    (fun n v x hv hx => by
      subst hx
      have hlt := (List.getElem?_eq_some_iff.1 hv).1
      have hle := len_once (l.take n) []
      have hle : (List.foldl hcAdd [] (l.take n)).length ≤ n := by
        have : (l.take n).length ≤ n := by simp; omega
        simp only [List.length_nil] at hle; omega
      have e : (l.take (n + 1)).foldl hcAdd [] = hcAdd ((l.take n).foldl hcAdd []) v := by rw [List.take_add_one, hv]; simp
      rw [e]
      generalize (l.take n).foldl hcAdd [] = y at *
      have hck : ck ((List.length y : Int) + 1 ≤ 4294967296) = some () := ck_ok (by omega)
      unfold ref_once_b5 hcAdd
      rw [hc_has2, bind_some', hck]
      cases y.any (v == ·) <;> exact ⟨_, rfl, rfl⟩)
    (fun x hx => by rw [hx, List.take_length]; rfl)
  rw [h1, bind_some', h2]
structure HOk (t : List (List Int)) (a : Int) : Prop where
  lo : 1 ≤ t.length
  hi : t.length ≤ 8
  row : ∀ l ∈ t, l.length ≤ 4 ∧ ∀ v ∈ l, 0 ≤ v ∧ v < (t.length : Int)
  fr : 0 ≤ a ∧ a < (t.length : Int)
theorem HOk.get {t : List (List Int)} {a : Int} (h : HOk t a) {v : Int} (hv : 0 ≤ v ∧ v < (t.length : Int)) : idx t v = some (hcRow t v) ∧ (hcRow t v).length ≤ 4 ∧ ∀ w ∈ hcRow t v, 0 ≤ w ∧ w < (t.length : Int) := by
  obtain ⟨l, hl, hg⟩ := idx_get (xs := t) hv.1 hv.2
  have e : hcRow t v = l := by unfold hcRow; rw [List.getD_eq_getElem?_getD, hg]; rfl
  rw [e]
  exact ⟨hl, h.row l (List.mem_of_getElem? hg)⟩
theorem hc_flatlen {t : List (List Int)} {a : Int} (h : HOk t a) : ∀ (l : List Int), (∀ v ∈ l, 0 ≤ v ∧ v < (t.length : Int)) → (l.flatMap (hcRow t)).length ≤ 4 * l.length
  | [], _ => by simp
  | v :: l, hl => by
    have h1 := hc_flatlen h l (fun w hw => hl w (by simp [hw]))
    have h2 := (h.get (hl v (by simp))).2.1
    rw [List.flatMap_cons, List.length_append, List.length_cons]; omega
theorem hc_L {t : List (List Int)} {a : Int} (h : HOk t a) : ∀ d, (∀ v ∈ hcL t a d, 0 ≤ v ∧ v < (t.length : Int)) ∧ (hcL t a d).length ≤ 4 ^ d
  | 0 => ⟨fun v hv => by have : v = a := by simpa [hcL] using hv
                         subst this; exact h.fr, by simp [hcL]⟩
  | d + 1 => by
    obtain ⟨h1, h2⟩ := hc_L h d
    have h3 := hc_flatlen h _ h1
    have h4 := len_once ((hcL t a d).flatMap (hcRow t)) []
    refine ⟨fun v hv => ?_, ?_⟩
    · have hv' := (mem_once _ _ _).1 hv
      rcases hv' with hv' | hv'
      · simp at hv'
      · obtain ⟨u, hu, hw⟩ := List.mem_flatMap.1 hv'
        exact (h.get (h1 u hu)).2.2 v hw
    · show (hcOnce _).length ≤ _
      unfold hcOnce
      simp only [List.length_nil] at h4
      rw [Nat.pow_succ]; omega
theorem hc_mem_succ {t : List (List Int)} {a : Int} (d : Nat) (w : Int) : w ∈ hcL t a (d + 1) ↔ ∃ v ∈ hcL t a d, w ∈ hcRow t v := by
  show w ∈ hcOnce _ ↔ _
  unfold hcOnce
  rw [mem_once]
  simp only [List.not_mem_nil, false_or, List.mem_flatMap]
def hcR (t : List (List Int)) (a : Int) (k : Nat) (v : Int) : Bool := (List.range (k + 1)).any fun d => (hcL t a d).any (v == ·)
theorem hcR_iff (t : List (List Int)) (a : Int) (k : Nat) (v : Int) : hcR t a k v = true ↔ ∃ d, d ≤ k ∧ v ∈ hcL t a d := by
  unfold hcR
  rw [List.any_eq_true]
  constructor
  · rintro ⟨d, hd, h⟩
    obtain ⟨u, hu, e⟩ := List.any_eq_true.1 h
    have : v = u := by simpa using e
    subst this
    exact ⟨d, by have := List.mem_range.1 hd; omega, hu⟩
  · rintro ⟨d, hd, h⟩
    exact ⟨d, List.mem_range.2 (by omega), List.any_eq_true.2 ⟨v, h, by simp⟩⟩
theorem hc_far {t : List (List Int)} {a : Int} (h : HOk t a) (v : Int) {fuel : Nat} (hf : 12 < fuel) : ∃ r, ref_Far fuel t a v = some r ∧ ∀ k : Nat, k ≤ t.length → decide (0 ≤ r ∧ r ≤ (k : Int)) = hcR t a k v := by
  unfold ref_Far
  have hh := h.hi
  obtain ⟨y, h1, h2⟩ := iter_inv (f := ref_Far_b10 t v) (fun x => ∃ d : Nat, d ≤ t.length + 1 ∧ x = (hcL t a d, (d : Int)) ∧ ∀ j, j < d → v ∉ hcL t a j) (fun x => (10 - x.2).toNat)
    (fun y => match y with | .ret r => ∃ d : Nat, r = (d : Int) ∧ v ∈ hcL t a d ∧ ∀ j, j < d → v ∉ hcL t a j | .brk _ => ∀ j, j < t.length + 1 → v ∉ hcL t a j)
    (by
      rintro _ ⟨d, hd, rfl, hn⟩
      unfold ref_Far_b10
      dsimp only
      by_cases hle : d ≤ t.length
      · rw [decide_eq_true (by omega), cond_true, hc_has3, bind_some']
        cases hc : (hcL t a d).any (v == ·) with
        | true =>
          obtain ⟨u, hu, e⟩ := List.any_eq_true.1 hc
          have : v = u := by simpa using e
          subst this
          exact ⟨_, rfl, d, rfl, hu, hn⟩
        | false =>
          obtain ⟨b1, b2⟩ := hc_L h d
          have hp : 4 ^ d ≤ 65536 := by
            have := Nat.pow_le_pow_right (n := 4) (by omega) (show d ≤ 8 by omega)
            simpa using this
          have b3 := hc_flatlen h _ b1
          obtain ⟨y, q1, q2⟩ := forL_inv (body := ref_Far_b7 t) (fin := fun x => x) (l := hcL t a d) (x := ([] : List Int)) (fun n x => x = ((hcL t a d).take n).flatMap (hcRow t)) (fun y => y = (hcL t a d).flatMap (hcRow t)) (by simp)
            (fun n u x hu hx => by
              subst hx
              have hlt := (List.getElem?_eq_some_iff.1 hu).1
              obtain ⟨g1, g2, _⟩ := h.get (b1 u (List.mem_of_getElem? hu))
              have g3 := hc_flatlen h ((hcL t a d).take n) (fun w hw => b1 w (List.mem_of_mem_take hw))
              have g4 : ((hcL t a d).take n).length ≤ n := by simp; omega
              have hck : ck ((List.length (((hcL t a d).take n).flatMap (hcRow t)) : Int) + (List.length (hcRow t u) : Int) ≤ 4294967296) = some () := ck_ok (by omega)
              unfold ref_Far_b7
              rw [g1, bind_some', hck]
              refine ⟨_, rfl, ?_⟩
              rw [List.take_add_one, hu]; simp)
            (fun x hx => by rw [hx, List.take_length])
          rw [cond_false, q1, bind_some', q2]
          have hck : ck ((0 : Int) + (List.length ((hcL t a d).flatMap (hcRow t)) : Int) ≤ 4294967296) = some () := ck_ok (by omega)
          rw [hck, bind_some', List.nil_append, hc_once (by omega), bind_some', w64_id (by omega) (by omega)]
          refine ⟨_, rfl, ⟨d + 1, by omega, rfl, fun j hj => ?_⟩, ?_⟩
          · by_cases e : j = d
            · subst e
              intro hm
              have := List.any_eq_false.1 hc v hm
              simp at this
            · exact hn j (by omega)
          · dsimp only; omega
      · rw [decide_eq_false (by omega), cond_false]
        exact ⟨_, rfl, fun j hj => hn j (by omega)⟩) fuel ([a], (0 : Int)) (by dsimp only; omega) ⟨0, by omega, rfl, fun j hj => by omega⟩
  rw [h1, bind_some']
  cases y with
  | ret r =>
    obtain ⟨d, rfl, hm, hn⟩ := h2
    refine ⟨(d : Int), rfl, fun k hk => ?_⟩
    rw [Bool.eq_iff_iff, hcR_iff, decide_eq_true_eq]
    constructor
    · exact fun hh => ⟨d, by omega, hm⟩
    · rintro ⟨j, hj, hmj⟩
      have : ¬ j < d := fun hlt => hn j hlt hmj
      omega
  | brk u =>
    refine ⟨-1, rfl, fun k hk => ?_⟩
    rw [Bool.eq_iff_iff, hcR_iff, decide_eq_true_eq]
    constructor
    · omega
    · rintro ⟨j, hj, hmj⟩
      exact (h2 j (by omega) hmj).elim
theorem hcR_succ {t : List (List Int)} {a : Int} (h : HOk t a) (k w : Nat) : hcR t a (k + 1) (w : Int) = (hcR t a k (w : Int) || (List.range t.length).any fun v => hcR t a k (v : Int) && (hcRow t (v : Int)).any ((w : Int) == ·)) := by
  rw [Bool.eq_iff_iff, Bool.or_eq_true, hcR_iff, hcR_iff]
  simp only [List.any_eq_true, List.mem_range, Bool.and_eq_true, hcR_iff, beq_iff_eq]
  constructor
  · rintro ⟨d, hd, hm⟩
    by_cases e : d ≤ k
    · exact .inl ⟨d, e, hm⟩
    · have e : d = k + 1 := by omega
      subst e
      obtain ⟨v, hv, hw⟩ := (hc_mem_succ k _).1 hm
      have hr := (hc_L h k).1 v hv
      refine .inr ⟨v.toNat, by omega, ?_⟩
      have ev : ((v.toNat : Nat) : Int) = v := by omega
      rw [ev]
      exact ⟨⟨k, by omega, hv⟩, _, hw, rfl⟩
  · rintro (⟨d, hd, hm⟩ | ⟨v, hv, ⟨d, hd, hm⟩, u, hu, rfl⟩)
    · exact ⟨d, by omega, hm⟩
    · exact ⟨d + 1, by omega, (hc_mem_succ d _).2 ⟨_, hm, hu⟩⟩
/-- one round of the program -/
theorem hc_round {t : List (List Int)} {a : Int} (h : HOk t a) (k : Nat) (cs : List Int) (hcs : cs.length ≤ 8) (i : Int) (v : List Int) :
    half_Counts_b109 t i v ((List.range t.length).map (fun (w : Nat) => hcR t a k (w : Int)), cs) = some (.next ((List.range t.length).map (fun (w : Nat) => hcR t a (k + 1) (w : Int)), cs ++ [(((List.range t.length).countP (fun (w : Nat) => hcR t a k (w : Int)) : Nat) : Int)])) := by
  have hh := h.hi
  unfold half_Counts_b109
  dsimp only
  have hlen : ((List.range t.length).map (fun (w : Nat) => hcR t a k (w : Int))).length = t.length := by simp
  have hg : ∀ w, w < t.length → ((List.range t.length).map (fun (w : Nat) => hcR t a k (w : Int)))[w]? = some (hcR t a k (w : Int)) := fun w hw => by simp [hw]
  have hcl : slices_Clone_Lboolbool_i2 ((List.range t.length).map (fun (w : Nat) => hcR t a k (w : Int))) = some ((List.range t.length).map (fun (w : Nat) => hcR t a k (w : Int))) := by
    have hck : ck ((0 : Int) + (List.length ((List.range t.length).map (fun (w : Nat) => hcR t a k (w : Int))) : Int) ≤ 4294967296) = some () := ck_ok (by omega)
    unfold slices_Clone_Lboolbool_i2
    rw [hck]; rfl
  rw [hcl, bind_some']
  generalize hB : (List.range t.length).map (fun (w : Nat) => hcR t a k (w : Int)) = B at *
  obtain ⟨y, h1, h2⟩ := forL_inv (body := half_Counts_b106 t) (fin := fun x809 => (x809.1, x809.2)) (l := B) (x := ((0 : Int), B))
    (fun n x => x.1 = (((List.range n).countP (fun (w : Nat) => hcR t a k (w : Int)) : Nat) : Int) ∧ x.2.length = t.length ∧ ∀ w, w < t.length → x.2[w]? = some (hcR t a k (w : Int) || (List.range n).any fun v => hcR t a k (v : Int) && (hcRow t (v : Int)).any ((w : Int) == ·)))
    (fun y => y.1 = (((List.range t.length).countP (fun (w : Nat) => hcR t a k (w : Int)) : Nat) : Int) ∧ y.2.length = t.length ∧ ∀ w, w < t.length → y.2[w]? = some (hcR t a (k + 1) (w : Int)))
    ⟨by simp, hlen, fun w hw => by simp [hg w hw]⟩
    (by
      rintro n b ⟨c, x⟩ hb ⟨rfl, hx, hxw⟩
      have hlt := (List.getElem?_eq_some_iff.1 hb).1
      rw [hlen] at hlt
      have eb : b = hcR t a k (n : Int) := by
        have := hg n hlt
        rw [hb] at this
        exact Option.some.inj this
      have hcp : (List.range n).countP (fun (w : Nat) => hcR t a k (w : Int)) ≤ n := by
        have := List.countP_le_length (p := fun w => hcR t a k ((w : Nat) : Int)) (l := List.range n)
        simpa using this
      have hcs : (List.range (n + 1)).countP (fun (w : Nat) => hcR t a k (w : Int)) = (List.range n).countP (fun (w : Nat) => hcR t a k (w : Int)) + (bif hcR t a k (n : Int) then 1 else 0) := by
        rw [List.range_succ, List.countP_append]
        cases hq : hcR t a k (n : Int) <;> simp [hq]
      unfold half_Counts_b106 half_Counts_g104
      dsimp only at *
      subst eb
      cases hbn : hcR t a k (n : Int) with
      | false =>
        rw [hbn] at hcs
        refine ⟨_, rfl, by rw [hcs]; rfl, hx, fun w hw => ?_⟩
        rw [hxw w hw, List.range_succ, List.any_append]
        simp [hbn]
      | true =>
        rw [hbn] at hcs
        obtain ⟨g1, g2, g3⟩ := h.get (v := (n : Int)) ⟨by omega, by omega⟩
        obtain ⟨z, q1, q2, q3⟩ := forL_inv (body := half_Counts_b101) (fin := fun x => x) (l := hcRow t (n : Int)) (x := x)
          (fun m z => z.length = t.length ∧ ∀ w, w < t.length → z[w]? = some (hcR t a k (w : Int) || ((List.range n).any fun v => hcR t a k (v : Int) && (hcRow t (v : Int)).any ((w : Int) == ·)) || ((hcRow t (n : Int)).take m).any ((w : Int) == ·)))
          (fun z => z.length = t.length ∧ ∀ w, w < t.length → z[w]? = some (hcR t a k (w : Int) || ((List.range n).any fun v => hcR t a k (v : Int) && (hcRow t (v : Int)).any ((w : Int) == ·)) || (hcRow t (n : Int)).any ((w : Int) == ·)))
          ⟨hx, fun w hw => by rw [hxw w hw]; simp⟩
          (by
            rintro m u z hu ⟨hz, hzw⟩
            obtain ⟨u0, u1⟩ := g3 u (List.mem_of_getElem? hu)
            obtain ⟨b, r1, _⟩ := idx_get (xs := z) (i := u) u0 (by omega)
            unfold half_Counts_b101
            rw [r1]
            refine ⟨_, rfl, by simpa using hz, fun w hw => ?_⟩
            rw [List.take_add_one, hu, List.any_append, List.getElem?_set]
            by_cases e : u.toNat = w
            · have : ((w : Int) == u) = true := by simp; omega
              rw [if_pos e, if_pos (by omega)]
              simp [this]
            · have : ((w : Int) == u) = false := by simp; omega
              rw [if_neg e, hzw w hw]
              simp [this])
          (fun z hz => by rw [List.take_length] at hz; exact hz)
        rw [g1]
        simp only [Bool.not_true, cond_false, bind_some']
        rw [q1, bind_some']
        rw [w64_id (by omega) (by omega)]
        refine ⟨_, rfl, by rw [hcs]; rfl, q2, fun w hw => ?_⟩
        rw [q3 w hw, List.range_succ, List.any_append]
        simp [hbn, Bool.or_assoc])
    (by
      rintro ⟨c, x⟩ ⟨hc, hx, hxw⟩
      rw [hlen] at hc hxw
      exact ⟨hc, hx, fun w hw => by rw [hcR_succ h]; exact hxw w hw⟩)
  rw [h1, bind_some']
  have hck : ck ((List.length cs : Int) + 1 ≤ 4294967296) = some () := ck_ok (by omega)
  rw [hck, bind_some', h2.1]
  have e : y.2 = (List.range t.length).map (fun (w : Nat) => hcR t a (k + 1) (w : Int)) := by
    apply List.ext_getElem?
    intro w
    by_cases hw : w < t.length
    · rw [h2.2.2 w hw]; simp [hw]
    · rw [List.getElem?_eq_none (by omega), List.getElem?_eq_none (by simp; omega)]
  rw [e]
def hcCnt (t : List (List Int)) (a : Int) (k : Nat) : Int := (((List.range t.length).countP (fun (w : Nat) => hcR t a k (w : Int)) : Nat) : Int)
theorem hc_counts {t : List (List Int)} {a : Int} (h : HOk t a) (hz : hfAll t [a] = 0) : half_Counts t a = some ((List.range t.length).map (hcCnt t a), 0) := by
  have hh := h.hi
  have hf := h.fr
  unfold half_Counts
  rw [hf_wrong t (d := [a]) (by simp), hz, bind_some', show ((0 : Int) != 0) = false from rfl, cond_false]
  have hck : ck (0 ≤ (List.length t : Int) ∧ (List.length t : Int) = (List.length t : Int) ∧ (List.length t : Int) ≤ 4294967296) = some () := ck_ok ⟨by omega, rfl, by omega⟩
  rw [hck, bind_some']
  obtain ⟨b, r1, _⟩ := idx_get (xs := List.replicate (Int.toNat (List.length t : Int)) false) (i := a) hf.1 (by simpa using hf.2)
  rw [r1, bind_some']
  have e0 : List.set (List.replicate (Int.toNat (List.length t : Int)) false) (Int.toNat a) true = (List.range t.length).map (fun (w : Nat) => hcR t a 0 (w : Int)) := by
    apply List.ext_getElem?
    intro w
    by_cases hw : w < t.length
    · rw [List.getElem?_set]
      have e : hcR t a 0 (w : Int) = decide ((w : Int) = a) := by
        rw [Bool.eq_iff_iff, hcR_iff, decide_eq_true_eq]
        constructor
        · rintro ⟨d, hd, hm⟩
          have : d = 0 := by omega
          subst this
          simpa [hcL] using hm
        · rintro e
          exact ⟨0, by omega, by simp [hcL, e]⟩
      by_cases e1 : a.toNat = w
      · rw [if_pos e1, if_pos (by simp; omega)]
        simp [hw, e]; omega
      · rw [if_neg e1]
        simp [hw, e]; omega
    · rw [List.getElem?_eq_none (by simp; omega), List.getElem?_eq_none (by simp; omega)]
  rw [e0]
  obtain ⟨y, h1, h2⟩ := forL_inv (body := half_Counts_b109 t) (fin := fun x607 => x607.2) (l := t) (x := ((List.range t.length).map (fun (w : Nat) => hcR t a 0 (w : Int)), ([] : List Int)))
    (fun n x => x = ((List.range t.length).map (fun (w : Nat) => hcR t a n (w : Int)), (List.range n).map (hcCnt t a))) (fun y => y = (List.range t.length).map (hcCnt t a)) (by simp)
    (by
      rintro n v x hv rfl
      have hlt := (List.getElem?_eq_some_iff.1 hv).1
      refine ⟨_, hc_round h n _ (by simp; omega) _ _, ?_⟩
      dsimp only
      rw [List.range_succ, List.map_append]
      rfl)
    (by rintro x rfl; rfl)
  rw [h1, bind_some', h2]
theorem HalfCounts_true (a0 : List (List Int)) (a1 : Int) (f0 : Fits (.slice (.slice (.int .i64))) a0) (f1 : Fits (.int .i64) a1) : ∃ fuel, law_HalfCounts fuel a0 a1 = some true := by
  refine ⟨20, ?_⟩
  unfold law_HalfCounts
  rw [hf_check]
  by_cases hz : hfAll a0 [a1] = 0
  · obtain ⟨h1, h2, h3, h4⟩ := hf_ok hz
    have h : HOk a0 a1 := ⟨h1, h2, h3, h4 a1 (by simp)⟩
    rw [hc_counts h hz, hz, bind_some', bind_some', show ((0 : Int) != 0) = false from rfl, cond_false]
    have hb : ∀ k, k < a0.length → law_HalfCounts_b19 a0 a1 ((List.range a0.length).map (hcCnt a0 a1), 0) 20 (k : Int) = some (.next ((k + 1 : Nat) : Int)) := by
      intro k hk
      unfold law_HalfCounts_b19
      dsimp only
      rw [decide_eq_true (by simpa using hk), decide_eq_true (by omega)]
      simp only [Bool.and_self, cond_true]
      rw [forL_countI (p := fun w => hcR a0 a1 k (w : Int)) (by omega) (by
        intro w v x hw
        obtain ⟨r, q1, q2⟩ := hc_far h (w : Int) (fuel := 20) (by omega)
        unfold law_HalfCounts_b16
        rw [q1, bind_some', within_eq, bind_some', q2 k (by omega)]
        cases hcR a0 a1 k (w : Int) <;> rfl)]
      rw [bind_some', idx_nat]
      have e : ((List.range a0.length).map (hcCnt a0 a1))[k]? = some (hcCnt a0 a1 k) := by simp [hk]
      rw [e, bind_some']
      unfold hcCnt
      rw [w64_id (by omega) (by omega)]
      simp
    have hit := iter_seq (s := fun k => (k : Int)) (n := a0.length) (y := Esc.brk ()) hb (by
      unfold law_HalfCounts_b19
      dsimp only
      rw [decide_eq_false (by simp)]
      rfl) a0.length 0 20 (by omega) (by omega)
    have hit : iter (law_HalfCounts_b19 a0 a1 (List.map (hcCnt a0 a1) (List.range a0.length), 0) 20) 20 0 = _ := hit
    rw [hit]
    simp
  · unfold half_Counts
    rw [hf_wrong a0 (d := [a1]) (by simp)]
    have e1 : (hfAll a0 [a1] != 0) = true := by simp [hz]
    rw [bind_some', e1, cond_true, bind_some', bind_some', e1, cond_true]
    simp

end Go.Proofs.Ytkkmiclmbhbmjaa.halfCounts
namespace Go.Proofs.Ytkkmiclmbhbmjaa.halfCounts
open Go.ChangeShapes Go.WideShapes Go.ChangeAt Go.RowKit
open Go.ChangeMaps (open_string shut_string)
theorem own : ownKnob Try.prog.godebug = none := by kernel_rfl
theorem laidOut : laidOutB Try.prog = true := by kernel_rfl
theorem lifted (os : Os) (started : os.Started) (H : Type) (enc : TypeId × Value → H) :
    ReturnsInHanded {} Try.checked os 11 .any (Rows.halfCountsSpec.pre6 enc Try.prog Try.f11 Rows.halfCountsRow.domain false) (Rows.halfCountsSpec.post enc Try.prog Try.f11 false true false false) := by
  refine returnsInHanded_of_change (C := Try.checked) own started (by kernel_rfl) Try.func11
    (ChangeSpec.witness6 (enc := enc) (C := Try.checked) false ⟨#[], #[.slice none 0 0, .int .i64 0], []⟩ 8 (by kernel_rfl) (by kernel_rfl) (by kernel_rfl) (by kernel_rfl)) ?_
  intro W base args ds gs before hval0 hW hcnd _
  have hval : ∀ (j : Nat) t v, Try.f11.params[j]? = some t → args[j]? = some v → Value.okWide Try.prog W .any base t v := hval0
  have hW' := hW
  obtain ⟨p, q, hA0, hV, rfl, hfz, hnd⟩ := hW
  have hA : DataW.TrodAll enc Try.prog W 0 (fun _ => true) true Try.f11.params.toList args.toList ds p := hA0
  rw [Try.params11] at hA hval
  obtain ⟨v0, vs0, d0, ds0, p0, q0, hargs, rfl, rfl, h0, r0⟩ := trodAll_cons hA
  obtain ⟨v1, vs1, d1, ds1, p1, q1, rfl, rfl, rfl, h1, r1⟩ := trodAll_cons r0
  obtain ⟨rfl, rfl, rfl⟩ := trodAll_nil r1
  obtain rfl : args = #[v0, v1] := by cases args; simp_all
  obtain ⟨rfl, rfl⟩ := trodVars_none hV
  obtain ⟨x0, f0, k0⟩ := Go.Sl.read_arg (u := (.slice (.slice (.int .i64)))) (by kernel_rfl) (by kernel_rfl) (hval 0 61 v0 rfl rfl) h0
  have lt0 : ∀ x ∈ p0, x.block < W.heap.size := by obtain ⟨m, hm⟩ := h0; exact DataW.trod_lt m _ _ _ hm
  obtain ⟨x1, f1, k1⟩ := Go.Sl.read_arg (u := (.int .i64)) (by kernel_rfl) (by kernel_rfl) (hval 1 3 v1 rfl rfl) h1
  have lt1 : ∀ x ∈ p1, x.block < W.heap.size := by obtain ⟨m, hm⟩ := h1; exact DataW.trod_lt m _ _ _ hm
  clear hA0 hval0
  obtain ⟨fuel, hm⟩ := HalfCounts_true x0 x1 f0 f1
  refine (Go.Sl.law_of (vs := [v0, v1]) (law_HalfCounts_ok hm) rfl (.cons (k0 _ _) (.cons (k1 _ _) .nil))).mono fun e W' ⟨he, bel⟩ => ?_
  subst he
  exact ⟨_, rfl, _, _, _, [], _, [], hW', trodAll_mk1 (shut_bool Try.underlying4 _), (trodAll_cons_mk (Below.trod laidOut (by kernel_rfl) (of_decide_eq_true (by kernel_rfl)) h0 bel lt0) (trodAll_cons_mk (Below.trod laidOut (by kernel_rfl) (of_decide_eq_true (by kernel_rfl)) h1 bel lt1) trodAll_mk0)), rfl, bel.frame _, fun h => by cases h⟩
theorem proved : Rows.HalfCountsSaid :=
  OpenClaim.holds_of_wide 11 Try.f11 rfl rfl rfl rfl rfl rfl rfl ⟨rfl, rfl, rfl, rfl, rfl⟩ rfl rfl rfl rfl rfl (by kernel_rfl) Try.func11 (by kernel_rfl)
    (of_decide_eq_true (by kernel_rfl)) (by unfold Func.isWrapper; first | (rw [if_pos (by decide +kernel)]; kernel_rfl) | (rw [if_neg (by decide +kernel)]; exact ⟨rfl, rfl⟩))
    (fun os started H enc _ => lifted os started H enc)
#print axioms proved
end Go.Proofs.Ytkkmiclmbhbmjaa.halfCounts
