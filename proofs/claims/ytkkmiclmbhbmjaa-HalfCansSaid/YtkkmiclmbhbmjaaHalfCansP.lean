/- For any dots, two of them and steps half.Can returns the specified results: HalfCans returns true and changes nothing; no conditions. -/
import Derived.Test.YtkkmiclmbhbmjaaRows
import Derived.WalkKit
import Derived.ProofKit
import Derived.OpenShut
import Derived.ShutString
import Derived.ChangeOld
import Derived.Below
import Derived.Test.YtkkmiclmbhbmjaaHalfCansM
set_option linter.all false
set_option maxRecDepth 100000
namespace Go.Proofs.Ytkkmiclmbhbmjaa.halfCans
open Go Go.Sl

theorem within_eq (a b c : Int) : ref_Within a b c = some (decide (a ≤ b ∧ b ≤ c)) := by
  unfold ref_Within
  rw [Bool.decide_and]

theorem cc_grow {n : Nat} (h : n ≤ 4294967296) : slices_Grow_Lintint (n : Int) = some [] := by
  unfold slices_Grow_Lintint
  rw [decide_eq_false (by omega), cond_false, Int.sub_zero, w64_id (by omega) (by omega)]
  by_cases h0 : (n : Int) > 0
  · rw [decide_eq_true h0, cond_true, ck_ok (show 0 ≤ (n : Int) ∧ (n : Int) ≤ 4294967296 by omega)]; rfl
  · rw [decide_eq_false h0]; rfl
theorem flat_take {α : Type} {l : List (List α)} {n : Nat} {v : List α} (h : l[n]? = some v) : (l.take (n + 1)).flatten = (l.take n).flatten ++ v := by
  rw [List.take_add_one, h]; simp
theorem flat_le {α : Type} (l : List (List α)) (n : Nat) : (l.take n).flatten.length ≤ l.flatten.length := by
  have : l = l.take n ++ l.drop n := (List.take_append_drop n l).symm
  conv => rhs; rw [this, List.flatten_append, List.length_append]
  omega
theorem cc_concat {l : List (List Int)} (h : l.flatten.length ≤ 1000000) : slices_Concat_Lintint l = some l.flatten := by
  unfold slices_Concat_Lintint
  obtain ⟨y, h1, h2⟩ := forL_inv (body := slices_Concat_Lintint_b7) (fin := fun x => x) (l := l) (x := (0 : Int)) (fun n x => x = (((l.take n).flatten.length : Nat) : Int)) (fun y => y = ((l.flatten.length : Nat) : Int)) (by simp)
    (fun n v x hv hx => by
      subst hx
      have hle := flat_le l (n + 1)
      have he := flat_take hv
      rw [he, List.length_append] at hle
      unfold slices_Concat_Lintint_b7
      rw [w64_id (by omega) (by omega), decide_eq_false (by omega), cond_false]
      exact ⟨_, rfl, by rw [he, List.length_append]; omega⟩)
    (fun x hx => by rw [hx, List.take_length])
  rw [h1, bind_some', h2, cc_grow (by omega), bind_some']
  obtain ⟨z, h3, h4⟩ := forL_inv (body := slices_Concat_Lintint_b10) (fin := fun x => x) (l := l) (x := ([] : List Int)) (fun n x => x = (l.take n).flatten) (fun y => y = l.flatten) (by simp)
    (fun n v x hv hx => by
      subst hx
      have hle := flat_le l (n + 1)
      have he := flat_take hv
      rw [he, List.length_append] at hle
      have hck : ck ((List.length (l.take n).flatten : Int) + (List.length v : Int) ≤ 4294967296) = some () := ck_ok (by omega)
      unfold slices_Concat_Lintint_b10
      rw [hck, bind_some']
      exact ⟨_, rfl, he.symm⟩)
    (fun x hx => by rw [hx, List.take_length])
  rw [h3, bind_some', h4]

def hfBad (n : Int) (v : Int) : Bool := decide (v < 0) || decide (v ≥ n)
def hfLong (l : List Int) : Bool := decide ((l.length : Int) > 4)
def hfAll (t : List (List Int)) (d : List Int) : Int :=
  bif !decide (1 ≤ (t.length : Int) ∧ (t.length : Int) ≤ 8) then 1 else bif t.any hfLong then 1 else bif t.any (fun l => l.any (hfBad t.length)) then 2 else bif d.any (hfBad t.length) then 2 else 0
theorem hf_inside (n : Int) (l : List Int) : ref_Inside n l = some (!l.any (hfBad n)) := by
  unfold ref_Inside
  rw [forL_ex (p := hfBad n) (y := Esc.ret false) (fun i a _ => by unfold ref_Inside_b1 hfBad; cases (decide (a < 0) || decide (a ≥ n)) <;> rfl)]
  cases (l.any (hfBad n)) <;> rfl
theorem hf_bad (l : List Int) (n : Int) : slices_ContainsFunc_Lintint_with_half_wrong_2 l n = some (l.any (hfBad n)) := by
  unfold slices_ContainsFunc_Lintint_with_half_wrong_2 slices_IndexFunc_Lintint_with_half_wrong_2
  rcases forL_at (body := slices_IndexFunc_Lintint_with_half_wrong_2_b1 n) (fin := fun _ => (Esc.brk () : Esc Int Unit)) (p := hfBad n) (g := fun j => Esc.ret j) (l := l)
    (fun i a _ => by unfold slices_IndexFunc_Lintint_with_half_wrong_2_b1 half_wrong_2 hfBad; cases (decide (a < 0) || decide (a ≥ n)) <;> rfl) (i := 0) with ⟨h1, h2⟩ | ⟨h1, j, h2, h3, h4⟩
  · rw [h2, h1]; rfl
  · rw [h4, h1]; simp [h2]
theorem hf_long (l : List (List Int)) : slices_ContainsFunc_LLintLint_with_half_wrong_1 l = some (l.any hfLong) := by
  unfold slices_ContainsFunc_LLintLint_with_half_wrong_1 slices_IndexFunc_LLintLint_with_half_wrong_1
  rcases forL_at (body := slices_IndexFunc_LLintLint_with_half_wrong_1_b1) (fin := fun _ => (Esc.brk () : Esc Int Unit)) (p := hfLong) (g := fun j => Esc.ret j) (l := l)
    (fun i a _ => by unfold slices_IndexFunc_LLintLint_with_half_wrong_1_b1 half_wrong_1 hfLong; cases (decide ((a.length : Int) > 4)) <;> rfl) (i := 0) with ⟨h1, h2⟩ | ⟨h1, j, h2, h3, h4⟩
  · rw [h2, h1]; rfl
  · rw [h4, h1]; simp [h2]
theorem hf_flat : ∀ {t : List (List Int)}, t.any hfLong = false → t.flatten.length ≤ 4 * t.length
  | [], _ => by simp
  | l :: t, h => by
    simp only [List.any_cons, Bool.or_eq_false_iff] at h
    have := hf_flat h.2
    have h1 := h.1
    unfold hfLong at h1
    simp only [decide_eq_false_iff_not] at h1
    simp only [List.flatten_cons, List.length_append, List.length_cons]
    omega
theorem hf_wrong (t : List (List Int)) {d : List Int} (hd : d.length ≤ 2) : half_wrong t d = some (hfAll t d) := by
  unfold half_wrong half_wrong_g1 hfAll
  rw [hf_long]
  have e : ((decide ((List.length t : Int) < (1 : Int))) || (decide ((List.length t : Int) > (8 : Int)))) = !decide (1 ≤ (t.length : Int) ∧ (t.length : Int) ≤ 8) := by
    rw [or_dec, not_dec]; exact decide_eq_decide.2 (by omega)
  rw [e]
  by_cases h : 1 ≤ (t.length : Int) ∧ (t.length : Int) ≤ 8
  · rw [decide_eq_true h]
    cases hl : t.any hfLong with
    | true => rfl
    | false =>
      have hfl := hf_flat hl
      rw [cc_concat (by omega)]
      simp only [Bool.not_true, cond_false, bind_some']
      rw [cc_concat (l := [t.flatten, d]) (by simp only [List.flatten_cons, List.flatten_nil, List.append_nil, List.length_append]; omega)]
      simp only [bind_some', hf_bad, List.flatten_cons, List.flatten_nil, List.append_nil, List.any_append, List.any_flatten]
      cases (t.any fun l => l.any (hfBad t.length)) <;> cases d.any (hfBad t.length) <;> rfl
  · rw [decide_eq_false h]; rfl
theorem hf_check (t : List (List Int)) (d : List Int) : ref_NextsCheck t d = some (hfAll t d) := by
  unfold ref_NextsCheck hfAll
  rw [within_eq, bind_some', hf_inside]
  rw [forL_ex (p := hfLong) (y := Esc.ret 1) (fun i a _ => by unfold ref_NextsCheck_b1 hfLong; cases (decide ((a.length : Int) > 4)) <;> rfl)]
  rw [forL_ex (p := fun l => l.any (hfBad t.length)) (y := Esc.ret 2) (fun i a _ => by unfold ref_NextsCheck_b5; rw [hf_inside, bind_some']; cases (a.any (hfBad t.length)) <;> rfl)]
  cases decide (1 ≤ (t.length : Int) ∧ (t.length : Int) ≤ 8) <;> cases t.any hfLong <;> cases (t.any fun l => l.any (hfBad t.length)) <;> cases d.any (hfBad t.length) <;> rfl
theorem hf_ok {t : List (List Int)} {d : List Int} (h : hfAll t d = 0) : 1 ≤ t.length ∧ t.length ≤ 8 ∧ (∀ l ∈ t, l.length ≤ 4 ∧ ∀ v ∈ l, 0 ≤ v ∧ v < (t.length : Int)) ∧ ∀ v ∈ d, 0 ≤ v ∧ v < (t.length : Int) := by
  unfold hfAll at h
  by_cases h1 : 1 ≤ (t.length : Int) ∧ (t.length : Int) ≤ 8
  · rw [decide_eq_true h1] at h
    cases h2 : t.any hfLong with
    | true => rw [h2] at h; cases h
    | false =>
      rw [h2] at h
      cases h3 : (t.any fun l => l.any (hfBad t.length)) with
      | true => rw [h3] at h; cases h
      | false =>
        rw [h3] at h
        cases h4 : d.any (hfBad t.length) with
        | true => rw [h4] at h; cases h
        | false =>
          have good : ∀ l : List Int, l.any (hfBad t.length) = false → ∀ v ∈ l, 0 ≤ v ∧ v < (t.length : Int) := by
            intro l hl v hv
            have := List.any_eq_false.1 hl v hv
            unfold hfBad at this
            simp only [Bool.or_eq_true, decide_eq_true_eq, not_or] at this
            omega
          refine ⟨by omega, by omega, fun l hl => ⟨?_, good l ?_⟩, good d h4⟩
          · have := List.any_eq_false.1 h2 l hl
            unfold hfLong at this
            simp only [decide_eq_true_eq] at this
            omega
          · have := List.any_eq_false.1 h3 l hl
            simpa using this
  · rw [decide_eq_false h1] at h; cases h

theorem hc_has (l : List Int) (x : Int) : slices_Contains_Lintint l x = some (l.any (x == ·)) := by
  unfold slices_Contains_Lintint slices_Index_Lintint
  rcases forL_at (body := slices_Index_Lintint_b1 x) (fin := fun _ => (Esc.brk () : Esc Int Unit)) (p := (x == ·)) (g := fun j => Esc.ret j) (l := l)
    (fun i a _ => by unfold slices_Index_Lintint_b1; cases (x == a) <;> rfl) (i := 0) with ⟨h1, h2⟩ | ⟨h1, j, h2, h3, h4⟩
  · rw [h2, h1]; rfl
  · rw [h4, h1]; simp [h2]
theorem hc_rhas (l : List Int) (x : Int) : ref_Has l x = some (l.any (x == ·)) := by
  unfold ref_Has
  rw [forL_ex (p := (x == ·)) (y := Esc.ret true) (fun i a _ => by unfold ref_Has_b1; cases (x == a) <;> rfl)]
  cases (l.any (x == ·)) <;> rfl
theorem hc_pow {s : Nat} (h : s ≤ 8) : 17 ^ s ≤ 6975757441 := by
  have := Nat.pow_le_pow_right (n := 17) (by omega) h
  simpa using this
/-- both ways alike, and how often it is asked -/
theorem hc_both {t : List (List Int)} (ht : 1 ≤ t.length ∧ t.length ≤ 8) : ∀ (s fuel : Nat) (f g : Int) (c : Nat), s ≤ 8 → s < fuel → (0 ≤ f ∧ f < (t.length : Int)) → (0 ≤ g ∧ g < (t.length : Int)) → c + 17 ^ s ≤ 1000000000000 →
    ∃ (b : Bool) (k : Nat), half_asker_can fuel f g (s : Int) (t, (c : Int)) = some (b, (t, ((c + k : Nat) : Int))) ∧ ref_Halves fuel t f g (s : Int) = some (b, (k : Int)) ∧ k ≤ 17 ^ s := by
  intro s
  induction s using Nat.strongRecOn with
  | _ s ih =>
  intro fuel f g c hs hfu hf hg hc
  obtain ⟨fuel, rfl⟩ : ∃ q, fuel = q + 1 := ⟨fuel - 1, by omega⟩
  show ∃ (b : Bool) (k : Nat), half_asker_can_step (half_asker_can fuel) fuel f g (s : Int) (t, (c : Int)) = _ ∧ ref_Halves_step (ref_Halves fuel) fuel t f g (s : Int) = _ ∧ _
  have hcc : c ≤ 1000000000000 := Nat.le_trans (Nat.le_add_right _ _) hc
  have hw : w64 ((c : Int) + 1) = ((c + 1 : Nat) : Int) := by rw [w64_id (by omega) (by omega)]; rfl
  unfold half_asker_can_step ref_Halves_step
  dsimp only
  rw [hw]
  by_cases h0 : s = 0
  · subst h0
    exact ⟨f == g, 1, rfl, rfl, by simp⟩
  · have e0 : ((s : Int) == 0) = false := by simp; omega
    rw [e0]
    by_cases h1 : s = 1
    · subst h1
      obtain ⟨l, hl, _⟩ := idx_get (xs := t) hf.1 hf.2
      rw [hl]
      simp only [hc_has, hc_rhas, bind_some']
      refine ⟨bif f == g then true else l.any (g == ·), 1, ?_, ?_, by simp⟩
      · cases (f == g) <;> rfl
      · cases (f == g) <;> rfl
    · have e1 : ((s : Int) == 1) = false := by simp; omega
      rw [e1]
      simp only [cond_false]
      -- the halves
      have w1 : w64 ((s : Int) + 1) = (s : Int) + 1 := w64_id (by omega) (by omega)
      have w2 : w64 (Int.tdiv ((s : Int) + 1) 2) = (((s + 1) / 2 : Nat) : Int) := by
        have : Int.tdiv ((s : Int) + 1) 2 = (((s + 1) / 2 : Nat) : Int) := rfl
        rw [this, w64_id (by omega) (by omega)]
      have w3 : w64 (Int.tdiv (s : Int) 2) = ((s / 2 : Nat) : Int) := by
        have : Int.tdiv (s : Int) 2 = ((s / 2 : Nat) : Int) := rfl
        rw [this, w64_id (by omega) (by omega)]
      have w4 : w64 ((s : Int) - ((s / 2 : Nat) : Int)) = (((s + 1) / 2 : Nat) : Int) := by rw [w64_id (by omega) (by omega)]; omega
      have hps : 17 ^ s = 17 * 17 ^ (s - 1) := by
        obtain ⟨q, rfl⟩ : ∃ q, s = q + 1 := ⟨s - 1, by omega⟩
        rw [Nat.pow_succ, Nat.mul_comm]; rfl
      have hp1 : 1 ≤ 17 ^ (s - 1) := Nat.pow_pos (by omega)
      have hp2 := hc_pow (s := s) (by omega)
      have ha : 17 ^ ((s + 1) / 2) ≤ 17 ^ (s - 1) := Nat.pow_le_pow_right (by omega) (by omega)
      have hb : 17 ^ (s / 2) ≤ 17 ^ (s - 1) := Nat.pow_le_pow_right (by omega) (by omega)
      generalize 17 ^ (s - 1) = M at *
      have hfi : forI (0 : Int) (List.length t : Int) (half_asker_can_b8 f g (s : Int) (half_asker_can fuel)) (fun x61 => (Esc.brk x61 : Esc (Bool × (List (List Int) × Int)) (List (List Int) × Int))) (t, ((c + 1 : Nat) : Int)) =
          forL (fun i _ x => half_asker_can_b8 f g (s : Int) (half_asker_can fuel) i x) (fun x61 => (Esc.brk x61 : Esc (Bool × (List (List Int) × Int)) (List (List Int) × Int))) t 0 (t, ((c + 1 : Nat) : Int)) := forI_forL (by omega)
      obtain ⟨y, y', p1, p2, p3⟩ := forL_rel (body := fun i _ x => half_asker_can_b8 f g (s : Int) (half_asker_can fuel) i x) (body' := ref_Halves_b10 t f g (s : Int) (ref_Halves fuel))
        (fin := fun x61 => (Esc.brk x61 : Esc (Bool × (List (List Int) × Int)) (List (List Int) × Int))) (fin' := fun x69 => (Esc.brk x69 : Esc (Bool × Int) Int)) (l := t) (l' := t) (x := (t, ((c + 1 : Nat) : Int))) (x' := (1 : Int))
        (R := fun n x x' => ∃ k : Nat, x = (t, ((c + k : Nat) : Int)) ∧ x' = (k : Int) ∧ 1 ≤ k ∧ k ≤ 1 + n * (2 * M))
        (S := fun y y' => ∃ k : Nat, k ≤ 17 ^ s ∧ match y, y' with | .ret z, .ret z' => z = (true, (t, ((c + k : Nat) : Int))) ∧ z' = (true, (k : Int)) | .brk z, .brk z' => z = (t, ((c + k : Nat) : Int)) ∧ z' = (k : Int) | _, _ => False)
        rfl ⟨1, rfl, rfl, by omega, by omega⟩ (by
          rintro n a a' _ _ hn hn' ⟨k, rfl, rfl, hk1, hk⟩
          have hlt := (List.getElem?_eq_some_iff.1 hn).1
          have hnM : n * (2 * M) ≤ 7 * (2 * M) := Nat.mul_le_mul_right _ (by omega)
          have hnM1 : (n + 1) * (2 * M) = n * (2 * M) + 2 * M := by rw [Nat.add_mul, Nat.one_mul]
          obtain ⟨b1, k1, q1, q2, q3⟩ := ih ((s + 1) / 2) (by omega) fuel f (n : Int) (c + k) (by omega) (by omega) hf ⟨by omega, by omega⟩ (by rw [hps] at hc; omega)
          have v1 : w64 ((k : Int) + (k1 : Int)) = ((k + k1 : Nat) : Int) := by rw [w64_id (by omega) (by omega)]; rfl
          unfold half_asker_can_b8 half_asker_can_g6 ref_Halves_b10 ref_Halves_g7
          rw [w1, w2, w3, w4, q1, q2]
          simp only [bind_some', v1]
          cases b1 with
          | false =>
            exact ⟨_, _, rfl, rfl, k + k1, by simp [Nat.add_assoc], rfl, by omega, by omega⟩
          | true =>
            obtain ⟨b2, k2, r1, r2, r3⟩ := ih (s / 2) (by omega) fuel (n : Int) g (c + k + k1) (by omega) (by omega) ⟨by omega, by omega⟩ hg (by rw [hps] at hc; omega)
            have v2 : w64 (((k + k1 : Nat) : Int) + (k2 : Int)) = ((k + k1 + k2 : Nat) : Int) := by rw [w64_id (by omega) (by omega)]; rfl
            simp only [cond_true, Bool.not_true, cond_false, r1, r2, bind_some', v2]
            cases b2 with
            | true => exact ⟨_, _, rfl, rfl, k + k1 + k2, by omega, by simp [Nat.add_assoc], rfl⟩
            | false => exact ⟨_, _, rfl, rfl, k + k1 + k2, by simp [Nat.add_assoc], rfl, by omega, by omega⟩) (by
          rintro _ _ ⟨k, rfl, rfl, _, hk⟩
          have hnM : t.length * (2 * M) ≤ 8 * (2 * M) := Nat.mul_le_mul_right _ (by omega)
          exact ⟨k, by omega, rfl, rfl⟩)
      rw [hfi, p1, p2]
      obtain ⟨k, hk, h⟩ := p3
      cases y with
      | ret z => cases y' with
        | ret z' => obtain ⟨rfl, rfl⟩ := h; exact ⟨true, k, rfl, rfl, hk⟩
        | brk z' => exact h.elim
      | brk z => cases y' with
        | ret z' => exact h.elim
        | brk z' => obtain ⟨rfl, rfl⟩ := h; exact ⟨false, k, rfl, rfl, hk⟩
theorem HalfCans_true (a0 : List (List Int)) (a1 a2 a3 : Int) (f0 : Fits (.slice (.slice (.int .i64))) a0) (f1 : Fits (.int .i64) a1) (f2 : Fits (.int .i64) a2) (f3 : Fits (.int .i64) a3) : ∃ fuel, law_HalfCans fuel a0 a1 a2 a3 = some true := by
  refine ⟨10, ?_⟩
  unfold law_HalfCans half_Can law_halfCode law_halfCode_g4
  rw [hf_wrong a0 (d := [a1, a2]) (by simp), hf_check]
  simp only [bind_some', within_eq]
  by_cases hz : hfAll a0 [a1, a2] = 0
  · obtain ⟨h1, h2, _, h4⟩ := hf_ok hz
    rw [hz]
    have e : ((decide (a3 < (0 : Int))) || (decide (a3 > (8 : Int)))) = !decide (0 ≤ a3 ∧ a3 ≤ 8) := by
      rw [or_dec, not_dec]; exact decide_eq_decide.2 (by omega)
    rw [e]
    by_cases hs : 0 ≤ a3 ∧ a3 ≤ 8
    · obtain ⟨s, rfl⟩ := Int.eq_ofNat_of_zero_le hs.1
      obtain ⟨b, k, q1, q2, _⟩ := hc_both ⟨h1, h2⟩ s 10 a1 a2 0 (by omega) (by omega) (h4 a1 (by simp)) (h4 a2 (by simp)) (by have := hc_pow (s := s) (by omega); omega)
      rw [Nat.zero_add] at q1
      have q1 : half_asker_can 10 a1 a2 (s : Int) (a0, (0 : Int)) = some (b, (a0, (k : Int))) := q1
      rw [decide_eq_true hs, q1, q2]
      simp
    · rw [decide_eq_false hs]; rfl
  · have e1 : (hfAll a0 [a1, a2] != 0) = true := by simp [hz]
    have e2 : (hfAll a0 [a1, a2] == 0) = false := by simp [hz]
    rw [e1, e2]
    simp [e1]

end Go.Proofs.Ytkkmiclmbhbmjaa.halfCans
namespace Go.Proofs.Ytkkmiclmbhbmjaa.halfCans
open Go.ChangeShapes Go.WideShapes Go.ChangeAt Go.RowKit
open Go.ChangeMaps (open_string shut_string)
theorem own : ownKnob Try.prog.godebug = none := by kernel_rfl
theorem laidOut : laidOutB Try.prog = true := by kernel_rfl
theorem lifted (os : Os) (started : os.Started) (H : Type) (enc : TypeId × Value → H) :
    ReturnsInHanded {} Try.checked os 12 .any (Rows.halfCansSpec.pre6 enc Try.prog Try.f12 Rows.halfCansRow.domain false) (Rows.halfCansSpec.post enc Try.prog Try.f12 false true false false) := by
  refine returnsInHanded_of_change (C := Try.checked) own started (by kernel_rfl) Try.func12
    (ChangeSpec.witness6 (enc := enc) (C := Try.checked) false ⟨#[], #[.slice none 0 0, .int .i64 0, .int .i64 0, .int .i64 0], []⟩ 8 (by kernel_rfl) (by kernel_rfl) (by kernel_rfl) (by kernel_rfl)) ?_
  intro W base args ds gs before hval0 hW hcnd _
  have hval : ∀ (j : Nat) t v, Try.f12.params[j]? = some t → args[j]? = some v → Value.okWide Try.prog W .any base t v := hval0
  have hW' := hW
  obtain ⟨p, q, hA0, hV, rfl, hfz, hnd⟩ := hW
  have hA : DataW.TrodAll enc Try.prog W 0 (fun _ => true) true Try.f12.params.toList args.toList ds p := hA0
  rw [Try.params12] at hA hval
  obtain ⟨v0, vs0, d0, ds0, p0, q0, hargs, rfl, rfl, h0, r0⟩ := trodAll_cons hA
  obtain ⟨v1, vs1, d1, ds1, p1, q1, rfl, rfl, rfl, h1, r1⟩ := trodAll_cons r0
  obtain ⟨v2, vs2, d2, ds2, p2, q2, rfl, rfl, rfl, h2, r2⟩ := trodAll_cons r1
  obtain ⟨v3, vs3, d3, ds3, p3, q3, rfl, rfl, rfl, h3, r3⟩ := trodAll_cons r2
  obtain ⟨rfl, rfl, rfl⟩ := trodAll_nil r3
  obtain rfl : args = #[v0, v1, v2, v3] := by cases args; simp_all
  obtain ⟨rfl, rfl⟩ := trodVars_none hV
  obtain ⟨x0, f0, k0⟩ := Go.Sl.read_arg (u := (.slice (.slice (.int .i64)))) (by kernel_rfl) (by kernel_rfl) (hval 0 61 v0 rfl rfl) h0
  have lt0 : ∀ x ∈ p0, x.block < W.heap.size := by obtain ⟨m, hm⟩ := h0; exact DataW.trod_lt m _ _ _ hm
  obtain ⟨x1, f1, k1⟩ := Go.Sl.read_arg (u := (.int .i64)) (by kernel_rfl) (by kernel_rfl) (hval 1 3 v1 rfl rfl) h1
  have lt1 : ∀ x ∈ p1, x.block < W.heap.size := by obtain ⟨m, hm⟩ := h1; exact DataW.trod_lt m _ _ _ hm
  obtain ⟨x2, f2, k2⟩ := Go.Sl.read_arg (u := (.int .i64)) (by kernel_rfl) (by kernel_rfl) (hval 2 3 v2 rfl rfl) h2
  have lt2 : ∀ x ∈ p2, x.block < W.heap.size := by obtain ⟨m, hm⟩ := h2; exact DataW.trod_lt m _ _ _ hm
  obtain ⟨x3, f3, k3⟩ := Go.Sl.read_arg (u := (.int .i64)) (by kernel_rfl) (by kernel_rfl) (hval 3 3 v3 rfl rfl) h3
  have lt3 : ∀ x ∈ p3, x.block < W.heap.size := by obtain ⟨m, hm⟩ := h3; exact DataW.trod_lt m _ _ _ hm
  clear hA0 hval0
  obtain ⟨fuel, hm⟩ := HalfCans_true x0 x1 x2 x3 f0 f1 f2 f3
  refine (Go.Sl.law_of (vs := [v0, v1, v2, v3]) (law_HalfCans_ok hm) rfl (.cons (k0 _ _) (.cons (k1 _ _) (.cons (k2 _ _) (.cons (k3 _ _) .nil))))).mono fun e W' ⟨he, bel⟩ => ?_
  subst he
  exact ⟨_, rfl, _, _, _, [], _, [], hW', trodAll_mk1 (shut_bool Try.underlying4 _), (trodAll_cons_mk (Below.trod laidOut (by kernel_rfl) (of_decide_eq_true (by kernel_rfl)) h0 bel lt0) (trodAll_cons_mk (Below.trod laidOut (by kernel_rfl) (of_decide_eq_true (by kernel_rfl)) h1 bel lt1) (trodAll_cons_mk (Below.trod laidOut (by kernel_rfl) (of_decide_eq_true (by kernel_rfl)) h2 bel lt2) (trodAll_cons_mk (Below.trod laidOut (by kernel_rfl) (of_decide_eq_true (by kernel_rfl)) h3 bel lt3) trodAll_mk0)))), rfl, bel.frame _, fun h => by cases h⟩
theorem proved : Rows.HalfCansSaid :=
  OpenClaim.holds_of_wide 12 Try.f12 rfl rfl rfl rfl rfl rfl rfl ⟨rfl, rfl, rfl, rfl, rfl⟩ rfl rfl rfl rfl rfl (by kernel_rfl) Try.func12 (by kernel_rfl)
    (of_decide_eq_true (by kernel_rfl)) (by unfold Func.isWrapper; first | (rw [if_pos (by decide +kernel)]; kernel_rfl) | (rw [if_neg (by decide +kernel)]; exact ⟨rfl, rfl⟩))
    (fun os started H enc _ => lifted os started H enc)
#print axioms proved
end Go.Proofs.Ytkkmiclmbhbmjaa.halfCans
