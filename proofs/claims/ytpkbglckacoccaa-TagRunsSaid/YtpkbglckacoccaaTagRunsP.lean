/- For any tag system, word and bound tag.Run returns the specified results: TagRuns returns true and changes nothing; no conditions. -/
import Derived.Test.YtpkbglckacoccaaRows
import Derived.WalkKit
import Derived.ProofKit
import Derived.OpenShut
import Derived.ShutString
import Derived.ChangeOld
import Derived.Below
import Derived.Test.YtpkbglckacoccaaTagRunsM
set_option linter.all false
set_option maxRecDepth 100000
namespace Go.Proofs.Ytpkbglckacoccaa.tagRuns
open Go Go.Sl

theorem within_eq (a b c : Int) : ref_Within a b c = some (decide (a ≤ b ∧ b ≤ c)) := by
  unfold ref_Within
  rw [Bool.decide_and]

theorem ref_Ints_eq (a b : List Int) : ref_Ints a b = some (decide (a = b)) := by
  unfold ref_Ints
  rw [len_ne]
  by_cases h : a.length = b.length
  · rw [forL_eqs (q := b) (fun n a c hc => by
      unfold ref_Ints_b1
      rw [idx_nat, hc]
      by_cases h : a = c <;> simp [h, bne_dec]) h]
    by_cases h2 : a = b <;> simp [h2, h]
  · have : ¬ a = b := fun e => h (by rw [e])
    simp [h, this]

theorem cc_grow {n : Nat} (h : n ≤ 4294967296) : slices_Grow_Lintint (n : Int) = some [] := by
  unfold slices_Grow_Lintint
  rw [decide_eq_false (by omega), cond_false, Int.sub_zero, w64_id (by omega) (by omega)]
  by_cases h0 : (n : Int) > 0
  · rw [decide_eq_true h0, cond_true, ck_ok (show 0 ≤ (n : Int) ∧ (n : Int) ≤ 4294967296 by omega)]; rfl
  · rw [decide_eq_false h0]; rfl
theorem flat_take {α : Type} {l : List (List α)} {n : Nat} {v : List α} (h : l[n]? = some v) : (l.take (n + 1)).flatten = (l.take n).flatten ++ v := by
  rw [List.take_add_one, h]; simp
theorem flat_le {α : Type} (l : List (List α)) (n : Nat) : (l.take n).flatten.length ≤ l.flatten.length := by
  have : l = l.take n ++ l.drop n := (List.take_append_drop n l).symm
  conv => rhs; rw [this, List.flatten_append, List.length_append]
  omega
theorem cc_concat {l : List (List Int)} (h : l.flatten.length ≤ 1000000) : slices_Concat_Lintint l = some l.flatten := by
  unfold slices_Concat_Lintint
  obtain ⟨y, h1, h2⟩ := forL_inv (body := slices_Concat_Lintint_b7) (fin := fun x => x) (l := l) (x := (0 : Int)) (fun n x => x = (((l.take n).flatten.length : Nat) : Int)) (fun y => y = ((l.flatten.length : Nat) : Int)) (by simp)
    (fun n v x hv hx => by
      subst hx
      have hle := flat_le l (n + 1)
      have he := flat_take hv
      rw [he, List.length_append] at hle
      unfold slices_Concat_Lintint_b7
      rw [w64_id (by omega) (by omega), decide_eq_false (by omega), cond_false]
      exact ⟨_, rfl, by rw [he, List.length_append]; omega⟩)
    (fun x hx => by rw [hx, List.take_length])
  rw [h1, bind_some', h2, cc_grow (by omega), bind_some']
  obtain ⟨z, h3, h4⟩ := forL_inv (body := slices_Concat_Lintint_b10) (fin := fun x => x) (l := l) (x := ([] : List Int)) (fun n x => x = (l.take n).flatten) (fun y => y = l.flatten) (by simp)
    (fun n v x hv hx => by
      subst hx
      have hle := flat_le l (n + 1)
      have he := flat_take hv
      rw [he, List.length_append] at hle
      have hck : ck ((List.length (l.take n).flatten : Int) + (List.length v : Int) ≤ 4294967296) = some () := ck_ok (by omega)
      unfold slices_Concat_Lintint_b10
      rw [hck, bind_some']
      exact ⟨_, rfl, he.symm⟩)
    (fun x hx => by rw [hx, List.take_length])
  rw [h3, bind_some', h4]

abbrev TG := Int × (List (List Int))
def tgBad (n : Int) (v : Int) : Bool := decide (v < 0) || decide (v ≥ n)
def tgLong (l : List Int) : Bool := decide ((l.length : Int) > 8)
def tgAll (n : Int) (t : TG) (w : List Int) : Int :=
  bif !decide (1 ≤ n ∧ n ≤ 4) || !decide (1 ≤ t.1 ∧ t.1 ≤ 4) || decide ((w.length : Int) > 40) || t.2.any tgLong then 1 else bif !decide ((t.2.length : Int) = n) then 3 else bif (t.2 ++ [w]).any (fun l => l.any (tgBad n)) then 2 else 0
theorem tg_long (l : List (List Int)) : slices_ContainsFunc_LLintLint_with_tag_wrong_1 l = some (l.any tgLong) := by
  unfold slices_ContainsFunc_LLintLint_with_tag_wrong_1 slices_IndexFunc_LLintLint_with_tag_wrong_1
  rcases forL_at (body := slices_IndexFunc_LLintLint_with_tag_wrong_1_b1) (fin := fun _ => (Esc.brk () : Esc Int Unit)) (p := tgLong) (g := fun j => Esc.ret j) (l := l)
    (fun i a _ => by unfold slices_IndexFunc_LLintLint_with_tag_wrong_1_b1 tag_wrong_1 tgLong; cases (decide ((a.length : Int) > 8)) <;> rfl) (i := 0) with ⟨h1, h2⟩ | ⟨h1, j, h2, h3, h4⟩
  · rw [h2, h1]; rfl
  · rw [h4, h1]; simp [h2]
theorem tg_bad (l : List Int) (n : Int) : slices_ContainsFunc_Lintint_with_tag_wrong_2 l n = some (l.any (tgBad n)) := by
  unfold slices_ContainsFunc_Lintint_with_tag_wrong_2 slices_IndexFunc_Lintint_with_tag_wrong_2
  rcases forL_at (body := slices_IndexFunc_Lintint_with_tag_wrong_2_b1 n) (fin := fun _ => (Esc.brk () : Esc Int Unit)) (p := tgBad n) (g := fun j => Esc.ret j) (l := l)
    (fun i a _ => by unfold slices_IndexFunc_Lintint_with_tag_wrong_2_b1 tag_wrong_2 tgBad; cases (decide (a < 0) || decide (a ≥ n)) <;> rfl) (i := 0) with ⟨h1, h2⟩ | ⟨h1, j, h2, h3, h4⟩
  · rw [h2, h1]; rfl
  · rw [h4, h1]; simp [h2]
theorem tg_inside (n : Int) (l : List Int) : ref_Inside n l = some (!l.any (tgBad n)) := by
  unfold ref_Inside
  rw [forL_ex (p := tgBad n) (y := Esc.ret false) (fun i a _ => by unfold ref_Inside_b1 tgBad; cases (decide (a < 0) || decide (a ≥ n)) <;> rfl)]
  cases (l.any (tgBad n)) <;> rfl
def tgC (n : Int) (t : TG) (w : List Int) : Bool := !decide (1 ≤ n ∧ n ≤ 4) || !decide (1 ≤ t.1 ∧ t.1 ≤ 4) || decide ((w.length : Int) > 40) || t.2.any tgLong
theorem tg_g1 (n : Int) (t : TG) (w : List Int) : tag_wrong_g1 n t w = some (tgC n t w) := by
  unfold tag_wrong_g1 tgC
  have e1 : ((decide (n < (1 : Int))) || (decide (n > (4 : Int)))) = !decide (1 ≤ n ∧ n ≤ 4) := by rw [or_dec, not_dec]; exact decide_eq_decide.2 (by omega)
  have e2 : (!decide (1 ≤ t.1 ∧ t.1 ≤ 4)) = (decide (t.1 < 1) || decide (t.1 > 4)) := by rw [or_dec, not_dec]; exact decide_eq_decide.2 (by omega)
  rw [e1, tg_long, e2]
  cases decide (1 ≤ n ∧ n ≤ 4) <;> cases decide (t.1 < 1) <;> cases decide (t.1 > 4) <;> cases decide ((w.length : Int) > 40) <;> cases t.2.any tgLong <;> rfl
theorem tg_wrong (n : Int) (t : TG) (w : List Int) : tag_wrong n t w = some (tgAll n t w) := by
  unfold tag_wrong tgAll
  have e : ((t.2.length : Int) != n) = !decide ((t.2.length : Int) = n) := by rw [bne_dec, not_dec]
  rw [tg_g1, e, bind_some']
  have ec : (!decide (1 ≤ n ∧ n ≤ 4) || !decide (1 ≤ t.1 ∧ t.1 ≤ 4) || decide ((w.length : Int) > 40) || t.2.any tgLong) = tgC n t w := rfl
  rw [ec]
  cases hc : tgC n t w with
  | true => rw [cond_true, cond_true]
  | false =>
    rw [cond_false, cond_false]
    by_cases h4 : (t.2.length : Int) = n
    · unfold tgC at hc
      simp only [Bool.or_eq_false_iff, Bool.not_eq_false', decide_eq_true_eq, decide_eq_false_iff_not] at hc
      have hn := hc.1.1.1
      have hck : ck ((0 : Int) + (List.length t.2 : Int) ≤ 4294967296) = some () := ck_ok (by omega)
      have hcl : slices_Clone_LLintLint t.2 = some t.2 := by unfold slices_Clone_LLintLint; rw [hck, bind_some', List.nil_append]
      have hck2 : ck ((List.length t.2 : Int) + 1 ≤ 4294967296) = some () := ck_ok (by omega)
      rw [decide_eq_true h4, hcl, bind_some', hck2, bind_some']
      rw [forL_ex (p := fun l => l.any (tgBad n)) (y := Esc.ret 2) (fun i a _ => by unfold tag_wrong_b2; rw [tg_bad, bind_some']; cases (a.any (tgBad n)) <;> rfl)]
      cases ((t.2 ++ [w]).any fun l => l.any (tgBad n)) <;> rfl
    · rw [decide_eq_false h4, show (!false) = true from rfl, cond_true, cond_true]
theorem tg_check (n : Int) (t : TG) (w : List Int) : ref_TagCheck n t w = some (tgAll n t w) := by
  unfold ref_TagCheck ref_TagCheck_g1 tgAll
  have e : ((t.2.length : Int) != n) = !decide ((t.2.length : Int) = n) := by rw [bne_dec, not_dec]
  rw [within_eq, within_eq, e, tg_inside]
  rw [forL_ex (p := tgLong) (y := Esc.ret 1) (fun i a _ => by unfold ref_TagCheck_b2 tgLong; cases (decide ((a.length : Int) > 8)) <;> rfl)]
  rw [forL_ex (p := fun l => l.any (tgBad n)) (y := Esc.ret 2) (fun i a _ => by unfold ref_TagCheck_b6; rw [tg_inside, bind_some']; cases (a.any (tgBad n)) <;> rfl)]
  rw [List.any_append]
  simp only [List.any_cons, List.any_nil, Bool.or_false]
  cases decide (1 ≤ n ∧ n ≤ 4) <;> cases decide (1 ≤ t.1 ∧ t.1 ≤ 4) <;> cases decide ((w.length : Int) > 40) <;> cases t.2.any tgLong <;> cases decide ((t.2.length : Int) = n) <;> cases (t.2.any fun l => l.any (tgBad n)) <;> cases w.any (tgBad n) <;> rfl
structure TOk (n : Int) (t : TG) : Prop where
  k : 1 ≤ t.1 ∧ t.1 ≤ 4
  n4 : n ≤ 4
  len : (t.2.length : Int) = n
  row : ∀ l ∈ t.2, l.length ≤ 8 ∧ ∀ v ∈ l, 0 ≤ v ∧ v < n
theorem tg_good {n : Int} {l : List Int} (h : l.any (tgBad n) = false) : ∀ v ∈ l, 0 ≤ v ∧ v < n := by
  intro v hv
  have := List.any_eq_false.1 h v hv
  unfold tgBad at this
  simp only [Bool.or_eq_true, decide_eq_true_eq, not_or] at this
  omega
theorem tg_ok {n : Int} {t : TG} {w : List Int} (h : tgAll n t w = 0) : TOk n t ∧ w.length ≤ 40 ∧ ∀ v ∈ w, 0 ≤ v ∧ v < n := by
  unfold tgAll at h
  cases h1 : (!decide (1 ≤ n ∧ n ≤ 4) || !decide (1 ≤ t.1 ∧ t.1 ≤ 4) || decide ((w.length : Int) > 40) || t.2.any tgLong) with
  | true => rw [h1] at h; cases h
  | false =>
    rw [h1] at h
    cases h2 : !decide ((t.2.length : Int) = n) with
    | true => rw [h2] at h; cases h
    | false =>
      rw [h2] at h
      cases h3 : (t.2 ++ [w]).any (fun l => l.any (tgBad n)) with
      | true => rw [h3] at h; cases h
      | false =>
        simp only [Bool.or_eq_false_iff, Bool.not_eq_false', decide_eq_true_eq, decide_eq_false_iff_not] at h1 h2
        obtain ⟨⟨⟨a1, a2⟩, a3⟩, a4⟩ := h1
        rw [List.any_eq_false] at h3
        refine ⟨⟨a2, a1.2, h2, fun l hl => ⟨?_, tg_good (by simpa using h3 l (by simp [hl]))⟩⟩, by omega, tg_good (by simpa using h3 w (by simp))⟩
        have := List.any_eq_false.1 a4 l hl
        unfold tgLong at this
        simp only [decide_eq_true_eq] at this
        omega
/-- one turn of both -/
theorem tg_turn {n : Int} {t : TG} (h : TOk n t) {l : List Int} (hl : l.length ≤ 40) (hv : ∀ v ∈ l, 0 ≤ v ∧ v < n) (hk : (l.length : Int) ≥ t.1) :
    ∃ z, tag_turn_i2 t l = some z ∧ ref_Tagged t l = some z ∧ ∀ v ∈ z, 0 ≤ v ∧ v < n := by
  have hkk := h.k
  obtain ⟨v, g1, g2⟩ := idx_get (xs := l) (i := 0) (by omega) (by omega)
  have hvr := hv v (List.mem_of_getElem? g2)
  obtain ⟨row, q1, q2⟩ := idx_get (xs := t.2) (i := v) hvr.1 (by rw [h.len]; exact hvr.2)
  obtain ⟨r1, r2⟩ := h.row row (List.mem_of_getElem? q2)
  have hs : (sub l t.1 (List.length l : Int)).length ≤ 40 := by unfold sub; rw [List.length_take, List.length_drop]; omega
  have hck1 : ck (0 ≤ t.1 ∧ t.1 ≤ (List.length l : Int) ∧ (List.length l : Int) ≤ (List.length l : Int)) = some () := ck_ok ⟨by omega, by omega, by omega⟩
  have hck2 : ck ((0 : Int) + (List.length (sub l t.1 (List.length l : Int)) : Int) ≤ 4294967296) = some () := ck_ok (by omega)
  have hck3 : ck ((List.length ([] ++ (sub l t.1 (List.length l : Int))) : Int) + (List.length row : Int) ≤ 4294967296) = some () := ck_ok (by rw [List.nil_append]; omega)
  refine ⟨sub l t.1 (List.length l : Int) ++ row, ?_, ?_, ?_⟩
  · unfold tag_turn_i2
    rw [hck1, bind_some', g1, bind_some', q1, bind_some', cc_concat (by simp only [List.flatten_cons, List.flatten_nil, List.append_nil, List.length_append]; omega)]
    simp
  · unfold ref_Tagged
    rw [hck1, bind_some', hck2, bind_some', g1, bind_some', q1, bind_some', hck3, bind_some', List.nil_append]
  · intro x hx
    rcases List.mem_append.1 hx with hx | hx
    · unfold sub at hx
      exact hv x (List.mem_of_mem_drop (List.mem_of_mem_take hx))
    · exact r2 x hx
theorem tg_loop {n : Int} {t : TG} (h : TOk n t) {b : Int} (hb : 0 ≤ b ∧ b ≤ 400) (r1 : List Int × Int × Int) : ∀ (d : Nat) (fuel : Nat) (l : List Int) (s : Int), (b - s).toNat ≤ d → d < fuel → 0 ≤ s → l.length ≤ 40 → (∀ v ∈ l, 0 ≤ v ∧ v < n) →
    (iter (tag_Run_b4 t b) fuel (l, s) = some (.ret ([], 0, 7)) ∧ iter (law_TagRuns_b8 t b r1) fuel (l, s) = some (.ret (((r1.2.2 == (7 : Int)) && ((List.length r1.1 : Int) == (0 : Int))) && (r1.2.1 == (0 : Int))))) ∨
    ∃ z, iter (tag_Run_b4 t b) fuel (l, s) = some (.brk z) ∧ iter (law_TagRuns_b8 t b r1) fuel (l, s) = some (.brk z) := by
  intro d
  induction d with
  | zero =>
    intro fuel l s hd hf hs hl hv
    obtain ⟨fuel, rfl⟩ : ∃ q, fuel = q + 1 := ⟨fuel - 1, by omega⟩
    right
    refine ⟨(l, s), ?_, ?_⟩
    · simp only [iter]
      have : tag_Run_b4 t b (l, s) = some (.done (.brk (l, s))) := by unfold tag_Run_b4; rw [decide_eq_false (show ¬ (l, s).2 < b by show ¬ s < b; omega)]; rfl
      rw [this]
    · simp only [iter]
      have : law_TagRuns_b8 t b r1 (l, s) = some (.done (.brk (l, s))) := by unfold law_TagRuns_b8; rw [decide_eq_false (show ¬ (l, s).2 < b by show ¬ s < b; omega)]; rfl
      rw [this]
  | succ d ih =>
    intro fuel l s hd hf hs hl hv
    obtain ⟨fuel, rfl⟩ : ∃ q, fuel = q + 1 := ⟨fuel - 1, by omega⟩
    by_cases hc : s < b ∧ (l.length : Int) ≥ t.1
    · obtain ⟨z, e1, e2, e3⟩ := tg_turn h hl hv hc.2
      have c1 : decide (s < b) = true := decide_eq_true hc.1
      have c2 : decide ((List.length l : Int) ≥ t.1) = true := decide_eq_true hc.2
      by_cases hz : (z.length : Int) > 40
      · left
        have f1 : tag_Run_b4 t b (l, s) = some (.done (.ret ([], 0, 7))) := by
          unfold tag_Run_b4; dsimp only; rw [c1, cond_true, c2, bind_some', cond_true, e1, bind_some', decide_eq_true hz]; rfl
        have f2 : law_TagRuns_b8 t b r1 (l, s) = some (.done (.ret (((r1.2.2 == (7 : Int)) && ((List.length r1.1 : Int) == (0 : Int))) && (r1.2.1 == (0 : Int))))) := by
          unfold law_TagRuns_b8; dsimp only; rw [c1, cond_true, c2, bind_some', cond_true, e2, bind_some', decide_eq_true hz]; rfl
        simp only [iter, f1, f2]
        exact ⟨trivial, trivial⟩
      · have hw : w64 (s + 1) = s + 1 := w64_id (by omega) (by omega)
        have f1 : tag_Run_b4 t b (l, s) = some (.next (z, s + 1)) := by
          unfold tag_Run_b4; dsimp only; rw [c1, cond_true, c2, bind_some', cond_true, e1, bind_some', decide_eq_false hz, hw]; rfl
        have f2 : law_TagRuns_b8 t b r1 (l, s) = some (.next (z, s + 1)) := by
          unfold law_TagRuns_b8; dsimp only; rw [c1, cond_true, c2, bind_some', cond_true, e2, bind_some', decide_eq_false hz, hw]; rfl
        simp only [iter, f1, f2]
        exact ih fuel z (s + 1) (by omega) (by omega) (by omega) (by omega) e3
    · right
      have hcond : (bif decide (s < b) then (some (decide ((List.length l : Int) ≥ t.1))) else (some false)) = some false := by
        by_cases h1 : s < b
        · rw [decide_eq_true h1, cond_true, decide_eq_false (by omega)]
        · rw [decide_eq_false h1]; rfl
      refine ⟨(l, s), ?_, ?_⟩
      · have : tag_Run_b4 t b (l, s) = some (.done (.brk (l, s))) := by unfold tag_Run_b4; dsimp only; rw [hcond]; rfl
        simp only [iter, this]
      · have : law_TagRuns_b8 t b r1 (l, s) = some (.done (.brk (l, s))) := by unfold law_TagRuns_b8; dsimp only; rw [hcond]; rfl
        simp only [iter, this]
theorem TagRuns_true (a0 : Int) (a1 : TG) (a2 : List Int) (a3 : Int) (f0 : Fits (.int .i64) a0) (f1 : Fits (.pair (.int .i64) (.slice (.slice (.int .i64)))) a1) (f2 : Fits (.slice (.int .i64)) a2) (f3 : Fits (.int .i64) a3) : ∃ fuel, law_TagRuns fuel a0 a1 a2 a3 = some true := by
  refine ⟨1000, ?_⟩
  unfold law_TagRuns tag_Run law_TagRuns_g4
  rw [tg_wrong, tg_check, within_eq, bind_some']
  have e : ((decide (a3 < (0 : Int))) || (decide (a3 > (400 : Int)))) = !decide (0 ≤ a3 ∧ a3 ≤ 400) := by rw [or_dec, not_dec]; exact decide_eq_decide.2 (by omega)
  rw [e]
  by_cases hz : tgAll a0 a1 a2 = 0
  · obtain ⟨h, hl, hv⟩ := tg_ok hz
    rw [hz]
    by_cases hb : 0 ≤ a3 ∧ a3 ≤ 400
    · rw [decide_eq_true hb]
      have hck : ck ((0 : Int) + (List.length a2 : Int) ≤ 4294967296) = some () := ck_ok (by omega)
      have hcl : slices_Clone_Lintint a2 = some a2 := by unfold slices_Clone_Lintint; rw [hck]; rfl
      rw [hcl]
      simp only [show ((0 : Int) != 0) = false from rfl, show ((0 : Int) == 0) = true from rfl, Bool.not_true, cond_false, cond_true, bind_some']
      rcases tg_loop h hb ([], 0, 7) 400 1000 a2 0 (by omega) (by omega) (by omega) hl hv with ⟨p1, p2⟩ | ⟨z, p1, p2⟩
      · simp only [p1, bind_some', p2]; rfl
      · simp only [p1, bind_some']
        rcases tg_loop h hb (z.1, z.2, 0) 400 1000 a2 0 (by omega) (by omega) (by omega) hl hv with ⟨q1, q2⟩ | ⟨z', q1, q2⟩
        · rw [p1] at q1; cases q1
        · rw [p1] at q1
          simp only [Option.some.injEq, Esc.brk.injEq] at q1
          subst q1
          rw [q2]
          simp [ref_Ints_eq]
    · rw [decide_eq_false hb]; rfl
  · have e1 : (tgAll a0 a1 a2 != 0) = true := by simp [hz]
    have e2 : (tgAll a0 a1 a2 == 0) = false := by simp [hz]
    simp [e1, e2]

end Go.Proofs.Ytpkbglckacoccaa.tagRuns
namespace Go.Proofs.Ytpkbglckacoccaa.tagRuns
open Go.ChangeShapes Go.WideShapes Go.ChangeAt Go.RowKit
open Go.ChangeMaps (open_string shut_string)
theorem own : ownKnob Try.prog.godebug = none := by kernel_rfl
theorem laidOut : laidOutB Try.prog = true := by kernel_rfl
theorem lifted (os : Os) (started : os.Started) (H : Type) (enc : TypeId × Value → H) :
    ReturnsInHanded {} Try.checked os 13 .any (Rows.tagRunsSpec.pre6 enc Try.prog Try.f13 Rows.tagRunsRow.domain false) (Rows.tagRunsSpec.post enc Try.prog Try.f13 false true false false) := by
  refine returnsInHanded_of_change (C := Try.checked) own started (by kernel_rfl) Try.func13
    (ChangeSpec.witness6 (enc := enc) (C := Try.checked) false ⟨#[], #[.int .i64 0, .agg #[.int .i64 0, .slice none 0 0], .slice none 0 0, .int .i64 0], []⟩ 8 (by kernel_rfl) (by kernel_rfl) (by kernel_rfl) (by kernel_rfl)) ?_
  intro W base args ds gs before hval0 hW hcnd _
  have hval : ∀ (j : Nat) t v, Try.f13.params[j]? = some t → args[j]? = some v → Value.okWide Try.prog W .any base t v := hval0
  have hW' := hW
  obtain ⟨p, q, hA0, hV, rfl, hfz, hnd⟩ := hW
  have hA : DataW.TrodAll enc Try.prog W 0 (fun _ => true) true Try.f13.params.toList args.toList ds p := hA0
  rw [Try.params13] at hA hval
  obtain ⟨v0, vs0, d0, ds0, p0, q0, hargs, rfl, rfl, h0, r0⟩ := trodAll_cons hA
  obtain ⟨v1, vs1, d1, ds1, p1, q1, rfl, rfl, rfl, h1, r1⟩ := trodAll_cons r0
  obtain ⟨v2, vs2, d2, ds2, p2, q2, rfl, rfl, rfl, h2, r2⟩ := trodAll_cons r1
  obtain ⟨v3, vs3, d3, ds3, p3, q3, rfl, rfl, rfl, h3, r3⟩ := trodAll_cons r2
  obtain ⟨rfl, rfl, rfl⟩ := trodAll_nil r3
  obtain rfl : args = #[v0, v1, v2, v3] := by cases args; simp_all
  obtain ⟨rfl, rfl⟩ := trodVars_none hV
  obtain ⟨x0, f0, k0⟩ := Go.Sl.read_arg (u := (.int .i64)) (by kernel_rfl) (by kernel_rfl) (hval 0 3 v0 rfl rfl) h0
  have lt0 : ∀ x ∈ p0, x.block < W.heap.size := by obtain ⟨m, hm⟩ := h0; exact DataW.trod_lt m _ _ _ hm
  obtain ⟨x1, f1, k1⟩ := Go.Sl.read_arg (u := (.pair (.int .i64) (.slice (.slice (.int .i64))))) (by kernel_rfl) (by kernel_rfl) (hval 1 77 v1 rfl rfl) h1
  have lt1 : ∀ x ∈ p1, x.block < W.heap.size := by obtain ⟨m, hm⟩ := h1; exact DataW.trod_lt m _ _ _ hm
  obtain ⟨x2, f2, k2⟩ := Go.Sl.read_arg (u := (.slice (.int .i64))) (by kernel_rfl) (by kernel_rfl) (hval 2 42 v2 rfl rfl) h2
  have lt2 : ∀ x ∈ p2, x.block < W.heap.size := by obtain ⟨m, hm⟩ := h2; exact DataW.trod_lt m _ _ _ hm
  obtain ⟨x3, f3, k3⟩ := Go.Sl.read_arg (u := (.int .i64)) (by kernel_rfl) (by kernel_rfl) (hval 3 3 v3 rfl rfl) h3
  have lt3 : ∀ x ∈ p3, x.block < W.heap.size := by obtain ⟨m, hm⟩ := h3; exact DataW.trod_lt m _ _ _ hm
  clear hA0 hval0
  obtain ⟨fuel, hm⟩ := TagRuns_true x0 x1 x2 x3 f0 f1 f2 f3
  refine (Go.Sl.law_of (vs := [v0, v1, v2, v3]) (law_TagRuns_ok hm) rfl (.cons (k0 _ _) (.cons (k1 _ _) (.cons (k2 _ _) (.cons (k3 _ _) .nil))))).mono fun e W' ⟨he, bel⟩ => ?_
  subst he
  exact ⟨_, rfl, _, _, _, [], _, [], hW', trodAll_mk1 (shut_bool Try.underlying4 _), (trodAll_cons_mk (Below.trod laidOut (by kernel_rfl) (of_decide_eq_true (by kernel_rfl)) h0 bel lt0) (trodAll_cons_mk (Below.trod laidOut (by kernel_rfl) (of_decide_eq_true (by kernel_rfl)) h1 bel lt1) (trodAll_cons_mk (Below.trod laidOut (by kernel_rfl) (of_decide_eq_true (by kernel_rfl)) h2 bel lt2) (trodAll_cons_mk (Below.trod laidOut (by kernel_rfl) (of_decide_eq_true (by kernel_rfl)) h3 bel lt3) trodAll_mk0)))), rfl, bel.frame _, fun h => by cases h⟩
theorem proved : Rows.TagRunsSaid :=
  OpenClaim.holds_of_wide 13 Try.f13 rfl rfl rfl rfl rfl rfl rfl ⟨rfl, rfl, rfl, rfl, rfl⟩ rfl rfl rfl rfl rfl (by kernel_rfl) Try.func13 (by kernel_rfl)
    (of_decide_eq_true (by kernel_rfl)) (by unfold Func.isWrapper; first | (rw [if_pos (by decide +kernel)]; kernel_rfl) | (rw [if_neg (by decide +kernel)]; exact ⟨rfl, rfl⟩))
    (fun os started H enc _ => lifted os started H enc)
#print axioms proved
end Go.Proofs.Ytpkbglckacoccaa.tagRuns
