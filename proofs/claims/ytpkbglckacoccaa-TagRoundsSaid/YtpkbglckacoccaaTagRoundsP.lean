/- For any tag system and word tag.Round returns the specified results: TagRounds returns true and changes nothing; no conditions. -/
import Derived.Test.YtpkbglckacoccaaRows
import Derived.WalkKit
import Derived.ProofKit
import Derived.OpenShut
import Derived.ShutString
import Derived.ChangeOld
import Derived.Below
import Derived.Test.YtpkbglckacoccaaTagRoundsM
set_option linter.all false
set_option maxRecDepth 100000
namespace Go.Proofs.Ytpkbglckacoccaa.tagRounds
open Go Go.Sl

theorem within_eq (a b c : Int) : ref_Within a b c = some (decide (a ≤ b ∧ b ≤ c)) := by
  unfold ref_Within
  rw [Bool.decide_and]

theorem ref_Ints_eq (a b : List Int) : ref_Ints a b = some (decide (a = b)) := by
  unfold ref_Ints
  rw [len_ne]
  by_cases h : a.length = b.length
  · rw [forL_eqs (q := b) (fun n a c hc => by
      unfold ref_Ints_b1
      rw [idx_nat, hc]
      by_cases h : a = c <;> simp [h, bne_dec]) h]
    by_cases h2 : a = b <;> simp [h2, h]
  · have : ¬ a = b := fun e => h (by rw [e])
    simp [h, this]

theorem cc_grow {n : Nat} (h : n ≤ 4294967296) : slices_Grow_Lintint (n : Int) = some [] := by
  unfold slices_Grow_Lintint
  rw [decide_eq_false (by omega), cond_false, Int.sub_zero, w64_id (by omega) (by omega)]
  by_cases h0 : (n : Int) > 0
  · rw [decide_eq_true h0, cond_true, ck_ok (show 0 ≤ (n : Int) ∧ (n : Int) ≤ 4294967296 by omega)]; rfl
  · rw [decide_eq_false h0]; rfl
theorem flat_take {α : Type} {l : List (List α)} {n : Nat} {v : List α} (h : l[n]? = some v) : (l.take (n + 1)).flatten = (l.take n).flatten ++ v := by
  rw [List.take_add_one, h]; simp
theorem flat_le {α : Type} (l : List (List α)) (n : Nat) : (l.take n).flatten.length ≤ l.flatten.length := by
  have : l = l.take n ++ l.drop n := (List.take_append_drop n l).symm
  conv => rhs; rw [this, List.flatten_append, List.length_append]
  omega
theorem cc_concat {l : List (List Int)} (h : l.flatten.length ≤ 1000000) : slices_Concat_Lintint l = some l.flatten := by
  unfold slices_Concat_Lintint
  obtain ⟨y, h1, h2⟩ := forL_inv (body := slices_Concat_Lintint_b7) (fin := fun x => x) (l := l) (x := (0 : Int)) (fun n x => x = (((l.take n).flatten.length : Nat) : Int)) (fun y => y = ((l.flatten.length : Nat) : Int)) (by simp)
    (fun n v x hv hx => by
      subst hx
      have hle := flat_le l (n + 1)
      have he := flat_take hv
      rw [he, List.length_append] at hle
      unfold slices_Concat_Lintint_b7
      rw [w64_id (by omega) (by omega), decide_eq_false (by omega), cond_false]
      exact ⟨_, rfl, by rw [he, List.length_append]; omega⟩)
    (fun x hx => by rw [hx, List.take_length])
  rw [h1, bind_some', h2, cc_grow (by omega), bind_some']
  obtain ⟨z, h3, h4⟩ := forL_inv (body := slices_Concat_Lintint_b10) (fin := fun x => x) (l := l) (x := ([] : List Int)) (fun n x => x = (l.take n).flatten) (fun y => y = l.flatten) (by simp)
    (fun n v x hv hx => by
      subst hx
      have hle := flat_le l (n + 1)
      have he := flat_take hv
      rw [he, List.length_append] at hle
      have hck : ck ((List.length (l.take n).flatten : Int) + (List.length v : Int) ≤ 4294967296) = some () := ck_ok (by omega)
      unfold slices_Concat_Lintint_b10
      rw [hck, bind_some']
      exact ⟨_, rfl, he.symm⟩)
    (fun x hx => by rw [hx, List.take_length])
  rw [h3, bind_some', h4]

abbrev TG := Int × (List (List Int))
def tgBad (n : Int) (v : Int) : Bool := decide (v < 0) || decide (v ≥ n)
def tgLong (l : List Int) : Bool := decide ((l.length : Int) > 8)
def tgAll (n : Int) (t : TG) (w : List Int) : Int :=
  bif !decide (1 ≤ n ∧ n ≤ 4) || !decide (1 ≤ t.1 ∧ t.1 ≤ 4) || decide ((w.length : Int) > 40) || t.2.any tgLong then 1 else bif !decide ((t.2.length : Int) = n) then 3 else bif (t.2 ++ [w]).any (fun l => l.any (tgBad n)) then 2 else 0
theorem tg_long (l : List (List Int)) : slices_ContainsFunc_LLintLint_with_tag_wrong_1 l = some (l.any tgLong) := by
  unfold slices_ContainsFunc_LLintLint_with_tag_wrong_1 slices_IndexFunc_LLintLint_with_tag_wrong_1
  rcases forL_at (body := slices_IndexFunc_LLintLint_with_tag_wrong_1_b1) (fin := fun _ => (Esc.brk () : Esc Int Unit)) (p := tgLong) (g := fun j => Esc.ret j) (l := l)
    (fun i a _ => by unfold slices_IndexFunc_LLintLint_with_tag_wrong_1_b1 tag_wrong_1 tgLong; cases (decide ((a.length : Int) > 8)) <;> rfl) (i := 0) with ⟨h1, h2⟩ | ⟨h1, j, h2, h3, h4⟩
  · rw [h2, h1]; rfl
  · rw [h4, h1]; simp [h2]
theorem tg_bad (l : List Int) (n : Int) : slices_ContainsFunc_Lintint_with_tag_wrong_2 l n = some (l.any (tgBad n)) := by
  unfold slices_ContainsFunc_Lintint_with_tag_wrong_2 slices_IndexFunc_Lintint_with_tag_wrong_2
  rcases forL_at (body := slices_IndexFunc_Lintint_with_tag_wrong_2_b1 n) (fin := fun _ => (Esc.brk () : Esc Int Unit)) (p := tgBad n) (g := fun j => Esc.ret j) (l := l)
    (fun i a _ => by unfold slices_IndexFunc_Lintint_with_tag_wrong_2_b1 tag_wrong_2 tgBad; cases (decide (a < 0) || decide (a ≥ n)) <;> rfl) (i := 0) with ⟨h1, h2⟩ | ⟨h1, j, h2, h3, h4⟩
  · rw [h2, h1]; rfl
  · rw [h4, h1]; simp [h2]
theorem tg_inside (n : Int) (l : List Int) : ref_Inside n l = some (!l.any (tgBad n)) := by
  unfold ref_Inside
  rw [forL_ex (p := tgBad n) (y := Esc.ret false) (fun i a _ => by unfold ref_Inside_b1 tgBad; cases (decide (a < 0) || decide (a ≥ n)) <;> rfl)]
  cases (l.any (tgBad n)) <;> rfl
def tgC (n : Int) (t : TG) (w : List Int) : Bool := !decide (1 ≤ n ∧ n ≤ 4) || !decide (1 ≤ t.1 ∧ t.1 ≤ 4) || decide ((w.length : Int) > 40) || t.2.any tgLong
theorem tg_g1 (n : Int) (t : TG) (w : List Int) : tag_wrong_g1 n t w = some (tgC n t w) := by
  unfold tag_wrong_g1 tgC
  have e1 : ((decide (n < (1 : Int))) || (decide (n > (4 : Int)))) = !decide (1 ≤ n ∧ n ≤ 4) := by rw [or_dec, not_dec]; exact decide_eq_decide.2 (by omega)
  have e2 : (!decide (1 ≤ t.1 ∧ t.1 ≤ 4)) = (decide (t.1 < 1) || decide (t.1 > 4)) := by rw [or_dec, not_dec]; exact decide_eq_decide.2 (by omega)
  rw [e1, tg_long, e2]
  cases decide (1 ≤ n ∧ n ≤ 4) <;> cases decide (t.1 < 1) <;> cases decide (t.1 > 4) <;> cases decide ((w.length : Int) > 40) <;> cases t.2.any tgLong <;> rfl
theorem tg_wrong (n : Int) (t : TG) (w : List Int) : tag_wrong n t w = some (tgAll n t w) := by
  unfold tag_wrong tgAll
  have e : ((t.2.length : Int) != n) = !decide ((t.2.length : Int) = n) := by rw [bne_dec, not_dec]
  rw [tg_g1, e, bind_some']
  have ec : (!decide (1 ≤ n ∧ n ≤ 4) || !decide (1 ≤ t.1 ∧ t.1 ≤ 4) || decide ((w.length : Int) > 40) || t.2.any tgLong) = tgC n t w := rfl
  rw [ec]
  cases hc : tgC n t w with
  | true => rw [cond_true, cond_true]
  | false =>
    rw [cond_false, cond_false]
    by_cases h4 : (t.2.length : Int) = n
    · unfold tgC at hc
      simp only [Bool.or_eq_false_iff, Bool.not_eq_false', decide_eq_true_eq, decide_eq_false_iff_not] at hc
      have hn := hc.1.1.1
      have hck : ck ((0 : Int) + (List.length t.2 : Int) ≤ 4294967296) = some () := ck_ok (by omega)
      have hcl : slices_Clone_LLintLint t.2 = some t.2 := by unfold slices_Clone_LLintLint; rw [hck, bind_some', List.nil_append]
      have hck2 : ck ((List.length t.2 : Int) + 1 ≤ 4294967296) = some () := ck_ok (by omega)
      rw [decide_eq_true h4, hcl, bind_some', hck2, bind_some']
      rw [forL_ex (p := fun l => l.any (tgBad n)) (y := Esc.ret 2) (fun i a _ => by unfold tag_wrong_b2; rw [tg_bad, bind_some']; cases (a.any (tgBad n)) <;> rfl)]
      cases ((t.2 ++ [w]).any fun l => l.any (tgBad n)) <;> rfl
    · rw [decide_eq_false h4, show (!false) = true from rfl, cond_true, cond_true]
theorem tg_check (n : Int) (t : TG) (w : List Int) : ref_TagCheck n t w = some (tgAll n t w) := by
  unfold ref_TagCheck ref_TagCheck_g1 tgAll
  have e : ((t.2.length : Int) != n) = !decide ((t.2.length : Int) = n) := by rw [bne_dec, not_dec]
  rw [within_eq, within_eq, e, tg_inside]
  rw [forL_ex (p := tgLong) (y := Esc.ret 1) (fun i a _ => by unfold ref_TagCheck_b2 tgLong; cases (decide ((a.length : Int) > 8)) <;> rfl)]
  rw [forL_ex (p := fun l => l.any (tgBad n)) (y := Esc.ret 2) (fun i a _ => by unfold ref_TagCheck_b6; rw [tg_inside, bind_some']; cases (a.any (tgBad n)) <;> rfl)]
  rw [List.any_append]
  simp only [List.any_cons, List.any_nil, Bool.or_false]
  cases decide (1 ≤ n ∧ n ≤ 4) <;> cases decide (1 ≤ t.1 ∧ t.1 ≤ 4) <;> cases decide ((w.length : Int) > 40) <;> cases t.2.any tgLong <;> cases decide ((t.2.length : Int) = n) <;> cases (t.2.any fun l => l.any (tgBad n)) <;> cases w.any (tgBad n) <;> rfl
structure TOk (n : Int) (t : TG) : Prop where
  k : 1 ≤ t.1 ∧ t.1 ≤ 4
  n4 : n ≤ 4
  len : (t.2.length : Int) = n
  row : ∀ l ∈ t.2, l.length ≤ 8 ∧ ∀ v ∈ l, 0 ≤ v ∧ v < n
theorem tg_good {n : Int} {l : List Int} (h : l.any (tgBad n) = false) : ∀ v ∈ l, 0 ≤ v ∧ v < n := by
  intro v hv
  have := List.any_eq_false.1 h v hv
  unfold tgBad at this
  simp only [Bool.or_eq_true, decide_eq_true_eq, not_or] at this
  omega
theorem tg_ok {n : Int} {t : TG} {w : List Int} (h : tgAll n t w = 0) : TOk n t ∧ w.length ≤ 40 ∧ ∀ v ∈ w, 0 ≤ v ∧ v < n := by
  unfold tgAll at h
  cases h1 : (!decide (1 ≤ n ∧ n ≤ 4) || !decide (1 ≤ t.1 ∧ t.1 ≤ 4) || decide ((w.length : Int) > 40) || t.2.any tgLong) with
  | true => rw [h1] at h; cases h
  | false =>
    rw [h1] at h
    cases h2 : !decide ((t.2.length : Int) = n) with
    | true => rw [h2] at h; cases h
    | false =>
      rw [h2] at h
      cases h3 : (t.2 ++ [w]).any (fun l => l.any (tgBad n)) with
      | true => rw [h3] at h; cases h
      | false =>
        simp only [Bool.or_eq_false_iff, Bool.not_eq_false', decide_eq_true_eq, decide_eq_false_iff_not] at h1 h2
        obtain ⟨⟨⟨a1, a2⟩, a3⟩, a4⟩ := h1
        rw [List.any_eq_false] at h3
        refine ⟨⟨a2, a1.2, h2, fun l hl => ⟨?_, tg_good (by simpa using h3 l (by simp [hl]))⟩⟩, by omega, tg_good (by simpa using h3 w (by simp))⟩
        have := List.any_eq_false.1 a4 l hl
        unfold tgLong at this
        simp only [decide_eq_true_eq] at this
        omega

theorem mget_mput {α β : Type} {eq : α → α → Bool} [DecidableEq α] (heq : ∀ a b, eq a b = true ↔ a = b) : ∀ (l : List (α × β)) (x : α) (y : β) (z : α), mGet eq (mPut eq l x y) z = if z = x then some y else mGet eq l z
  | [], x, y, z => by
    by_cases h : z = x
    · simp [mPut, mGet, h, (heq x x).2 rfl]
    · have : eq z x = false := by cases hh : eq z x with | false => rfl | true => exact (h ((heq _ _).1 hh)).elim
      simp [mPut, mGet, h, this]
  | p :: l, x, y, z => by
    have hf : ∀ {a b}, a ≠ b → eq a b = false := by
      intro a b h
      cases hh : eq a b with | false => rfl | true => exact (h ((heq _ _).1 hh)).elim
    by_cases hp : x = p.1
    · have e1 : eq x p.1 = true := (heq _ _).2 hp
      by_cases h : z = x
      · simp [mPut, mGet, e1, h, (heq x x).2 rfl]
      · simp [mPut, mGet, e1, h, hf h, hf (fun e => h (e.trans hp.symm))]
    · have e1 : eq x p.1 = false := hf hp
      by_cases hz : z = p.1
      · have e2 : eq z p.1 = true := (heq _ _).2 hz
        have hzx : z ≠ x := fun e => hp (e ▸ hz)
        simp [mPut, mGet, e1, e2, hzx]
      · simp only [mPut, e1, Bool.false_eq_true, if_false, mGet, hf hz]
        exact mget_mput heq l x y z
theorem deqI {k : IntKind} (a b : Int) : deqT (.int k) a b = true ↔ a = b := by simp [deqT]

/-- one turn of both -/
theorem tg_turn {n : Int} {t : TG} (h : TOk n t) {l : List Int} (hl : l.length ≤ 40) (hv : ∀ v ∈ l, 0 ≤ v ∧ v < n) (hk : (l.length : Int) ≥ t.1) :
    ∃ z, tag_turn t l = some z ∧ ref_Tagged t l = some z ∧ ∀ v ∈ z, 0 ≤ v ∧ v < n := by
  have hkk := h.k
  obtain ⟨v, g1, g2⟩ := idx_get (xs := l) (i := 0) (by omega) (by omega)
  have hvr := hv v (List.mem_of_getElem? g2)
  obtain ⟨row, q1, q2⟩ := idx_get (xs := t.2) (i := v) hvr.1 (by rw [h.len]; exact hvr.2)
  obtain ⟨r1, r2⟩ := h.row row (List.mem_of_getElem? q2)
  have hs : (sub l t.1 (List.length l : Int)).length ≤ 40 := by unfold sub; rw [List.length_take, List.length_drop]; omega
  have hck1 : ck (0 ≤ t.1 ∧ t.1 ≤ (List.length l : Int) ∧ (List.length l : Int) ≤ (List.length l : Int)) = some () := ck_ok ⟨by omega, by omega, by omega⟩
  have hck2 : ck ((0 : Int) + (List.length (sub l t.1 (List.length l : Int)) : Int) ≤ 4294967296) = some () := ck_ok (by omega)
  have hck3 : ck ((List.length ([] ++ (sub l t.1 (List.length l : Int))) : Int) + (List.length row : Int) ≤ 4294967296) = some () := ck_ok (by rw [List.nil_append]; omega)
  refine ⟨sub l t.1 (List.length l : Int) ++ row, ?_, ?_, ?_⟩
  · unfold tag_turn
    rw [hck1, bind_some', g1, bind_some', q1, bind_some', cc_concat (by simp only [List.flatten_cons, List.flatten_nil, List.append_nil, List.length_append]; omega)]
    simp
  · unfold ref_Tagged
    rw [hck1, bind_some', hck2, bind_some', g1, bind_some', q1, bind_some', hck3, bind_some', List.nil_append]
  · intro x hx
    rcases List.mem_append.1 hx with hx | hx
    · unfold sub at hx
      exact hv x (List.mem_of_mem_drop (List.mem_of_mem_take hx))
    · exact r2 x hx

def kb (l : List Int) : ByteArray := strOf (l.map (IntKind.wrap .u8))
theorem strOf_mk (xs : List Int) : strOf xs = ⟨(xs.map fun n => UInt8.ofNat n.toNat).toArray⟩ := by
  have key : ∀ (xs : List Int) (b : ByteArray), xs.foldl (fun r n => r.push (UInt8.ofNat n.toNat)) b = ⟨b.data ++ (xs.map fun n => UInt8.ofNat n.toNat).toArray⟩ := by
    intro xs
    induction xs with
    | nil => intro b; simp
    | cons x xs ih =>
      intro b
      rw [List.foldl_cons, ih]
      simp only [ByteArray.push, ByteArray.mk.injEq]
      apply Array.toList_inj.1
      simp
  unfold strOf
  rw [key]
  simp [ByteArray.empty, ByteArray.emptyWithCapacity]
  rfl
theorem u8_inj {a b : Int} (ha : 0 ≤ a ∧ a < 256) (hb : 0 ≤ b ∧ b < 256) (h : UInt8.ofNat a.toNat = UInt8.ofNat b.toNat) : a = b := by
  have := congrArg UInt8.toNat h
  rw [UInt8.toNat_ofNat', UInt8.toNat_ofNat'] at this
  rw [Nat.mod_eq_of_lt (by omega), Nat.mod_eq_of_lt (by omega)] at this
  omega
theorem map_wrap {l : List Int} (h : ∀ v ∈ l, 0 ≤ v ∧ v < 256) : l.map (IntKind.wrap .u8) = l := by
  induction l with
  | nil => rfl
  | cons a l ih =>
    have := h a (by simp)
    rw [List.map_cons, ih (fun v hv => h v (by simp [hv])), wrap_u8 (by omega) (by omega)]
theorem kb_inj {l m : List Int} (hl : ∀ v ∈ l, 0 ≤ v ∧ v < 256) (hm : ∀ v ∈ m, 0 ≤ v ∧ v < 256) (h : kb l = kb m) : l = m := by
  unfold kb at h
  rw [map_wrap hl, map_wrap hm, strOf_mk, strOf_mk] at h
  replace h := congrArg (fun b : ByteArray => b.data.toList) h
  simp only [List.toList_toArray] at h
  induction l generalizing m with
  | nil => cases m with | nil => rfl | cons b m => simp at h
  | cons a l ih =>
    cases m with
    | nil => simp at h
    | cons b m =>
      simp only [List.map_cons, List.cons.injEq] at h
      rw [u8_inj (hl a (by simp)) (hm b (by simp)) h.1, ih (fun v hv => hl v (by simp [hv])) (fun v hv => hm v (by simp [hv])) h.2]
theorem key_eq {l : List Int} (hl : l.length ≤ 40) : tag_key l = some (kb l) := by
  unfold tag_key
  obtain ⟨y, h1, h2⟩ := forL_inv (body := tag_key_b1) (fin := fun x => x) (l := l) (x := []) (Inv := fun k x => x = (l.take k).map (IntKind.wrap .u8)) (Post := fun y => y = l.map (IntKind.wrap .u8)) (by simp) (by
    rintro k a _ hk rfl
    have hck : ck ((((l.take k).map (IntKind.wrap .u8)).length : Int) + 1 ≤ 4294967296) = some () := ck_ok (by simp; omega)
    unfold tag_key_b1
    rw [hck, bind_some']
    refine ⟨_, rfl, ?_⟩
    show _ ++ _ = _
    rw [List.take_add_one, hk]; simp) (by intro x hx; rw [hx]; simp)
  rw [h1, h2]; rfl
def pos (was : List (List Int)) (l : List Int) : Option Nat := firstOf (fun k a => if a = l then some k else none) 0 was
theorem firstOf_snoc {α R : Type} {f : Nat → α → Option R} : ∀ (l : List α) (a : α) (n : Nat), firstOf f n (l ++ [a]) = match firstOf f n l with | some e => some e | none => f (n + l.length) a
  | [], a, n => by simp only [List.nil_append, firstOf, List.length_nil, Nat.add_zero]; cases f n a <;> rfl
  | b :: l, a, n => by
    simp only [List.cons_append, firstOf]
    cases f n b with
    | some e => rfl
    | none =>
      simp only
      rw [firstOf_snoc l a (n + 1), List.length_cons, show n + (l.length + 1) = n + 1 + l.length by omega]
theorem pos_snoc (was : List (List Int)) (now l : List Int) (h : pos was now = none) : pos (was ++ [now]) l = if l = now then some was.length else pos was l := by
  unfold pos at *
  rw [firstOf_snoc, Nat.zero_add]
  by_cases hl : l = now
  · subst hl
    rw [h, if_pos rfl]
  · rw [if_neg hl, if_neg (fun e => hl e.symm)]
    cases firstOf (fun k a => if a = l then some k else none) 0 was <;> rfl
structure TR (n : Int) (l : List Int) (k : Int) (mm : List (ByteArray × Int)) (was : List (List Int)) : Prop where
  hv : ∀ v ∈ l, 0 ≤ v ∧ v < n
  hk : k = was.length
  hm : ∀ z : List Int, (∀ v ∈ z, 0 ≤ v ∧ v < n) → mGet (deqT .str) mm (kb z) = (pos was z).map fun (j : Nat) => (j : Int)
theorem str_iff (a b : ByteArray) : deqT .str a b = true ↔ a = b := MapKept.bytes_beq a b
theorem tr_loop {n : Int} {t : TG} (h : TOk n t) : ∀ (d : Nat) (fuel : Nat) (l : List Int) (k : Int) (mm : List (ByteArray × Int)) (was : List (List Int)), (401 - k).toNat ≤ d → d < fuel → 0 ≤ k → TR n l k mm was →
    (∃ a b c, iter (tag_Round_b1 t) fuel (l, k, some mm) = some (.ret (a, b, c)) ∧ ∀ r1, iter (law_TagRounds_b12 t r1) fuel (l, k, was) = some (.ret (((r1.2.2 == c) && (r1.1 == a)) && (r1.2.1 == b)))) ∨
    (iter (tag_Round_b1 t) fuel (l, k, some mm) = some (.brk ()) ∧ ∀ r1, iter (law_TagRounds_b12 t r1) fuel (l, k, was) = some (.brk ())) := by
  intro d
  induction d with
  | zero =>
    intro fuel l k mm was hd hf hk hR
    obtain ⟨fuel, rfl⟩ : ∃ q, fuel = q + 1 := ⟨fuel - 1, by omega⟩
    right
    have hgt : decide (k ≤ 400) = false := by simp; omega
    constructor
    · simp only [iter]
      have : tag_Round_b1 t (l, k, some mm) = some (.done (.brk ())) := by unfold tag_Round_b1; dsimp only; rw [hgt]; rfl
      rw [this]
    · intro r1
      simp only [iter]
      have : law_TagRounds_b12 t r1 (l, k, was) = some (.done (.brk ())) := by unfold law_TagRounds_b12; dsimp only; rw [hgt]; rfl
      rw [this]
  | succ d ih =>
    intro fuel l k mm was hd hf hk hR
    obtain ⟨fuel, rfl⟩ : ∃ q, fuel = q + 1 := ⟨fuel - 1, by omega⟩
    by_cases hgt : k ≤ 400
    · have h0 : decide (k ≤ 400) = true := decide_eq_true hgt
      by_cases hlen : (l.length : Int) > 40
      · left
        refine ⟨0, 0, 7, ?_, fun r1 => ?_⟩
        · have : tag_Round_b1 t (l, k, some mm) = some (.done (.ret (0, 0, 7))) := by unfold tag_Round_b1; dsimp only; rw [h0, cond_true, decide_eq_true hlen]; rfl
          simp only [iter, this]
        · have : law_TagRounds_b12 t r1 (l, k, was) = some (.done (.ret (((r1.2.2 == (7 : Int)) && (r1.1 == (0 : Int))) && (r1.2.1 == (0 : Int))))) := by unfold law_TagRounds_b12; dsimp only; rw [h0, cond_true, decide_eq_true hlen]; rfl
          simp only [iter, this]
      · have hl : l.length ≤ 40 := by omega
        have hdl : decide ((l.length : Int) > 40) = false := decide_eq_false hlen
        have hg := hR.hm l hR.hv
        have hinner : ∀ r1 : Int × Int × Int, forL (law_TagRounds_b8 r1 (l, k, was)) (fun _ => (.brk () : Esc Bool Unit)) was 0 () = some ((pos was l).elim (.brk ()) fun j => .ret (((r1.2.2 == (0 : Int)) && (r1.1 == k)) && (r1.2.1 == w64 (k - (j : Int))))) := by
          intro r1
          exact forL_findI (f := fun j a => if a = l then some j else none) (g := fun j => (.ret (((r1.2.2 == (0 : Int)) && (r1.1 == k)) && (r1.2.1 == w64 (k - (j : Int)))) : Esc Bool Unit)) (fun j a hj => by
            unfold law_TagRounds_b8
            rw [ref_Ints_eq, bind_some']
            by_cases ha : a = l
            · simp [ha, said]
            · simp [ha, said])
        cases hp : pos was l with
        | some j =>
          rw [hp] at hg hinner
          left
          refine ⟨k, w64 (k - (j : Int)), 0, ?_, fun r1 => ?_⟩
          · have : tag_Round_b1 t (l, k, some mm) = some (.done (.ret (k, w64 (k - (j : Int)), 0))) := by
              unfold tag_Round_b1; dsimp only; rw [h0, cond_true, hdl, cond_false, key_eq hl, bind_some', Option.getD_some, hg]; rfl
            simp only [iter, this]
          · have : law_TagRounds_b12 t r1 (l, k, was) = some (.done (.ret (((r1.2.2 == (0 : Int)) && (r1.1 == k)) && (r1.2.1 == w64 (k - (j : Int)))))) := by
              unfold law_TagRounds_b12; dsimp only; rw [h0, cond_true, hdl, cond_false, hinner]; rfl
            simp only [iter, this]
        | none =>
          rw [hp] at hg hinner
          by_cases hdr : (l.length : Int) < t.1
          · left
            refine ⟨0, 0, 5, ?_, fun r1 => ?_⟩
            · have : tag_Round_b1 t (l, k, some mm) = some (.done (.ret (0, 0, 5))) := by
                unfold tag_Round_b1; dsimp only; rw [h0, cond_true, hdl, cond_false, key_eq hl, bind_some', Option.getD_some, hg, decide_eq_true hdr]; rfl
              simp only [iter, this]
            · have : law_TagRounds_b12 t r1 (l, k, was) = some (.done (.ret (((r1.2.2 == (5 : Int)) && (r1.1 == (0 : Int))) && (r1.2.1 == (0 : Int))))) := by
                unfold law_TagRounds_b12; dsimp only; rw [h0, cond_true, hdl, cond_false, hinner, decide_eq_true hdr]; rfl
              simp only [iter, this]
          · obtain ⟨z, e1, e2, e3⟩ := tg_turn h hl hR.hv (by omega)
            have hw : w64 (k + 1) = k + 1 := w64_id (by omega) (by omega)
            have hck : ck ((was.length : Int) + 1 ≤ 4294967296) = some () := ck_ok (by have := hR.hk; omega)
            have f1 : tag_Round_b1 t (l, k, some mm) = some (.next (z, k + 1, some (mPut (deqT .str) mm (kb l) k))) := by
              unfold tag_Round_b1; dsimp only; rw [h0, cond_true, hdl, cond_false, key_eq hl, bind_some', Option.getD_some, hg, decide_eq_false hdr]
              simp only [Option.map_none, Option.isSome_none, cond_false, bind_some', Option.isSome_some, ck_ok, e1, hw, Option.map_some]
            have f2 : ∀ r1, law_TagRounds_b12 t r1 (l, k, was) = some (.next (z, k + 1, was ++ [l])) := by
              intro r1
              unfold law_TagRounds_b12; dsimp only; rw [h0, cond_true, hdl, cond_false, hinner, bind_some', decide_eq_false hdr, hck, e2, hw]
              rfl
            simp only [iter, f1, f2]
            refine ih fuel z (k + 1) _ _ (by omega) (by omega) (by omega) ⟨e3, by rw [List.length_append, hR.hk]; simp, fun y hy => ?_⟩
            rw [mget_mput str_iff, pos_snoc was l y hp]
            have r256 : ∀ {q : List Int}, (∀ v ∈ q, 0 ≤ v ∧ v < n) → ∀ v ∈ q, 0 ≤ v ∧ v < 256 := fun hq v hv => by have := hq v hv; have := h.n4; omega
            by_cases hyl : y = l
            · rw [if_pos hyl, if_pos (by rw [hyl]), hR.hk]; rfl
            · rw [if_neg hyl, if_neg (fun e => hyl (kb_inj (r256 hy) (r256 hR.hv) e)), hR.hm y hy]
    · right
      have hgt : decide (k ≤ 400) = false := by simp; omega
      constructor
      · simp only [iter]
        have : tag_Round_b1 t (l, k, some mm) = some (.done (.brk ())) := by unfold tag_Round_b1; dsimp only; rw [hgt]; rfl
        rw [this]
      · intro r1
        simp only [iter]
        have : law_TagRounds_b12 t r1 (l, k, was) = some (.done (.brk ())) := by unfold law_TagRounds_b12; dsimp only; rw [hgt]; rfl
        rw [this]
theorem TagRounds_true (a0 : Int) (a1 : TG) (a2 : List Int) (f0 : Fits (.int .i64) a0) (f1 : Fits (.pair (.int .i64) (.slice (.slice (.int .i64)))) a1) (f2 : Fits (.slice (.int .i64)) a2) : ∃ fuel, law_TagRounds fuel a0 a1 a2 = some true := by
  refine ⟨1000, ?_⟩
  unfold law_TagRounds tag_Round
  rw [tg_wrong, tg_check, bind_some']
  by_cases hz : tgAll a0 a1 a2 = 0
  · obtain ⟨h, hl, hv⟩ := tg_ok hz
    rw [hz]
    simp only [show ((0 : Int) != 0) = false from rfl, cond_false, bind_some']
    rcases tr_loop h 401 1000 a2 0 [] [] (by omega) (by omega) (by omega) ⟨hv, rfl, fun z _ => rfl⟩ with ⟨a, b, c, p1, p2⟩ | ⟨p1, p2⟩
    · simp only [p1, bind_some', p2]; simp
    · simp only [p1, bind_some', p2]; rfl
  · have e1 : (tgAll a0 a1 a2 != 0) = true := by simp [hz]
    simp [e1]

end Go.Proofs.Ytpkbglckacoccaa.tagRounds
namespace Go.Proofs.Ytpkbglckacoccaa.tagRounds
open Go.ChangeShapes Go.WideShapes Go.ChangeAt Go.RowKit
open Go.ChangeMaps (open_string shut_string)
theorem own : ownKnob Try.prog.godebug = none := by kernel_rfl
theorem laidOut : laidOutB Try.prog = true := by kernel_rfl
theorem lifted (os : Os) (started : os.Started) (H : Type) (enc : TypeId × Value → H) :
    ReturnsInHanded {} Try.checked os 14 .any (Rows.tagRoundsSpec.pre6 enc Try.prog Try.f14 Rows.tagRoundsRow.domain false) (Rows.tagRoundsSpec.post enc Try.prog Try.f14 false true false false) := by
  refine returnsInHanded_of_change (C := Try.checked) own started (by kernel_rfl) Try.func14
    (ChangeSpec.witness6 (enc := enc) (C := Try.checked) false ⟨#[], #[.int .i64 0, .agg #[.int .i64 0, .slice none 0 0], .slice none 0 0], []⟩ 8 (by kernel_rfl) (by kernel_rfl) (by kernel_rfl) (by kernel_rfl)) ?_
  intro W base args ds gs before hval0 hW hcnd _
  have hval : ∀ (j : Nat) t v, Try.f14.params[j]? = some t → args[j]? = some v → Value.okWide Try.prog W .any base t v := hval0
  have hW' := hW
  obtain ⟨p, q, hA0, hV, rfl, hfz, hnd⟩ := hW
  have hA : DataW.TrodAll enc Try.prog W 0 (fun _ => true) true Try.f14.params.toList args.toList ds p := hA0
  rw [Try.params14] at hA hval
  obtain ⟨v0, vs0, d0, ds0, p0, q0, hargs, rfl, rfl, h0, r0⟩ := trodAll_cons hA
  obtain ⟨v1, vs1, d1, ds1, p1, q1, rfl, rfl, rfl, h1, r1⟩ := trodAll_cons r0
  obtain ⟨v2, vs2, d2, ds2, p2, q2, rfl, rfl, rfl, h2, r2⟩ := trodAll_cons r1
  obtain ⟨rfl, rfl, rfl⟩ := trodAll_nil r2
  obtain rfl : args = #[v0, v1, v2] := by cases args; simp_all
  obtain ⟨rfl, rfl⟩ := trodVars_none hV
  obtain ⟨x0, f0, k0⟩ := Go.Sl.read_arg (u := (.int .i64)) (by kernel_rfl) (by kernel_rfl) (hval 0 3 v0 rfl rfl) h0
  have lt0 : ∀ x ∈ p0, x.block < W.heap.size := by obtain ⟨m, hm⟩ := h0; exact DataW.trod_lt m _ _ _ hm
  obtain ⟨x1, f1, k1⟩ := Go.Sl.read_arg (u := (.pair (.int .i64) (.slice (.slice (.int .i64))))) (by kernel_rfl) (by kernel_rfl) (hval 1 77 v1 rfl rfl) h1
  have lt1 : ∀ x ∈ p1, x.block < W.heap.size := by obtain ⟨m, hm⟩ := h1; exact DataW.trod_lt m _ _ _ hm
  obtain ⟨x2, f2, k2⟩ := Go.Sl.read_arg (u := (.slice (.int .i64))) (by kernel_rfl) (by kernel_rfl) (hval 2 42 v2 rfl rfl) h2
  have lt2 : ∀ x ∈ p2, x.block < W.heap.size := by obtain ⟨m, hm⟩ := h2; exact DataW.trod_lt m _ _ _ hm
  clear hA0 hval0
  obtain ⟨fuel, hm⟩ := TagRounds_true x0 x1 x2 f0 f1 f2
  refine (Go.Sl.law_of (vs := [v0, v1, v2]) (law_TagRounds_ok hm) rfl (.cons (k0 _ _) (.cons (k1 _ _) (.cons (k2 _ _) .nil)))).mono fun e W' ⟨he, bel⟩ => ?_
  subst he
  exact ⟨_, rfl, _, _, _, [], _, [], hW', trodAll_mk1 (shut_bool Try.underlying4 _), (trodAll_cons_mk (Below.trod laidOut (by kernel_rfl) (of_decide_eq_true (by kernel_rfl)) h0 bel lt0) (trodAll_cons_mk (Below.trod laidOut (by kernel_rfl) (of_decide_eq_true (by kernel_rfl)) h1 bel lt1) (trodAll_cons_mk (Below.trod laidOut (by kernel_rfl) (of_decide_eq_true (by kernel_rfl)) h2 bel lt2) trodAll_mk0))), rfl, bel.frame _, fun h => by cases h⟩
theorem proved : Rows.TagRoundsSaid :=
  OpenClaim.holds_of_wide 14 Try.f14 rfl rfl rfl rfl rfl rfl rfl ⟨rfl, rfl, rfl, rfl, rfl⟩ rfl rfl rfl rfl rfl (by kernel_rfl) Try.func14 (by kernel_rfl)
    (of_decide_eq_true (by kernel_rfl)) (by unfold Func.isWrapper; first | (rw [if_pos (by decide +kernel)]; kernel_rfl) | (rw [if_neg (by decide +kernel)]; exact ⟨rfl, rfl⟩))
    (fun os started H enc _ => lifted os started H enc)
#print axioms proved
end Go.Proofs.Ytpkbglckacoccaa.tagRounds
