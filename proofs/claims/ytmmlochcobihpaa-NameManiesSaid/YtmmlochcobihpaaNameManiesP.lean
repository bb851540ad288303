/- For any clauses name.Many returns the specified results: NameManies returns true and changes nothing; no conditions. -/
import Derived.Test.YtmmlochcobihpaaRows
import Derived.WalkKit
import Derived.ProofKit
import Derived.OpenShut
import Derived.ShutString
import Derived.ChangeOld
import Derived.Below
import Derived.Test.YtmmlochcobihpaaNameManiesM
set_option linter.all false
set_option maxRecDepth 100000
namespace Go.Proofs.Ytmmlochcobihpaa.nameManies
open Go Go.Sl

theorem within_eq (a b c : Int) : ref_Within a b c = some (decide (a ≤ b ∧ b ≤ c)) := by
  unfold ref_Within
  rw [Bool.decide_and]

def badv (n : Int) (v : Int) : Bool := decide (v < 0) || decide (v ≥ n)
theorem nm_inside (n : Int) (l : List Int) : ref_Inside n l = some (!l.any (badv n)) := by
  unfold ref_Inside
  rw [forL_ex (p := badv n) (y := Esc.ret false) (fun i a _ => by unfold ref_Inside_b1 badv; cases (decide (a < 0) || decide (a ≥ n)) <;> rfl)]
  cases (l.any (badv n)) <;> rfl
theorem nm_bad (l : List Int) (n : Int) : slices_ContainsFunc_Lintint_with_name_wrong_1 l n = some (l.any (badv n)) := by
  unfold slices_ContainsFunc_Lintint_with_name_wrong_1 slices_IndexFunc_Lintint_with_name_wrong_1
  rcases forL_at (body := slices_IndexFunc_Lintint_with_name_wrong_1_b1 n) (fin := fun _ => (Esc.brk () : Esc Int Unit)) (p := badv n) (g := fun j => Esc.ret j) (l := l)
    (fun i a _ => by unfold slices_IndexFunc_Lintint_with_name_wrong_1_b1 name_wrong_1 badv; cases (decide (a < 0) || decide (a ≥ n)) <;> rfl) (i := 0) with ⟨h1, h2⟩ | ⟨h1, j, h2, h3, h4⟩
  · rw [h2, h1]; rfl
  · rw [h4, h1]
    simp [h2]
def ncl (n : Int) (v : List Int × List Int) : Option Int :=
  bif decide ((v.1.length : Int) > 8) || decide ((v.2.length : Int) > 8) then some 1 else bif v.1.any (badv n) || v.2.any (badv n) then some 2 else none
def ncAll (n m : Int) (l : List (List Int × List Int)) : Int :=
  bif !decide (0 ≤ n ∧ n ≤ m) || decide ((l.length : Int) > 200) then 1 else (l.findSome? (ncl n)).getD 0
theorem nm_body (n i : Int) (v : List Int × List Int) : name_wrong_b10 n i v () = some (said Esc.ret (ncl n v)) := by
  unfold name_wrong_b10 name_wrong_g7 ncl
  rw [nm_bad, nm_bad]
  cases decide ((v.1.length : Int) > 8) <;> cases decide ((v.2.length : Int) > 8) <;> cases v.1.any (badv n) <;> cases v.2.any (badv n) <;> rfl
theorem nm_rbody (n i : Int) (v : List Int × List Int) : ref_ClausesCheck_b7 n i v () = some (said Esc.ret (ncl n v)) := by
  unfold ref_ClausesCheck_b7 ncl
  rw [nm_inside, nm_inside]
  cases decide ((v.1.length : Int) > 8) <;> cases decide ((v.2.length : Int) > 8) <;> cases v.1.any (badv n) <;> cases v.2.any (badv n) <;> rfl
theorem nm_check (n m : Int) (l : List (List Int × List Int)) : ref_ClausesCheck n m l = some (ncAll n m l) := by
  unfold ref_ClausesCheck ncAll
  rw [within_eq]
  simp only [Option.bind_some]
  rw [forL_find (f := ncl n) (g := Esc.ret) (fun i a _ => nm_rbody n i a)]
  cases (!decide (0 ≤ n ∧ n ≤ m)) || decide ((l.length : Int) > 200)
  · cases l.findSome? (ncl n) <;> rfl
  · rfl
theorem nm_wrong (n m : Int) (l : List (List Int × List Int)) : name_wrong n m l = some (ncAll n m l) := by
  unfold name_wrong ncAll
  rw [forL_find (f := ncl n) (g := Esc.ret) (fun i a _ => nm_body n i a)]
  have : ((decide (n < (0 : Int))) || (decide (n > m))) = !decide (0 ≤ n ∧ n ≤ m) := by
    rw [or_dec, not_dec]; exact decide_eq_decide.2 (by omega)
  rw [this]
  cases (!decide (0 ≤ n ∧ n ≤ m)) || decide ((l.length : Int) > 200)
  · cases l.findSome? (ncl n) <;> rfl
  · rfl
theorem nm_ok {n m : Int} {l : List (List Int × List Int)} (h : ncAll n m l = 0) : (0 ≤ n ∧ n ≤ m) ∧ l.length ≤ 200 ∧ ∀ v ∈ l, (∀ x ∈ v.1, 0 ≤ x ∧ x < n) ∧ (∀ x ∈ v.2, 0 ≤ x ∧ x < n) := by
  unfold ncAll at h
  cases hc : (!decide (0 ≤ n ∧ n ≤ m)) || decide ((l.length : Int) > 200) with
  | true => rw [hc] at h; cases h
  | false =>
    rw [hc] at h
    simp only [Bool.or_eq_false_iff, Bool.not_eq_false', decide_eq_true_eq, decide_eq_false_iff_not] at hc
    have hn : l.findSome? (ncl n) = none := by
      cases hf : l.findSome? (ncl n) with
      | none => rfl
      | some e =>
        rw [hf] at h
        obtain ⟨v, _, hv⟩ := List.exists_of_findSome?_eq_some hf
        unfold ncl at hv
        have : e = 0 := h
        subst this
        cases hb : (decide ((v.1.length : Int) > 8) || decide ((v.2.length : Int) > 8)) <;> rw [hb] at hv
        · cases hb2 : (v.1.any (badv n) || v.2.any (badv n)) <;> rw [hb2] at hv <;> simp at hv
        · simp at hv
    have good : ∀ k : List Int, k.any (badv n) = false → ∀ x ∈ k, 0 ≤ x ∧ x < n := by
      intro k hk x hx
      have := List.any_eq_false.1 hk x hx
      unfold badv at this
      simp only [Bool.or_eq_true, decide_eq_true_eq, not_or] at this
      omega
    refine ⟨hc.1, by omega, fun v hv => ?_⟩
    have := List.findSome?_eq_none_iff.1 hn v hv
    unfold ncl at this
    obtain ⟨_, h2⟩ := bif_none this
    obtain ⟨h2, _⟩ := bif_none h2
    rw [Bool.or_eq_false_iff] at h2
    exact ⟨good _ h2.1, good _ h2.2⟩
theorem nm_idx {x : List Bool} {i : Int} (h0 : 0 ≤ i) (h : i < (x.length : Int)) : idx x i = some (x.getD i.toNat false) := by
  obtain ⟨b, h1, h2⟩ := idx_get h0 h
  rw [h1, List.getD_eq_getElem?_getD, h2]; rfl
def clT (b : List Bool) (v : List Int × List Int) : Bool := v.1.any (fun x => b.getD x.toNat false) || v.2.any (fun x => !b.getD x.toNat false)
theorem nm_is1 {l : List Int} {b : List Bool} (h : ∀ x ∈ l, 0 ≤ x ∧ x < (b.length : Int)) : slices_ContainsFunc_Lintint_with_name_is_1 l b = some (l.any fun x => b.getD x.toNat false) := by
  unfold slices_ContainsFunc_Lintint_with_name_is_1 slices_IndexFunc_Lintint_with_name_is_1
  rcases forL_at (body := slices_IndexFunc_Lintint_with_name_is_1_b1 b) (fin := fun _ => (Esc.brk () : Esc Int Unit)) (p := fun x => b.getD x.toNat false) (g := fun j => Esc.ret j) (l := l)
    (fun i a ha => by unfold slices_IndexFunc_Lintint_with_name_is_1_b1 name_is_1; rw [nm_idx (h a ha).1 (h a ha).2]; simp only [Option.bind_some]; cases b.getD a.toNat false <;> rfl) (i := 0) with ⟨h1, h2⟩ | ⟨h1, j, h2, h3, h4⟩
  · rw [h2, h1]; rfl
  · rw [h4, h1]
    simp [h2]
theorem nm_is2 {l : List Int} {b : List Bool} (h : ∀ x ∈ l, 0 ≤ x ∧ x < (b.length : Int)) : slices_ContainsFunc_Lintint_with_name_is_2 l b = some (l.any fun x => !b.getD x.toNat false) := by
  unfold slices_ContainsFunc_Lintint_with_name_is_2 slices_IndexFunc_Lintint_with_name_is_2
  rcases forL_at (body := slices_IndexFunc_Lintint_with_name_is_2_b1 b) (fin := fun _ => (Esc.brk () : Esc Int Unit)) (p := fun x => !b.getD x.toNat false) (g := fun j => Esc.ret j) (l := l)
    (fun i a ha => by unfold slices_IndexFunc_Lintint_with_name_is_2_b1 name_is_2; rw [nm_idx (h a ha).1 (h a ha).2]; simp only [Option.bind_some]; cases b.getD a.toNat false <;> rfl) (i := 0) with ⟨h1, h2⟩ | ⟨h1, j, h2, h3, h4⟩
  · rw [h2, h1]; rfl
  · rw [h4, h1]
    simp [h2]
theorem nm_istrue {l : List (List Int × List Int)} {b : List Bool} (h : ∀ v ∈ l, (∀ x ∈ v.1, 0 ≤ x ∧ x < (b.length : Int)) ∧ (∀ x ∈ v.2, 0 ≤ x ∧ x < (b.length : Int))) : name_is l b = some (!l.any fun v => !clT b v) := by
  unfold name_is
  rw [forL_ex (p := fun v => !clT b v) (y := Esc.ret false) (fun i a ha => by
    unfold name_is_b1 clT
    rw [nm_is1 (h a ha).1, nm_is2 (h a ha).2]
    simp only [Option.bind_some]
    cases (a.1.any fun x => b.getD x.toNat false) <;> cases (a.2.any fun x => !b.getD x.toNat false) <;> rfl)]
  cases (l.any fun v => !clT b v) <;> rfl
theorem nm_clause {v : List Int × List Int} {b : List Bool} (h : (∀ x ∈ v.1, 0 ≤ x ∧ x < (b.length : Int)) ∧ (∀ x ∈ v.2, 0 ≤ x ∧ x < (b.length : Int))) : ref_ClauseTrue v b = some (clT b v) := by
  unfold ref_ClauseTrue clT
  rw [forL_ex (p := fun x => b.getD x.toNat false) (y := Esc.ret true) (fun i a ha => by
    unfold ref_ClauseTrue_b1; rw [nm_idx (h.1 a ha).1 (h.1 a ha).2]; simp only [Option.bind_some]; cases b.getD a.toNat false <;> rfl)]
  rw [forL_ex (p := fun x => !b.getD x.toNat false) (y := Esc.ret true) (fun i a ha => by
    unfold ref_ClauseTrue_b5; rw [nm_idx (h.2 a ha).1 (h.2 a ha).2]; simp only [Option.bind_some]; cases b.getD a.toNat false <;> rfl)]
  cases (v.1.any fun x => b.getD x.toNat false) <;> cases (v.2.any fun x => !b.getD x.toNat false) <;> rfl
theorem nm_true {l : List (List Int × List Int)} {b : List Bool} (h : ∀ v ∈ l, (∀ x ∈ v.1, 0 ≤ x ∧ x < (b.length : Int)) ∧ (∀ x ∈ v.2, 0 ≤ x ∧ x < (b.length : Int))) : ref_True l b = some (!l.any fun v => !clT b v) := by
  unfold ref_True
  rw [forL_ex (p := fun v => !clT b v) (y := Esc.ret false) (fun i a ha => by
    unfold ref_True_b1
    rw [nm_clause (h a ha)]
    simp only [Option.bind_some]
    cases clT b a <;> rfl)]
  cases (l.any fun v => !clT b v) <;> rfl

theorem bit_eq {w i : Nat} (hw : w < 2 ^ 63) (hi : i < 63) : ref_Bit (w : Int) (i : Int) = some (w.testBit i) := by
  unfold ref_Bit
  have c : (decide ((i : Int) ≥ 0) && decide ((i : Int) < 63)) = true := by simp; omega
  have e : IntKind.wrap .u64 (i : Int) = (i : Int) := wrap_u64 (by omega) (by omega)
  rw [c, e, ck_ok (by omega)]
  simp only [cond_true, Option.bind_some, bit_mask hw hi]

def nyP (k : Nat) (l : List (List Int × List Int)) (m : Nat) : Bool := !l.any fun v => !clT (bitsOf k m) v
def nyG (k : Nat) (l : List (List Int × List Int)) (m : Nat) (x : Int) : Int := bif nyP k l m then w64 (x + 1) else x
theorem ny_bits {k m : Nat} (hk : k ≤ 8) (hm : m < 2 ^ 8) : ref_Bits (k : Int) (m : Int) = some (bitsOf k m) := by
  unfold ref_Bits
  obtain ⟨y, h1, h2⟩ := forI_inv (body := ref_Bits_b1 (m : Int)) (fin := fun x => x) (lo := 0) (hi := (k : Int)) (x := []) (fun i x => x = bitsOf i.toNat m) (fun y => y = bitsOf k m) (by omega) (by omega) rfl (fun i x h0 h1 hx => by
    obtain ⟨n, rfl⟩ := Int.eq_ofNat_of_zero_le h0
    simp only [Int.toNat_natCast] at hx
    subst hx
    have hl : (bitsOf n m).length = n := by simp [bitsOf]
    refine ⟨.next (bitsOf n m ++ [m.testBit n]), ?_, ?_⟩
    · unfold ref_Bits_b1
      rw [bit_eq (by omega) (by omega), bind_some', ck_ok (by rw [hl]; omega), bind_some']
    show bitsOf n m ++ [m.testBit n] = bitsOf ((n : Int) + 1).toNat m
    have ht : ((n : Int) + 1).toNat = n + 1 := by omega
    rw [ht]
    unfold bitsOf
    rw [List.range_succ, List.map_append]; rfl) (fun i x h0 h1 h2 hx => by
    have : i = k := by omega
    subst this
    simpa using hx)
  rw [h1, h2]; rfl
theorem ny_fill {k m : Nat} (hk : k ≤ 8) {b : List Bool} (hb : b.length = k) (hm : m < 2 ^ 8) : forL (name_Many_b29 (m : Int)) (fun x => x) b 0 b = some (bitsOf k m) := by
  obtain ⟨y, h1, h2⟩ := forL_inv (body := name_Many_b29 (m : Int)) (fin := fun x => x) (l := b) (x := b) (fun n y => y.length = k ∧ ∀ i, i < n → y[i]? = some (m.testBit i)) (fun y => y = bitsOf k m) ⟨hb, fun i hi => by omega⟩ (fun n a x hn hx => by
    have hnk : n < k := by have := (List.getElem?_eq_some_iff.1 hn).1; omega
    unfold name_Many_b29
    have e1 : idx x (n : Int) = some x[n] := by rw [idx_nat, List.getElem?_eq_getElem (by omega)]
    rw [ck_ok (by omega), e1, bit_shift (by omega) (by omega)]
    refine ⟨_, rfl, by simp [hx.1], fun i hi => ?_⟩
    rw [Int.toNat_natCast, List.getElem?_set]
    by_cases h : n = i
    · subst h; simp [hx.1, hnk]
    · rw [if_neg h]; exact hx.2 i (by omega)) (fun x hx => by
    apply List.ext_getElem?
    intro i
    by_cases h : i < k
    · rw [hx.2 i (by omega), bitsOf_get h]
    · rw [List.getElem?_eq_none (by omega), List.getElem?_eq_none (by simp [bitsOf]; omega)])
  rw [h1, h2]
theorem ny_range {k m : Nat} {l : List (List Int × List Int)} (h : ∀ v ∈ l, (∀ x ∈ v.1, 0 ≤ x ∧ x < (k : Int)) ∧ (∀ x ∈ v.2, 0 ≤ x ∧ x < (k : Int))) : ∀ v ∈ l, (∀ x ∈ v.1, 0 ≤ x ∧ x < ((bitsOf k m).length : Int)) ∧ (∀ x ∈ v.2, 0 ≤ x ∧ x < ((bitsOf k m).length : Int)) := by
  have : (bitsOf k m).length = k := by simp [bitsOf]
  rw [this]; exact h
theorem NameManies_true (a0 : Int) (a1 : List (List Int × List Int)) (f0 : Fits (.int .i64) a0) (f1 : Fits (.slice (.pair (.slice (.int .i64)) (.slice (.int .i64)))) a1) : ∃ fuel, law_NameManies fuel a0 a1 = some true := by
  refine ⟨1000, ?_⟩
  unfold law_NameManies name_Many
  rw [nm_wrong, nm_check]
  simp only [Option.bind_some]
  by_cases h : ncAll a0 8 a1 = 0
  · obtain ⟨h1, h2, h3⟩ := nm_ok h
    obtain ⟨k, rfl⟩ := Int.eq_ofNat_of_zero_le h1.1
    have hk : k ≤ 8 := by omega
    have hp : 2 ^ k ≤ 2 ^ 8 := Nat.pow_le_pow_right (by omega) hk
    rw [h]
    have e1 : forI 0 (bShl .i64 1 (k : Int)) (name_Many_b34 a1) (fun x => x.1) ((0 : Int), List.replicate (Int.toNat (k : Int)) false) = some ((List.range (2 ^ k)).foldl (fun x j => nyG k a1 j x) 0) := by
      rw [bShl_one (by omega)]
      obtain ⟨y, q1, q2⟩ := forI_inv (body := name_Many_b34 a1) (fin := fun x => x.1) (lo := 0) (hi := ((2 ^ k : Nat) : Int)) (x := ((0 : Int), List.replicate (Int.toNat (k : Int)) false))
        (fun i x => x.2.length = k ∧ x.1 = (List.range i.toNat).foldl (fun x j => nyG k a1 j x) 0) (fun y => y = (List.range (2 ^ k)).foldl (fun x j => nyG k a1 j x) 0) (by omega) (by omega) ⟨by simp, rfl⟩ (fun i x h0 h1 hx => by
        obtain ⟨n, rfl⟩ := Int.eq_ofNat_of_zero_le h0
        simp only [Int.toNat_natCast] at hx
        obtain ⟨hx1, hx2⟩ := hx
        have hn : n < 2 ^ 8 := by omega
        have hbl : (bitsOf k n).length = k := by simp [bitsOf]
        unfold name_Many_b34 name_Many_g32
        rw [ny_fill hk hx1 hn]
        simp only [Option.bind_some]
        rw [nm_istrue (ny_range h3)]
        simp only [Option.bind_some]
        have ht : ((n : Int) + 1).toNat = n + 1 := by omega
        have hg : ∀ c, c = nyP k a1 n → nyG k a1 n x.1 = bif c then w64 (x.1 + 1) else x.1 := fun c hc => by rw [hc]; rfl
        cases hc : (!a1.any fun v => !clT (bitsOf k n) v) with
        | true =>
          refine ⟨_, rfl, hbl, ?_⟩
          rw [ht, List.range_succ, List.foldl_append, ← hx2]
          exact (hg true hc.symm).symm
        | false =>
          refine ⟨_, rfl, hbl, ?_⟩
          rw [ht, List.range_succ, List.foldl_append, ← hx2]
          exact (hg false hc.symm).symm) (fun i x h0 h1 h2 hx => by
        have hp0 : 0 < 2 ^ k := Nat.two_pow_pos k
        have : i = ((2 ^ k : Nat) : Int) := by omega
        subst this
        rw [Int.toNat_natCast] at hx
        exact hx.2)
      rw [q1, q2]
    have e2 : ref_Many 1000 (k : Int) a1 = some ((List.range (2 ^ k)).foldl (fun x j => nyG k a1 j x) 0) := by
      unfold ref_Many
      have hw : IntKind.wrap .u64 (k : Int) = (k : Int) := wrap_u64 (by omega) (by omega)
      rw [iter_count0 (g := nyG k a1) (fin := fun x => x) (n := 2 ^ k) (fun j x hj => by
        unfold ref_Many_b4
        rw [hw, ck_ok (by omega), bShl_one (by omega)]
        simp only [Option.bind_some]
        rw [decide_eq_true (by omega), bif_t rfl, ny_bits hk (by omega)]
        simp only [Option.bind_some]
        rw [nm_true (ny_range h3)]
        have hw2 : w64 ((j : Int) + 1) = ((j + 1 : Nat) : Int) := by rw [w64_id (by omega) (by omega)]; rfl
        simp only [Option.bind_some, hw2, nyG, nyP]
        cases (!a1.any fun v => !clT (bitsOf k j) v) <;> rfl) (fun x => by
        unfold ref_Many_b4
        rw [hw, ck_ok (by omega), bShl_one (by omega)]
        simp only [Option.bind_some]
        rw [decide_eq_false (by omega)]; rfl) (by omega)]
      rfl
    rw [e1, e2, ck_ok ⟨by omega, trivial, by omega⟩, ck_ok (by omega)]
    simp
  · have e1 : (ncAll a0 8 a1 != 0) = true := by simp [h]
    rw [e1]
    simp [e1, h]

end Go.Proofs.Ytmmlochcobihpaa.nameManies
namespace Go.Proofs.Ytmmlochcobihpaa.nameManies
open Go.ChangeShapes Go.WideShapes Go.ChangeAt Go.RowKit
open Go.ChangeMaps (open_string shut_string)
theorem own : ownKnob Try.prog.godebug = none := by kernel_rfl
theorem laidOut : laidOutB Try.prog = true := by kernel_rfl
theorem lifted (os : Os) (started : os.Started) (H : Type) (enc : TypeId × Value → H) :
    ReturnsInHanded {} Try.checked os 4 .any (Rows.nameManiesSpec.pre6 enc Try.prog Try.f4 Rows.nameManiesRow.domain false) (Rows.nameManiesSpec.post enc Try.prog Try.f4 false true false false) := by
  refine returnsInHanded_of_change (C := Try.checked) own started (by kernel_rfl) Try.func4
    (ChangeSpec.witness6 (enc := enc) (C := Try.checked) false ⟨#[], #[.int .i64 0, .slice none 0 0], []⟩ 8 (by kernel_rfl) (by kernel_rfl) (by kernel_rfl) (by kernel_rfl)) ?_
  intro W base args ds gs before hval0 hW hcnd _
  have hval : ∀ (j : Nat) t v, Try.f4.params[j]? = some t → args[j]? = some v → Value.okWide Try.prog W .any base t v := hval0
  have hW' := hW
  obtain ⟨p, q, hA0, hV, rfl, hfz, hnd⟩ := hW
  have hA : DataW.TrodAll enc Try.prog W 0 (fun _ => true) true Try.f4.params.toList args.toList ds p := hA0
  rw [Try.params4] at hA hval
  obtain ⟨v0, vs0, d0, ds0, p0, q0, hargs, rfl, rfl, h0, r0⟩ := trodAll_cons hA
  obtain ⟨v1, vs1, d1, ds1, p1, q1, rfl, rfl, rfl, h1, r1⟩ := trodAll_cons r0
  obtain ⟨rfl, rfl, rfl⟩ := trodAll_nil r1
  obtain rfl : args = #[v0, v1] := by cases args; simp_all
  obtain ⟨rfl, rfl⟩ := trodVars_none hV
  obtain ⟨x0, f0, k0⟩ := Go.Sl.read_arg (u := (.int .i64)) (by kernel_rfl) (by kernel_rfl) (hval 0 3 v0 rfl rfl) h0
  have lt0 : ∀ x ∈ p0, x.block < W.heap.size := by obtain ⟨m, hm⟩ := h0; exact DataW.trod_lt m _ _ _ hm
  obtain ⟨x1, f1, k1⟩ := Go.Sl.read_arg (u := (.slice (.pair (.slice (.int .i64)) (.slice (.int .i64))))) (by kernel_rfl) (by kernel_rfl) (hval 1 22 v1 rfl rfl) h1
  have lt1 : ∀ x ∈ p1, x.block < W.heap.size := by obtain ⟨m, hm⟩ := h1; exact DataW.trod_lt m _ _ _ hm
  clear hA0 hval0
  obtain ⟨fuel, hm⟩ := NameManies_true x0 x1 f0 f1
  refine (Go.Sl.law_of (vs := [v0, v1]) (law_NameManies_ok hm) rfl (.cons (k0 _ _) (.cons (k1 _ _) .nil))).mono fun e W' ⟨he, bel⟩ => ?_
  subst he
  exact ⟨_, rfl, _, _, _, [], _, [], hW', trodAll_mk1 (shut_bool Try.underlying4 _), (trodAll_cons_mk (Below.trod laidOut (by kernel_rfl) (of_decide_eq_true (by kernel_rfl)) h0 bel lt0) (trodAll_cons_mk (Below.trod laidOut (by kernel_rfl) (of_decide_eq_true (by kernel_rfl)) h1 bel lt1) trodAll_mk0)), rfl, bel.frame _, fun h => by cases h⟩
theorem proved : Rows.NameManiesSaid :=
  OpenClaim.holds_of_wide 4 Try.f4 rfl rfl rfl rfl rfl rfl rfl ⟨rfl, rfl, rfl, rfl, rfl⟩ rfl rfl rfl rfl rfl (by kernel_rfl) Try.func4 (by kernel_rfl)
    (of_decide_eq_true (by kernel_rfl)) (by unfold Func.isWrapper; first | (rw [if_pos (by decide +kernel)]; kernel_rfl) | (rw [if_neg (by decide +kernel)]; exact ⟨rfl, rfl⟩))
    (fun os started H enc _ => lifted os started H enc)
#print axioms proved
end Go.Proofs.Ytmmlochcobihpaa.nameManies
