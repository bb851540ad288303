/- For any orders, counters and turns count.Run returns the specified results: CountRuns returns true and changes nothing; no conditions. -/
import Derived.Test.YtmongadolmofnaaRows
import Derived.WalkKit
import Derived.ProofKit
import Derived.OpenShut
import Derived.ShutString
import Derived.ChangeOld
import Derived.Below
import Derived.Test.YtmongadolmofnaaCountRunsM
set_option linter.all false
set_option maxRecDepth 100000
namespace Go.Proofs.Ytmongadolmofnaa.countRuns
open Go Go.Sl

theorem ref_Ints_eq (a b : List Int) : ref_Ints a b = some (decide (a = b)) := by
  unfold ref_Ints
  rw [len_ne]
  by_cases h : a.length = b.length
  · rw [forL_eqs (q := b) (fun n a c hc => by
      unfold ref_Ints_b1
      rw [idx_nat, hc]
      by_cases h : a = c <;> simp [h, bne_dec]) h]
    by_cases h2 : a = b <;> simp [h2, h]
  · have : ¬ a = b := fun e => h (by rw [e])
    simp [h, this]

def oc (a0 n : Int) (v : Int × Int × Int × Int) : Option Int :=
  if v.1 ≠ 1 ∧ v.1 ≠ 2 then some 6 else if ¬ (0 ≤ v.2.1 ∧ v.2.1 < a0) then some 2
  else if ¬ (0 ≤ v.2.2.1 ∧ v.2.2.1 < n) ∨ v.1 = 2 ∧ ¬ (0 ≤ v.2.2.2 ∧ v.2.2.2 < n) then some 3 else none
theorem oc_inside (n v : Int) : ref_Inside n [v] = some (decide (0 ≤ v ∧ v < n)) := by
  unfold ref_Inside
  rw [forL_ex (p := fun v => decide (v < 0) || decide (v ≥ n)) (y := Esc.ret false) (fun i a _ => by unfold ref_Inside_b1; cases (decide (a < 0) || decide (a ≥ n)) <;> rfl)]
  by_cases h : 0 ≤ v ∧ v < n
  · have : (decide (v < 0) || decide (v ≥ n)) = false := by simp only [Bool.or_eq_false_iff, decide_eq_false_iff_not]; omega
    simp [this, h]
  · have : (decide (v < 0) || decide (v ≥ n)) = true := by simp only [Bool.or_eq_true, decide_eq_true_eq]; omega
    simp [this, h]
theorem oc_ref_body (a0 : Int) (l : List (Int × Int × Int × Int)) (h : l.length ≤ 1000000) (i : Int) (v : Int × Int × Int × Int) :
    ref_OrdersCheck_b10 a0 l i v () = some (said Esc.ret (oc a0 (l.length + 1) v)) := by
  have hw : w64 ((l.length : Int) + 1) = (l.length : Int) + 1 := w64_id (by omega) (by omega)
  unfold ref_OrdersCheck_b10 ref_OrdersCheck_g7 oc said
  rw [hw, oc_inside, oc_inside, oc_inside]
  by_cases h1 : v.1 = 1
  · by_cases h2 : 0 ≤ v.2.1 ∧ v.2.1 < a0 <;> by_cases h3 : 0 ≤ v.2.2.1 ∧ v.2.2.1 < (l.length : Int) + 1 <;> simp [h1, h2, h3]
  · by_cases h4 : v.1 = 2
    · by_cases h2 : 0 ≤ v.2.1 ∧ v.2.1 < a0 <;> by_cases h3 : 0 ≤ v.2.2.1 ∧ v.2.2.1 < (l.length : Int) + 1 <;> by_cases h5 : 0 ≤ v.2.2.2 ∧ v.2.2.2 < (l.length : Int) + 1 <;> simp [h2, h3, h4, h5]
    · simp [h1, h4, bne_dec]
theorem oc_ref (a0 : Int) (l : List (Int × Int × Int × Int)) (h : l.length ≤ 1000000) : ref_OrdersCheck a0 l = some ((l.findSome? (oc a0 (l.length + 1))).getD 0) := by
  unfold ref_OrdersCheck
  rw [forL_find (f := oc a0 (l.length + 1)) (g := Esc.ret) (fun i a _ => oc_ref_body a0 l h i a)]
  cases l.findSome? (oc a0 (l.length + 1)) <;> rfl
theorem oc_ok {a0 : Int} {l : List (Int × Int × Int × Int)} (h : (l.findSome? (oc a0 (l.length + 1))).getD 0 = 0) : ∀ v ∈ l, (v.1 = 1 ∨ v.1 = 2) ∧ (0 ≤ v.2.1 ∧ v.2.1 < a0) ∧ (0 ≤ v.2.2.1 ∧ v.2.2.1 ≤ l.length) ∧ (v.1 = 2 → 0 ≤ v.2.2.2 ∧ v.2.2.2 ≤ l.length) := by
  cases hf : l.findSome? (oc a0 (l.length + 1)) with
  | some e =>
    rw [hf] at h
    obtain ⟨v, _, hv⟩ := List.exists_of_findSome?_eq_some hf
    unfold oc at hv
    have he : e = 0 := h
    subst he
    repeat' split at hv
    all_goals simp at hv
  | none =>
    rw [List.findSome?_eq_none_iff] at hf
    intro v hv
    have := hf v hv
    unfold oc at this
    split at this
    · simp at this
    · split at this
      · simp at this
      · split at this
        · simp at this
        · rename_i h1 h2 h3
          refine ⟨by omega, by omega, by omega, fun h4 => by omega⟩
theorem oc_within (a b c : Int) : ref_Within a b c = some (decide (a ≤ b ∧ b ≤ c)) := by
  unfold ref_Within
  rw [Bool.decide_and]
theorem oc_count_body (a0 : Int) (l : List (Int × Int × Int × Int)) (h : l.length ≤ 12) : count_Check_b13 a0 l = ref_OrdersCheck_b10 a0 l := by
  funext i v x
  have hw : w64 ((l.length : Int) + 1) = (l.length : Int) + 1 := w64_id (by omega) (by omega)
  have ht : ∀ u : Int, count_Check_1 u l = some (decide (0 ≤ u ∧ u < (l.length : Int) + 1)) := by
    intro u
    unfold count_Check_1
    congr 1
    rw [← Bool.decide_and]
    exact decide_eq_decide.2 (by omega)
  unfold count_Check_b13 ref_OrdersCheck_b10 count_Check_g9 ref_OrdersCheck_g7
  rw [hw, oc_inside, oc_inside, oc_inside, ht, ht]
  have e : (bif decide (v.2.1 < (0 : Int)) then (some true) else (some (decide (v.2.1 ≥ a0)))) = some (!decide (0 ≤ v.2.1 ∧ v.2.1 < a0)) := by
    by_cases h1 : v.2.1 < 0
    · simp [h1]
    · by_cases h2 : v.2.1 < a0
      · simp [h1, h2, Int.not_lt.1 h1]
      · simp [h1, h2]; omega
  rw [e]
  rfl
def ocAll (a0 : Int) (l : List (Int × Int × Int × Int)) : Int :=
  if (1 ≤ a0 ∧ a0 ≤ 4) ∧ 1 ≤ (l.length : Int) ∧ (l.length : Int) ≤ 12 then (l.findSome? (oc a0 (l.length + 1))).getD 0 else 1
theorem oc_countcheck (a0 : Int) (l : List (Int × Int × Int × Int)) : ref_CountCheck a0 l = some (ocAll a0 l) := by
  unfold ref_CountCheck ref_CountCheck_g1 ocAll
  rw [oc_within, oc_within]
  by_cases h1 : 1 ≤ a0 ∧ a0 ≤ 4
  · by_cases h2 : 1 ≤ (l.length : Int) ∧ (l.length : Int) ≤ 12
    · rw [oc_ref a0 l (by omega), if_pos ⟨h1, h2⟩, decide_eq_true h1, decide_eq_true h2]; rfl
    · rw [if_neg (fun h => h2 h.2), decide_eq_true h1, decide_eq_false h2]; rfl
  · rw [if_neg (fun h => h1 h.1), decide_eq_false h1]; rfl
theorem oc_check (a0 : Int) (l : List (Int × Int × Int × Int)) : count_Check a0 l = some (ocAll a0 l) := by
  rw [← oc_countcheck]
  unfold count_Check
  by_cases h : (1 ≤ a0 ∧ a0 ≤ 4) ∧ 1 ≤ (l.length : Int) ∧ (l.length : Int) ≤ 12
  · have hb : ((((decide (a0 < (1 : Int))) || (decide (a0 > (4 : Int)))) || (decide ((List.length l : Int) < (1 : Int)))) || (decide ((List.length l : Int) > (12 : Int)))) = false := by
      simp only [Bool.or_eq_false_iff, decide_eq_false_iff_not]; omega
    rw [bif_f hb, oc_count_body a0 l (by omega), oc_countcheck]
    unfold ocAll
    rw [if_pos h, ← oc_ref a0 l (by omega)]
    rfl
  · have hb : ((((decide (a0 < (1 : Int))) || (decide (a0 > (4 : Int)))) || (decide ((List.length l : Int) < (1 : Int)))) || (decide ((List.length l : Int) > (12 : Int)))) = true := by
      simp only [Bool.or_eq_true, decide_eq_true_eq]; omega
    rw [bif_t hb, oc_countcheck]
    unfold ocAll
    rw [if_neg h]
theorem oc_valid {a0 : Int} {l : List (Int × Int × Int × Int)} (h : ocAll a0 l = 0) : ((1 ≤ a0 ∧ a0 ≤ 4) ∧ 1 ≤ (l.length : Int) ∧ (l.length : Int) ≤ 12) ∧
    ∀ v ∈ l, (v.1 = 1 ∨ v.1 = 2) ∧ (0 ≤ v.2.1 ∧ v.2.1 < a0) ∧ (0 ≤ v.2.2.1 ∧ v.2.2.1 ≤ l.length) ∧ (v.1 = 2 → 0 ≤ v.2.2.2 ∧ v.2.2.2 ≤ l.length) := by
  unfold ocAll at h
  split at h
  · rename_i hc
    exact ⟨hc, oc_ok h⟩
  · omega

def crBad (v : Int) : Bool := decide (v < 0) || decide (v > 20)
theorem cr_have (l : List Int) : slices_ContainsFunc_Lintint_with_count_Run_1 l = some (l.any crBad) := by
  unfold slices_ContainsFunc_Lintint_with_count_Run_1 slices_IndexFunc_Lintint_with_count_Run_1
  rcases forL_at (body := slices_IndexFunc_Lintint_with_count_Run_1_b1) (fin := fun _ => (Esc.brk () : Esc Int Unit)) (p := crBad) (g := fun j => Esc.ret j) (l := l)
    (fun i a _ => by unfold slices_IndexFunc_Lintint_with_count_Run_1_b1 count_Run_1 crBad; cases (decide (a < 0) || decide (a > 20)) <;> rfl) (i := 0) with ⟨h1, h2⟩ | ⟨h1, j, h2, h3, h4⟩
  · rw [h2, h1]; rfl
  · rw [h4, h1]
    simp [h2]
theorem cr_haveref (l : List Int) : forL ref_HaveCheck_b1 (fun _ => (Esc.brk () : Esc Int Unit)) l 0 () = some (bif l.any crBad then .ret 4 else .brk ()) := by
  refine forL_ex (fun i a _ => ?_)
  unfold ref_HaveCheck_b1 crBad
  rw [oc_within]
  by_cases h : 0 ≤ a ∧ a ≤ 20
  · have : (decide (a < 0) || decide (a > 20)) = false := by simp only [Bool.or_eq_false_iff, decide_eq_false_iff_not]; omega
    simp [this, h]
  · have : (decide (a < 0) || decide (a > 20)) = true := by simp only [Bool.or_eq_true, decide_eq_true_eq]; omega
    simp [this, h]
theorem cr_set {l : List Int} {i : Nat} {v b : Int} (h : ∀ x ∈ l, 0 ≤ x ∧ x ≤ b) (hv : 0 ≤ v ∧ v ≤ b) : ∀ x ∈ l.set i v, 0 ≤ x ∧ x ≤ b := by
  intro x hx
  rcases List.mem_or_eq_of_mem_set hx with hx | rfl
  · exact h x hx
  · exact hv
theorem cr_loop (a0 : Int) (l : List (Int × Int × Int × Int)) (a3 : Int) (h4 : a3 ≤ 400)
    (hl : ∀ v ∈ l, (v.1 = 1 ∨ v.1 = 2) ∧ (0 ≤ v.2.1 ∧ v.2.1 < a0) ∧ (0 ≤ v.2.2.1 ∧ v.2.2.1 ≤ l.length) ∧ (v.1 = 2 → 0 ≤ v.2.2.2 ∧ v.2.2.2 ≤ l.length)) (c : List Int) (hc : (c.length : Int) = a0) (hb : ∀ x ∈ c, 0 ≤ x ∧ x ≤ 20) :
    ∃ y, iter (count_Run_b1 l a3) 1000 (0, 0, c) = some y ∧ iter (ref_Counted_b1 l a3) 1000 (0, 0, c) = some y := by
  suffices h : ∃ y, iter (count_Run_b1 l a3) 1000 (0, 0, c) = some y ∧ iter (ref_Counted_b1 l a3) 1000 (0, 0, c) = some y ∧ True by
    obtain ⟨y, h1, h2, _⟩ := h; exact ⟨y, h1, h2⟩
  refine iter_eq (Inv := fun x => 0 ≤ x.1 ∧ 0 ≤ x.2.1 ∧ (x.2.2.length : Int) = a0 ∧ (x.2.1 ≤ 400) ∧ ∀ z ∈ x.2.2, 0 ≤ z ∧ z ≤ 20 + x.2.1) (m := fun x => (400 - x.2.1).toNat) (fun _ => True) ?_ 1000 (0, 0, c)
    (by show (400 - (0 : Int)).toNat < 1000; omega) ⟨Int.le_refl 0, Int.le_refl 0, hc, by show (0 : Int) ≤ 400; omega, by simpa using hb⟩
  rintro ⟨at_, d, c⟩ ⟨h0, h1, h2, h3, h5⟩
  simp only at h0 h1 h2 h3 h5
  unfold count_Run_b1 ref_Counted_b1
  by_cases hcond : d < a3 ∧ at_ < (l.length : Int)
  · have hct : (decide (d < a3) && decide (at_ < (l.length : Int))) = true := by simp [hcond]
    obtain ⟨o, ho, ho2⟩ := idx_get (xs := l) h0 hcond.2
    obtain ⟨k1, k2, k3, k4⟩ := hl o (List.mem_of_getElem? ho2)
    obtain ⟨v, hv, hv2⟩ := idx_get (xs := c) k2.1 (by omega)
    have hvb := h5 v (List.mem_of_getElem? hv2)
    have e0 : w64 (d + 1) = d + 1 := w64_id (by omega) (by omega)
    have e1 : w64 (v + 1) = v + 1 := w64_id (by omega) (by omega)
    have e2 : w64 (v - 1) = v - 1 := w64_id (by omega) (by omega)
    have hm : ∀ x ∈ c, 0 ≤ x ∧ x ≤ 20 + (d + 1) := fun x hx => by have := h5 x hx; omega
    simp only [hct, cond_true, ho, Option.bind_some, hv, e0, e1, e2, count_Turn]
    rcases k1 with k1 | k1
    · simp only [k1, show ((1 : Int) == 1) = true from rfl, cond_true, Option.bind_some]
      refine ⟨_, rfl, rfl, ⟨k3.1, by simp only; omega, by simpa using h2, by simp only; omega, cr_set hm (by dsimp only; omega)⟩, by simp only; omega⟩
    · simp only [k1, show ((2 : Int) == 1) = false from rfl, cond_false, Option.bind_some]
      by_cases hz : v = 0
      · subst hz
        refine ⟨_, rfl, rfl, ⟨(k4 k1).1, by simp only; omega, by simpa using h2, by simp only; omega, hm⟩, by simp only; omega⟩
      · have c1 : (v == 0) = false := by simp [hz]
        have c2 : decide (v > 0) = true := by simp; omega
        simp only [c1, c2, cond_false, cond_true, Option.bind_some]
        refine ⟨_, rfl, rfl, ⟨k3.1, by simp only; omega, by simpa using h2, by simp only; omega, cr_set hm (by dsimp only; omega)⟩, by simp only; omega⟩
  · have hcf : (decide (d < a3) && decide (at_ < (l.length : Int))) = false := by
      simp only [Bool.and_eq_false_iff, decide_eq_false_iff_not]; omega
    simp only [hcf, cond_false]
    exact ⟨_, rfl, rfl, trivial⟩
theorem CountRuns_true (a0 : Int) (a1 : List (Int × (Int × (Int × Int)))) (a2 : List Int) (a3 : Int) (f0 : Fits (.int .i64) a0) (f1 : Fits (.slice (.pair (.int .i64) (.pair (.int .i64) (.pair (.int .i64) (.int .i64))))) a1) (f2 : Fits (.slice (.int .i64)) a2) (f3 : Fits (.int .i64) a3) : ∃ fuel, law_CountRuns fuel a0 a1 a2 a3 = some true := by
  refine ⟨1000, ?_⟩
  unfold law_CountRuns count_Run law_countCode
  rw [oc_check, oc_countcheck]
  simp only [Option.bind_some]
  by_cases hz : ocAll a0 a1 = 0
  · obtain ⟨⟨hA, hB⟩, hl⟩ := oc_valid hz
    rw [hz]
    unfold ref_HaveCheck
    rw [cr_have, cr_haveref, oc_within]
    by_cases hlen : (a2.length : Int) = a0
    · have e1 : ((a2.length : Int) != a0) = false := by simp [hlen]
      by_cases hbad : a2.any crBad = true
      · simp [e1, hbad]
      · have hbad' : a2.any crBad = false := by simpa using hbad
        by_cases ht : 0 ≤ a3 ∧ a3 ≤ 400
        · have c1 : ((decide (a3 < (0 : Int))) || (decide (a3 > (400 : Int)))) = false := by
            simp only [Bool.or_eq_false_iff, decide_eq_false_iff_not]; omega
          have hin : ∀ x ∈ a2, 0 ≤ x ∧ x ≤ 20 := by
            intro x hx
            have := (List.any_eq_false.1 hbad') x hx
            unfold crBad at this
            simp only [Bool.or_eq_true, decide_eq_true_eq] at this
            omega
          obtain ⟨y, hy1, hy2⟩ := cr_loop a0 a1 a3 ht.2 hl a2 hlen hin
          have hck : ck ((a2.length : Int) ≤ 4294967296) = some () := ck_ok (by omega)
          simp [e1, hbad', c1, ht, slices_Clone_Lintint, hck, hy1, hy2, ref_Counted, ref_Ints_eq]
        · have c1 : ((decide (a3 < (0 : Int))) || (decide (a3 > (400 : Int)))) = true := by
            simp only [Bool.or_eq_true, decide_eq_true_eq]; omega
          simp [e1, hbad', c1, ht]
    · have e1 : ((a2.length : Int) != a0) = true := by simp [hlen]
      simp [e1]
  · have e0 : (ocAll a0 a1 != 0) = true := by simp [hz]
    have e1 : (ocAll a0 a1 == 0) = false := by simp [hz]
    simp [e0, e1, hz]

end Go.Proofs.Ytmongadolmofnaa.countRuns
namespace Go.Proofs.Ytmongadolmofnaa.countRuns
open Go.ChangeShapes Go.WideShapes Go.ChangeAt Go.RowKit
open Go.ChangeMaps (open_string shut_string)
theorem own : ownKnob Try.prog.godebug = none := by kernel_rfl
theorem laidOut : laidOutB Try.prog = true := by kernel_rfl
theorem lifted (os : Os) (started : os.Started) (H : Type) (enc : TypeId × Value → H) :
    ReturnsInHanded {} Try.checked os 10 .any (Rows.countRunsSpec.pre6 enc Try.prog Try.f10 Rows.countRunsRow.domain false) (Rows.countRunsSpec.post enc Try.prog Try.f10 false true false false) := by
  refine returnsInHanded_of_change (C := Try.checked) own started (by kernel_rfl) Try.func10
    (ChangeSpec.witness6 (enc := enc) (C := Try.checked) false ⟨#[], #[.int .i64 0, .slice none 0 0, .slice none 0 0, .int .i64 0], []⟩ 8 (by kernel_rfl) (by kernel_rfl) (by kernel_rfl) (by kernel_rfl)) ?_
  intro W base args ds gs before hval0 hW hcnd _
  have hval : ∀ (j : Nat) t v, Try.f10.params[j]? = some t → args[j]? = some v → Value.okWide Try.prog W .any base t v := hval0
  have hW' := hW
  obtain ⟨p, q, hA0, hV, rfl, hfz, hnd⟩ := hW
  have hA : DataW.TrodAll enc Try.prog W 0 (fun _ => true) true Try.f10.params.toList args.toList ds p := hA0
  rw [Try.params10] at hA hval
  obtain ⟨v0, vs0, d0, ds0, p0, q0, hargs, rfl, rfl, h0, r0⟩ := trodAll_cons hA
  obtain ⟨v1, vs1, d1, ds1, p1, q1, rfl, rfl, rfl, h1, r1⟩ := trodAll_cons r0
  obtain ⟨v2, vs2, d2, ds2, p2, q2, rfl, rfl, rfl, h2, r2⟩ := trodAll_cons r1
  obtain ⟨v3, vs3, d3, ds3, p3, q3, rfl, rfl, rfl, h3, r3⟩ := trodAll_cons r2
  obtain ⟨rfl, rfl, rfl⟩ := trodAll_nil r3
  obtain rfl : args = #[v0, v1, v2, v3] := by cases args; simp_all
  obtain ⟨rfl, rfl⟩ := trodVars_none hV
  obtain ⟨x0, f0, k0⟩ := Go.Sl.read_arg (u := (.int .i64)) (by kernel_rfl) (by kernel_rfl) (hval 0 3 v0 rfl rfl) h0
  have lt0 : ∀ x ∈ p0, x.block < W.heap.size := by obtain ⟨m, hm⟩ := h0; exact DataW.trod_lt m _ _ _ hm
  obtain ⟨x1, f1, k1⟩ := Go.Sl.read_arg (u := (.slice (.pair (.int .i64) (.pair (.int .i64) (.pair (.int .i64) (.int .i64)))))) (by kernel_rfl) (by kernel_rfl) (hval 1 42 v1 rfl rfl) h1
  have lt1 : ∀ x ∈ p1, x.block < W.heap.size := by obtain ⟨m, hm⟩ := h1; exact DataW.trod_lt m _ _ _ hm
  obtain ⟨x2, f2, k2⟩ := Go.Sl.read_arg (u := (.slice (.int .i64))) (by kernel_rfl) (by kernel_rfl) (hval 2 32 v2 rfl rfl) h2
  have lt2 : ∀ x ∈ p2, x.block < W.heap.size := by obtain ⟨m, hm⟩ := h2; exact DataW.trod_lt m _ _ _ hm
  obtain ⟨x3, f3, k3⟩ := Go.Sl.read_arg (u := (.int .i64)) (by kernel_rfl) (by kernel_rfl) (hval 3 3 v3 rfl rfl) h3
  have lt3 : ∀ x ∈ p3, x.block < W.heap.size := by obtain ⟨m, hm⟩ := h3; exact DataW.trod_lt m _ _ _ hm
  clear hA0 hval0
  obtain ⟨fuel, hm⟩ := CountRuns_true x0 x1 x2 x3 f0 f1 f2 f3
  refine (Go.Sl.law_of (vs := [v0, v1, v2, v3]) (law_CountRuns_ok hm) rfl (.cons (k0 _ _) (.cons (k1 _ _) (.cons (k2 _ _) (.cons (k3 _ _) .nil))))).mono fun e W' ⟨he, bel⟩ => ?_
  subst he
  exact ⟨_, rfl, _, _, _, [], _, [], hW', trodAll_mk1 (shut_bool Try.underlying4 _), (trodAll_cons_mk (Below.trod laidOut (by kernel_rfl) (of_decide_eq_true (by kernel_rfl)) h0 bel lt0) (trodAll_cons_mk (Below.trod laidOut (by kernel_rfl) (of_decide_eq_true (by kernel_rfl)) h1 bel lt1) (trodAll_cons_mk (Below.trod laidOut (by kernel_rfl) (of_decide_eq_true (by kernel_rfl)) h2 bel lt2) (trodAll_cons_mk (Below.trod laidOut (by kernel_rfl) (of_decide_eq_true (by kernel_rfl)) h3 bel lt3) trodAll_mk0)))), rfl, bel.frame _, fun h => by cases h⟩
theorem proved : Rows.CountRunsSaid :=
  OpenClaim.holds_of_wide 10 Try.f10 rfl rfl rfl rfl rfl rfl rfl ⟨rfl, rfl, rfl, rfl, rfl⟩ rfl rfl rfl rfl rfl (by kernel_rfl) Try.func10 (by kernel_rfl)
    (of_decide_eq_true (by kernel_rfl)) (by unfold Func.isWrapper; first | (rw [if_pos (by decide +kernel)]; kernel_rfl) | (rw [if_neg (by decide +kernel)]; exact ⟨rfl, rfl⟩))
    (fun os started H enc _ => lifted os started H enc)
#print axioms proved
end Go.Proofs.Ytmongadolmofnaa.countRuns
