/- For any machine, input and steps cross.All returns the specified results, one list for each border: CrossAlls returns true and changes nothing; no conditions. -/
import Derived.Test.YtnblafiefaalgaaRows
import Derived.WalkKit
import Derived.ProofKit
import Derived.OpenShut
import Derived.ShutString
import Derived.ChangeOld
import Derived.Below
import Derived.Test.YtnblafiefaalgaaCrossAllsM2
set_option linter.all false
set_option maxRecDepth 100000
namespace Go.Proofs.Ytnblafiefaalgaa.crossAlls
open Go Go.Sl

theorem inside1 (n v : Int) : ref_Inside n [v] = some (decide (0 ≤ v ∧ v < n)) := by
  unfold ref_Inside
  rw [forL_ex (p := fun v => decide (v < 0) || decide (v ≥ n)) (y := Esc.ret false) (fun i a _ => by unfold ref_Inside_b1; cases (decide (a < 0) || decide (a ≥ n)) <;> rfl)]
  by_cases h : 0 ≤ v ∧ v < n
  · have : (decide (v < 0) || decide (v ≥ n)) = false := by simp only [Bool.or_eq_false_iff, decide_eq_false_iff_not]; omega
    simp [this, h]
  · have : (decide (v < 0) || decide (v ≥ n)) = true := by simp only [Bool.or_eq_true, decide_eq_true_eq]; omega
    simp [this, h]

theorem within_eq (a b c : Int) : ref_Within a b c = some (decide (a ≤ b ∧ b ≤ c)) := by
  unfold ref_Within
  rw [Bool.decide_and]

def tpRule (S G : Int) (r : Int × Int × Int) : Option Int :=
  bif !decide (0 ≤ r.1 ∧ r.1 < G) then some 2 else bif !decide (-1 ≤ r.2.1 ∧ r.2.1 ≤ 1) then some 4 else bif !decide (0 ≤ r.2.2 ∧ r.2.2 ≤ S) then some 2 else none
def tpLen (G : Int) (l : List (Int × Int × Int)) : Bool := (l.length : Int) != G
def tpAll (m : Int × Int × List (List (Int × Int × Int))) : Int :=
  bif !(decide (1 ≤ m.1 ∧ m.1 ≤ 5) && decide (2 ≤ m.2.1 ∧ m.2.1 ≤ 4)) then 1 else bif (m.2.2.length : Int) != m.1 then 3 else bif m.2.2.any (tpLen m.2.1) then 3 else
    (m.2.2.findSome? fun l => l.findSome? (tpRule m.1 m.2.1)).getD 0
theorem tp_lens (m : Int × Int × List (List (Int × Int × Int))) (l : List (List (Int × Int × Int))) : slices_ContainsFunc_LLapiRuleLapiRule_with_tape_Check_1 l m = some (l.any (tpLen m.2.1)) := by
  unfold slices_ContainsFunc_LLapiRuleLapiRule_with_tape_Check_1 slices_IndexFunc_LLapiRuleLapiRule_with_tape_Check_1
  rcases forL_at (body := slices_IndexFunc_LLapiRuleLapiRule_with_tape_Check_1_b1 m) (fin := fun _ => (Esc.brk () : Esc Int Unit)) (p := tpLen m.2.1) (g := fun j => Esc.ret j) (l := l)
    (fun i a _ => by unfold slices_IndexFunc_LLapiRuleLapiRule_with_tape_Check_1_b1 tape_Check_1 tpLen; cases ((List.length a : Int) != m.2.1) <;> rfl) (i := 0) with ⟨h1, h2⟩ | ⟨h1, j, h2, h3, h4⟩
  · rw [h2, h1]; rfl
  · rw [h4, h1]
    simp [h2]
theorem tp_row (m : Int × Int × List (List (Int × Int × Int))) (i : Int) (l : List (Int × Int × Int)) : tape_Check_b40 m i l () = some (said Esc.ret (l.findSome? (tpRule m.1 m.2.1))) := by
  unfold tape_Check_b40
  rw [forL_find (f := tpRule m.1 m.2.1) (g := Esc.ret) (fun i a _ => by
    unfold tape_Check_b36 tpRule
    have e1 : (bif decide (a.1 < (0 : Int)) then (some true) else (some (decide (a.1 ≥ m.2.1)))) = some (!decide (0 ≤ a.1 ∧ a.1 < m.2.1)) := by
      rw [bif_some]; congr 1
      by_cases h : a.1 < 0
      · simp [h]
      · simp only [h, Int.not_lt.1 h, decide_false, cond_false, true_and, not_dec]; exact decide_eq_decide.2 (by omega)
    have e2 : (bif decide (a.2.1 < (-1 : Int)) then (some true) else (some (decide (a.2.1 > (1 : Int))))) = some (!decide (-1 ≤ a.2.1 ∧ a.2.1 ≤ 1)) := by
      rw [bif_some]; congr 1
      by_cases h : a.2.1 < -1
      · simp [h]
      · simp only [h, Int.not_lt.1 h, decide_false, cond_false, true_and, not_dec]; exact decide_eq_decide.2 (by omega)
    have e3 : (bif decide (a.2.2 < (0 : Int)) then (some true) else (some (decide (a.2.2 > m.1)))) = some (!decide (0 ≤ a.2.2 ∧ a.2.2 ≤ m.1)) := by
      rw [bif_some]; congr 1
      by_cases h : a.2.2 < 0
      · simp [h]
      · simp only [h, Int.not_lt.1 h, decide_false, cond_false, true_and, not_dec]; exact decide_eq_decide.2 (by omega)
    rw [e1, e2, e3]
    cases decide (0 ≤ a.1 ∧ a.1 < m.2.1) <;> cases decide (-1 ≤ a.2.1 ∧ a.2.1 ≤ 1) <;> cases decide (0 ≤ a.2.2 ∧ a.2.2 ≤ m.1) <;> rfl)]
  cases l.findSome? (tpRule m.1 m.2.1) <;> rfl
theorem tp_rrow (m : Int × Int × List (List (Int × Int × Int))) (hm : 1 ≤ m.1 ∧ m.1 ≤ 5) (i : Int) (l : List (Int × Int × Int)) : ref_MachineCheck_b15 m i l () = some (said Esc.ret (l.findSome? (tpRule m.1 m.2.1))) := by
  unfold ref_MachineCheck_b15
  rw [forL_find (f := tpRule m.1 m.2.1) (g := Esc.ret) (fun i a _ => by
    unfold ref_MachineCheck_b11 tpRule
    rw [inside1, within_eq, inside1, w64_id (by omega) (by omega)]
    have e3 : decide (0 ≤ a.2.2 ∧ a.2.2 < m.1 + 1) = decide (0 ≤ a.2.2 ∧ a.2.2 ≤ m.1) := decide_eq_decide.2 (by omega)
    rw [e3]
    cases decide (0 ≤ a.1 ∧ a.1 < m.2.1) <;> cases decide (-1 ≤ a.2.1 ∧ a.2.1 ≤ 1) <;> cases decide (0 ≤ a.2.2 ∧ a.2.2 ≤ m.1) <;> rfl)]
  cases l.findSome? (tpRule m.1 m.2.1) <;> rfl
theorem tp_check (m : Int × Int × List (List (Int × Int × Int))) : tape_Check m = some (tpAll m) := by
  unfold tape_Check tape_Check_g1 tpAll
  have e : (bif decide (m.1 < (1 : Int)) then (some true) else (bif decide (m.1 > (5 : Int)) then (some true) else (bif decide (m.2.1 < (2 : Int)) then (some true) else (some (decide (m.2.1 > (4 : Int))))))) =
      some (!(decide (1 ≤ m.1 ∧ m.1 ≤ 5) && decide (2 ≤ m.2.1 ∧ m.2.1 ≤ 4))) := by
    by_cases h1 : m.1 < 1
    · have : ¬ (1 ≤ m.1 ∧ m.1 ≤ 5) := by omega
      simp [h1, this]
    · by_cases h2 : m.1 > 5
      · have : ¬ (1 ≤ m.1 ∧ m.1 ≤ 5) := by omega
        simp [h1, h2, this]
      · have h3 : 1 ≤ m.1 ∧ m.1 ≤ 5 := by omega
        by_cases h4 : m.2.1 < 2
        · have : ¬ (2 ≤ m.2.1 ∧ m.2.1 ≤ 4) := by omega
          simp [h1, h2, h4, this]
        · have : (decide (m.2.1 > 4)) = !decide (2 ≤ m.2.1 ∧ m.2.1 ≤ 4) := by rw [not_dec]; exact decide_eq_decide.2 (by omega)
          simp only [h1, h2, h4, decide_false, cond_false, h3, decide_true, Bool.true_and, this, and_self]
  rw [e, bind_some', tp_lens]
  rw [forL_find (f := fun l => l.findSome? (tpRule m.1 m.2.1)) (g := Esc.ret) (fun i a _ => tp_row m i a)]
  cases (!(decide (1 ≤ m.1 ∧ m.1 ≤ 5) && decide (2 ≤ m.2.1 ∧ m.2.1 ≤ 4))) <;> cases ((List.length m.2.2 : Int) != m.1) <;> cases m.2.2.any (tpLen m.2.1) <;>
    cases (m.2.2.findSome? fun l => l.findSome? (tpRule m.1 m.2.1)) <;> rfl
theorem tp_rcheck (m : Int × Int × List (List (Int × Int × Int))) : ref_MachineCheck m = some (tpAll m) := by
  unfold ref_MachineCheck tpAll
  rw [within_eq, within_eq, bind_some', bind_some']
  by_cases h1 : 1 ≤ m.1 ∧ m.1 ≤ 5
  · by_cases h2 : 2 ≤ m.2.1 ∧ m.2.1 ≤ 4
    · rw [forL_ex (p := tpLen m.2.1) (y := Esc.ret 3) (fun i a _ => by unfold ref_MachineCheck_b1 tpLen; cases ((List.length a : Int) != m.2.1) <;> rfl)]
      rw [forL_find (f := fun l => l.findSome? (tpRule m.1 m.2.1)) (g := Esc.ret) (fun i a _ => tp_rrow m h1 i a)]
      simp only [h1, h2, and_self, decide_true, Bool.not_true, cond_false, Bool.and_self, bind_some']
      cases ((List.length m.2.2 : Int) != m.1) <;> cases m.2.2.any (tpLen m.2.1) <;> cases (m.2.2.findSome? fun l => l.findSome? (tpRule m.1 m.2.1)) <;> rfl
    · simp [h1, h2, decide_eq_false h2]
  · simp [decide_eq_false h1]
theorem tp_ok {m : Int × Int × List (List (Int × Int × Int))} (h : tpAll m = 0) : (1 ≤ m.1 ∧ m.1 ≤ 5) ∧ (2 ≤ m.2.1 ∧ m.2.1 ≤ 4) ∧ (m.2.2.length : Int) = m.1 ∧ ∀ l ∈ m.2.2, (l.length : Int) = m.2.1 ∧ ∀ r ∈ l, (0 ≤ r.1 ∧ r.1 < m.2.1) ∧ (-1 ≤ r.2.1 ∧ r.2.1 ≤ 1) ∧ (0 ≤ r.2.2 ∧ r.2.2 ≤ m.1) := by
  unfold tpAll at h
  cases hc : (!(decide (1 ≤ m.1 ∧ m.1 ≤ 5) && decide (2 ≤ m.2.1 ∧ m.2.1 ≤ 4))) with
  | true => rw [hc] at h; cases h
  | false =>
    rw [hc] at h
    cases hl : ((List.length m.2.2 : Int) != m.1) with
    | true => rw [hl] at h; cases h
    | false =>
      rw [hl] at h
      cases ha : m.2.2.any (tpLen m.2.1) with
      | true => rw [ha] at h; cases h
      | false =>
        rw [ha] at h
        simp only [cond_false] at h
        simp only [Bool.not_eq_false', Bool.and_eq_true, decide_eq_true_eq] at hc
        refine ⟨hc.1, hc.2, by simpa using hl, fun l hm => ?_⟩
        have hlen := List.any_eq_false.1 ha l hm
        refine ⟨by unfold tpLen at hlen; simpa using hlen, fun r hr => ?_⟩
        have hval : ∀ (r : Int × Int × Int) e, tpRule m.1 m.2.1 r = some e → e ≠ 0 := by
          intro r e he h0
          subst h0
          unfold tpRule at he
          cases h1 : !decide (0 ≤ r.1 ∧ r.1 < m.2.1) <;> cases h2 : !decide (-1 ≤ r.2.1 ∧ r.2.1 ≤ 1) <;> cases h3 : !decide (0 ≤ r.2.2 ∧ r.2.2 ≤ m.1) <;> rw [h1, h2, h3] at he <;> simp at he
        cases hf : m.2.2.findSome? fun l => l.findSome? (tpRule m.1 m.2.1) with
        | some e =>
          rw [hf] at h
          obtain ⟨l', _, hl'⟩ := List.exists_of_findSome?_eq_some hf
          obtain ⟨r', _, hr'⟩ := List.exists_of_findSome?_eq_some hl'
          exact (hval r' e hr' h).elim
        | none =>
          have h1 := List.findSome?_eq_none_iff.1 hf l hm
          have h2 := List.findSome?_eq_none_iff.1 h1 r hr
          unfold tpRule at h2
          cases h3 : !decide (0 ≤ r.1 ∧ r.1 < m.2.1) with
          | true => rw [h3] at h2; cases h2
          | false =>
            rw [h3] at h2
            cases h4 : !decide (-1 ≤ r.2.1 ∧ r.2.1 ≤ 1) with
            | true => rw [h4] at h2; cases h2
            | false =>
              rw [h4] at h2
              cases h5 : !decide (0 ≤ r.2.2 ∧ r.2.2 ≤ m.1) with
              | true => rw [h5] at h2; cases h2
              | false =>
                simp only [Bool.not_eq_false', decide_eq_true_eq] at h3 h4 h5
                exact ⟨h3, h4, h5⟩

theorem ref_Ints_eq (a b : List Int) : ref_Ints a b = some (decide (a = b)) := by
  unfold ref_Ints
  rw [len_ne]
  by_cases h : a.length = b.length
  · rw [forL_eqs (q := b) (fun n a c hc => by
      unfold ref_Ints_b1
      rw [idx_nat, hc]
      by_cases h : a = c <;> simp [h, bne_dec]) h]
    by_cases h2 : a = b <;> simp [h2, h]
  · have : ¬ a = b := fun e => h (by rw [e])
    simp [h, this]

theorem mget_mput {α β : Type} {eq : α → α → Bool} [DecidableEq α] (heq : ∀ a b, eq a b = true ↔ a = b) : ∀ (l : List (α × β)) (x : α) (y : β) (z : α), mGet eq (mPut eq l x y) z = if z = x then some y else mGet eq l z
  | [], x, y, z => by
    by_cases h : z = x
    · simp [mPut, mGet, h, (heq x x).2 rfl]
    · have : eq z x = false := by cases hh : eq z x with | false => rfl | true => exact (h ((heq _ _).1 hh)).elim
      simp [mPut, mGet, h, this]
  | p :: l, x, y, z => by
    have hf : ∀ {a b}, a ≠ b → eq a b = false := by
      intro a b h
      cases hh : eq a b with | false => rfl | true => exact (h ((heq _ _).1 hh)).elim
    by_cases hp : x = p.1
    · have e1 : eq x p.1 = true := (heq _ _).2 hp
      by_cases h : z = x
      · simp [mPut, mGet, e1, h, (heq x x).2 rfl]
      · simp [mPut, mGet, e1, h, hf h, hf (fun e => h (e.trans hp.symm))]
    · have e1 : eq x p.1 = false := hf hp
      by_cases hz : z = p.1
      · have e2 : eq z p.1 = true := (heq _ _).2 hz
        have hzx : z ≠ x := fun e => hp (e ▸ hz)
        simp [mPut, mGet, e1, e2, hzx]
      · simp only [mPut, e1, Bool.false_eq_true, if_false, mGet, hf hz]
        exact mget_mput heq l x y z
theorem deqI {k : IntKind} (a b : Int) : deqT (.int k) a b = true ↔ a = b := by simp [deqT]

theorem mget_none_iff {α β : Type} {eq : α → α → Bool} (heq : ∀ a b, eq a b = true ↔ a = b) : ∀ (l : List (α × β)) (x : α), mGet eq l x = none ↔ x ∉ l.map (·.1)
  | [], x => by simp [mGet]
  | p :: l, x => by
    by_cases h : x = p.1
    · simp [mGet, h, (heq _ _).2 rfl]
    · have : eq x p.1 = false := by cases hh : eq x p.1 with | false => rfl | true => exact (h ((heq _ _).1 hh)).elim
      simp only [mGet, this, Bool.false_eq_true, if_false, List.map_cons, List.mem_cons, not_or]
      rw [mget_none_iff heq l x]
      exact ⟨fun h2 => ⟨h, h2⟩, fun h2 => h2.2⟩
theorem mput_keys {α β : Type} {eq : α → α → Bool} [DecidableEq α] (heq : ∀ a b, eq a b = true ↔ a = b) : ∀ (l : List (α × β)) (x : α) (y : β), (mPut eq l x y).map (·.1) = if x ∈ l.map (·.1) then l.map (·.1) else l.map (·.1) ++ [x]
  | [], x, y => by simp [mPut]
  | p :: l, x, y => by
    by_cases h : x = p.1
    · simp [mPut, h, (heq _ _).2 rfl]
    · have : eq x p.1 = false := by cases hh : eq x p.1 with | false => rfl | true => exact (h ((heq _ _).1 hh)).elim
      simp only [mPut, this, Bool.false_eq_true, if_false, List.map_cons, List.mem_cons, h, false_or]
      rw [mput_keys heq l x y]
      split <;> rfl
theorem mput_nodup {α β : Type} {eq : α → α → Bool} [DecidableEq α] (heq : ∀ a b, eq a b = true ↔ a = b) {l : List (α × β)} (h : (l.map (·.1)).Nodup) (x : α) (y : β) : ((mPut eq l x y).map (·.1)).Nodup := by
  rw [mput_keys heq]
  split
  · exact h
  · rename_i hx
    rw [List.nodup_append]
    refine ⟨h, by simp, ?_⟩
    intro a ha b hb e
    simp at hb
    subst hb; subst e; exact hx ha
theorem mdel_sub {α β : Type} {eq : α → α → Bool} : ∀ (l : List (α × β)) (x : α), (mDel eq l x).Sublist l
  | [], x => by simp [mDel]
  | p :: l, x => by
    unfold mDel
    split
    · exact List.sublist_cons_self _ _
    · exact (mdel_sub l x).cons_cons p
theorem mdel_nodup {α β : Type} {eq : α → α → Bool} {l : List (α × β)} (h : (l.map (·.1)).Nodup) (x : α) : ((mDel eq l x).map (·.1)).Nodup := h.sublist ((mdel_sub l x).map _)
theorem mget_mdel {α β : Type} {eq : α → α → Bool} [DecidableEq α] (heq : ∀ a b, eq a b = true ↔ a = b) : ∀ (l : List (α × β)) (x z : α), (l.map (·.1)).Nodup → mGet eq (mDel eq l x) z = if z = x then none else mGet eq l z
  | [], x, z, _ => by simp [mDel, mGet]
  | p :: l, x, z, hn => by
    have hf : ∀ {a b}, a ≠ b → eq a b = false := by
      intro a b h
      cases hh : eq a b with | false => rfl | true => exact (h ((heq _ _).1 hh)).elim
    simp only [List.map_cons, List.nodup_cons] at hn
    by_cases hx : x = p.1
    · have e1 : eq x p.1 = true := (heq _ _).2 hx
      simp only [mDel, e1, if_true, mGet]
      by_cases hz : z = x
      · rw [if_pos hz]
        exact (mget_none_iff heq l z).2 (by rw [hz, hx]; exact hn.1)
      · rw [if_neg hz, hf (fun e => hz (e.trans hx.symm))]; rfl
    · simp only [mDel, hf hx, Bool.false_eq_true, if_false, mGet]
      by_cases hz : z = p.1
      · rw [(heq _ _).2 hz, if_pos rfl, if_pos rfl, if_neg (fun e => hx (e.symm.trans hz))]
      · rw [hf hz]
        simp only [Bool.false_eq_true, if_false]
        exact mget_mdel heq l x z hn.2

abbrev Mc : Type := Int × (Int × (List (List (Int × (Int × Int)))))
/-- the sign at a place: of a list of places that were written, the last one counts -/
def sg (t : List (Int × Int)) (z : Int) : Int := t.foldl (fun s x => if x.1 = z then x.2 else s) 0
theorem sg_snoc (t : List (Int × Int)) (p : Int × Int) (z : Int) : sg (t ++ [p]) z = if p.1 = z then p.2 else sg t z := by
  unfold sg; rw [List.foldl_append]; rfl
theorem sg_mem (z : Int) : ∀ t : List (Int × Int), sg t z ≠ 0 → z ∈ t.map (·.1) := by
  intro t
  induction t using snoc_ind with
  | h0 => intro h; exact (h rfl).elim
  | h1 t p ih =>
    rw [sg_snoc]
    intro h
    rw [List.map_append]
    by_cases e : p.1 = z
    · exact List.mem_append_right _ (by simp [e])
    · rw [if_neg e] at h
      exact List.mem_append_left _ (ih h)
theorem sg_val {G : Int} (hG : 0 < G) (z : Int) : ∀ t : List (Int × Int), (∀ p ∈ t, 0 ≤ p.2 ∧ p.2 < G) → 0 ≤ sg t z ∧ sg t z < G := by
  intro t
  induction t using snoc_ind with
  | h0 => intro _; exact ⟨Int.le_refl _, hG⟩
  | h1 t p ih =>
    intro h
    rw [sg_snoc]
    split
    · exact h p (by simp)
    · exact ih (fun q hq => h q (by simp [hq]))
def eqI : Int → Int → Bool := deqT tI
theorem eqI_iff (a b : Int) : eqI a b = true ↔ a = b := by unfold eqI; exact deqI a b
/-- a map of signs that are not blank, and a list of places that were written -/
structure TI (G B : Int) (l t : List (Int × Int)) : Prop where
  nd : (l.map (·.1)).Nodup
  nz : ∀ p ∈ l, p.2 ≠ 0
  at_ : ∀ z, (mGet eqI l z).getD 0 = sg t z
  val : ∀ p ∈ t, 0 ≤ p.2 ∧ p.2 < G
  pos : ∀ p ∈ t, -B ≤ p.1 ∧ p.1 ≤ B
theorem mget_mem {l : List (Int × Int)} {z v : Int} (h : mGet eqI l z = some v) : (z, v) ∈ l := by
  induction l with
  | nil => simp [mGet] at h
  | cons p l ih =>
    rw [mGet] at h
    split at h
    · rename_i e
      have := (eqI_iff _ _).1 e
      simp only [Option.some.injEq] at h
      subst this h
      simp
    · exact List.mem_cons_of_mem _ (ih h)
theorem ti_keys {G B : Int} {l t : List (Int × Int)} (h : TI G B l t) (z : Int) : z ∈ l.map (·.1) ↔ sg t z ≠ 0 := by
  rw [← h.at_ z]
  have hn := mget_none_iff eqI_iff l z
  cases hg : mGet eqI l z with
  | none =>
    have := hn.1 hg
    simp [this]
  | some v =>
    have h1 : ¬ z ∉ l.map (·.1) := fun hh => by rw [hn.2 hh] at hg; cases hg
    have := h.nz _ (mget_mem hg)
    simp only [Option.getD_some]
    exact ⟨fun _ => this, fun _ => Classical.not_not.1 h1⟩
theorem ti_put {G B : Int} {l t : List (Int × Int)} (h : TI G B l t) {a s : Int} (hs : 0 ≤ s ∧ s < G) (ha : -B ≤ a ∧ a ≤ B) : ∃ l', tape_Tape_Put a s (some l) = some (some l') ∧ TI G B l' (t ++ [(a, s)]) := by
  have hval : ∀ p ∈ t ++ [(a, s)], 0 ≤ p.2 ∧ p.2 < G := by
    intro p hp
    rcases List.mem_append.1 hp with hp | hp
    · exact h.val p hp
    · obtain rfl : p = (a, s) := by simpa using hp
      exact hs
  have hpos : ∀ p ∈ t ++ [(a, s)], -B ≤ p.1 ∧ p.1 ≤ B := by
    intro p hp
    rcases List.mem_append.1 hp with hp | hp
    · exact h.pos p hp
    · obtain rfl : p = (a, s) := by simpa using hp
      exact ha
  unfold tape_Tape_Put
  by_cases e : s = 0
  · rw [show (s == (0 : Int)) = true by simp [e], cond_true]
    refine ⟨mDel eqI l a, rfl, mdel_nodup h.nd a, fun p hp => h.nz p ((mdel_sub l a).subset hp), fun z => ?_, hval, hpos⟩
    rw [mget_mdel eqI_iff l a z h.nd, sg_snoc]
    by_cases e2 : z = a
    · rw [if_pos e2, if_pos (by rw [e2]), e]; rfl
    · rw [if_neg e2, if_neg (fun q => e2 q.symm)]; exact h.at_ z
  · rw [show (s == (0 : Int)) = false by simp [e], cond_false]
    refine ⟨mPut eqI l a s, rfl, mput_nodup eqI_iff h.nd a s, fun p hp => ?_, fun z => ?_, hval, hpos⟩
    · -- no blank comes in
      have key : ∀ (l : List (Int × Int)) , (∀ p ∈ l, p.2 ≠ 0) → ∀ p ∈ mPut eqI l a s, p.2 ≠ 0 := by
        intro l
        induction l with
        | nil => intro _ p hp; obtain rfl : p = (a, s) := by simpa [mPut] using hp
                 exact e
        | cons q l ih =>
          intro hl p hp
          rw [mPut] at hp
          split at hp
          · rcases List.mem_cons.1 hp with rfl | hp
            · exact e
            · exact hl p (by simp [hp])
          · rcases List.mem_cons.1 hp with rfl | hp
            · exact hl p (by simp)
            · exact ih (fun x hx => hl x (by simp [hx])) p hp
      exact key l h.nz p hp
    · rw [mget_mput eqI_iff, sg_snoc]
      by_cases e2 : z = a
      · rw [if_pos e2, if_pos (by rw [e2])]; rfl
      · rw [if_neg e2, if_neg (fun q => e2 q.symm)]; exact h.at_ z
theorem ti_nil (G B : Int) : TI G B [] [] := ⟨by simp, by simp, fun z => rfl, by simp, by simp⟩
theorem sign_eq (t : List (Int × Int)) (z : Int) : ref_Sign z t = some (sg t z) := by
  unfold ref_Sign
  rw [forL_fold (g := fun (s : Int) (x : Int × Int) => if x.1 = z then x.2 else s) (fun i a x _ => by
    unfold ref_Sign_b4
    by_cases e : a.1 = z
    · rw [show (a.1 == z) = true by simp [e], if_pos e]; rfl
    · rw [show (a.1 == z) = false by simp [e], if_neg e]; rfl)]
  rfl
/-- a machine as it may be -/
def okM (m : Mc) : Prop := (1 ≤ m.1 ∧ m.1 ≤ 5) ∧ (2 ≤ m.2.1 ∧ m.2.1 ≤ 4) ∧ (m.2.2.length : Int) = m.1 ∧ ∀ l ∈ m.2.2, (l.length : Int) = m.2.1 ∧ ∀ r ∈ l, (0 ≤ r.1 ∧ r.1 < m.2.1) ∧ (-1 ≤ r.2.1 ∧ r.2.1 ≤ 1) ∧ (0 ≤ r.2.2 ∧ r.2.2 ≤ m.1)
theorem rule_of {m : Mc} (h : okM m) {G B : Int} (hG : G = m.2.1) {l t : List (Int × Int)} (ht : TI G B l t) {st h0 : Int} (hs : 0 ≤ st ∧ st < m.1) : ∃ row r, idx m.2.2 st = some row ∧ idx row (sg t h0) = some r ∧ (0 ≤ r.1 ∧ r.1 < G) ∧ (-1 ≤ r.2.1 ∧ r.2.1 ≤ 1) ∧ (0 ≤ r.2.2 ∧ r.2.2 ≤ m.1) := by
  obtain ⟨h1, h2, h3, h4⟩ := h
  subst hG
  obtain ⟨row, r1, r2⟩ := idx_get (xs := m.2.2) hs.1 (by omega)
  obtain ⟨k1, k2⟩ := h4 row (List.mem_of_getElem? r2)
  have hv := sg_val (G := m.2.1) (by omega) h0 t ht.val
  obtain ⟨r, q1, q2⟩ := idx_get (xs := row) hv.1 (by omega)
  obtain ⟨g1, g2, g3⟩ := k2 r (List.mem_of_getElem? q2)
  exact ⟨row, r, r1, q1, g1, g2, g3⟩
theorem step_eq {m : Mc} {B : Int} (hB : B ≤ 100000) {l t : List (Int × Int)} (ht : TI m.2.1 B l t) {st h0 : Int} (hh : -B ≤ h0 ∧ h0 ≤ B) {row : List (Int × Int × Int)} {r : Int × Int × Int} (h1 : idx m.2.2 st = some row) (h2 : idx row (sg t h0) = some r) (h3 : 0 ≤ r.1 ∧ r.1 < m.2.1) (h4 : -1 ≤ r.2.1 ∧ r.2.1 ≤ 1) :
    ∃ l', tape_Step m st h0 (some l) = some (r.2.2, h0 + r.2.1, some l') ∧ TI m.2.1 B l' (t ++ [(h0, r.1)]) := by
  obtain ⟨l', p1, p2⟩ := ti_put ht (a := h0) (s := r.1) h3 hh
  refine ⟨l', ?_, p2⟩
  have hg : Option.getD (mGet (deqT tI) (Option.getD (some l) []) h0) (0 : Int) = sg t h0 := ht.at_ h0
  unfold tape_Step
  rw [h1, bind_some', hg, h2, bind_some', p1, bind_some', w64_id (by omega) (by omega)]

theorem perm_fold {α X : Type} {g : X → α → X} (hc : ∀ x p q, g (g x p) q = g (g x q) p) {l l' : List α} (h : List.Perm l' l) : ∀ x, l'.foldl g x = l.foldl g x := by
  induction h with
  | nil => intro x; rfl
  | cons a _ ih => intro x; exact ih _
  | swap a b l => intro x; simp only [List.foldl_cons]; rw [hc]
  | trans _ _ ih1 ih2 => intro x; rw [ih1, ih2]
theorem rangeM_fold {α X : Type} {b : α → X → Option X} {g : X → α → X} {l : List α} {x : X} (hc : ∀ x p q, g (g x p) q = g (g x q) p) (hb : ∀ l', List.Perm l' l → forR b l' x = some (l'.foldl g x)) : rangeM b l x = some (l.foldl g x) := by
  unfold rangeM
  rw [if_pos]
  · exact hb l (List.Perm.refl l)
  · intro l' hl
    rw [hb l' hl, hb l (List.Perm.refl l), perm_fold hc hl]
theorem forR_all {α X : Type} {b : α → X → Option X} {g : X → α → X} : ∀ (l : List α) (x : X), (∀ p ∈ l, ∀ x, b p x = some (g x p)) → forR b l x = some (l.foldl g x)
  | [], x, _ => rfl
  | a :: l, x, h => by
    rw [forR, h a List.mem_cons_self, Option.bind_some]
    exact forR_all l _ fun p hp => h p (List.mem_cons_of_mem _ hp)
theorem forR_sum {α : Type} {b : α → Int → Option Int} {f : α → Int} : ∀ (l : List α) (x : Int), (∀ p ∈ l, 0 ≤ f p ∧ f p ≤ 6) → 0 ≤ x → x + 6 * l.length ≤ 1000000 → (∀ p ∈ l, ∀ x, 0 ≤ x → x ≤ 1000000 → b p x = some (x + f p)) → forR b l x = some (l.foldl (fun x p => x + f p) x)
  | [], x, _, _, _, _ => rfl
  | a :: l, x, h1, h2, h3, h4 => by
    have ha := h1 a List.mem_cons_self
    simp only [List.length_cons] at h3
    rw [forR, h4 a List.mem_cons_self x h2 (by omega), Option.bind_some]
    exact forR_sum l _ (fun p hp => h1 p (List.mem_cons_of_mem _ hp)) (by omega) (by omega) fun p hp => h4 p (List.mem_cons_of_mem _ hp)
theorem foldl_add {α : Type} (f : α → Int) : ∀ (l : List α) (x : Int), l.foldl (fun x p => x + f p) x = x + (l.map f).sum
  | [], x => by simp
  | a :: l, x => by
    rw [List.foldl_cons, foldl_add f l, List.map_cons, List.sum_cons]; omega
/-- the greatest of some -/
def fmax {α : Type} (c : α → Bool) (f : α → Int) (l : List α) (x : Int) : Int := l.foldl (fun x p => if c p = true ∧ x < f p then f p else x) x
theorem fmax_ge {α : Type} (c : α → Bool) (f : α → Int) : ∀ (l : List α) (x : Int), x ≤ fmax c f l x
  | [], x => by simp [fmax]
  | a :: l, x => by
    have := fmax_ge c f l (if c a = true ∧ x < f a then f a else x)
    simp only [fmax, List.foldl_cons] at this ⊢
    by_cases h : c a = true ∧ x < f a
    · rw [if_pos h] at this ⊢; omega
    · rw [if_neg h] at this ⊢; omega
theorem fmax_le {α : Type} (c : α → Bool) (f : α → Int) : ∀ (l : List α) (x : Int) (p : α), p ∈ l → c p = true → f p ≤ fmax c f l x
  | [], x, p, h, _ => by simp at h
  | a :: l, x, p, h, hc => by
    rcases List.mem_cons.1 h with rfl | h
    · have := fmax_ge c f l (if c p = true ∧ x < f p then f p else x)
      simp only [fmax, List.foldl_cons] at this ⊢
      by_cases hx : x < f p
      · rw [if_pos ⟨hc, hx⟩] at this ⊢; exact this
      · rw [if_neg (fun e => hx e.2)] at this ⊢; omega
    · have := fmax_le c f l (if c a = true ∧ x < f a then f a else x) p h hc
      exact this
theorem fmax_of {α : Type} (c : α → Bool) (f : α → Int) : ∀ (l : List α) (x : Int), fmax c f l x = x ∨ ∃ p ∈ l, c p = true ∧ fmax c f l x = f p
  | [], x => Or.inl rfl
  | a :: l, x => by
    have e : fmax c f (a :: l) x = fmax c f l (if c a = true ∧ x < f a then f a else x) := rfl
    rw [e]
    rcases fmax_of c f l (if c a = true ∧ x < f a then f a else x) with h | ⟨p, hp, hc, h⟩
    · by_cases hx : c a = true ∧ x < f a
      · rw [if_pos hx] at h ⊢; exact Or.inr ⟨a, List.mem_cons_self, hx.1, h⟩
      · rw [if_neg hx] at h ⊢; exact Or.inl h
    · exact Or.inr ⟨p, List.mem_cons_of_mem _ hp, hc, h⟩
theorem fmax_eq {α β : Type} {c : α → Bool} {f : α → Int} {c' : β → Bool} {f' : β → Int} {l : List α} {l' : List β} {x : Int} (h1 : ∀ p ∈ l, c p = true → ∃ q ∈ l', c' q = true ∧ f' q = f p) (h2 : ∀ q ∈ l', c' q = true → ∃ p ∈ l, c p = true ∧ f p = f' q) : fmax c f l x = fmax c' f' l' x := by
  apply Int.le_antisymm
  · rcases fmax_of c f l x with h | ⟨p, hp, hc, h⟩
    · rw [h]; exact fmax_ge _ _ _ _
    · obtain ⟨q, hq, hc', e⟩ := h1 p hp hc
      rw [h, ← e]; exact fmax_le _ _ _ _ _ hq hc'
  · rcases fmax_of c' f' l' x with h | ⟨p, hp, hc, h⟩
    · rw [h]; exact fmax_ge _ _ _ _
    · obtain ⟨q, hq, hc', e⟩ := h2 p hp hc
      rw [h, ← e]; exact fmax_le _ _ _ _ _ hq hc'

/-- the least and the greatest of numbers, beside two that are there -/
def mmS (x : Int × Int) (k : Int) : Int × Int := (imin x.1 k, imax x.2 k)
theorem mm_comm (x : Int × Int) (p q : Int) : mmS (mmS x p) q = mmS (mmS x q) p := by
  unfold mmS imin imax
  simp only [Prod.mk.injEq]
  constructor
  · repeat' split
    all_goals omega
  · repeat' split
    all_goals omega
theorem mm_spec : ∀ (ks : List Int) (x : Int × Int), ((ks.foldl mmS x).1 ≤ x.1 ∧ (∀ k ∈ ks, (ks.foldl mmS x).1 ≤ k) ∧ ((ks.foldl mmS x).1 = x.1 ∨ (ks.foldl mmS x).1 ∈ ks)) ∧
    (x.2 ≤ (ks.foldl mmS x).2 ∧ (∀ k ∈ ks, k ≤ (ks.foldl mmS x).2) ∧ ((ks.foldl mmS x).2 = x.2 ∨ (ks.foldl mmS x).2 ∈ ks))
  | [], x => by simp
  | k :: ks, x => by
    obtain ⟨⟨a1, a2, a3⟩, b1, b2, b3⟩ := mm_spec ks (mmS x k)
    simp only [List.foldl_cons]
    have e1 : (mmS x k).1 ≤ x.1 ∧ (mmS x k).1 ≤ k ∧ ((mmS x k).1 = x.1 ∨ (mmS x k).1 = k) := by
      unfold mmS imin; simp only; split <;> omega
    have e2 : x.2 ≤ (mmS x k).2 ∧ k ≤ (mmS x k).2 ∧ ((mmS x k).2 = x.2 ∨ (mmS x k).2 = k) := by
      unfold mmS imax; simp only; split <;> omega
    refine ⟨⟨by omega, fun q hq => ?_, ?_⟩, by omega, fun q hq => ?_, ?_⟩
    · rcases List.mem_cons.1 hq with rfl | hq
      · omega
      · exact a2 q hq
    · rcases a3 with a3 | a3
      · rcases e1.2.2 with e | e
        · left; omega
        · right; rw [a3, e]; simp
      · right; simp [a3]
    · rcases List.mem_cons.1 hq with rfl | hq
      · omega
      · exact b2 q hq
    · rcases b3 with b3 | b3
      · rcases e2.2.2 with e | e
        · left; omega
        · right; rw [b3, e]; simp
      · right; simp [b3]
theorem mm_same {ks ks' : List Int} (h : ∀ k, k ∈ ks ↔ k ∈ ks') (x : Int × Int) : ks.foldl mmS x = ks'.foldl mmS x := by
  obtain ⟨⟨a1, a2, a3⟩, b1, b2, b3⟩ := mm_spec ks x
  obtain ⟨⟨c1, c2, c3⟩, d1, d2, d3⟩ := mm_spec ks' x
  apply Prod.ext
  · rcases a3 with a3 | a3 <;> rcases c3 with c3 | c3
    · omega
    · have := a2 _ ((h _).2 c3); omega
    · have := c2 _ ((h _).1 a3); omega
    · have := a2 _ ((h _).2 c3); have := c2 _ ((h _).1 a3); omega
  · rcases b3 with b3 | b3 <;> rcases d3 with d3 | d3
    · omega
    · have := b2 _ ((h _).2 d3); omega
    · have := d2 _ ((h _).1 b3); omega
    · have := b2 _ ((h _).2 d3); have := d2 _ ((h _).1 b3); omega

theorem now_ex {G B : Int} (hB : 0 ≤ B ∧ B ≤ 1000) {l t : List (Int × Int)} (h : TI G B l t) {st h0 : Int} (hh : -B ≤ h0 ∧ h0 ≤ B) {fuel : Nat} (hf : 5000 ≤ fuel) : ∃ n, tape_now fuel st h0 (some l) = some (n, some l) := by
  have hr : rangeM tape_now_b1 l (h0, h0) = some ((l.map (·.1)).foldl mmS (h0, h0)) := by
    have : l.foldl (fun x (p : Int × Int) => mmS x p.1) (h0, h0) = (l.map (·.1)).foldl mmS (h0, h0) := by rw [List.foldl_map]
    rw [← this]
    refine rangeM_fold (fun x p q => mm_comm x p.1 q.1) (fun l' _ => forR_all l' _ (fun p _ x => rfl))
  obtain ⟨⟨c1, c2, c3⟩, d1, d2, d3⟩ := mm_spec (l.map (·.1)) (h0, h0)
  generalize (l.map (·.1)).foldl mmS (h0, h0) = v at hr c1 c2 c3 d1 d2 d3
  have hkey : ∀ z, z ∈ l.map (·.1) → -B ≤ z ∧ z ≤ B := by
    intro z hz
    obtain ⟨p, hp, rfl⟩ := List.mem_map.1 (sg_mem z t ((ti_keys h z).1 hz))
    exact h.pos p hp
  have hlo : -B ≤ v.1 := by
    rcases c3 with e | e
    · simp only at e; omega
    · exact (hkey _ e).1
  have hhi : v.2 ≤ B := by
    rcases d3 with e | e
    · simp only at e; omega
    · exact (hkey _ e).2
  simp only at c1 d1
  obtain ⟨y, q1, _⟩ := iter_inv (f := tape_now_b4 l v) (Inv := fun x => v.1 ≤ x.1 ∧ x.1 ≤ B + 1 ∧ (x.2.length : Int) = x.1 - v.1) (m := fun x => (B + 1 - x.1).toNat) (Post := fun _ => True) (by
    rintro ⟨z, xs⟩ ⟨i1, i2, i3⟩
    simp only at i1 i2 i3
    unfold tape_now_b4
    simp only
    by_cases e : z ≤ v.2
    · have hck : ck ((List.length xs : Int) + 1 ≤ 4294967296) = some () := ck_ok (by omega)
      rw [decide_eq_true e, cond_true, hck, bind_some', w64_id (by omega) (by omega)]
      exact ⟨_, rfl, ⟨by simp only; omega, by simp only; omega, by simp only [List.length_append, List.length_cons, List.length_nil]; omega⟩, by simp only; omega⟩
    · rw [decide_eq_false e, cond_false]
      exact ⟨_, rfl, trivial⟩) fuel (v.1, []) (by simp only; omega) ⟨Int.le_refl _, by simp only; omega, by simp⟩
  refine ⟨(st, h0, v.1, y), ?_⟩
  unfold tape_now
  rw [bind_some', hr, bind_some', q1]; rfl

/-- the run, by the program and by the document -/
theorem run_eq {m : Mc} (hm : okM m) {B T : Int} (hB : 0 ≤ B ∧ B + T ≤ 1000) (hT : 0 ≤ T ∧ T ≤ 100) {l t : List (Int × Int)} (ht : TI m.2.1 (B + T) l t) (hlen : t.length ≤ 1000) {st h0 : Int} (hs : 0 ≤ st) (hh : -B ≤ h0 ∧ h0 ≤ B) {fuel : Nat} (hf : 5000 ≤ fuel) :
    ∃ st' h' k l' t' hs' ss', iter (tape_run_b4 m T) fuel (st, h0, 0, some l) = some (st', h', k, some l') ∧ iter (ref_Steps_b10 m T) fuel (h0, st, 0, t, [], []) = some (h', st', k, t', hs', ss') ∧
      TI m.2.1 (B + T) l' t' ∧ -(B + T) ≤ h' ∧ h' ≤ B + T := by
  obtain ⟨y, y', q1, q2, st', h', k, l', t', hs', ss', rfl, rfl, q3, q4⟩ := iter_rel (f := tape_run_b4 m T) (f' := ref_Steps_b10 m T)
    (R := fun x x' => ∃ st h k l t hs ss, x = (st, h, k, some l) ∧ x' = (h, st, k, t, hs, ss) ∧ TI m.2.1 (B + T) l t ∧ 0 ≤ st ∧ 0 ≤ k ∧ k ≤ T ∧ (-(B + k) ≤ h ∧ h ≤ B + k) ∧ (t.length : Int) ≤ 1000 + k ∧ (hs.length : Int) = k ∧ (ss.length : Int) = k)
    (m := fun x => (T - x.2.2.1).toNat)
    (S := fun y y' => ∃ st' h' k l' t' hs' ss', y = (st', h', k, some l') ∧ y' = (h', st', k, t', hs', ss') ∧ TI m.2.1 (B + T) l' t' ∧ -(B + T) ≤ h' ∧ h' ≤ B + T) (by
    rintro _ _ ⟨st, h, k, l, t, hs, ss, rfl, rfl, i1, i2, i3, i4, i5, i6, i7, i8⟩
    unfold tape_run_b4 ref_Steps_b10
    simp only
    by_cases c : k < T ∧ st < m.1
    · obtain ⟨c1, c2⟩ := c
      obtain ⟨row, r, r1, r2, r3, r4, r5⟩ := rule_of hm rfl i1 (h0 := h) ⟨i2, c2⟩
      obtain ⟨l', s1, s2⟩ := step_eq (by omega) i1 (by omega) r1 r2 r3 r4
      have k1 : ck ((List.length t : Int) + 1 ≤ 4294967296) = some () := ck_ok (by omega)
      have k2 : ck ((List.length hs : Int) + 1 ≤ 4294967296) = some () := ck_ok (by omega)
      have k3 : ck ((List.length ss : Int) + 1 ≤ 4294967296) = some () := ck_ok (by omega)
      have e : (bif decide (k < T) then some (decide (st < m.1)) else some false) = some true := by rw [decide_eq_true c1, decide_eq_true c2, cond_true]
      rw [e, bind_some', cond_true, s1, bind_some', bind_some', cond_true, r1, bind_some', sign_eq, bind_some', r2, bind_some', k1, bind_some', k2, bind_some', k3, bind_some', w64_id (n := k + 1) (by omega) (by omega), w64_id (n := h + r.2.1) (by omega) (by omega)]
      refine ⟨_, _, rfl, rfl, ⟨_, _, _, _, _, _, _, rfl, rfl, s2, r5.1, by omega, by omega, (by simp only; omega), ?_, ?_, ?_⟩, by simp only; omega⟩
      · simp only [List.length_append, List.length_cons, List.length_nil]; omega
      · simp only [List.length_append, List.length_cons, List.length_nil]; omega
      · simp only [List.length_append, List.length_cons, List.length_nil]; omega
    · have e : (bif decide (k < T) then some (decide (st < m.1)) else some false) = some false := by
        by_cases c1 : k < T
        · rw [decide_eq_true c1, cond_true, decide_eq_false (fun c2 => c ⟨c1, c2⟩)]
        · rw [decide_eq_false c1, cond_false]
      rw [e, bind_some', cond_false, bind_some', cond_false]
      exact ⟨_, _, rfl, rfl, _, _, _, _, _, _, _, rfl, rfl, i1, by omega, by omega⟩) fuel (st, h0, 0, some l) (h0, st, 0, t, [], []) (by simp only; omega)
    ⟨st, h0, 0, l, t, [], [], rfl, rfl, ht, hs, Int.le_refl _, hT.1, by omega, by omega, by simp, by simp⟩
  exact ⟨st', h', k, l', t', hs', ss', q1, q2, q3, q4⟩

/-- the input, laid -/
theorem lay_eq {m : Mc} (hm : okM m) {B f : Int} (hB : 0 ≤ B ∧ B ≤ 1000) (xs : List Int) (hx : xs.length ≤ 100) (h1 : -B ≤ f ∧ f + xs.length ≤ B) (hin : ∀ x ∈ xs, 0 ≤ x ∧ x < m.2.1) (st h0 : Int) :
    ∃ l t, tape_lay m xs f = some (some l, true) ∧ ref_Start xs f st h0 = some (h0, st, t) ∧ TI m.2.1 B l t ∧ t.length = xs.length := by
  obtain ⟨y, t, q1, q2, l, rfl, q3, q4⟩ := forL_rel (l := xs) (l' := xs) (body := tape_lay_b11 m f) (body' := ref_Start_b4 f) (fin := fun x72 => (Esc.brk x72 : Esc ((Option (List (Int × Int))) × Bool) (Option (List (Int × Int))))) (fin' := fun x33 => x33)
    (x := (some [] : Option (List (Int × Int)))) (x' := [])
    (R := fun n x x' => ∃ l, x = some l ∧ TI m.2.1 B l x' ∧ x'.length = n) (S := fun y t => ∃ l, y = .brk (some l) ∧ TI m.2.1 B l t ∧ t.length = xs.length) rfl ⟨[], rfl, ti_nil _ _, rfl⟩
    (by
      rintro n a a' x x' ha ha' ⟨l, rfl, i1, i2⟩
      obtain rfl : a = a' := by rw [ha] at ha'; exact Option.some.inj ha'
      have hlt := (List.getElem?_eq_some_iff.1 ha).1
      have hv := hin a (List.mem_of_getElem? ha)
      obtain ⟨l', p1, p2⟩ := ti_put i1 (a := f + n) (s := a) hv (by omega)
      have hck : ck ((List.length x' : Int) + 1 ≤ 4294967296) = some () := ck_ok (by omega)
      have hb : (bif decide (a < (0 : Int)) then (some true) else (some (decide (a ≥ m.2.1)))) = some false := by
        rw [decide_eq_false (by omega : ¬ a < 0), cond_false, decide_eq_false (by omega : ¬ a ≥ m.2.1)]
      unfold tape_lay_b11 ref_Start_b4
      rw [hb, bind_some', cond_false, w64_id (by omega) (by omega), p1, bind_some', hck, bind_some']
      exact ⟨_, _, rfl, rfl, l', rfl, p2, by simp [i2]⟩)
    (by
      rintro x x' ⟨l, rfl, i1, i2⟩
      exact ⟨l, rfl, i1, i2⟩)
  refine ⟨l, t, ?_, ?_, q3, q4⟩
  · unfold tape_lay; rw [q1]; rfl
  · unfold ref_Start; rw [q2]; rfl
theorem lay_bad {m : Mc} {f : Int} (xs : List Int) (hbad : xs.any (fun v => decide (v < 0) || decide (v ≥ m.2.1)) = true) : ∃ q, tape_lay m xs f = some (q, false) := by
  have key : ∀ (xs : List Int) (i : Int) (l : List (Int × Int)), xs.any (fun v => decide (v < 0) || decide (v ≥ m.2.1)) = true → forL (tape_lay_b11 m f) (fun x72 => (Esc.brk x72 : Esc ((Option (List (Int × Int))) × Bool) (Option (List (Int × Int))))) xs i (some l) = some (.ret (none, false)) := by
    intro xs
    induction xs with
    | nil => intro i l h; simp at h
    | cons a xs ih =>
      intro i l h
      rw [List.any_cons] at h
      have e : (bif decide (a < (0 : Int)) then (some true) else (some (decide (a ≥ m.2.1)))) = some (decide (a < 0) || decide (a ≥ m.2.1)) := by cases decide (a < 0) <;> rfl
      cases hb : (decide (a < 0) || decide (a ≥ m.2.1)) with
      | true =>
        have : tape_lay_b11 m f i a (some l) = some (.done (.ret (none, false))) := by
          unfold tape_lay_b11
          rw [e, hb]; rfl
        simp only [forL, this]
      | false =>
        rw [hb, Bool.false_or] at h
        have : ∃ l', tape_lay_b11 m f i a (some l) = some (.next (some l')) := by
          unfold tape_lay_b11 tape_Tape_Put
          rw [e, hb, bind_some', cond_false]
          cases (a == (0 : Int)) with
          | true => exact ⟨_, rfl⟩
          | false => exact ⟨_, rfl⟩
        obtain ⟨l', hl'⟩ := this
        simp only [forL, hl']
        exact ih (i + 1) l' h
  refine ⟨none, ?_⟩
  unfold tape_lay
  rw [key xs 0 [] hbad]; rfl
theorem inside_all (n : Int) (l : List Int) : ref_Inside n l = some (!l.any (fun v => decide (v < 0) || decide (v ≥ n))) := by
  unfold ref_Inside
  rw [forL_ex (p := fun v => decide (v < 0) || decide (v ≥ n)) (y := Esc.ret false) (fun i a _ => by unfold ref_Inside_b1; cases (decide (a < 0) || decide (a ≥ n)) <;> rfl)]
  cases l.any (fun v => decide (v < 0) || decide (v ≥ n)) <;> rfl
theorem inside_in {n : Int} {l : List Int} (h : l.any (fun v => decide (v < 0) || decide (v ≥ n)) = false) : ∀ x ∈ l, 0 ≤ x ∧ x < n := by
  intro x hx
  have := List.any_eq_false.1 h x hx
  simp only [Bool.or_eq_true, decide_eq_true_eq, not_or] at this
  omega

theorem run_code (a0 : Mc) (a1 : List Int) (a2 : Int) {fuel : Nat} (hf : 5000 ≤ fuel) : ∃ n k z, tape_Run fuel a0 a1 a2 = some (n, k, z) ∧ ref_RunCheck a0 a1 a2 = some z ∧ (z = 0 → okM a0 ∧ a1.length ≤ 8 ∧ (∀ x ∈ a1, 0 ≤ x ∧ x < a0.2.1) ∧ 0 ≤ a2 ∧ a2 ≤ 60) := by
  unfold tape_Run ref_RunCheck
  rw [tp_check, tp_rcheck, bind_some', bind_some']
  by_cases hz : tpAll a0 = 0
  · have hm : okM a0 := tp_ok hz
    rw [hz, show ((0 : Int) != 0) = false from rfl, cond_false, cond_false]
    by_cases h8 : (a1.length : Int) > 8
    · rw [decide_eq_true h8, cond_true, cond_true]
      exact ⟨_, _, 1, rfl, rfl, fun h => by cases h⟩
    · rw [decide_eq_false h8, cond_false, cond_false, inside_all]
      cases hbad : a1.any (fun v => decide (v < 0) || decide (v ≥ a0.2.1)) with
      | true =>
        obtain ⟨q, hq⟩ := lay_bad (m := a0) (f := 0) a1 hbad
        rw [hq]
        exact ⟨_, _, 2, rfl, rfl, fun h => by cases h⟩
      | false =>
        have hin := inside_in hbad
        obtain ⟨l, t, p1, p2, p3, p4⟩ := lay_eq hm (B := 10 + 60) (f := 0) (by omega) a1 (by omega) (by omega) hin 0 0
        by_cases ht : 0 ≤ a2 ∧ a2 ≤ 60
        · obtain ⟨l, t, p1, p2, p3, p4⟩ := lay_eq hm (B := 10 + a2) (f := 0) (by omega) a1 (by omega) (by omega) hin 0 0
          obtain ⟨st', h', k, l', t', hs', ss', q1, q2, q3, q4, q5⟩ := run_eq hm (B := 10) (T := a2) (by omega) (by omega) p3 (by omega) (st := 0) (h0 := 0) (by omega) (by omega) hf
          obtain ⟨n, n1⟩ := now_ex (by omega) q3 (st := st') (h0 := h') (by omega) hf
          have hb : ((decide (a2 < (0 : Int))) || (decide (a2 > (60 : Int)))) = false := by simp only [Bool.or_eq_false_iff, decide_eq_false_iff_not]; omega
          have hrun : tape_run fuel a0 0 0 a2 (some l) = some (n, k, some l') := by
            unfold tape_run
            rw [q1, bind_some']
            simp only
            rw [n1]; rfl
          rw [p1, within_eq, decide_eq_true ht]
          simp only [bind_some', Bool.not_true, cond_false, hb, Bool.not_false, hrun]
          exact ⟨_, _, 0, rfl, rfl, fun _ => ⟨hm, by omega, hin, ht.1, ht.2⟩⟩
        · have hb : ((decide (a2 < (0 : Int))) || (decide (a2 > (60 : Int)))) = true := by simp only [Bool.or_eq_true, decide_eq_true_eq]; omega
          rw [p1, within_eq, decide_eq_false ht]
          simp only [bind_some', Bool.not_true, Bool.not_false, cond_false, cond_true, hb]
          exact ⟨_, _, 7, rfl, rfl, fun h => by cases h⟩
  · have e : (tpAll a0 != 0) = true := by simp [hz]
    rw [e]
    exact ⟨_, _, _, rfl, rfl, fun h => (hz h).elim⟩

/-- steps of a head: from, to, the state behind it -/
abbrev Mv : Type := Int × Int × Int
structure Moves (P : List Mv) (hs ss : List Int) (h : Int) : Prop where
  heads : hs = P.map (·.1)
  states : ss = P.map (·.2.2)
  next : ∀ k p, P[k]? = some p → (hs ++ [h])[k + 1]? = some p.2.1
  near : ∀ p ∈ P, -1 ≤ p.2.1 - p.1 ∧ p.2.1 - p.1 ≤ 1
theorem moves_nil (h : Int) : Moves [] [] [] h := ⟨rfl, rfl, by simp, by simp⟩
theorem moves_snoc {P : List Mv} {hs ss : List Int} {h : Int} (hm : Moves P hs ss h) {to st : Int} (hn : -1 ≤ to - h ∧ to - h ≤ 1) : Moves (P ++ [(h, to, st)]) (hs ++ [h]) (ss ++ [st]) to := by
  refine ⟨by rw [hm.heads]; simp, by rw [hm.states]; simp, fun k p hk => ?_, fun p hp => ?_⟩
  · have hlen : hs.length = P.length := by rw [hm.heads]; simp
    by_cases e : k < P.length
    · rw [List.getElem?_append_left e] at hk
      have := hm.next k p hk
      rw [List.getElem?_append_left (by simp; omega)]
      exact this
    · have hk2 := (List.getElem?_eq_some_iff.1 hk).1
      simp only [List.length_append, List.length_cons, List.length_nil] at hk2
      have : k = P.length := by omega
      subst this
      rw [List.getElem?_append_right (Nat.le_refl _)] at hk
      have : p = (h, to, st) := by simpa using hk.symm
      subst this
      rw [List.getElem?_append_right (by simp; omega)]
      simp [hlen]
  · rcases List.mem_append.1 hp with hp | hp
    · exact hm.near p hp
    · obtain rfl : p = (h, to, st) := by simpa using hp
      exact hn
def crosses (b : Int) (p : Mv) : Bool := p.1 != p.2.1 && imax p.1 p.2.1 == b
theorem cross_same {b : Int} (hb : -1000 ≤ b ∧ b ≤ 1000) {p : Mv} (h : -1 ≤ p.2.1 - p.1 ∧ p.2.1 - p.1 ≤ 1) : (((p.1 == (w64 (b - (1 : Int)))) && (p.2.1 == b)) || ((p.1 == b) && (p.2.1 == (w64 (b - (1 : Int)))))) = crosses b p := by
  rw [w64_id (by omega) (by omega)]
  unfold crosses imax
  rw [Bool.eq_iff_iff]
  simp only [Bool.or_eq_true, Bool.and_eq_true, beq_iff_eq, bne_iff_ne, ne_eq]
  split <;> omega
theorem over_eq {P : List Mv} {hs ss : List Int} {h : Int} (hm : Moves P hs ss h) (hl : P.length ≤ 1000) {b : Int} (hb : -1000 ≤ b ∧ b ≤ 1000) (t : List (Int × Int)) (st k : Int) : ref_Over (t, h, st, k, hs, ss) b = some ((P.filter (crosses b)).map (·.2.2)) := by
  unfold ref_Over
  simp only
  have hlen : hs.length = P.length := by rw [hm.heads]; simp
  obtain ⟨y, q1, q2⟩ := forL_inv (body := ref_Over_b22 (t, h, st, k, hs, ss) b) (fin := fun x109 => x109) (l := hs) (x := []) (fun n x => x = ((P.take n).filter (crosses b)).map (·.2.2)) (fun y => y = (P.filter (crosses b)).map (·.2.2)) rfl
    (by
      rintro n a x ha rfl
      have hn := (List.getElem?_eq_some_iff.1 ha).1
      obtain ⟨p, hp⟩ : ∃ p, P[n]? = some p := ⟨P[n], List.getElem?_eq_getElem (by omega)⟩
      have hpa : p.1 = a := by
        rw [hm.heads, List.getElem?_map, hp] at ha
        simpa using ha
      have hto := hm.next n p hp
      have hg : ref_Over_g18 (t, h, st, k, hs, ss) (n : Int) = some p.2.1 := by
        have ew : w64 ((n : Int) + 1) = ((n + 1 : Nat) : Int) := by rw [w64_id (by omega) (by omega)]; omega
        unfold ref_Over_g18
        simp only
        rw [ew]
        by_cases e : n + 1 < hs.length
        · rw [decide_eq_true (by omega), cond_true, idx_nat]
          rw [List.getElem?_append_left e] at hto
          rw [hto]; rfl
        · rw [decide_eq_false (by omega), cond_false]
          rw [List.getElem?_append_right (by omega)] at hto
          have : n + 1 - hs.length = 0 := by omega
          rw [this] at hto
          simpa using hto
      have hst : idx ss (n : Int) = some p.2.2 := by rw [idx_nat, hm.states, List.getElem?_map, hp]; rfl
      have hlt : (((P.take n).filter (crosses b)).map (·.2.2)).length ≤ n := by
        rw [List.length_map]
        have := List.length_filter_le (crosses b) (P.take n)
        rw [List.length_take] at this
        omega
      have hck : ck ((List.length (((P.take n).filter (crosses b)).map (·.2.2)) : Int) + 1 ≤ 4294967296) = some () := ck_ok (by omega)
      have hstep : ((P.take (n + 1)).filter (crosses b)).map (·.2.2) = ((P.take n).filter (crosses b)).map (·.2.2) ++ (if crosses b p then [p.2.2] else []) := by
        have e : P.take (n + 1) = P.take n ++ [p] := by
          rw [List.take_add_one, hp]; rfl
        rw [e, List.filter_append, List.map_append]
        cases hc : crosses b p with
        | true => rw [List.filter_cons, hc]; rfl
        | false => rw [List.filter_cons, hc]; rfl
      unfold ref_Over_b22 ref_Over_g20
      rw [hg, bind_some']
      simp only
      rw [← hpa, cross_same hb (hm.near p (List.mem_of_getElem? hp)), hst]
      cases hc : crosses b p with
      | true =>
        rw [cond_true, bind_some', hck, bind_some', bind_some']
        exact ⟨_, rfl, by rw [hstep, hc]; rfl⟩
      | false =>
        rw [cond_false, bind_some']
        exact ⟨_, rfl, by rw [hstep, hc]; simp⟩)
    (by
      rintro x rfl
      rw [hlen, List.take_length])
  rw [q1, q2]; rfl

theorem ref_Lists_eq (a b : List (List Int)) : ref_Lists a b = some (decide (a = b)) := by
  unfold ref_Lists
  rw [len_ne]
  by_cases h : a.length = b.length
  · rw [forL_eqs (q := b) (fun n a c hc => by
      unfold ref_Lists_b1
      rw [idx_nat, hc, bind_some', ref_Ints_eq, bind_some']
      by_cases h : a = c <;> simp [h]) h]
    by_cases h2 : a = b <;> simp [h2, h]
  · have : ¬ a = b := fun e => h (by rw [e])
    simp [h, this]
def rowOf (P : List Mv) (b : Int) : List Int := (P.filter (crosses b)).map (·.2.2)
def rowsOf (P : List Mv) (n : Nat) : List (List Int) := (List.range n).map fun b : Nat => rowOf P (b : Int)
theorem rowOf_len (P : List Mv) (b : Int) : (rowOf P b).length ≤ P.length := by
  unfold rowOf; rw [List.length_map]; exact List.length_filter_le _ _
theorem rowOf_snoc (P : List Mv) (p : Mv) (b : Int) : rowOf (P ++ [p]) b = rowOf P b ++ (if crosses b p then [p.2.2] else []) := by
  unfold rowOf
  rw [List.filter_append, List.map_append]
  cases h : crosses b p <;> simp [h]
theorem rowsOf_len (P : List Mv) (n : Nat) : (rowsOf P n).length = n := by simp [rowsOf]
theorem rowsOf_get (P : List Mv) {n k : Nat} (h : k < n) : (rowsOf P n)[k]? = some (rowOf P (k : Int)) := by
  unfold rowsOf; rw [List.getElem?_map, List.getElem?_range h]; rfl
theorem rowsOf_nil (n : Nat) : rowsOf [] n = List.replicate n [] := by
  unfold rowsOf rowOf
  refine List.ext_getElem (by simp) (fun i h1 h2 => by simp)
theorem rowsOf_succ (P : List Mv) (k : Nat) : rowsOf P (k + 1) = rowsOf P k ++ [rowOf P (k : Int)] := by
  unfold rowsOf; rw [List.range_succ, List.map_append]; rfl
theorem crosses_iff {b : Int} {p : Mv} : crosses b p = true ↔ p.1 ≠ p.2.1 ∧ imax p.1 p.2.1 = b := by
  unfold crosses; simp
theorem all_step (P : List Mv) (hP : P.length ≤ 1000) (n : Nat) (h to st : Int) : cross_All_1_i2 h to st (rowsOf P n) = some (rowsOf (P ++ [(h, to, st)]) n) := by
  unfold cross_All_1_i2
  rw [rowsOf_len]
  by_cases c : h ≠ to ∧ 0 ≤ imax h to ∧ imax h to < (n : Int)
  · obtain ⟨c1, c2, c3⟩ := c
    have e : (((h != to) && (decide ((imax h to) ≥ (0 : Int)))) && (decide ((imax h to) < (n : Int)))) = true := by simp [c1, c2, c3]
    obtain ⟨k, hk⟩ : ∃ k : Nat, imax h to = (k : Int) := ⟨(imax h to).toNat, by omega⟩
    have hkn : k < n := by omega
    rw [e, cond_true, hk, idx_nat, rowsOf_get P hkn, bind_some', ck_ok (by have := rowOf_len P (k : Int); omega), bind_some']
    congr 1
    refine List.ext_getElem? (fun i => ?_)
    by_cases hi : i < n
    · rw [rowsOf_get _ hi, rowOf_snoc, List.getElem?_set]
      by_cases hik : i = k
      · subst hik
        have : crosses (i : Int) (h, to, st) = true := crosses_iff.2 ⟨c1, hk⟩
        simp [this, rowsOf_len, hkn]
      · have : crosses (i : Int) (h, to, st) = false := by
          cases hc : crosses (i : Int) (h, to, st) with
          | false => rfl
          | true => exact absurd ((crosses_iff.1 hc).2.symm.trans hk) (by omega)
        rw [if_neg (by simp; omega), rowsOf_get _ hi, this]; simp
    · rw [List.getElem?_eq_none (by simp [rowsOf_len]; omega), List.getElem?_eq_none (by rw [rowsOf_len]; omega)]
  · have e : (((h != to) && (decide ((imax h to) ≥ (0 : Int)))) && (decide ((imax h to) < (n : Int)))) = false := by
      rw [Bool.eq_false_iff]
      intro hc
      simp only [Bool.and_eq_true, bne_iff_ne, ne_eq, decide_eq_true_eq] at hc
      exact c ⟨hc.1.1, hc.1.2, hc.2⟩
    rw [e, cond_false]
    congr 1
    refine List.ext_getElem? (fun i => ?_)
    by_cases hi : i < n
    · rw [rowsOf_get _ hi, rowsOf_get _ hi, rowOf_snoc]
      have : crosses (i : Int) (h, to, st) = false := by
        cases hc : crosses (i : Int) (h, to, st) with
        | false => rfl
        | true => 
          obtain ⟨q1, q2⟩ := crosses_iff.1 hc
          exact absurd ⟨q1, by simp only at q2; omega, by simp only at q2; omega⟩ c
      rw [this]; simp
    · rw [List.getElem?_eq_none (by rw [rowsOf_len]; omega), List.getElem?_eq_none (by rw [rowsOf_len]; omega)]
theorem lay2_eq {m : Mc} {B : Int} (hB : 0 ≤ B ∧ B ≤ 1000) (xs : List Int) (hx : xs.length ≤ 100) (h1 : (xs.length : Int) ≤ B) (hin : ∀ x ∈ xs, 0 ≤ x ∧ x < m.2.1) (st h0 : Int) :
    ∃ l t, forL cross_walk_with_cross_All_1_i2_b1 (fun x14 => x14) xs 0 (some [] : Option (List (Int × Int))) = some (some l) ∧ ref_Start xs 0 st h0 = some (h0, st, t) ∧ TI m.2.1 B l t ∧ t.length = xs.length := by
  obtain ⟨y, t, q1, q2, l, rfl, q3, q4⟩ := forL_rel (l := xs) (l' := xs) (body := cross_walk_with_cross_All_1_i2_b1) (body' := ref_Start_b4 0) (fin := fun x14 => x14) (fin' := fun x33 => x33)
    (x := (some [] : Option (List (Int × Int)))) (x' := [])
    (R := fun n x x' => ∃ l, x = some l ∧ TI m.2.1 B l x' ∧ x'.length = n) (S := fun y t => ∃ l, y = some l ∧ TI m.2.1 B l t ∧ t.length = xs.length) rfl ⟨[], rfl, ti_nil _ _, rfl⟩
    (by
      rintro n a a' x x' ha ha' ⟨l, rfl, i1, i2⟩
      obtain rfl : a = a' := by rw [ha] at ha'; exact Option.some.inj ha'
      have hlt := (List.getElem?_eq_some_iff.1 ha).1
      have hv := hin a (List.mem_of_getElem? ha)
      obtain ⟨l', p1, p2⟩ := ti_put i1 (a := (n : Int)) (s := a) hv (by omega)
      have hck : ck ((List.length x' : Int) + 1 ≤ 4294967296) = some () := ck_ok (by omega)
      unfold cross_walk_with_cross_All_1_i2_b1 ref_Start_b4
      rw [p1, bind_some', hck, bind_some', w64_id (by omega) (by omega), Int.zero_add]
      exact ⟨_, _, rfl, rfl, l', rfl, p2, by simp [i2]⟩)
    (by
      rintro x x' ⟨l, rfl, i1, i2⟩
      exact ⟨l, rfl, i1, i2⟩)
  refine ⟨l, t, q1, ?_, q3, q4⟩
  unfold ref_Start; rw [q2]; rfl
theorem walk_eq {m : Mc} (hm : okM m) {B T : Int} {n : Nat} (hB : 0 ≤ B ∧ B + T ≤ 1000) (hT : 0 ≤ T ∧ T ≤ 100) {l t : List (Int × Int)} (ht : TI m.2.1 (B + T) l t) (hlen : t.length ≤ 1000) {fuel : Nat} (hf : 5000 ≤ fuel) :
    ∃ st' h' k t' hs' ss' P, iter (cross_walk_with_cross_All_1_i2_b7 m) fuel (T, 0, 0, some l, List.replicate n []) = some (rowsOf P n) ∧ iter (ref_Steps_b10 m T) fuel (0, 0, 0, t, [], []) = some (h', st', k, t', hs', ss') ∧ Moves P hs' ss' h' ∧ P.length ≤ 1000 := by
  obtain ⟨y, y', q1, q2, st', h', k, t', hs', ss', P, rfl, rfl, q3, q4⟩ := iter_rel (f := cross_walk_with_cross_All_1_i2_b7 m) (f' := ref_Steps_b10 m T)
    (R := fun x x' => ∃ st h k l t hs ss P, x = (T - k, st, h, some l, rowsOf P n) ∧ x' = (h, st, k, t, hs, ss) ∧ TI m.2.1 (B + T) l t ∧ 0 ≤ st ∧ 0 ≤ k ∧ k ≤ T ∧ (-(B + k) ≤ h ∧ h ≤ B + k) ∧ (t.length : Int) ≤ 1000 + k ∧ (P.length : Int) = k ∧ Moves P hs ss h)
    (m := fun x => x.1.toNat)
    (S := fun y y' => ∃ st' h' k t' hs' ss' P, y = (rowsOf P n) ∧ y' = (h', st', k, t', hs', ss') ∧ Moves P hs' ss' h' ∧ P.length ≤ 1000) (by
    rintro _ _ ⟨st, h, k, l, t, hs, ss, P, rfl, rfl, i1, i2, i3, i4, i5, i6, i7, i8⟩
    have l1 : hs.length = P.length := by rw [i8.heads]; simp
    have l2 : ss.length = P.length := by rw [i8.states]; simp
    unfold cross_walk_with_cross_All_1_i2_b7 ref_Steps_b10
    simp only
    by_cases c : k < T ∧ st < m.1
    · obtain ⟨c1, c2⟩ := c
      obtain ⟨row, r, r1, r2, r3, r4, r5⟩ := rule_of hm rfl i1 (h0 := h) ⟨i2, c2⟩
      obtain ⟨l', s1, s2⟩ := step_eq (by omega) i1 (by omega) r1 r2 r3 r4
      have k1 : ck ((List.length t : Int) + 1 ≤ 4294967296) = some () := ck_ok (by omega)
      have k2 : ck ((List.length hs : Int) + 1 ≤ 4294967296) = some () := ck_ok (by omega)
      have k3 : ck ((List.length ss : Int) + 1 ≤ 4294967296) = some () := ck_ok (by omega)
      have e1 : (bif decide (T - k > 0) then some (decide (st < m.1)) else some false) = some true := by rw [decide_eq_true (by omega : T - k > 0), decide_eq_true c2, cond_true]
      have e2 : (bif decide (k < T) then some (decide (st < m.1)) else some false) = some true := by rw [decide_eq_true c1, decide_eq_true c2, cond_true]
      have hov : cross_All_1_i2 h (h + r.2.1) r.2.2 (rowsOf P n) = some (rowsOf (P ++ [(h, h + r.2.1, r.2.2)]) n) := all_step P (by omega) n _ _ _
      rw [e1, e2, bind_some', cond_true, s1, bind_some', hov, bind_some', bind_some', cond_true, r1, bind_some', sign_eq, bind_some', r2, bind_some', k1, bind_some', k2, bind_some', k3, bind_some', w64_id (n := k + 1) (by omega) (by omega), w64_id (n := h + r.2.1) (by omega) (by omega), w64_id (n := T - k - 1) (by omega) (by omega)]
      refine ⟨_, _, rfl, rfl, ⟨r.2.2, h + r.2.1, k + 1, l', _, _, _, P ++ [(h, h + r.2.1, r.2.2)], ?_, rfl, s2, r5.1, by omega, by omega, by omega, ?_, ?_, moves_snoc i8 (by omega)⟩, by simp only; omega⟩
      · simp only [Prod.mk.injEq, and_true]; omega
      · simp only [List.length_append, List.length_cons, List.length_nil]; omega
      · simp only [List.length_append, List.length_cons, List.length_nil]; omega
    · have e1 : (bif decide (T - k > 0) then some (decide (st < m.1)) else some false) = some false := by
        by_cases c1 : k < T
        · rw [decide_eq_true (by omega : T - k > 0), cond_true, decide_eq_false (fun c2 => c ⟨c1, c2⟩)]
        · rw [decide_eq_false (by omega : ¬ T - k > 0), cond_false]
      have e : (bif decide (k < T) then some (decide (st < m.1)) else some false) = some false := by
        by_cases c1 : k < T
        · rw [decide_eq_true c1, cond_true, decide_eq_false (fun c2 => c ⟨c1, c2⟩)]
        · rw [decide_eq_false c1, cond_false]
      rw [e, e1, bind_some', cond_false, bind_some', cond_false]
      exact ⟨_, _, rfl, rfl, _, _, _, _, _, _, P, rfl, rfl, i8, by omega⟩) fuel (T, 0, 0, some l, List.replicate n []) (0, 0, 0, t, [], []) (by simp only; omega)
    ⟨0, 0, 0, l, t, [], [], [], by simp [rowsOf_nil], rfl, ht, Int.le_refl _, Int.le_refl _, hT.1, by omega, by omega, by simp, moves_nil 0⟩
  exact ⟨st', h', k, t', hs', ss', P, q1, q2, q3, q4⟩
theorem law_all {a1 : List Int} (ha : a1.length ≤ 8) {P : List Mv} {hs ss : List Int} {h : Int} (hm : Moves P hs ss h) (hl : P.length ≤ 1000) (t : List (Int × Int)) (st k : Int) {fuel : Nat} (hf : 5000 ≤ fuel) :
    iter (law_CrossAlls_b1 a1 (h, st, k, t, hs, ss)) fuel ((0 : Int), []) = some (rowsOf P (a1.length + 1)) := by
  obtain ⟨y, q1, q2⟩ := iter_inv (f := law_CrossAlls_b1 a1 (h, st, k, t, hs, ss)) (fun x => ∃ j : Nat, j ≤ a1.length + 1 ∧ x = ((j : Int), rowsOf P j)) (fun x => a1.length + 1 - x.1.toNat) (fun y => y = rowsOf P (a1.length + 1)) (by
    rintro _ ⟨j, hj, rfl⟩
    unfold law_CrossAlls_b1
    simp only
    by_cases c : j ≤ a1.length
    · rw [decide_eq_true (by omega), cond_true, over_eq hm hl (b := (j : Int)) (by omega), bind_some', rowsOf_len, ck_ok (by omega), bind_some', w64_id (by omega) (by omega)]
      refine ⟨_, rfl, ⟨j + 1, by omega, ?_⟩, by simp only; omega⟩
      rw [rowsOf_succ]; rfl
    · rw [decide_eq_false (by omega), cond_false]
      refine ⟨_, rfl, ?_⟩
      rw [show j = a1.length + 1 by omega]) fuel (0, []) (by simp only; omega) ⟨0, by omega, rfl⟩
  rw [q1, q2]
theorem CrossAlls_true (a0 : Mc) (a1 : List Int) (a2 : Int) (f0 : Fits (.pair (.int .i64) (.pair (.int .i64) (.slice (.slice (.pair (.int .i64) (.pair (.int .i64) (.int .i64))))))) a0) (f1 : Fits (.slice (.int .i64)) a1) (f2 : Fits (.int .i64) a2) :
    ∃ fuel, law_CrossAlls fuel a0 a1 a2 = some true := by
  obtain ⟨fuel, hf⟩ : ∃ f : Nat, 5000 ≤ f := ⟨5000, Nat.le_refl _⟩
  refine ⟨fuel, ?_⟩
  obtain ⟨n, k0, z, r1, r2, r3⟩ := run_code a0 a1 a2 hf
  unfold law_CrossAlls cross_All
  rw [r1, r2]
  simp only [bind_some']
  by_cases hz : z = 0
  · obtain ⟨hm, h8, hin, t0, t1⟩ := r3 hz
    subst hz
    obtain ⟨l, t, p1, p2, p3, p4⟩ := lay2_eq (m := a0) (B := 10 + a2) (by omega) a1 (by omega) (by omega) hin 0 0
    obtain ⟨st', h', k, t', hs', ss', P, q1, q2, q3, q4⟩ := walk_eq hm (B := 10) (T := a2) (n := a1.length + 1) (by omega) (by omega) p3 (by omega) hf
    have ew : w64 ((a1.length : Int) + 1) = ((a1.length + 1 : Nat) : Int) := by rw [w64_id (by omega) (by omega)]; omega
    have hw : cross_walk_with_cross_All_1_i2 fuel a0 a1 a2 (List.replicate (a1.length + 1) []) = some (rowsOf P (a1.length + 1)) := by
      unfold cross_walk_with_cross_All_1_i2
      rw [p1, bind_some', q1]; rfl
    have hst : ref_Steps fuel a0 0 0 0 a2 t = some (h', st', k, t', hs', ss') := by
      unfold ref_Steps
      rw [q2]; rfl
    have hl := law_all h8 q3 q4 t' st' k hf
    have hck : ck (0 ≤ w64 ((List.length a1 : Int) + (1 : Int)) ∧ True ∧ w64 ((List.length a1 : Int) + (1 : Int)) ≤ 4294967296) = some () := ck_ok ⟨by rw [ew]; omega, trivial, by rw [ew]; omega⟩
    rw [hck, ew]
    simp only [bind_some', cond_false, Int.toNat_natCast, hw, show ((0 : Int) != 0) = false from rfl, show ((0 : Int) == 0) = true from rfl, p2, hst, hl, cond_true, ref_Lists_eq]
    simp
  · have e1 : (z != 0) = true := by simp [hz]
    rw [e1]
    simp only [cond_true, cond_false, bind_some', e1]
    simp

end Go.Proofs.Ytnblafiefaalgaa.crossAlls
namespace Go.Proofs.Ytnblafiefaalgaa.crossAlls
open Go.ChangeShapes Go.WideShapes Go.ChangeAt Go.RowKit
open Go.ChangeMaps (open_string shut_string)
theorem own : ownKnob Try.prog.godebug = none := by kernel_rfl
theorem laidOut : laidOutB Try.prog = true := by kernel_rfl
theorem lifted (os : Os) (started : os.Started) (H : Type) (enc : TypeId × Value → H) :
    ReturnsInHanded {} Try.checked os 9 .any (Rows.crossAllsSpec.pre6 enc Try.prog Try.f9 Rows.crossAllsRow.domain false) (Rows.crossAllsSpec.post enc Try.prog Try.f9 false true false false) := by
  refine returnsInHanded_of_change (C := Try.checked) own started (by kernel_rfl) Try.func9
    (ChangeSpec.witness6 (enc := enc) (C := Try.checked) false ⟨#[], #[.agg #[.int .i64 0, .int .i64 0, .slice none 0 0], .slice none 0 0, .int .i64 0], []⟩ 8 (by kernel_rfl) (by kernel_rfl) (by kernel_rfl) (by kernel_rfl)) ?_
  intro W base args ds gs before hval0 hW hcnd _
  have hval : ∀ (j : Nat) t v, Try.f9.params[j]? = some t → args[j]? = some v → Value.okWide Try.prog W .any base t v := hval0
  have hW' := hW
  obtain ⟨p, q, hA0, hV, rfl, hfz, hnd⟩ := hW
  have hA : DataW.TrodAll enc Try.prog W 0 (fun _ => true) true Try.f9.params.toList args.toList ds p := hA0
  rw [Try.params9] at hA hval
  obtain ⟨v0, vs0, d0, ds0, p0, q0, hargs, rfl, rfl, h0, r0⟩ := trodAll_cons hA
  obtain ⟨v1, vs1, d1, ds1, p1, q1, rfl, rfl, rfl, h1, r1⟩ := trodAll_cons r0
  obtain ⟨v2, vs2, d2, ds2, p2, q2, rfl, rfl, rfl, h2, r2⟩ := trodAll_cons r1
  obtain ⟨rfl, rfl, rfl⟩ := trodAll_nil r2
  obtain rfl : args = #[v0, v1, v2] := by cases args; simp_all
  obtain ⟨rfl, rfl⟩ := trodVars_none hV
  obtain ⟨x0, f0, k0⟩ := Go.Sl.read_arg (u := (.pair (.int .i64) (.pair (.int .i64) (.slice (.slice (.pair (.int .i64) (.pair (.int .i64) (.int .i64)))))))) (by kernel_rfl) (by kernel_rfl) (hval 0 24 v0 rfl rfl) h0
  have lt0 : ∀ x ∈ p0, x.block < W.heap.size := by obtain ⟨m, hm⟩ := h0; exact DataW.trod_lt m _ _ _ hm
  obtain ⟨x1, f1, k1⟩ := Go.Sl.read_arg (u := (.slice (.int .i64))) (by kernel_rfl) (by kernel_rfl) (hval 1 63 v1 rfl rfl) h1
  have lt1 : ∀ x ∈ p1, x.block < W.heap.size := by obtain ⟨m, hm⟩ := h1; exact DataW.trod_lt m _ _ _ hm
  obtain ⟨x2, f2, k2⟩ := Go.Sl.read_arg (u := (.int .i64)) (by kernel_rfl) (by kernel_rfl) (hval 2 3 v2 rfl rfl) h2
  have lt2 : ∀ x ∈ p2, x.block < W.heap.size := by obtain ⟨m, hm⟩ := h2; exact DataW.trod_lt m _ _ _ hm
  clear hA0 hval0
  obtain ⟨fuel, hm⟩ := CrossAlls_true x0 x1 x2 f0 f1 f2
  refine (Go.Sl.law_of (vs := [v0, v1, v2]) (law_CrossAlls_ok hm) rfl (.cons (k0 _ _) (.cons (k1 _ _) (.cons (k2 _ _) .nil)))).mono fun e W' ⟨he, bel⟩ => ?_
  subst he
  exact ⟨_, rfl, _, _, _, [], _, [], hW', trodAll_mk1 (shut_bool Try.underlying4 _), (trodAll_cons_mk (Below.trod laidOut (by kernel_rfl) (of_decide_eq_true (by kernel_rfl)) h0 bel lt0) (trodAll_cons_mk (Below.trod laidOut (by kernel_rfl) (of_decide_eq_true (by kernel_rfl)) h1 bel lt1) (trodAll_cons_mk (Below.trod laidOut (by kernel_rfl) (of_decide_eq_true (by kernel_rfl)) h2 bel lt2) trodAll_mk0))), rfl, bel.frame _, fun h => by cases h⟩
theorem proved : Rows.CrossAllsSaid :=
  OpenClaim.holds_of_wide 9 Try.f9 rfl rfl rfl rfl rfl rfl rfl ⟨rfl, rfl, rfl, rfl, rfl⟩ rfl rfl rfl rfl rfl (by kernel_rfl) Try.func9 (by kernel_rfl)
    (of_decide_eq_true (by kernel_rfl)) (by unfold Func.isWrapper; first | (rw [if_pos (by decide +kernel)]; kernel_rfl) | (rw [if_neg (by decide +kernel)]; exact ⟨rfl, rfl⟩))
    (fun os started H enc _ => lifted os started H enc)
#print axioms proved
end Go.Proofs.Ytnblafiefaalgaa.crossAlls
