/- busy.Most tells the greatest of all machines of that size, as the document's own simulation finds it: no conditions. -/
import Derived.Test.YtnblafiefaalgaaRows
import Derived.WalkKit
import Derived.ProofKit
import Derived.OpenShut
import Derived.ShutString
import Derived.ChangeOld
import Derived.Below
import Derived.Test.YtnblafiefaalgaaBusyMostM
set_option linter.all false
set_option maxRecDepth 100000
namespace Go.Proofs.Ytnblafiefaalgaa.busyMost
open Go Go.Sl

def tpRule (S G : Int) (r : Int × Int × Int) : Option Int :=
  bif !decide (0 ≤ r.1 ∧ r.1 < G) then some 2 else bif !decide (-1 ≤ r.2.1 ∧ r.2.1 ≤ 1) then some 4 else bif !decide (0 ≤ r.2.2 ∧ r.2.2 ≤ S) then some 2 else none
def tpLen (G : Int) (l : List (Int × Int × Int)) : Bool := (l.length : Int) != G
def tpAll (m : Int × Int × List (List (Int × Int × Int))) : Int :=
  bif !(decide (1 ≤ m.1 ∧ m.1 ≤ 5) && decide (2 ≤ m.2.1 ∧ m.2.1 ≤ 4)) then 1 else bif (m.2.2.length : Int) != m.1 then 3 else bif m.2.2.any (tpLen m.2.1) then 3 else
    (m.2.2.findSome? fun l => l.findSome? (tpRule m.1 m.2.1)).getD 0
theorem tp_lens (m : Int × Int × List (List (Int × Int × Int))) (l : List (List (Int × Int × Int))) : slices_ContainsFunc_LLapiRuleLapiRule_with_tape_Check_1 l m = some (l.any (tpLen m.2.1)) := by
  unfold slices_ContainsFunc_LLapiRuleLapiRule_with_tape_Check_1 slices_IndexFunc_LLapiRuleLapiRule_with_tape_Check_1
  rcases forL_at (body := slices_IndexFunc_LLapiRuleLapiRule_with_tape_Check_1_b1 m) (fin := fun _ => (Esc.brk () : Esc Int Unit)) (p := tpLen m.2.1) (g := fun j => Esc.ret j) (l := l)
    (fun i a _ => by unfold slices_IndexFunc_LLapiRuleLapiRule_with_tape_Check_1_b1 tape_Check_1 tpLen; cases ((List.length a : Int) != m.2.1) <;> rfl) (i := 0) with ⟨h1, h2⟩ | ⟨h1, j, h2, h3, h4⟩
  · rw [h2, h1]; rfl
  · rw [h4, h1]
    simp [h2]
theorem tp_row (m : Int × Int × List (List (Int × Int × Int))) (i : Int) (l : List (Int × Int × Int)) : tape_Check_b40 m i l () = some (said Esc.ret (l.findSome? (tpRule m.1 m.2.1))) := by
  unfold tape_Check_b40
  rw [forL_find (f := tpRule m.1 m.2.1) (g := Esc.ret) (fun i a _ => by
    unfold tape_Check_b36 tpRule
    have e1 : (bif decide (a.1 < (0 : Int)) then (some true) else (some (decide (a.1 ≥ m.2.1)))) = some (!decide (0 ≤ a.1 ∧ a.1 < m.2.1)) := by
      rw [bif_some]; congr 1
      by_cases h : a.1 < 0
      · simp [h]
      · simp only [h, Int.not_lt.1 h, decide_false, cond_false, true_and, not_dec]; exact decide_eq_decide.2 (by omega)
    have e2 : (bif decide (a.2.1 < (-1 : Int)) then (some true) else (some (decide (a.2.1 > (1 : Int))))) = some (!decide (-1 ≤ a.2.1 ∧ a.2.1 ≤ 1)) := by
      rw [bif_some]; congr 1
      by_cases h : a.2.1 < -1
      · simp [h]
      · simp only [h, Int.not_lt.1 h, decide_false, cond_false, true_and, not_dec]; exact decide_eq_decide.2 (by omega)
    have e3 : (bif decide (a.2.2 < (0 : Int)) then (some true) else (some (decide (a.2.2 > m.1)))) = some (!decide (0 ≤ a.2.2 ∧ a.2.2 ≤ m.1)) := by
      rw [bif_some]; congr 1
      by_cases h : a.2.2 < 0
      · simp [h]
      · simp only [h, Int.not_lt.1 h, decide_false, cond_false, true_and, not_dec]; exact decide_eq_decide.2 (by omega)
    rw [e1, e2, e3]
    cases decide (0 ≤ a.1 ∧ a.1 < m.2.1) <;> cases decide (-1 ≤ a.2.1 ∧ a.2.1 ≤ 1) <;> cases decide (0 ≤ a.2.2 ∧ a.2.2 ≤ m.1) <;> rfl)]
  cases l.findSome? (tpRule m.1 m.2.1) <;> rfl
theorem tp_check (m : Int × Int × List (List (Int × Int × Int))) : tape_Check m = some (tpAll m) := by
  unfold tape_Check tape_Check_g1 tpAll
  have e : (bif decide (m.1 < (1 : Int)) then (some true) else (bif decide (m.1 > (5 : Int)) then (some true) else (bif decide (m.2.1 < (2 : Int)) then (some true) else (some (decide (m.2.1 > (4 : Int))))))) =
      some (!(decide (1 ≤ m.1 ∧ m.1 ≤ 5) && decide (2 ≤ m.2.1 ∧ m.2.1 ≤ 4))) := by
    by_cases h1 : m.1 < 1
    · have : ¬ (1 ≤ m.1 ∧ m.1 ≤ 5) := by omega
      simp [h1, this]
    · by_cases h2 : m.1 > 5
      · have : ¬ (1 ≤ m.1 ∧ m.1 ≤ 5) := by omega
        simp [h1, h2, this]
      · have h3 : 1 ≤ m.1 ∧ m.1 ≤ 5 := by omega
        by_cases h4 : m.2.1 < 2
        · have : ¬ (2 ≤ m.2.1 ∧ m.2.1 ≤ 4) := by omega
          simp [h1, h2, h4, this]
        · have : (decide (m.2.1 > 4)) = !decide (2 ≤ m.2.1 ∧ m.2.1 ≤ 4) := by rw [not_dec]; exact decide_eq_decide.2 (by omega)
          simp only [h1, h2, h4, decide_false, cond_false, h3, decide_true, Bool.true_and, this, and_self]
  rw [e, bind_some', tp_lens]
  rw [forL_find (f := fun l => l.findSome? (tpRule m.1 m.2.1)) (g := Esc.ret) (fun i a _ => tp_row m i a)]
  cases (!(decide (1 ≤ m.1 ∧ m.1 ≤ 5) && decide (2 ≤ m.2.1 ∧ m.2.1 ≤ 4))) <;> cases ((List.length m.2.2 : Int) != m.1) <;> cases m.2.2.any (tpLen m.2.1) <;>
    cases (m.2.2.findSome? fun l => l.findSome? (tpRule m.1 m.2.1)) <;> rfl
theorem tp_ok {m : Int × Int × List (List (Int × Int × Int))} (h : tpAll m = 0) : (1 ≤ m.1 ∧ m.1 ≤ 5) ∧ (2 ≤ m.2.1 ∧ m.2.1 ≤ 4) ∧ (m.2.2.length : Int) = m.1 ∧ ∀ l ∈ m.2.2, (l.length : Int) = m.2.1 ∧ ∀ r ∈ l, (0 ≤ r.1 ∧ r.1 < m.2.1) ∧ (-1 ≤ r.2.1 ∧ r.2.1 ≤ 1) ∧ (0 ≤ r.2.2 ∧ r.2.2 ≤ m.1) := by
  unfold tpAll at h
  cases hc : (!(decide (1 ≤ m.1 ∧ m.1 ≤ 5) && decide (2 ≤ m.2.1 ∧ m.2.1 ≤ 4))) with
  | true => rw [hc] at h; cases h
  | false =>
    rw [hc] at h
    cases hl : ((List.length m.2.2 : Int) != m.1) with
    | true => rw [hl] at h; cases h
    | false =>
      rw [hl] at h
      cases ha : m.2.2.any (tpLen m.2.1) with
      | true => rw [ha] at h; cases h
      | false =>
        rw [ha] at h
        simp only [cond_false] at h
        simp only [Bool.not_eq_false', Bool.and_eq_true, decide_eq_true_eq] at hc
        refine ⟨hc.1, hc.2, by simpa using hl, fun l hm => ?_⟩
        have hlen := List.any_eq_false.1 ha l hm
        refine ⟨by unfold tpLen at hlen; simpa using hlen, fun r hr => ?_⟩
        have hval : ∀ (r : Int × Int × Int) e, tpRule m.1 m.2.1 r = some e → e ≠ 0 := by
          intro r e he h0
          subst h0
          unfold tpRule at he
          cases h1 : !decide (0 ≤ r.1 ∧ r.1 < m.2.1) <;> cases h2 : !decide (-1 ≤ r.2.1 ∧ r.2.1 ≤ 1) <;> cases h3 : !decide (0 ≤ r.2.2 ∧ r.2.2 ≤ m.1) <;> rw [h1, h2, h3] at he <;> simp at he
        cases hf : m.2.2.findSome? fun l => l.findSome? (tpRule m.1 m.2.1) with
        | some e =>
          rw [hf] at h
          obtain ⟨l', _, hl'⟩ := List.exists_of_findSome?_eq_some hf
          obtain ⟨r', _, hr'⟩ := List.exists_of_findSome?_eq_some hl'
          exact (hval r' e hr' h).elim
        | none =>
          have h1 := List.findSome?_eq_none_iff.1 hf l hm
          have h2 := List.findSome?_eq_none_iff.1 h1 r hr
          unfold tpRule at h2
          cases h3 : !decide (0 ≤ r.1 ∧ r.1 < m.2.1) with
          | true => rw [h3] at h2; cases h2
          | false =>
            rw [h3] at h2
            cases h4 : !decide (-1 ≤ r.2.1 ∧ r.2.1 ≤ 1) with
            | true => rw [h4] at h2; cases h2
            | false =>
              rw [h4] at h2
              cases h5 : !decide (0 ≤ r.2.2 ∧ r.2.2 ≤ m.1) with
              | true => rw [h5] at h2; cases h2
              | false =>
                simp only [Bool.not_eq_false', decide_eq_true_eq] at h3 h4 h5
                exact ⟨h3, h4, h5⟩

theorem mget_mput {α β : Type} {eq : α → α → Bool} [DecidableEq α] (heq : ∀ a b, eq a b = true ↔ a = b) : ∀ (l : List (α × β)) (x : α) (y : β) (z : α), mGet eq (mPut eq l x y) z = if z = x then some y else mGet eq l z
  | [], x, y, z => by
    by_cases h : z = x
    · simp [mPut, mGet, h, (heq x x).2 rfl]
    · have : eq z x = false := by cases hh : eq z x with | false => rfl | true => exact (h ((heq _ _).1 hh)).elim
      simp [mPut, mGet, h, this]
  | p :: l, x, y, z => by
    have hf : ∀ {a b}, a ≠ b → eq a b = false := by
      intro a b h
      cases hh : eq a b with | false => rfl | true => exact (h ((heq _ _).1 hh)).elim
    by_cases hp : x = p.1
    · have e1 : eq x p.1 = true := (heq _ _).2 hp
      by_cases h : z = x
      · simp [mPut, mGet, e1, h, (heq x x).2 rfl]
      · simp [mPut, mGet, e1, h, hf h, hf (fun e => h (e.trans hp.symm))]
    · have e1 : eq x p.1 = false := hf hp
      by_cases hz : z = p.1
      · have e2 : eq z p.1 = true := (heq _ _).2 hz
        have hzx : z ≠ x := fun e => hp (e ▸ hz)
        simp [mPut, mGet, e1, e2, hzx]
      · simp only [mPut, e1, Bool.false_eq_true, if_false, mGet, hf hz]
        exact mget_mput heq l x y z
theorem deqI {k : IntKind} (a b : Int) : deqT (.int k) a b = true ↔ a = b := by simp [deqT]

theorem mget_none_iff {α β : Type} {eq : α → α → Bool} (heq : ∀ a b, eq a b = true ↔ a = b) : ∀ (l : List (α × β)) (x : α), mGet eq l x = none ↔ x ∉ l.map (·.1)
  | [], x => by simp [mGet]
  | p :: l, x => by
    by_cases h : x = p.1
    · simp [mGet, h, (heq _ _).2 rfl]
    · have : eq x p.1 = false := by cases hh : eq x p.1 with | false => rfl | true => exact (h ((heq _ _).1 hh)).elim
      simp only [mGet, this, Bool.false_eq_true, if_false, List.map_cons, List.mem_cons, not_or]
      rw [mget_none_iff heq l x]
      exact ⟨fun h2 => ⟨h, h2⟩, fun h2 => h2.2⟩
theorem mput_keys {α β : Type} {eq : α → α → Bool} [DecidableEq α] (heq : ∀ a b, eq a b = true ↔ a = b) : ∀ (l : List (α × β)) (x : α) (y : β), (mPut eq l x y).map (·.1) = if x ∈ l.map (·.1) then l.map (·.1) else l.map (·.1) ++ [x]
  | [], x, y => by simp [mPut]
  | p :: l, x, y => by
    by_cases h : x = p.1
    · simp [mPut, h, (heq _ _).2 rfl]
    · have : eq x p.1 = false := by cases hh : eq x p.1 with | false => rfl | true => exact (h ((heq _ _).1 hh)).elim
      simp only [mPut, this, Bool.false_eq_true, if_false, List.map_cons, List.mem_cons, h, false_or]
      rw [mput_keys heq l x y]
      split <;> rfl
theorem mput_nodup {α β : Type} {eq : α → α → Bool} [DecidableEq α] (heq : ∀ a b, eq a b = true ↔ a = b) {l : List (α × β)} (h : (l.map (·.1)).Nodup) (x : α) (y : β) : ((mPut eq l x y).map (·.1)).Nodup := by
  rw [mput_keys heq]
  split
  · exact h
  · rename_i hx
    rw [List.nodup_append]
    refine ⟨h, by simp, ?_⟩
    intro a ha b hb e
    simp at hb
    subst hb; subst e; exact hx ha
theorem mdel_sub {α β : Type} {eq : α → α → Bool} : ∀ (l : List (α × β)) (x : α), (mDel eq l x).Sublist l
  | [], x => by simp [mDel]
  | p :: l, x => by
    unfold mDel
    split
    · exact List.sublist_cons_self _ _
    · exact (mdel_sub l x).cons_cons p
theorem mdel_nodup {α β : Type} {eq : α → α → Bool} {l : List (α × β)} (h : (l.map (·.1)).Nodup) (x : α) : ((mDel eq l x).map (·.1)).Nodup := h.sublist ((mdel_sub l x).map _)
theorem mget_mdel {α β : Type} {eq : α → α → Bool} [DecidableEq α] (heq : ∀ a b, eq a b = true ↔ a = b) : ∀ (l : List (α × β)) (x z : α), (l.map (·.1)).Nodup → mGet eq (mDel eq l x) z = if z = x then none else mGet eq l z
  | [], x, z, _ => by simp [mDel, mGet]
  | p :: l, x, z, hn => by
    have hf : ∀ {a b}, a ≠ b → eq a b = false := by
      intro a b h
      cases hh : eq a b with | false => rfl | true => exact (h ((heq _ _).1 hh)).elim
    simp only [List.map_cons, List.nodup_cons] at hn
    by_cases hx : x = p.1
    · have e1 : eq x p.1 = true := (heq _ _).2 hx
      simp only [mDel, e1, if_true, mGet]
      by_cases hz : z = x
      · rw [if_pos hz]
        exact (mget_none_iff heq l z).2 (by rw [hz, hx]; exact hn.1)
      · rw [if_neg hz, hf (fun e => hz (e.trans hx.symm))]; rfl
    · simp only [mDel, hf hx, Bool.false_eq_true, if_false, mGet]
      by_cases hz : z = p.1
      · rw [(heq _ _).2 hz, if_pos rfl, if_pos rfl, if_neg (fun e => hx (e.symm.trans hz))]
      · rw [hf hz]
        simp only [Bool.false_eq_true, if_false]
        exact mget_mdel heq l x z hn.2

abbrev Mc : Type := Int × (Int × (List (List (Int × (Int × Int)))))
/-- the sign at a place: of a list of places that were written, the last one counts -/
def sg (t : List (Int × Int)) (z : Int) : Int := t.foldl (fun s x => if x.1 = z then x.2 else s) 0
theorem sg_snoc (t : List (Int × Int)) (p : Int × Int) (z : Int) : sg (t ++ [p]) z = if p.1 = z then p.2 else sg t z := by
  unfold sg; rw [List.foldl_append]; rfl
theorem sg_mem (z : Int) : ∀ t : List (Int × Int), sg t z ≠ 0 → z ∈ t.map (·.1) := by
  intro t
  induction t using snoc_ind with
  | h0 => intro h; exact (h rfl).elim
  | h1 t p ih =>
    rw [sg_snoc]
    intro h
    rw [List.map_append]
    by_cases e : p.1 = z
    · exact List.mem_append_right _ (by simp [e])
    · rw [if_neg e] at h
      exact List.mem_append_left _ (ih h)
theorem sg_val {G : Int} (hG : 0 < G) (z : Int) : ∀ t : List (Int × Int), (∀ p ∈ t, 0 ≤ p.2 ∧ p.2 < G) → 0 ≤ sg t z ∧ sg t z < G := by
  intro t
  induction t using snoc_ind with
  | h0 => intro _; exact ⟨Int.le_refl _, hG⟩
  | h1 t p ih =>
    intro h
    rw [sg_snoc]
    split
    · exact h p (by simp)
    · exact ih (fun q hq => h q (by simp [hq]))
def eqI : Int → Int → Bool := deqT tI
theorem eqI_iff (a b : Int) : eqI a b = true ↔ a = b := by unfold eqI; exact deqI a b
/-- a map of signs that are not blank, and a list of places that were written -/
structure TI (G B : Int) (l t : List (Int × Int)) : Prop where
  nd : (l.map (·.1)).Nodup
  nz : ∀ p ∈ l, p.2 ≠ 0
  at_ : ∀ z, (mGet eqI l z).getD 0 = sg t z
  val : ∀ p ∈ t, 0 ≤ p.2 ∧ p.2 < G
  pos : ∀ p ∈ t, -B ≤ p.1 ∧ p.1 ≤ B
theorem mget_mem {l : List (Int × Int)} {z v : Int} (h : mGet eqI l z = some v) : (z, v) ∈ l := by
  induction l with
  | nil => simp [mGet] at h
  | cons p l ih =>
    rw [mGet] at h
    split at h
    · rename_i e
      have := (eqI_iff _ _).1 e
      simp only [Option.some.injEq] at h
      subst this h
      simp
    · exact List.mem_cons_of_mem _ (ih h)
theorem ti_keys {G B : Int} {l t : List (Int × Int)} (h : TI G B l t) (z : Int) : z ∈ l.map (·.1) ↔ sg t z ≠ 0 := by
  rw [← h.at_ z]
  have hn := mget_none_iff eqI_iff l z
  cases hg : mGet eqI l z with
  | none =>
    have := hn.1 hg
    simp [this]
  | some v =>
    have h1 : ¬ z ∉ l.map (·.1) := fun hh => by rw [hn.2 hh] at hg; cases hg
    have := h.nz _ (mget_mem hg)
    simp only [Option.getD_some]
    exact ⟨fun _ => this, fun _ => Classical.not_not.1 h1⟩
theorem ti_put {G B : Int} {l t : List (Int × Int)} (h : TI G B l t) {a s : Int} (hs : 0 ≤ s ∧ s < G) (ha : -B ≤ a ∧ a ≤ B) : ∃ l', tape_Tape_Put a s (some l) = some (some l') ∧ TI G B l' (t ++ [(a, s)]) := by
  have hval : ∀ p ∈ t ++ [(a, s)], 0 ≤ p.2 ∧ p.2 < G := by
    intro p hp
    rcases List.mem_append.1 hp with hp | hp
    · exact h.val p hp
    · obtain rfl : p = (a, s) := by simpa using hp
      exact hs
  have hpos : ∀ p ∈ t ++ [(a, s)], -B ≤ p.1 ∧ p.1 ≤ B := by
    intro p hp
    rcases List.mem_append.1 hp with hp | hp
    · exact h.pos p hp
    · obtain rfl : p = (a, s) := by simpa using hp
      exact ha
  unfold tape_Tape_Put
  by_cases e : s = 0
  · rw [show (s == (0 : Int)) = true by simp [e], cond_true]
    refine ⟨mDel eqI l a, rfl, mdel_nodup h.nd a, fun p hp => h.nz p ((mdel_sub l a).subset hp), fun z => ?_, hval, hpos⟩
    rw [mget_mdel eqI_iff l a z h.nd, sg_snoc]
    by_cases e2 : z = a
    · rw [if_pos e2, if_pos (by rw [e2]), e]; rfl
    · rw [if_neg e2, if_neg (fun q => e2 q.symm)]; exact h.at_ z
  · rw [show (s == (0 : Int)) = false by simp [e], cond_false]
    refine ⟨mPut eqI l a s, rfl, mput_nodup eqI_iff h.nd a s, fun p hp => ?_, fun z => ?_, hval, hpos⟩
    · -- no blank comes in
      have key : ∀ (l : List (Int × Int)) , (∀ p ∈ l, p.2 ≠ 0) → ∀ p ∈ mPut eqI l a s, p.2 ≠ 0 := by
        intro l
        induction l with
        | nil => intro _ p hp; obtain rfl : p = (a, s) := by simpa [mPut] using hp
                 exact e
        | cons q l ih =>
          intro hl p hp
          rw [mPut] at hp
          split at hp
          · rcases List.mem_cons.1 hp with rfl | hp
            · exact e
            · exact hl p (by simp [hp])
          · rcases List.mem_cons.1 hp with rfl | hp
            · exact hl p (by simp)
            · exact ih (fun x hx => hl x (by simp [hx])) p hp
      exact key l h.nz p hp
    · rw [mget_mput eqI_iff, sg_snoc]
      by_cases e2 : z = a
      · rw [if_pos e2, if_pos (by rw [e2])]; rfl
      · rw [if_neg e2, if_neg (fun q => e2 q.symm)]; exact h.at_ z
theorem ti_nil (G B : Int) : TI G B [] [] := ⟨by simp, by simp, fun z => rfl, by simp, by simp⟩
/-- a machine as it may be -/
def okM (m : Mc) : Prop := (1 ≤ m.1 ∧ m.1 ≤ 5) ∧ (2 ≤ m.2.1 ∧ m.2.1 ≤ 4) ∧ (m.2.2.length : Int) = m.1 ∧ ∀ l ∈ m.2.2, (l.length : Int) = m.2.1 ∧ ∀ r ∈ l, (0 ≤ r.1 ∧ r.1 < m.2.1) ∧ (-1 ≤ r.2.1 ∧ r.2.1 ≤ 1) ∧ (0 ≤ r.2.2 ∧ r.2.2 ≤ m.1)
theorem rule_of {m : Mc} (h : okM m) {G B : Int} (hG : G = m.2.1) {l t : List (Int × Int)} (ht : TI G B l t) {st h0 : Int} (hs : 0 ≤ st ∧ st < m.1) : ∃ row r, idx m.2.2 st = some row ∧ idx row (sg t h0) = some r ∧ (0 ≤ r.1 ∧ r.1 < G) ∧ (-1 ≤ r.2.1 ∧ r.2.1 ≤ 1) ∧ (0 ≤ r.2.2 ∧ r.2.2 ≤ m.1) := by
  obtain ⟨h1, h2, h3, h4⟩ := h
  subst hG
  obtain ⟨row, r1, r2⟩ := idx_get (xs := m.2.2) hs.1 (by omega)
  obtain ⟨k1, k2⟩ := h4 row (List.mem_of_getElem? r2)
  have hv := sg_val (G := m.2.1) (by omega) h0 t ht.val
  obtain ⟨r, q1, q2⟩ := idx_get (xs := row) hv.1 (by omega)
  obtain ⟨g1, g2, g3⟩ := k2 r (List.mem_of_getElem? q2)
  exact ⟨row, r, r1, q1, g1, g2, g3⟩
theorem step_eq {m : Mc} {B : Int} (hB : B ≤ 100000) {l t : List (Int × Int)} (ht : TI m.2.1 B l t) {st h0 : Int} (hh : -B ≤ h0 ∧ h0 ≤ B) {row : List (Int × Int × Int)} {r : Int × Int × Int} (h1 : idx m.2.2 st = some row) (h2 : idx row (sg t h0) = some r) (h3 : 0 ≤ r.1 ∧ r.1 < m.2.1) (h4 : -1 ≤ r.2.1 ∧ r.2.1 ≤ 1) :
    ∃ l', tape_Step m st h0 (some l) = some (r.2.2, h0 + r.2.1, some l') ∧ TI m.2.1 B l' (t ++ [(h0, r.1)]) := by
  obtain ⟨l', p1, p2⟩ := ti_put ht (a := h0) (s := r.1) h3 hh
  refine ⟨l', ?_, p2⟩
  have hg : Option.getD (mGet (deqT tI) (Option.getD (some l) []) h0) (0 : Int) = sg t h0 := ht.at_ h0
  unfold tape_Step
  rw [h1, bind_some', hg, h2, bind_some', p1, bind_some', w64_id (by omega) (by omega)]

theorem perm_fold {α X : Type} {g : X → α → X} (hc : ∀ x p q, g (g x p) q = g (g x q) p) {l l' : List α} (h : List.Perm l' l) : ∀ x, l'.foldl g x = l.foldl g x := by
  induction h with
  | nil => intro x; rfl
  | cons a _ ih => intro x; exact ih _
  | swap a b l => intro x; simp only [List.foldl_cons]; rw [hc]
  | trans _ _ ih1 ih2 => intro x; rw [ih1, ih2]
theorem rangeM_fold {α X : Type} {b : α → X → Option X} {g : X → α → X} {l : List α} {x : X} (hc : ∀ x p q, g (g x p) q = g (g x q) p) (hb : ∀ l', List.Perm l' l → forR b l' x = some (l'.foldl g x)) : rangeM b l x = some (l.foldl g x) := by
  unfold rangeM
  rw [if_pos]
  · exact hb l (List.Perm.refl l)
  · intro l' hl
    rw [hb l' hl, hb l (List.Perm.refl l), perm_fold hc hl]
theorem forR_all {α X : Type} {b : α → X → Option X} {g : X → α → X} : ∀ (l : List α) (x : X), (∀ p ∈ l, ∀ x, b p x = some (g x p)) → forR b l x = some (l.foldl g x)
  | [], x, _ => rfl
  | a :: l, x, h => by
    rw [forR, h a List.mem_cons_self, Option.bind_some]
    exact forR_all l _ fun p hp => h p (List.mem_cons_of_mem _ hp)
theorem forR_sum {α : Type} {b : α → Int → Option Int} {f : α → Int} : ∀ (l : List α) (x : Int), (∀ p ∈ l, 0 ≤ f p ∧ f p ≤ 6) → 0 ≤ x → x + 6 * l.length ≤ 1000000 → (∀ p ∈ l, ∀ x, 0 ≤ x → x ≤ 1000000 → b p x = some (x + f p)) → forR b l x = some (l.foldl (fun x p => x + f p) x)
  | [], x, _, _, _, _ => rfl
  | a :: l, x, h1, h2, h3, h4 => by
    have ha := h1 a List.mem_cons_self
    simp only [List.length_cons] at h3
    rw [forR, h4 a List.mem_cons_self x h2 (by omega), Option.bind_some]
    exact forR_sum l _ (fun p hp => h1 p (List.mem_cons_of_mem _ hp)) (by omega) (by omega) fun p hp => h4 p (List.mem_cons_of_mem _ hp)
theorem foldl_add {α : Type} (f : α → Int) : ∀ (l : List α) (x : Int), l.foldl (fun x p => x + f p) x = x + (l.map f).sum
  | [], x => by simp
  | a :: l, x => by
    rw [List.foldl_cons, foldl_add f l, List.map_cons, List.sum_cons]; omega
/-- the greatest of some -/
def fmax {α : Type} (c : α → Bool) (f : α → Int) (l : List α) (x : Int) : Int := l.foldl (fun x p => if c p = true ∧ x < f p then f p else x) x
theorem fmax_ge {α : Type} (c : α → Bool) (f : α → Int) : ∀ (l : List α) (x : Int), x ≤ fmax c f l x
  | [], x => by simp [fmax]
  | a :: l, x => by
    have := fmax_ge c f l (if c a = true ∧ x < f a then f a else x)
    simp only [fmax, List.foldl_cons] at this ⊢
    by_cases h : c a = true ∧ x < f a
    · rw [if_pos h] at this ⊢; omega
    · rw [if_neg h] at this ⊢; omega
theorem fmax_le {α : Type} (c : α → Bool) (f : α → Int) : ∀ (l : List α) (x : Int) (p : α), p ∈ l → c p = true → f p ≤ fmax c f l x
  | [], x, p, h, _ => by simp at h
  | a :: l, x, p, h, hc => by
    rcases List.mem_cons.1 h with rfl | h
    · have := fmax_ge c f l (if c p = true ∧ x < f p then f p else x)
      simp only [fmax, List.foldl_cons] at this ⊢
      by_cases hx : x < f p
      · rw [if_pos ⟨hc, hx⟩] at this ⊢; exact this
      · rw [if_neg (fun e => hx e.2)] at this ⊢; omega
    · have := fmax_le c f l (if c a = true ∧ x < f a then f a else x) p h hc
      exact this
theorem fmax_of {α : Type} (c : α → Bool) (f : α → Int) : ∀ (l : List α) (x : Int), fmax c f l x = x ∨ ∃ p ∈ l, c p = true ∧ fmax c f l x = f p
  | [], x => Or.inl rfl
  | a :: l, x => by
    have e : fmax c f (a :: l) x = fmax c f l (if c a = true ∧ x < f a then f a else x) := rfl
    rw [e]
    rcases fmax_of c f l (if c a = true ∧ x < f a then f a else x) with h | ⟨p, hp, hc, h⟩
    · by_cases hx : c a = true ∧ x < f a
      · rw [if_pos hx] at h ⊢; exact Or.inr ⟨a, List.mem_cons_self, hx.1, h⟩
      · rw [if_neg hx] at h ⊢; exact Or.inl h
    · exact Or.inr ⟨p, List.mem_cons_of_mem _ hp, hc, h⟩
theorem fmax_eq {α β : Type} {c : α → Bool} {f : α → Int} {c' : β → Bool} {f' : β → Int} {l : List α} {l' : List β} {x : Int} (h1 : ∀ p ∈ l, c p = true → ∃ q ∈ l', c' q = true ∧ f' q = f p) (h2 : ∀ q ∈ l', c' q = true → ∃ p ∈ l, c p = true ∧ f p = f' q) : fmax c f l x = fmax c' f' l' x := by
  apply Int.le_antisymm
  · rcases fmax_of c f l x with h | ⟨p, hp, hc, h⟩
    · rw [h]; exact fmax_ge _ _ _ _
    · obtain ⟨q, hq, hc', e⟩ := h1 p hp hc
      rw [h, ← e]; exact fmax_le _ _ _ _ _ hq hc'
  · rcases fmax_of c' f' l' x with h | ⟨p, hp, hc, h⟩
    · rw [h]; exact fmax_ge _ _ _ _
    · obtain ⟨q, hq, hc', e⟩ := h2 p hp hc
      rw [h, ← e]; exact fmax_le _ _ _ _ _ hq hc'

/-- the least and the greatest of numbers, beside two that are there -/
def mmS (x : Int × Int) (k : Int) : Int × Int := (imin x.1 k, imax x.2 k)
theorem mm_comm (x : Int × Int) (p q : Int) : mmS (mmS x p) q = mmS (mmS x q) p := by
  unfold mmS imin imax
  simp only [Prod.mk.injEq]
  constructor
  · repeat' split
    all_goals omega
  · repeat' split
    all_goals omega
theorem mm_spec : ∀ (ks : List Int) (x : Int × Int), ((ks.foldl mmS x).1 ≤ x.1 ∧ (∀ k ∈ ks, (ks.foldl mmS x).1 ≤ k) ∧ ((ks.foldl mmS x).1 = x.1 ∨ (ks.foldl mmS x).1 ∈ ks)) ∧
    (x.2 ≤ (ks.foldl mmS x).2 ∧ (∀ k ∈ ks, k ≤ (ks.foldl mmS x).2) ∧ ((ks.foldl mmS x).2 = x.2 ∨ (ks.foldl mmS x).2 ∈ ks))
  | [], x => by simp
  | k :: ks, x => by
    obtain ⟨⟨a1, a2, a3⟩, b1, b2, b3⟩ := mm_spec ks (mmS x k)
    simp only [List.foldl_cons]
    have e1 : (mmS x k).1 ≤ x.1 ∧ (mmS x k).1 ≤ k ∧ ((mmS x k).1 = x.1 ∨ (mmS x k).1 = k) := by
      unfold mmS imin; simp only; split <;> omega
    have e2 : x.2 ≤ (mmS x k).2 ∧ k ≤ (mmS x k).2 ∧ ((mmS x k).2 = x.2 ∨ (mmS x k).2 = k) := by
      unfold mmS imax; simp only; split <;> omega
    refine ⟨⟨by omega, fun q hq => ?_, ?_⟩, by omega, fun q hq => ?_, ?_⟩
    · rcases List.mem_cons.1 hq with rfl | hq
      · omega
      · exact a2 q hq
    · rcases a3 with a3 | a3
      · rcases e1.2.2 with e | e
        · left; omega
        · right; rw [a3, e]; simp
      · right; simp [a3]
    · rcases List.mem_cons.1 hq with rfl | hq
      · omega
      · exact b2 q hq
    · rcases b3 with b3 | b3
      · rcases e2.2.2 with e | e
        · left; omega
        · right; rw [b3, e]; simp
      · right; simp [b3]
theorem mm_same {ks ks' : List Int} (h : ∀ k, k ∈ ks ↔ k ∈ ks') (x : Int × Int) : ks.foldl mmS x = ks'.foldl mmS x := by
  obtain ⟨⟨a1, a2, a3⟩, b1, b2, b3⟩ := mm_spec ks x
  obtain ⟨⟨c1, c2, c3⟩, d1, d2, d3⟩ := mm_spec ks' x
  apply Prod.ext
  · rcases a3 with a3 | a3 <;> rcases c3 with c3 | c3
    · omega
    · have := a2 _ ((h _).2 c3); omega
    · have := c2 _ ((h _).1 a3); omega
    · have := a2 _ ((h _).2 c3); have := c2 _ ((h _).1 a3); omega
  · rcases b3 with b3 | b3 <;> rcases d3 with d3 | d3
    · omega
    · have := b2 _ ((h _).2 d3); omega
    · have := d2 _ ((h _).1 b3); omega
    · have := b2 _ ((h _).2 d3); have := d2 _ ((h _).1 b3); omega

theorem now_cells {G B : Int} (hB : 0 ≤ B ∧ B ≤ 1000) {l t : List (Int × Int)} (h : TI G B l t) {st h0 : Int} (hh : -B ≤ h0 ∧ h0 ≤ B) {fuel : Nat} (hf : 5000 ≤ fuel) : ∃ lo c, tape_now fuel st h0 (some l) = some ((st, h0, lo, (List.range c).map fun i : Nat => sg t (lo + i)), some l) ∧ -B ≤ lo ∧ lo + c ≤ B + 1 ∧ (∀ z, sg t z ≠ 0 → lo ≤ z ∧ z < lo + c) := by
  have hr : rangeM tape_now_b1 l (h0, h0) = some ((l.map (·.1)).foldl mmS (h0, h0)) := by
    have : l.foldl (fun x (p : Int × Int) => mmS x p.1) (h0, h0) = (l.map (·.1)).foldl mmS (h0, h0) := by rw [List.foldl_map]
    rw [← this]
    refine rangeM_fold (fun x p q => mm_comm x p.1 q.1) (fun l' _ => forR_all l' _ (fun p _ x => rfl))
  obtain ⟨⟨c1, c2, c3⟩, d1, d2, d3⟩ := mm_spec (l.map (·.1)) (h0, h0)
  generalize (l.map (·.1)).foldl mmS (h0, h0) = v at hr c1 c2 c3 d1 d2 d3
  have hkey : ∀ z, z ∈ l.map (·.1) → -B ≤ z ∧ z ≤ B := by
    intro z hz
    obtain ⟨p, hp, rfl⟩ := List.mem_map.1 (sg_mem z t ((ti_keys h z).1 hz))
    exact h.pos p hp
  have hlo : -B ≤ v.1 := by
    rcases c3 with e | e
    · simp only at e; omega
    · exact (hkey _ e).1
  have hhi : v.2 ≤ B := by
    rcases d3 with e | e
    · simp only at e; omega
    · exact (hkey _ e).2
  simp only at c1 d1
  obtain ⟨y, q1, q2⟩ := iter_inv (f := tape_now_b4 l v) (Inv := fun x => v.1 ≤ x.1 ∧ x.1 ≤ v.2 + 1 ∧ ∃ c : Nat, x.1 = v.1 + c ∧ x.2 = (List.range c).map fun i : Nat => sg t (v.1 + i)) (m := fun x => (B + 1 - x.1).toNat) (Post := fun y => ∃ c : Nat, v.2 + 1 = v.1 + c ∧ y = (List.range c).map fun i : Nat => sg t (v.1 + i)) (by
    rintro ⟨z, xs⟩ ⟨i1, i2, c, i3, i4⟩
    simp only at i1 i2 i3 i4
    subst i4
    unfold tape_now_b4
    simp only
    by_cases e : z ≤ v.2
    · have hck : ck ((List.length ((List.range c).map fun i : Nat => sg t (v.1 + i)) : Int) + 1 ≤ 4294967296) = some () := ck_ok (by rw [List.length_map, List.length_range]; omega)
      have hg : Option.getD (mGet (deqT tI) (Option.getD (some l : Option (List (Int × Int))) []) z) (0 : Int) = sg t z := h.at_ z
      rw [decide_eq_true e, cond_true, hck, bind_some', w64_id (by omega) (by omega), hg]
      refine ⟨_, rfl, ⟨by simp only; omega, by simp only; omega, c + 1, by simp only; omega, ?_⟩, by simp only; omega⟩
      simp only [List.range_succ, List.map_append, List.map_cons, List.map_nil, i3]
    · rw [decide_eq_false e, cond_false]
      exact ⟨_, rfl, c, by omega, rfl⟩) fuel (v.1, []) (by simp only; omega) ⟨Int.le_refl _, by simp only; omega, 0, by simp, rfl⟩
  obtain ⟨c, e1, rfl⟩ := q2
  refine ⟨v.1, c, ?_, hlo, by omega, fun z hz => ?_⟩
  · unfold tape_now
    rw [bind_some', hr, bind_some', q1]; rfl
  · have hk := (ti_keys h z).2 hz
    have := c2 z hk
    have := d2 z hk
    omega

def bbR (S n : Int) : Int × Int × Int := (w64 (Int.tdiv (w64 (Int.tdiv (Int.tmod n (w64 ((4 : Int) * (w64 (S + (1 : Int)))))) (w64 (S + (1 : Int))))) (2 : Int)), w64 ((w64 ((Int.tmod (w64 (Int.tdiv (Int.tmod n (w64 ((4 : Int) * (w64 (S + (1 : Int)))))) (w64 (S + (1 : Int))))) (2 : Int)) * (2 : Int))) - (1 : Int)), Int.tmod (Int.tmod n (w64 ((4 : Int) * (w64 (S + (1 : Int)))))) (w64 (S + (1 : Int))))
def bbQ (S r : Int) : Int × Int × Int := (Int.tdiv (Int.tdiv r (S + 1)) 2, Int.tmod (Int.tdiv r (S + 1)) 2 * 2 - 1, Int.tmod r (S + 1))
theorem bb12 (n : Int) (h0 : 0 ≤ n) : bbR 2 n = bbQ 2 (n % 12) := by
  have e : Int.tmod n (w64 ((4 : Int) * (w64 ((2 : Int) + (1 : Int))))) = n % 12 := by
    rw [show w64 ((4 : Int) * (w64 ((2 : Int) + (1 : Int)))) = 12 from by decide]; exact Int.tmod_eq_emod_of_nonneg h0
  unfold bbR
  rw [e]
  have h : n % 12 = 0 ∨ n % 12 = 1 ∨ n % 12 = 2 ∨ n % 12 = 3 ∨ n % 12 = 4 ∨ n % 12 = 5 ∨ n % 12 = 6 ∨ n % 12 = 7 ∨ n % 12 = 8 ∨ n % 12 = 9 ∨ n % 12 = 10 ∨ n % 12 = 11 := by omega
  generalize n % 12 = r at h
  rcases h with rfl | rfl | rfl | rfl | rfl | rfl | rfl | rfl | rfl | rfl | rfl | rfl <;> decide
theorem bbd (n : Int) (h0 : 0 ≤ n) (h1 : n ≤ 20736) : w64 (Int.tdiv n (w64 ((4 : Int) * (w64 ((2 : Int) + (1 : Int)))))) = n / 12 := by
  rw [show w64 ((4 : Int) * (w64 ((2 : Int) + (1 : Int)))) = 12 from by decide, Int.tdiv_eq_ediv_of_nonneg h0]
  exact w64_id (by omega) (by omega)
theorem bb_build (fuel : Nat) (n : Int) (h0 : 0 ≤ n) (h1 : n < 20736) : busy_Build (fuel + 5) 2 n = some ((2, 2, [[bbQ 2 (n / 1728 % 12), bbQ 2 (n / 144 % 12)], [bbQ 2 (n / 12 % 12), bbQ 2 (n % 12)]]), 0) := by
  have hp : busy_power 2 = some 20736 := by decide
  have step : ∀ (m : Int) (a b c d : Int × Int × Int), busy_Build_b4 2 (m, 3, [[a, b], [c, d]]) = some (.next (w64 (Int.tdiv m (w64 ((4 : Int) * (w64 ((2 : Int) + (1 : Int)))))), 2, [[a, b], [c, bbR 2 m]])) ∧
      busy_Build_b4 2 (m, 2, [[a, b], [c, d]]) = some (.next (w64 (Int.tdiv m (w64 ((4 : Int) * (w64 ((2 : Int) + (1 : Int)))))), 1, [[a, b], [bbR 2 m, d]])) ∧
      busy_Build_b4 2 (m, 1, [[a, b], [c, d]]) = some (.next (w64 (Int.tdiv m (w64 ((4 : Int) * (w64 ((2 : Int) + (1 : Int)))))), 0, [[a, bbR 2 m], [c, d]])) ∧
      busy_Build_b4 2 (m, 0, [[a, b], [c, d]]) = some (.next (w64 (Int.tdiv m (w64 ((4 : Int) * (w64 ((2 : Int) + (1 : Int)))))), -1, [[bbR 2 m, b], [c, d]])) ∧
      busy_Build_b4 2 (m, -1, [[a, b], [c, d]]) = some (.done [[a, b], [c, d]]) := fun m a b c d => ⟨rfl, rfl, rfl, rfl, rfl⟩
  have hf : forI (0 : Int) 2 busy_Build_b1 (fun x24 => x24) [] = some [[(0, 0, 0), (0, 0, 0)], [(0, 0, 0), (0, 0, 0)]] := by rfl
  unfold busy_Build
  rw [show ((decide ((2 : Int) < (1 : Int))) || (decide ((2 : Int) > (2 : Int)))) = false from rfl, cond_false, show decide (n < (0 : Int)) = false from decide_eq_false (by omega), cond_false, hp, hf]
  simp only [Option.bind_some, show decide (n ≥ 20736) = false from decide_eq_false (by omega), cond_false]
  rw [show w64 ((w64 ((2 : Int) * 2)) - (1 : Int)) = 3 from by decide]
  simp only [iter, (step _ _ _ _ _).1, (step _ _ _ _ _).2.1, (step _ _ _ _ _).2.2.1, (step _ _ _ _ _).2.2.2.1, (step _ _ _ _ _).2.2.2.2, Option.bind_some]
  rw [bbd n h0 (by omega), bbd (n / 12) (by omega) (by omega), bbd (n / 12 / 12) (by omega) (by omega), bb12 n h0, bb12 (n / 12) (by omega), bb12 (n / 12 / 12) (by omega), bb12 (n / 12 / 12 / 12) (by omega)]
  rw [show n / 12 / 12 = n / 144 from by omega, show n / 144 / 12 = n / 1728 from by omega]

theorem bb8 (n : Int) (h0 : 0 ≤ n) : bbR 1 n = bbQ 1 (n % 8) := by
  have e : Int.tmod n (w64 ((4 : Int) * (w64 ((1 : Int) + (1 : Int))))) = n % 8 := by
    rw [show w64 ((4 : Int) * (w64 ((1 : Int) + (1 : Int)))) = 8 from by decide]; exact Int.tmod_eq_emod_of_nonneg h0
  unfold bbR
  rw [e]
  have h : n % 8 = 0 ∨ n % 8 = 1 ∨ n % 8 = 2 ∨ n % 8 = 3 ∨ n % 8 = 4 ∨ n % 8 = 5 ∨ n % 8 = 6 ∨ n % 8 = 7 := by omega
  generalize n % 8 = r at h
  rcases h with rfl | rfl | rfl | rfl | rfl | rfl | rfl | rfl <;> decide
theorem bbd8 (n : Int) (h0 : 0 ≤ n) (h1 : n ≤ 20736) : w64 (Int.tdiv n (w64 ((4 : Int) * (w64 ((1 : Int) + (1 : Int)))))) = n / 8 := by
  rw [show w64 ((4 : Int) * (w64 ((1 : Int) + (1 : Int)))) = 8 from by decide, Int.tdiv_eq_ediv_of_nonneg h0]
  exact w64_id (by omega) (by omega)
theorem bb_build1 (fuel : Nat) (n : Int) (h0 : 0 ≤ n) (h1 : n < 64) : busy_Build (fuel + 5) 1 n = some ((1, 2, [[bbQ 1 (n / 8 % 8), bbQ 1 (n % 8)]]), 0) := by
  have hp : busy_power 1 = some 64 := by decide
  have step : ∀ (m : Int) (a b : Int × Int × Int), busy_Build_b4 1 (m, 1, [[a, b]]) = some (.next (w64 (Int.tdiv m (w64 ((4 : Int) * (w64 ((1 : Int) + (1 : Int)))))), 0, [[a, bbR 1 m]])) ∧
      busy_Build_b4 1 (m, 0, [[a, b]]) = some (.next (w64 (Int.tdiv m (w64 ((4 : Int) * (w64 ((1 : Int) + (1 : Int)))))), -1, [[bbR 1 m, b]])) ∧
      busy_Build_b4 1 (m, -1, [[a, b]]) = some (.done [[a, b]]) := fun m a b => ⟨rfl, rfl, rfl⟩
  have hf : forI (0 : Int) 1 busy_Build_b1 (fun x24 => x24) [] = some [[(0, 0, 0), (0, 0, 0)]] := by rfl
  unfold busy_Build
  rw [show ((decide ((1 : Int) < (1 : Int))) || (decide ((1 : Int) > (2 : Int)))) = false from rfl, cond_false, show decide (n < (0 : Int)) = false from decide_eq_false (by omega), cond_false, hp, hf]
  simp only [Option.bind_some, show decide (n ≥ 64) = false from decide_eq_false (by omega), cond_false]
  rw [show w64 ((w64 ((2 : Int) * 1)) - (1 : Int)) = 1 from by decide]
  simp only [iter, (step _ _ _).1, (step _ _ _).2.1, (step _ _ _).2.2, Option.bind_some]
  rw [bbd8 n h0 (by omega), bb8 n h0, bb8 (n / 8) (by omega)]
/-- how many machines -/
def bmP (S : Int) : Int := if S = 1 then 64 else 20736
/-- the digit for a state and a sign -/
def bmD (S n st s : Int) : Int := if S = 1 then (if s = 0 then n / 8 % 8 else n % 8) else (if st = 0 then (if s = 0 then n / 1728 % 12 else n / 144 % 12) else (if s = 0 then n / 12 % 12 else n % 12))
theorem bmD_lt {S : Int} (hS : S = 1 ∨ S = 2) (n st s : Int) : 0 ≤ bmD S n st s ∧ bmD S n st s < 4 * (S + 1) := by
  unfold bmD
  rcases hS with rfl | rfl
  · rw [if_pos rfl]; split <;> omega
  · rw [if_neg (by omega)]; split <;> split <;> omega
structure IsM (S n : Int) (m : Mc) : Prop where
  s : m.1 = S
  g : m.2.1 = 2
  ok : tpAll m = 0
  rule : ∀ st s, 0 ≤ st → st < S → 0 ≤ s → s < 2 → ∃ row, idx m.2.2 st = some row ∧ idx row s = some (bbQ S (bmD S n st s))
theorem rule12 (r : Int) (h0 : 0 ≤ r) (h1 : r < 12) : tpRule 2 2 (bbQ 2 r) = none := by
  have : ∀ r : Fin 12, tpRule 2 2 (bbQ 2 r.val) = none := by decide
  have := this ⟨r.toNat, by omega⟩
  rwa [show ((r.toNat : Nat) : Int) = r from by omega] at this
theorem rule8 (r : Int) (h0 : 0 ≤ r) (h1 : r < 8) : tpRule 1 2 (bbQ 1 r) = none := by
  have : ∀ r : Fin 8, tpRule 1 2 (bbQ 1 r.val) = none := by decide
  have := this ⟨r.toNat, by omega⟩
  rwa [show ((r.toNat : Nat) : Int) = r from by omega] at this
theorem bm_built {S : Int} (hS : S = 1 ∨ S = 2) (n : Int) (h0 : 0 ≤ n) (h1 : n < bmP S) (fuel : Nat) : ∃ m, busy_Build (fuel + 5) S n = some (m, 0) ∧ IsM S n m := by
  rcases hS with rfl | rfl
  · rw [bmP, if_pos rfl] at h1
    refine ⟨_, bb_build1 fuel n h0 h1, rfl, rfl, ?_, ?_⟩
    · unfold tpAll
      simp only [List.findSome?, rule8 (n / 8 % 8) (by omega) (by omega), rule8 (n % 8) (by omega) (by omega)]
      rfl
    · intro st s a1 a2 a3 a4
      obtain rfl : st = 0 := by omega
      have : s = 0 ∨ s = 1 := by omega
      rcases this with rfl | rfl
      · exact ⟨_, rfl, rfl⟩
      · exact ⟨_, rfl, rfl⟩
  · rw [bmP, if_neg (by omega)] at h1
    refine ⟨_, bb_build fuel n h0 h1, rfl, rfl, ?_, ?_⟩
    · unfold tpAll
      simp only [List.findSome?, rule12 (n / 1728 % 12) (by omega) (by omega), rule12 (n / 144 % 12) (by omega) (by omega), rule12 (n / 12 % 12) (by omega) (by omega), rule12 (n % 12) (by omega) (by omega)]
      rfl
    · intro st s a1 a2 a3 a4
      have h1 : s = 0 ∨ s = 1 := by omega
      have h2 : st = 0 ∨ st = 1 := by omega
      rcases h2 with rfl | rfl <;> rcases h1 with rfl | rfl <;> exact ⟨_, rfl, rfl⟩
/-- the digits, as the document draws them out -/
theorem bm_digit {S n : Int} (hS : S = 1 ∨ S = 2) (h0 : 0 ≤ n) (h1 : n < bmP S) {st s : Int} (a1 : 0 ≤ st) (a2 : st < S) (a3 : 0 ≤ s) (a4 : s < 2) :
    ∃ r, ref_Power (w64 ((4 : Int) * (w64 (S + (1 : Int))))) (w64 ((w64 ((w64 ((2 : Int) * S)) - (1 : Int))) - (w64 ((w64 ((2 : Int) * st)) + s)))) = some r ∧ r ≠ 0 ∧ Int.tmod (w64 (Int.tdiv n r)) (w64 ((4 : Int) * (w64 (S + (1 : Int))))) = bmD S n st s := by
  have hs : s = 0 ∨ s = 1 := by omega
  rcases hS with rfl | rfl
  · rw [bmP, if_pos rfl] at h1
    obtain rfl : st = 0 := by omega
    have e8 : w64 ((4 : Int) * (w64 ((1 : Int) + (1 : Int)))) = 8 := by decide
    have key : ∀ r : Int, 0 < r → n / r ≤ 64 → 0 ≤ n / r → Int.tmod (w64 (Int.tdiv n r)) 8 = n / r % 8 := by
      intro r hr hd hn
      rw [Int.tdiv_eq_ediv_of_nonneg h0, w64_id (by omega) (by omega), Int.tmod_eq_emod_of_nonneg hn]
    rw [e8]
    rcases hs with rfl | rfl
    · exact ⟨8, by decide, by decide, by rw [key 8 (by omega) (by omega) (by omega)]; rfl⟩
    · exact ⟨1, by decide, by decide, by rw [key 1 (by omega) (by omega) (by omega), Int.ediv_one]; rfl⟩
  · rw [bmP, if_neg (by omega)] at h1
    have e12 : w64 ((4 : Int) * (w64 ((2 : Int) + (1 : Int)))) = 12 := by decide
    have key : ∀ r : Int, 0 < r → n / r ≤ 20736 → 0 ≤ n / r → Int.tmod (w64 (Int.tdiv n r)) 12 = n / r % 12 := by
      intro r hr hd hn
      rw [Int.tdiv_eq_ediv_of_nonneg h0, w64_id (by omega) (by omega), Int.tmod_eq_emod_of_nonneg hn]
    have h2 : st = 0 ∨ st = 1 := by omega
    rw [e12]
    rcases h2 with rfl | rfl <;> rcases hs with rfl | rfl
    · exact ⟨1728, by decide, by decide, by rw [key 1728 (by omega) (by omega) (by omega)]; rfl⟩
    · exact ⟨144, by decide, by decide, by rw [key 144 (by omega) (by omega) (by omega)]; rfl⟩
    · exact ⟨12, by decide, by decide, by rw [key 12 (by omega) (by omega) (by omega)]; rfl⟩
    · exact ⟨1, by decide, by decide, by rw [key 1 (by omega) (by omega) (by omega), Int.ediv_one]; rfl⟩
theorem bm_q {S : Int} (hS : S = 1 ∨ S = 2) {d : Int} (h0 : 0 ≤ d) (h1 : d < 4 * (S + 1)) :
    (Int.tmod d (w64 (S + 1)) = (bbQ S d).2.2 ∧ w64 (Int.tdiv (w64 (Int.tdiv d (w64 (S + (1 : Int))))) (2 : Int)) = (bbQ S d).1) ∧
    (Int.tmod (w64 (Int.tdiv d (w64 (S + (1 : Int))))) (2 : Int) == 1) = decide ((bbQ S d).2.1 = 1) ∧ ((bbQ S d).2.1 = 1 ∨ (bbQ S d).2.1 = -1) ∧ (0 ≤ (bbQ S d).1 ∧ (bbQ S d).1 < 2) ∧ (0 ≤ (bbQ S d).2.2 ∧ (bbQ S d).2.2 ≤ S) := by
  rcases hS with rfl | rfl
  · have : ∀ d : Fin 8, (Int.tmod d.val (w64 (1 + 1)) = (bbQ 1 d.val).2.2 ∧ w64 (Int.tdiv (w64 (Int.tdiv d.val (w64 (1 + (1 : Int))))) (2 : Int)) = (bbQ 1 d.val).1) ∧
      (Int.tmod (w64 (Int.tdiv d.val (w64 (1 + (1 : Int))))) (2 : Int) == 1) = decide ((bbQ 1 d.val).2.1 = 1) ∧ ((bbQ 1 d.val).2.1 = 1 ∨ (bbQ 1 d.val).2.1 = -1) ∧ (0 ≤ (bbQ 1 d.val).1 ∧ (bbQ 1 d.val).1 < 2) ∧ (0 ≤ (bbQ 1 d.val).2.2 ∧ (bbQ 1 d.val).2.2 ≤ 1) := by decide
    have := this ⟨d.toNat, by omega⟩
    rwa [show ((d.toNat : Nat) : Int) = d from by omega] at this
  · have : ∀ d : Fin 12, (Int.tmod d.val (w64 (2 + 1)) = (bbQ 2 d.val).2.2 ∧ w64 (Int.tdiv (w64 (Int.tdiv d.val (w64 (2 + (1 : Int))))) (2 : Int)) = (bbQ 2 d.val).1) ∧
      (Int.tmod (w64 (Int.tdiv d.val (w64 (2 + (1 : Int))))) (2 : Int) == 1) = decide ((bbQ 2 d.val).2.1 = 1) ∧ ((bbQ 2 d.val).2.1 = 1 ∨ (bbQ 2 d.val).2.1 = -1) ∧ (0 ≤ (bbQ 2 d.val).1 ∧ (bbQ 2 d.val).1 < 2) ∧ (0 ≤ (bbQ 2 d.val).2.2 ∧ (bbQ 2 d.val).2.2 ≤ 2) := by decide
    have := this ⟨d.toNat, by omega⟩
    rwa [show ((d.toNat : Nat) : Int) = d from by omega] at this
/-- the tape of the document: signs at the places about the middle -/
def arrOf (t : List (Int × Int)) (T : Int) : List Int := (List.range (2 * T + 1).toNat).map fun i : Nat => sg t ((i : Int) - T)
theorem arr_len (t : List (Int × Int)) {T : Int} (hT : 0 ≤ T) : ((arrOf t T).length : Int) = 2 * T + 1 := by
  unfold arrOf; rw [List.length_map, List.length_range]; omega
theorem arr_get (t : List (Int × Int)) {T h : Int} (hT : 0 ≤ T) (hh : -T ≤ h ∧ h ≤ T) : idx (arrOf t T) (h + T) = some (sg t h) := by
  obtain ⟨k, hk⟩ : ∃ k : Nat, h + T = (k : Int) := ⟨(h + T).toNat, by omega⟩
  rw [hk, idx_nat]
  unfold arrOf
  rw [List.getElem?_map, List.getElem?_range (by omega)]
  simp only [Option.map_some]
  congr 2; omega
theorem arr_set (t : List (Int × Int)) {T h v : Int} (hT : 0 ≤ T) (hh : -T ≤ h ∧ h ≤ T) : List.set (arrOf t T) (Int.toNat (h + T)) v = arrOf (t ++ [(h, v)]) T := by
  refine List.ext_getElem? (fun i => ?_)
  rw [List.getElem?_set]
  unfold arrOf
  simp only [List.length_map, List.length_range, List.getElem?_map]
  by_cases hi : i < (2 * T + 1).toNat
  · rw [List.getElem?_range hi]
    simp only [Option.map_some, sg_snoc]
    by_cases e : (h + T).toNat = i
    · rw [if_pos e, if_pos (by omega), if_pos (by omega)]
    · rw [if_neg e, if_neg (by omega)]
  · rw [if_neg (by omega)]
    rw [List.getElem?_eq_none (by rw [List.length_range]; omega)]; rfl
theorem arr_nil {T : Int} (hT : 0 ≤ T) : arrOf [] T = List.replicate (Int.toNat (2 * T + 1)) 0 := by
  unfold arrOf
  refine List.ext_getElem (by simp) (fun i h1 h2 => by simp [sg])
theorem bm_step {S n T : Int} (hS : S = 1 ∨ S = 2) (h0 : 0 ≤ n) (h1 : n < bmP S) (hT : 0 ≤ T ∧ T ≤ 60) {x : Int × Int × Int × Int} (hx : x.2.2.2 = n) {t : List (Int × Int)} (hv : ∀ p ∈ t, 0 ≤ p.2 ∧ p.2 < 2) {st h k : Int} (a1 : 0 ≤ st) (a2 : st < S) (a3 : 0 ≤ k) (a4 : k < T) (a5 : -k ≤ h ∧ h ≤ k) {q : Int × Int × Int} (hq : q = bbQ S (bmD S n st (sg t h))) :
    ref_Busy_b115 S T x (st, h + T, k, arrOf t T) = some (.next (q.2.2, h + q.2.1 + T, k + 1, arrOf (t ++ [(h, q.1)]) T)) := by
  have hs := sg_val (G := 2) (by omega) h t hv
  obtain ⟨r, r1, r2, r3⟩ := bm_digit hS h0 h1 a1 a2 hs.1 hs.2
  have hd := bmD_lt hS n st (sg t h)
  obtain ⟨⟨q1, q2⟩, q3, q4, q5, q6⟩ := bm_q hS hd.1 hd.2
  have k1 : ck (r ≠ 0) = some () := ck_ok r2
  have k2 : ck (w64 ((4 : Int) * (w64 (S + (1 : Int)))) ≠ 0) = some () := ck_ok (by rcases hS with rfl | rfl <;> decide)
  have k3 : ck (w64 (S + (1 : Int)) ≠ 0) = some () := ck_ok (by rcases hS with rfl | rfl <;> decide)
  have hg : ref_Busy_g113 S x (st, h + T, k, arrOf t T) r = some (h + q.2.1 + T) := by
    unfold ref_Busy_g113
    simp only
    rw [hx, r3, q3, ← hq]
    rw [← hq] at q4
    rcases q4 with e | e
    · rw [e, show decide ((1 : Int) = 1) = true from rfl, cond_true, w64_id (by omega) (by omega)]
      congr 1; omega
    · rw [e, show decide ((-1 : Int) = 1) = false from rfl, cond_false, w64_id (by omega) (by omega)]
      congr 1; omega
  unfold ref_Busy_b115
  simp only
  rw [decide_eq_true a4, decide_eq_true a2, show (true && true) = true from rfl, cond_true, arr_get t hT.1 (by omega), bind_some', r1, bind_some', k1, bind_some', k2, bind_some', k3, bind_some', hg, bind_some', hx, r3, q1, q2, ← hq]
  rw [← hq] at q4
  have hb : ((decide (h + q.2.1 + T < (0 : Int))) || (decide (h + q.2.1 + T > (w64 ((2 : Int) * T))))) = false := by
    rw [w64_id (by omega) (by omega)]
    simp only [Bool.or_eq_false_iff, decide_eq_false_iff_not]
    omega
  rw [hb, cond_false, arr_set t hT.1 (by omega), w64_id (n := k + 1) (by omega) (by omega)]
/-- one machine, run by the program and by the document -/
theorem bm_run {S n T : Int} (hS : S = 1 ∨ S = 2) (h0 : 0 ≤ n) (h1 : n < bmP S) (hT : 0 ≤ T ∧ T ≤ 60) {m : Mc} (hm : IsM S n m) {x : Int × Int × Int × Int} (hx : x.2.2.2 = n) {fuel : Nat} (hf : 5000 ≤ fuel) :
    ∃ st h k l t, iter (tape_run_b4 m T) fuel (0, 0, 0, some []) = some (st, h, k, some l) ∧ iter (ref_Busy_b115 S T x) fuel (0, T, 0, arrOf [] T) = some (st, k, arrOf t T) ∧ TI 2 T l t ∧ -T ≤ h ∧ h ≤ T ∧ 0 ≤ k := by
  obtain ⟨y, y', q1, q2, st', h', k', l', t', rfl, rfl, q3, q4, q5, q6⟩ := iter_rel (f := tape_run_b4 m T) (f' := ref_Busy_b115 S T x)
    (R := fun x x' => ∃ st h k l t, x = (st, h, k, some l) ∧ x' = (st, h + T, k, arrOf t T) ∧ TI 2 T l t ∧ 0 ≤ st ∧ 0 ≤ k ∧ k ≤ T ∧ -k ≤ h ∧ h ≤ k)
    (m := fun x => (T - x.2.2.1).toNat)
    (S := fun y y' => ∃ st h k l t, y = (st, h, k, some l) ∧ y' = (st, k, arrOf t T) ∧ TI 2 T l t ∧ -T ≤ h ∧ h ≤ T ∧ 0 ≤ k) (by
    rintro _ _ ⟨st, h, k, l, t, rfl, rfl, i1, i2, i3, i4, i5, i6⟩
    by_cases c : k < T ∧ st < S
    · obtain ⟨c1, c2⟩ := c
      have hs := sg_val (G := 2) (by omega) h t i1.val
      obtain ⟨row, r1, r2⟩ := hm.rule st (sg t h) i2 c2 hs.1 hs.2
      have hd := bmD_lt hS n st (sg t h)
      obtain ⟨_, _, g3, g4, g5⟩ := bm_q hS hd.1 hd.2
      obtain ⟨l', s1, s2⟩ := step_eq (m := m) (B := T) (by omega) (by rw [hm.g]; exact i1) (st := st) (h0 := h) (by omega) r1 r2 (by rw [hm.g]; exact g4) (by omega)
      rw [hm.g] at s2
      have e : (bif decide (k < T) then some (decide (st < m.1)) else some false) = some true := by rw [hm.s, decide_eq_true c1, decide_eq_true c2, cond_true]
      refine ⟨.next (_, _, k + 1, some l'), _, ?_, bm_step hS h0 h1 hT hx i1.val i2 c2 i3 c1 ⟨i5, i6⟩ rfl, ⟨_, _, _, l', _, rfl, rfl, s2, g5.1, by omega, by omega, by omega, by omega⟩, by simp only; omega⟩
      unfold tape_run_b4
      simp only
      rw [e, bind_some', cond_true, s1, bind_some', w64_id (n := k + 1) (by omega) (by omega)]
    · have e : (bif decide (k < T) then some (decide (st < m.1)) else some false) = some false := by
        rw [hm.s]
        by_cases c1 : k < T
        · rw [decide_eq_true c1, cond_true, decide_eq_false (fun c2 => c ⟨c1, c2⟩)]
        · rw [decide_eq_false c1, cond_false]
      have e2 : ((decide (k < T)) && (decide (st < S))) = false := by
        rw [Bool.eq_false_iff]
        intro h
        simp only [Bool.and_eq_true, decide_eq_true_eq] at h
        exact c h
      unfold tape_run_b4 ref_Busy_b115
      simp only
      rw [e, e2, bind_some', cond_false, cond_false]
      exact ⟨_, _, rfl, rfl, _, _, _, _, _, rfl, rfl, i1, by omega, by omega, i3⟩) fuel (0, 0, 0, some []) (0, T, 0, arrOf [] T) (by simp only; omega)
    ⟨0, 0, 0, [], [], rfl, by rw [Int.zero_add], ti_nil 2 T, Int.le_refl _, Int.le_refl _, hT.1, by omega, by omega⟩
  exact ⟨st', h', k', l', t', q1, q2, q3, q4, q5, q6⟩
theorem sum_range_split (f : Int → Int) (a : Int) (n m : Nat) : ((List.range (n + m)).map fun i : Nat => f (a + i)).sum = ((List.range n).map fun i : Nat => f (a + i)).sum + ((List.range m).map fun i : Nat => f (a + n + i)).sum := by
  induction m with
  | zero => simp
  | succ m ih =>
    rw [← Nat.add_assoc, List.range_succ, List.map_append, List.sum_append, ih, List.range_succ, List.map_append, List.sum_append]
    simp only [List.map_cons, List.map_nil, List.sum_cons, List.sum_nil]
    rw [show a + ((n + m : Nat) : Int) = a + n + m by omega]
    omega
theorem sum_range_zero (f : Int → Int) (a : Int) (n : Nat) (h : ∀ z, a ≤ z → z < a + n → f z = 0) : ((List.range n).map fun i : Nat => f (a + i)).sum = 0 := by
  induction n with
  | zero => rfl
  | succ n ih =>
    rw [List.range_succ, List.map_append, List.sum_append, ih (fun z h1 h2 => h z h1 (by omega))]
    simp only [List.map_cons, List.map_nil, List.sum_cons, List.sum_nil]
    rw [h _ (by omega) (by omega)]; rfl
theorem sum_same {t : List (Int × Int)} {T lo : Int} {c : Nat} (hT : 0 ≤ T) (h1 : -T ≤ lo) (h2 : lo + c ≤ T + 1) (h3 : ∀ z, sg t z ≠ 0 → lo ≤ z ∧ z < lo + c) : (arrOf t T).sum = ((List.range c).map fun i : Nat => sg t (lo + i)).sum := by
  obtain ⟨a, ha⟩ : ∃ a : Nat, lo = -T + a := ⟨(lo + T).toNat, by omega⟩
  obtain ⟨b, hb⟩ : ∃ b : Nat, T + 1 = lo + c + b := ⟨(T + 1 - lo - c).toNat, by omega⟩
  have e : arrOf t T = (List.range (a + (c + b))).map fun i : Nat => sg t (-T + i) := by
    unfold arrOf
    rw [show (2 * T + 1).toNat = a + (c + b) by omega]
    refine List.map_congr_left (fun i _ => ?_)
    congr 1; omega
  rw [e, sum_range_split (sg t) (-T) a (c + b), sum_range_split (sg t) (-T + a) c b, sum_range_zero (sg t) (-T) a, sum_range_zero (sg t) (-T + a + c) b, ← ha]
  · omega
  · intro z z1 z2
    apply Classical.byContradiction
    intro hz
    have := h3 z hz
    omega
  · intro z z1 z2
    apply Classical.byContradiction
    intro hz
    have := h3 z hz
    omega
theorem fold_sum : ∀ (l : List Int) (x : Int), (∀ v ∈ l, 0 ≤ v ∧ v < 2) → 0 ≤ x → x + 2 * l.length ≤ 1000000 → l.foldl (fun x v => w64 (x + v)) x = x + l.sum
  | [], x, _, _, _ => by simp
  | v :: l, x, h, h0, h1 => by
    have hv := h v List.mem_cons_self
    simp only [List.length_cons] at h1
    rw [List.foldl_cons, w64_id (by omega) (by omega), fold_sum l _ (fun v hv => h v (List.mem_cons_of_mem _ hv)) (by omega) (by omega), List.sum_cons]
    omega
theorem sum_nonneg : ∀ (l : List Int), (∀ v ∈ l, 0 ≤ v ∧ v < 2) → 0 ≤ l.sum
  | [], _ => by simp
  | v :: l, h => by
    have hv := h v List.mem_cons_self
    have := sum_nonneg l (fun v hv => h v (List.mem_cons_of_mem _ hv))
    rw [List.sum_cons]; omega
/-- one machine: what the program and the document tell of it -/
theorem bm_one {S n T : Int} (hS : S = 1 ∨ S = 2) (h0 : 0 ≤ n) (h1 : n < bmP S) (hT : 0 ≤ T ∧ T ≤ 60) {fuel : Nat} (hf : 5000 ≤ fuel) :
    ∃ st k s : Int, 0 ≤ k ∧ (∀ x : Int × Int × Int, busy_Most_g32 S T fuel n x = if st < S then some x else some (imax x.1 k, imax x.2.1 s, w64 (x.2.2 + 1))) ∧
      (∀ x : Int × Int × Int, ref_Busy_g122 S T fuel (x.1, x.2.1, x.2.2, n) = if st < S then some x else some (imax x.1 k, imax x.2.1 s, w64 (x.2.2 + 1))) := by
  obtain ⟨f, rfl⟩ : ∃ f, fuel = f + 5 := ⟨fuel - 5, by omega⟩
  obtain ⟨m, m1, m2⟩ := bm_built hS n h0 h1 f
  have key := fun x hx => bm_run hS h0 h1 hT m2 (x := x) hx hf
  obtain ⟨st, h, k, l, t, p1, _, p3, p4, p5, p6⟩ := key (0, 0, 0, n) rfl
  obtain ⟨lo, c, c1, c2, c3, c4⟩ := now_cells (B := T) (by omega) p3 (st := st) (h0 := h) ⟨p4, p5⟩ hf
  have hrun : tape_Run (f + 5) m [] T = some ((st, h, lo, (List.range c).map fun i : Nat => sg t (lo + i)), k, 0) := by
    have hb : ((decide (T < (0 : Int))) || (decide (T > (60 : Int)))) = false := by simp only [Bool.or_eq_false_iff, decide_eq_false_iff_not]; omega
    unfold tape_Run
    rw [tp_check, m2.ok, bind_some', hb]
    unfold tape_lay tape_run
    simp only [forL, bind_some', p1, c1]
    rfl
  have hcells : ∀ v ∈ (List.range c).map (fun i : Nat => sg t (lo + i)), 0 ≤ v ∧ v < 2 := by
    intro v hv
    obtain ⟨i, _, rfl⟩ := List.mem_map.1 hv
    exact sg_val (by omega) _ t p3.val
  have hsum : forL busy_Most_b29 (fun x231 => x231) ((List.range c).map fun i : Nat => sg t (lo + i)) 0 (0 : Int) = some (((List.range c).map fun i : Nat => sg t (lo + i)).sum) := by
    rw [forL_fold (body := busy_Most_b29) (g := fun x v => w64 (x + v)) (fun i a x _ => rfl), fold_sum _ _ hcells (Int.le_refl _) (by rw [List.length_map, List.length_range]; omega)]
    simp
  refine ⟨st, k, ((List.range c).map fun i : Nat => sg t (lo + i)).sum, p6, ?_, ?_⟩
  · intro x
    unfold busy_Most_g32
    rw [m1, bind_some', hrun, bind_some']
    simp only
    by_cases e : st < S
    · rw [decide_eq_true e, cond_true, if_pos e]
    · rw [decide_eq_false e, cond_false, if_neg e, hsum, bind_some']
  · intro x
    obtain ⟨st', h', k', l', t', r1, r2, r3, r4, r5, r6⟩ := key (x.1, x.2.1, x.2.2, n) rfl
    rw [p1] at r1
    obtain ⟨rfl, rfl, rfl, rfl⟩ : st = st' ∧ h = h' ∧ k = k' ∧ l = l' := by simpa using r1
    have hsg : ∀ z, sg t z = sg t' z := fun z => by rw [← p3.at_ z, ← r3.at_ z]
    have harr : arrOf t' T = arrOf t T := by unfold arrOf; simp only [hsg]
    rw [harr] at r2
    have ew : w64 ((w64 ((2 : Int) * T)) + (1 : Int)) = 2 * T + 1 := by rw [w64_id (n := 2 * T) (by omega) (by omega), w64_id (by omega) (by omega)]
    have hck : ck (0 ≤ w64 ((w64 ((2 : Int) * T)) + (1 : Int)) ∧ w64 ((w64 ((2 : Int) * T)) + (1 : Int)) = w64 ((w64 ((2 : Int) * T)) + (1 : Int)) ∧ w64 ((w64 ((2 : Int) * T)) + (1 : Int)) ≤ 4294967296) = some () := ck_ok ⟨by rw [ew]; omega, rfl, by rw [ew]; omega⟩
    have harrs : ∀ v ∈ arrOf t T, 0 ≤ v ∧ v < 2 := by
      intro v hv
      obtain ⟨i, _, rfl⟩ := List.mem_map.1 hv
      exact sg_val (by omega) _ t p3.val
    have hs2 : forL ref_Busy_b118 (fun x688 => x688) (arrOf t T) 0 (0 : Int) = some (((List.range c).map fun i : Nat => sg t (lo + i)).sum) := by
      rw [forL_fold (body := ref_Busy_b118) (g := fun x v => w64 (x + v)) (fun i a x _ => rfl), fold_sum _ _ harrs (Int.le_refl _) (by have := arr_len t hT.1; omega), sum_same hT.1 c2 c3 c4]
      simp
    unfold ref_Busy_g122
    rw [hck, bind_some', ew, ← arr_nil hT.1, r2, bind_some']
    simp only
    by_cases e : st < S
    · rw [decide_eq_true e, cond_true, if_pos e]
    · rw [decide_eq_false e, cond_false, if_neg e, hs2]
      generalize ((List.range c).map fun i : Nat => sg t (lo + i)).sum = s
      unfold imax
      by_cases e1 : k > x.1
      · rw [decide_eq_true e1, cond_true, bind_some', bind_some']
        by_cases e2 : s > x.2.1
        · rw [decide_eq_true e2, cond_true]
          congr 1
          simp only [Prod.mk.injEq, and_true]
          constructor <;> split <;> omega
        · rw [decide_eq_false e2, cond_false]
          congr 1
          simp only [Prod.mk.injEq, and_true]
          constructor <;> split <;> omega
      · rw [decide_eq_false e1, cond_false, bind_some', bind_some']
        by_cases e2 : s > x.2.1
        · rw [decide_eq_true e2, cond_true]
          congr 1
          simp only [Prod.mk.injEq, and_true]
          constructor <;> split <;> omega
        · rw [decide_eq_false e2, cond_false]
          congr 1
          simp only [Prod.mk.injEq, and_true]
          constructor <;> split <;> omega
/-- all machines up to one -/
def bmF (S : Int) (st k s : Nat → Int) : Nat → Int × Int × Int
  | 0 => (0, 0, 0)
  | n + 1 => if st n < S then bmF S st k s n else (imax (bmF S st k s n).1 (k n), imax (bmF S st k s n).2.1 (s n), w64 ((bmF S st k s n).2.2 + 1))
theorem bm_all {S T : Int} (hS : S = 1 ∨ S = 2) (hT : 0 ≤ T ∧ T ≤ 60) {fuel : Nat} (hf : 100000 ≤ fuel) :
    ∃ r : Int × Int × Int, busy_Most fuel S T = some (r.1, r.2.1, r.2.2, 0) ∧ ref_Busy fuel S T = some r := by
  have hP : 0 ≤ bmP S ∧ bmP S ≤ 20736 := by unfold bmP; split <;> omega
  have one : ∀ n : Nat, ∃ st k s : Int, (n : Int) < bmP S → (∀ x : Int × Int × Int, busy_Most_g32 S T fuel n x = if st < S then some x else some (imax x.1 k, imax x.2.1 s, w64 (x.2.2 + 1))) ∧
      (∀ x : Int × Int × Int, ref_Busy_g122 S T fuel (x.1, x.2.1, x.2.2, n) = if st < S then some x else some (imax x.1 k, imax x.2.1 s, w64 (x.2.2 + 1))) := by
    intro n
    by_cases h : (n : Int) < bmP S
    · obtain ⟨st, k, s, _, h1, h2⟩ := bm_one hS (n := n) (by omega) h hT (fuel := fuel) (by omega)
      exact ⟨st, k, s, fun _ => ⟨h1, h2⟩⟩
    · exact ⟨0, 0, 0, fun h' => absurd h' h⟩
  obtain ⟨st, one⟩ := Classical.skolem.1 one
  obtain ⟨k, one⟩ := Classical.skolem.1 one
  obtain ⟨s, hone⟩ := Classical.skolem.1 one
  refine ⟨bmF S st k s (bmP S).toNat, ?_, ?_⟩
  · have hp : busy_power S = some (bmP S) := by rcases hS with rfl | rfl <;> decide
    have e1 : ((decide (S < (1 : Int))) || (decide (S > (2 : Int)))) = false := by rcases hS with rfl | rfl <;> rfl
    have e2 : ((decide (T < (0 : Int))) || (decide (T > (60 : Int)))) = false := by simp only [Bool.or_eq_false_iff, decide_eq_false_iff_not]; omega
    obtain ⟨y, q1, q2⟩ := forI_inv (body := busy_Most_b34 S T fuel) (fin := fun x164 => (x164.1, x164.2.1, x164.2.2)) (lo := 0) (hi := bmP S) (x := ((0 : Int), (0 : Int), (0 : Int))) (fun i x => ∃ n : Nat, i = n ∧ x = bmF S st k s n) (fun y => y = bmF S st k s (bmP S).toNat) (by omega) (by omega) ⟨0, rfl, rfl⟩
      (by
        rintro i x _ hi ⟨n, rfl, rfl⟩
        unfold busy_Most_b34
        rw [(hone n hi).1]
        refine ⟨.next (bmF S st k s (n + 1)), ?_, n + 1, by omega, rfl⟩
        rw [bmF]
        split <;> rfl)
      (by
        rintro i x h1 h2 h3 ⟨n, rfl, rfl⟩
        have : n = (bmP S).toNat := by omega
        rw [← this])
    unfold busy_Most
    rw [e1, cond_false, e2, cond_false, hp, bind_some', q1, bind_some', q2]
  · have hp : ref_Power (w64 ((4 : Int) * (w64 (S + (1 : Int))))) (w64 ((2 : Int) * S)) = some (bmP S) := by rcases hS with rfl | rfl <;> decide
    obtain ⟨y, q1, q2⟩ := iter_inv (f := ref_Busy_b124 S T fuel) (fun x => ∃ n : Nat, (n : Int) ≤ bmP S ∧ x = ((bmF S st k s n).1, (bmF S st k s n).2.1, (bmF S st k s n).2.2, (n : Int))) (fun x => (bmP S - x.2.2.2).toNat) (fun y => y = bmF S st k s (bmP S).toNat) (by
      rintro _ ⟨n, hn, rfl⟩
      unfold ref_Busy_b124
      rw [hp, bind_some']
      by_cases c : (n : Int) < bmP S
      · simp only
        rw [decide_eq_true c, cond_true, (hone n c).2, w64_id (n := (n : Int) + 1) (by omega) (by omega)]
        refine ⟨.next ((bmF S st k s (n + 1)).1, (bmF S st k s (n + 1)).2.1, (bmF S st k s (n + 1)).2.2, ((n + 1 : Nat) : Int)), ?_, ⟨n + 1, by omega, rfl⟩, by simp only; omega⟩
        rw [bmF]
        split <;> rfl
      · simp only
        rw [decide_eq_false c, cond_false]
        have : n = (bmP S).toNat := by omega
        exact ⟨_, rfl, by rw [← this]⟩) fuel ((0 : Int), (0 : Int), (0 : Int), (0 : Int)) (by simp only; omega) ⟨0, by omega, rfl⟩
    unfold ref_Busy
    rw [q1, bind_some', q2]
theorem BusyMost_true (x0 : Int) (x1 : Int) (f0 : Fits (.int .i64) x0) (f1 : Fits (.int .i64) x1) : ∃ fuel, law_BusyMost fuel x0 x1 = some true := by
  obtain ⟨fuel, hf⟩ : ∃ f : Nat, 100000 ≤ f := ⟨100000, Nat.le_refl _⟩
  refine ⟨fuel, ?_⟩
  unfold law_BusyMost law_BusyMost_g1
  have within : ∀ a b c : Int, ref_Within a b c = some (decide (a ≤ b ∧ b ≤ c)) := by
    intro a b c; unfold ref_Within; congr 1; simp
  rw [within, within]
  by_cases h1 : 1 ≤ x0 ∧ x0 ≤ 2
  · by_cases h2 : 0 ≤ x1 ∧ x1 ≤ 60
    · obtain ⟨r, r1, r2⟩ := bm_all (S := x0) (T := x1) (by omega) h2 hf
      rw [r1, r2, decide_eq_true h1, decide_eq_true h2]
      simp
    · have e1 : ((decide (x0 < (1 : Int))) || (decide (x0 > (2 : Int)))) = false := by simp only [Bool.or_eq_false_iff, decide_eq_false_iff_not]; omega
      have e2 : ((decide (x1 < (0 : Int))) || (decide (x1 > (60 : Int)))) = true := by simp only [Bool.or_eq_true, decide_eq_true_eq]; omega
      unfold busy_Most
      rw [e1, e2, decide_eq_true h1, decide_eq_false h2]
      rfl
  · have e1 : ((decide (x0 < (1 : Int))) || (decide (x0 > (2 : Int)))) = true := by simp only [Bool.or_eq_true, decide_eq_true_eq]; omega
    unfold busy_Most
    rw [e1, decide_eq_false h1]
    rfl

end Go.Proofs.Ytnblafiefaalgaa.busyMost
namespace Go.Proofs.Ytnblafiefaalgaa.busyMost
open Go.ChangeShapes Go.WideShapes Go.ChangeAt Go.RowKit
open Go.ChangeMaps (open_string shut_string)
theorem own : ownKnob Try.prog.godebug = none := by kernel_rfl
theorem laidOut : laidOutB Try.prog = true := by kernel_rfl
theorem lifted (os : Os) (started : os.Started) (H : Type) (enc : TypeId × Value → H) :
    ReturnsInHanded {} Try.checked os 10 .any (Rows.busyMostSpec.pre6 enc Try.prog Try.f10 Rows.busyMostRow.domain false) (Rows.busyMostSpec.post enc Try.prog Try.f10 false true false false) := by
  refine returnsInHanded_of_change (C := Try.checked) own started (by kernel_rfl) Try.func10
    (ChangeSpec.witness6 (enc := enc) (C := Try.checked) false ⟨#[], #[.int .i64 0, .int .i64 0], []⟩ 8 (by kernel_rfl) (by kernel_rfl) (by kernel_rfl) (by kernel_rfl)) ?_
  intro W base args ds gs before hval0 hW hcnd _
  have hval : ∀ (j : Nat) t v, Try.f10.params[j]? = some t → args[j]? = some v → Value.okWide Try.prog W .any base t v := hval0
  have hW' := hW
  obtain ⟨p, q, hA0, hV, rfl, hfz, hnd⟩ := hW
  have hA : DataW.TrodAll enc Try.prog W 0 (fun _ => true) true Try.f10.params.toList args.toList ds p := hA0
  rw [Try.params10] at hA hval
  obtain ⟨v0, vs0, d0, ds0, p0, q0, hargs, rfl, rfl, h0, r0⟩ := trodAll_cons hA
  obtain ⟨v1, vs1, d1, ds1, p1, q1, rfl, rfl, rfl, h1, r1⟩ := trodAll_cons r0
  obtain ⟨rfl, rfl, rfl⟩ := trodAll_nil r1
  obtain rfl : args = #[v0, v1] := by cases args; simp_all
  obtain ⟨rfl, rfl⟩ := trodVars_none hV
  obtain ⟨x0, f0, k0⟩ := Go.Sl.read_arg (u := (.int .i64)) (by kernel_rfl) (by kernel_rfl) (hval 0 3 v0 rfl rfl) h0
  have lt0 : ∀ x ∈ p0, x.block < W.heap.size := by obtain ⟨m, hm⟩ := h0; exact DataW.trod_lt m _ _ _ hm
  obtain ⟨x1, f1, k1⟩ := Go.Sl.read_arg (u := (.int .i64)) (by kernel_rfl) (by kernel_rfl) (hval 1 3 v1 rfl rfl) h1
  have lt1 : ∀ x ∈ p1, x.block < W.heap.size := by obtain ⟨m, hm⟩ := h1; exact DataW.trod_lt m _ _ _ hm
  clear hA0 hval0
  obtain ⟨fuel, hm⟩ := BusyMost_true x0 x1 f0 f1
  refine (Go.Sl.law_of (vs := [v0, v1]) (law_BusyMost_ok hm) rfl (.cons (k0 _ _) (.cons (k1 _ _) .nil))).mono fun e W' ⟨he, bel⟩ => ?_
  subst he
  exact ⟨_, rfl, _, _, _, [], _, [], hW', trodAll_mk1 (shut_bool Try.underlying4 _), (trodAll_cons_mk (Below.trod laidOut (by kernel_rfl) (of_decide_eq_true (by kernel_rfl)) h0 bel lt0) (trodAll_cons_mk (Below.trod laidOut (by kernel_rfl) (of_decide_eq_true (by kernel_rfl)) h1 bel lt1) trodAll_mk0)), rfl, bel.frame _, fun h => by cases h⟩
theorem proved : Rows.BusyMostSaid :=
  OpenClaim.holds_of_wide 10 Try.f10 rfl rfl rfl rfl rfl rfl rfl ⟨rfl, rfl, rfl, rfl, rfl⟩ rfl rfl rfl rfl rfl (by kernel_rfl) Try.func10 (by kernel_rfl)
    (of_decide_eq_true (by kernel_rfl)) (by unfold Func.isWrapper; first | (rw [if_pos (by decide +kernel)]; kernel_rfl) | (rw [if_neg (by decide +kernel)]; exact ⟨rfl, rfl⟩))
    (fun os started H enc _ => lifted os started H enc)
#print axioms proved
end Go.Proofs.Ytnblafiefaalgaa.busyMost
