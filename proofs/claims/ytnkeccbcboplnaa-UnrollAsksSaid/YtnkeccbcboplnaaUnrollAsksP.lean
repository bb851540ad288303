/- UnrollAsks holds for every input: no conditions. -/
import Derived.Test.YtnkeccbcboplnaaRows
import Derived.WalkKit
import Derived.ProofKit
import Derived.OpenShut
import Derived.ShutString
import Derived.ChangeOld
import Derived.Below
import Derived.Test.YtnkeccbcboplnaaUnrollAsksM
set_option linter.all false
set_option maxRecDepth 100000
namespace Go.Proofs.Ytnkeccbcboplnaa.unrollAsks
open Go Go.Sl
theorem inside1 (n v : Int) : ref_Inside n [v] = some (decide (0 ≤ v ∧ v < n)) := by
  unfold ref_Inside
  rw [forL_ex (p := fun v => decide (v < 0) || decide (v ≥ n)) (y := Esc.ret false) (fun i a _ => by unfold ref_Inside_b1; cases (decide (a < 0) || decide (a ≥ n)) <;> rfl)]
  by_cases h : 0 ≤ v ∧ v < n
  · have : (decide (v < 0) || decide (v ≥ n)) = false := by simp only [Bool.or_eq_false_iff, decide_eq_false_iff_not]; omega
    simp [this, h]
  · have : (decide (v < 0) || decide (v ≥ n)) = true := by simp only [Bool.or_eq_true, decide_eq_true_eq]; omega
    simp [this, h]

theorem within_eq (a b c : Int) : ref_Within a b c = some (decide (a ≤ b ∧ b ≤ c)) := by
  unfold ref_Within
  rw [Bool.decide_and]

def tpRule (S G : Int) (r : Int × Int × Int) : Option Int :=
  bif !decide (0 ≤ r.1 ∧ r.1 < G) then some 2 else bif !decide (-1 ≤ r.2.1 ∧ r.2.1 ≤ 1) then some 4 else bif !decide (0 ≤ r.2.2 ∧ r.2.2 ≤ S) then some 2 else none
def tpLen (G : Int) (l : List (Int × Int × Int)) : Bool := (l.length : Int) != G
def tpAll (m : Int × Int × List (List (Int × Int × Int))) : Int :=
  bif !(decide (1 ≤ m.1 ∧ m.1 ≤ 5) && decide (2 ≤ m.2.1 ∧ m.2.1 ≤ 4)) then 1 else bif (m.2.2.length : Int) != m.1 then 3 else bif m.2.2.any (tpLen m.2.1) then 3 else
    (m.2.2.findSome? fun l => l.findSome? (tpRule m.1 m.2.1)).getD 0
theorem tp_lens (m : Int × Int × List (List (Int × Int × Int))) (l : List (List (Int × Int × Int))) : slices_ContainsFunc_LLapiRuleLapiRule_with_tape_Check_1 l m = some (l.any (tpLen m.2.1)) := by
  unfold slices_ContainsFunc_LLapiRuleLapiRule_with_tape_Check_1 slices_IndexFunc_LLapiRuleLapiRule_with_tape_Check_1
  rcases forL_at (body := slices_IndexFunc_LLapiRuleLapiRule_with_tape_Check_1_b1 m) (fin := fun _ => (Esc.brk () : Esc Int Unit)) (p := tpLen m.2.1) (g := fun j => Esc.ret j) (l := l)
    (fun i a _ => by unfold slices_IndexFunc_LLapiRuleLapiRule_with_tape_Check_1_b1 tape_Check_1 tpLen; cases ((List.length a : Int) != m.2.1) <;> rfl) (i := 0) with ⟨h1, h2⟩ | ⟨h1, j, h2, h3, h4⟩
  · rw [h2, h1]; rfl
  · rw [h4, h1]
    simp [h2]
theorem tp_row (m : Int × Int × List (List (Int × Int × Int))) (i : Int) (l : List (Int × Int × Int)) : tape_Check_b40 m i l () = some (said Esc.ret (l.findSome? (tpRule m.1 m.2.1))) := by
  unfold tape_Check_b40
  rw [forL_find (f := tpRule m.1 m.2.1) (g := Esc.ret) (fun i a _ => by
    unfold tape_Check_b36 tpRule
    have e1 : (bif decide (a.1 < (0 : Int)) then (some true) else (some (decide (a.1 ≥ m.2.1)))) = some (!decide (0 ≤ a.1 ∧ a.1 < m.2.1)) := by
      rw [bif_some]; congr 1
      by_cases h : a.1 < 0
      · simp [h]
      · simp only [h, Int.not_lt.1 h, decide_false, cond_false, true_and, not_dec]; exact decide_eq_decide.2 (by omega)
    have e2 : (bif decide (a.2.1 < (-1 : Int)) then (some true) else (some (decide (a.2.1 > (1 : Int))))) = some (!decide (-1 ≤ a.2.1 ∧ a.2.1 ≤ 1)) := by
      rw [bif_some]; congr 1
      by_cases h : a.2.1 < -1
      · simp [h]
      · simp only [h, Int.not_lt.1 h, decide_false, cond_false, true_and, not_dec]; exact decide_eq_decide.2 (by omega)
    have e3 : (bif decide (a.2.2 < (0 : Int)) then (some true) else (some (decide (a.2.2 > m.1)))) = some (!decide (0 ≤ a.2.2 ∧ a.2.2 ≤ m.1)) := by
      rw [bif_some]; congr 1
      by_cases h : a.2.2 < 0
      · simp [h]
      · simp only [h, Int.not_lt.1 h, decide_false, cond_false, true_and, not_dec]; exact decide_eq_decide.2 (by omega)
    rw [e1, e2, e3]
    cases decide (0 ≤ a.1 ∧ a.1 < m.2.1) <;> cases decide (-1 ≤ a.2.1 ∧ a.2.1 ≤ 1) <;> cases decide (0 ≤ a.2.2 ∧ a.2.2 ≤ m.1) <;> rfl)]
  cases l.findSome? (tpRule m.1 m.2.1) <;> rfl
theorem tp_rrow (m : Int × Int × List (List (Int × Int × Int))) (hm : 1 ≤ m.1 ∧ m.1 ≤ 5) (i : Int) (l : List (Int × Int × Int)) : ref_MachineCheck_b15 m i l () = some (said Esc.ret (l.findSome? (tpRule m.1 m.2.1))) := by
  unfold ref_MachineCheck_b15
  rw [forL_find (f := tpRule m.1 m.2.1) (g := Esc.ret) (fun i a _ => by
    unfold ref_MachineCheck_b11 tpRule
    rw [inside1, within_eq, inside1, w64_id (by omega) (by omega)]
    have e3 : decide (0 ≤ a.2.2 ∧ a.2.2 < m.1 + 1) = decide (0 ≤ a.2.2 ∧ a.2.2 ≤ m.1) := decide_eq_decide.2 (by omega)
    rw [e3]
    cases decide (0 ≤ a.1 ∧ a.1 < m.2.1) <;> cases decide (-1 ≤ a.2.1 ∧ a.2.1 ≤ 1) <;> cases decide (0 ≤ a.2.2 ∧ a.2.2 ≤ m.1) <;> rfl)]
  cases l.findSome? (tpRule m.1 m.2.1) <;> rfl
theorem tp_check (m : Int × Int × List (List (Int × Int × Int))) : tape_Check m = some (tpAll m) := by
  unfold tape_Check tape_Check_g1 tpAll
  have e : (bif decide (m.1 < (1 : Int)) then (some true) else (bif decide (m.1 > (5 : Int)) then (some true) else (bif decide (m.2.1 < (2 : Int)) then (some true) else (some (decide (m.2.1 > (4 : Int))))))) =
      some (!(decide (1 ≤ m.1 ∧ m.1 ≤ 5) && decide (2 ≤ m.2.1 ∧ m.2.1 ≤ 4))) := by
    by_cases h1 : m.1 < 1
    · have : ¬ (1 ≤ m.1 ∧ m.1 ≤ 5) := by omega
      simp [h1, this]
    · by_cases h2 : m.1 > 5
      · have : ¬ (1 ≤ m.1 ∧ m.1 ≤ 5) := by omega
        simp [h1, h2, this]
      · have h3 : 1 ≤ m.1 ∧ m.1 ≤ 5 := by omega
        by_cases h4 : m.2.1 < 2
        · have : ¬ (2 ≤ m.2.1 ∧ m.2.1 ≤ 4) := by omega
          simp [h1, h2, h4, this]
        · have : (decide (m.2.1 > 4)) = !decide (2 ≤ m.2.1 ∧ m.2.1 ≤ 4) := by rw [not_dec]; exact decide_eq_decide.2 (by omega)
          simp only [h1, h2, h4, decide_false, cond_false, h3, decide_true, Bool.true_and, this, and_self]
  rw [e, bind_some', tp_lens]
  rw [forL_find (f := fun l => l.findSome? (tpRule m.1 m.2.1)) (g := Esc.ret) (fun i a _ => tp_row m i a)]
  cases (!(decide (1 ≤ m.1 ∧ m.1 ≤ 5) && decide (2 ≤ m.2.1 ∧ m.2.1 ≤ 4))) <;> cases ((List.length m.2.2 : Int) != m.1) <;> cases m.2.2.any (tpLen m.2.1) <;>
    cases (m.2.2.findSome? fun l => l.findSome? (tpRule m.1 m.2.1)) <;> rfl
theorem tp_rcheck (m : Int × Int × List (List (Int × Int × Int))) : ref_MachineCheck m = some (tpAll m) := by
  unfold ref_MachineCheck tpAll
  rw [within_eq, within_eq, bind_some', bind_some']
  by_cases h1 : 1 ≤ m.1 ∧ m.1 ≤ 5
  · by_cases h2 : 2 ≤ m.2.1 ∧ m.2.1 ≤ 4
    · rw [forL_ex (p := tpLen m.2.1) (y := Esc.ret 3) (fun i a _ => by unfold ref_MachineCheck_b1 tpLen; cases ((List.length a : Int) != m.2.1) <;> rfl)]
      rw [forL_find (f := fun l => l.findSome? (tpRule m.1 m.2.1)) (g := Esc.ret) (fun i a _ => tp_rrow m h1 i a)]
      simp only [h1, h2, and_self, decide_true, Bool.not_true, cond_false, Bool.and_self, bind_some']
      cases ((List.length m.2.2 : Int) != m.1) <;> cases m.2.2.any (tpLen m.2.1) <;> cases (m.2.2.findSome? fun l => l.findSome? (tpRule m.1 m.2.1)) <;> rfl
    · simp [h1, h2, decide_eq_false h2]
  · simp [decide_eq_false h1]
theorem tp_ok {m : Int × Int × List (List (Int × Int × Int))} (h : tpAll m = 0) : (1 ≤ m.1 ∧ m.1 ≤ 5) ∧ (2 ≤ m.2.1 ∧ m.2.1 ≤ 4) ∧ (m.2.2.length : Int) = m.1 ∧ ∀ l ∈ m.2.2, (l.length : Int) = m.2.1 ∧ ∀ r ∈ l, (0 ≤ r.1 ∧ r.1 < m.2.1) ∧ (-1 ≤ r.2.1 ∧ r.2.1 ≤ 1) ∧ (0 ≤ r.2.2 ∧ r.2.2 ≤ m.1) := by
  unfold tpAll at h
  cases hc : (!(decide (1 ≤ m.1 ∧ m.1 ≤ 5) && decide (2 ≤ m.2.1 ∧ m.2.1 ≤ 4))) with
  | true => rw [hc] at h; cases h
  | false =>
    rw [hc] at h
    cases hl : ((List.length m.2.2 : Int) != m.1) with
    | true => rw [hl] at h; cases h
    | false =>
      rw [hl] at h
      cases ha : m.2.2.any (tpLen m.2.1) with
      | true => rw [ha] at h; cases h
      | false =>
        rw [ha] at h
        simp only [cond_false] at h
        simp only [Bool.not_eq_false', Bool.and_eq_true, decide_eq_true_eq] at hc
        refine ⟨hc.1, hc.2, by simpa using hl, fun l hm => ?_⟩
        have hlen := List.any_eq_false.1 ha l hm
        refine ⟨by unfold tpLen at hlen; simpa using hlen, fun r hr => ?_⟩
        have hval : ∀ (r : Int × Int × Int) e, tpRule m.1 m.2.1 r = some e → e ≠ 0 := by
          intro r e he h0
          subst h0
          unfold tpRule at he
          cases h1 : !decide (0 ≤ r.1 ∧ r.1 < m.2.1) <;> cases h2 : !decide (-1 ≤ r.2.1 ∧ r.2.1 ≤ 1) <;> cases h3 : !decide (0 ≤ r.2.2 ∧ r.2.2 ≤ m.1) <;> rw [h1, h2, h3] at he <;> simp at he
        cases hf : m.2.2.findSome? fun l => l.findSome? (tpRule m.1 m.2.1) with
        | some e =>
          rw [hf] at h
          obtain ⟨l', _, hl'⟩ := List.exists_of_findSome?_eq_some hf
          obtain ⟨r', _, hr'⟩ := List.exists_of_findSome?_eq_some hl'
          exact (hval r' e hr' h).elim
        | none =>
          have h1 := List.findSome?_eq_none_iff.1 hf l hm
          have h2 := List.findSome?_eq_none_iff.1 h1 r hr
          unfold tpRule at h2
          cases h3 : !decide (0 ≤ r.1 ∧ r.1 < m.2.1) with
          | true => rw [h3] at h2; cases h2
          | false =>
            rw [h3] at h2
            cases h4 : !decide (-1 ≤ r.2.1 ∧ r.2.1 ≤ 1) with
            | true => rw [h4] at h2; cases h2
            | false =>
              rw [h4] at h2
              cases h5 : !decide (0 ≤ r.2.2 ∧ r.2.2 ≤ m.1) with
              | true => rw [h5] at h2; cases h2
              | false =>
                simp only [Bool.not_eq_false', decide_eq_true_eq] at h3 h4 h5
                exact ⟨h3, h4, h5⟩

theorem mget_mput {α β : Type} {eq : α → α → Bool} [DecidableEq α] (heq : ∀ a b, eq a b = true ↔ a = b) : ∀ (l : List (α × β)) (x : α) (y : β) (z : α), mGet eq (mPut eq l x y) z = if z = x then some y else mGet eq l z
  | [], x, y, z => by
    by_cases h : z = x
    · simp [mPut, mGet, h, (heq x x).2 rfl]
    · have : eq z x = false := by cases hh : eq z x with | false => rfl | true => exact (h ((heq _ _).1 hh)).elim
      simp [mPut, mGet, h, this]
  | p :: l, x, y, z => by
    have hf : ∀ {a b}, a ≠ b → eq a b = false := by
      intro a b h
      cases hh : eq a b with | false => rfl | true => exact (h ((heq _ _).1 hh)).elim
    by_cases hp : x = p.1
    · have e1 : eq x p.1 = true := (heq _ _).2 hp
      by_cases h : z = x
      · simp [mPut, mGet, e1, h, (heq x x).2 rfl]
      · simp [mPut, mGet, e1, h, hf h, hf (fun e => h (e.trans hp.symm))]
    · have e1 : eq x p.1 = false := hf hp
      by_cases hz : z = p.1
      · have e2 : eq z p.1 = true := (heq _ _).2 hz
        have hzx : z ≠ x := fun e => hp (e ▸ hz)
        simp [mPut, mGet, e1, e2, hzx]
      · simp only [mPut, e1, Bool.false_eq_true, if_false, mGet, hf hz]
        exact mget_mput heq l x y z
theorem deqI {k : IntKind} (a b : Int) : deqT (.int k) a b = true ↔ a = b := by simp [deqT]

theorem mget_none_iff {α β : Type} {eq : α → α → Bool} (heq : ∀ a b, eq a b = true ↔ a = b) : ∀ (l : List (α × β)) (x : α), mGet eq l x = none ↔ x ∉ l.map (·.1)
  | [], x => by simp [mGet]
  | p :: l, x => by
    by_cases h : x = p.1
    · simp [mGet, h, (heq _ _).2 rfl]
    · have : eq x p.1 = false := by cases hh : eq x p.1 with | false => rfl | true => exact (h ((heq _ _).1 hh)).elim
      simp only [mGet, this, Bool.false_eq_true, if_false, List.map_cons, List.mem_cons, not_or]
      rw [mget_none_iff heq l x]
      exact ⟨fun h2 => ⟨h, h2⟩, fun h2 => h2.2⟩
theorem mput_keys {α β : Type} {eq : α → α → Bool} [DecidableEq α] (heq : ∀ a b, eq a b = true ↔ a = b) : ∀ (l : List (α × β)) (x : α) (y : β), (mPut eq l x y).map (·.1) = if x ∈ l.map (·.1) then l.map (·.1) else l.map (·.1) ++ [x]
  | [], x, y => by simp [mPut]
  | p :: l, x, y => by
    by_cases h : x = p.1
    · simp [mPut, h, (heq _ _).2 rfl]
    · have : eq x p.1 = false := by cases hh : eq x p.1 with | false => rfl | true => exact (h ((heq _ _).1 hh)).elim
      simp only [mPut, this, Bool.false_eq_true, if_false, List.map_cons, List.mem_cons, h, false_or]
      rw [mput_keys heq l x y]
      split <;> rfl
theorem mput_nodup {α β : Type} {eq : α → α → Bool} [DecidableEq α] (heq : ∀ a b, eq a b = true ↔ a = b) {l : List (α × β)} (h : (l.map (·.1)).Nodup) (x : α) (y : β) : ((mPut eq l x y).map (·.1)).Nodup := by
  rw [mput_keys heq]
  split
  · exact h
  · rename_i hx
    rw [List.nodup_append]
    refine ⟨h, by simp, ?_⟩
    intro a ha b hb e
    simp at hb
    subst hb; subst e; exact hx ha
theorem mdel_sub {α β : Type} {eq : α → α → Bool} : ∀ (l : List (α × β)) (x : α), (mDel eq l x).Sublist l
  | [], x => by simp [mDel]
  | p :: l, x => by
    unfold mDel
    split
    · exact List.sublist_cons_self _ _
    · exact (mdel_sub l x).cons_cons p
theorem mdel_nodup {α β : Type} {eq : α → α → Bool} {l : List (α × β)} (h : (l.map (·.1)).Nodup) (x : α) : ((mDel eq l x).map (·.1)).Nodup := h.sublist ((mdel_sub l x).map _)
theorem mget_mdel {α β : Type} {eq : α → α → Bool} [DecidableEq α] (heq : ∀ a b, eq a b = true ↔ a = b) : ∀ (l : List (α × β)) (x z : α), (l.map (·.1)).Nodup → mGet eq (mDel eq l x) z = if z = x then none else mGet eq l z
  | [], x, z, _ => by simp [mDel, mGet]
  | p :: l, x, z, hn => by
    have hf : ∀ {a b}, a ≠ b → eq a b = false := by
      intro a b h
      cases hh : eq a b with | false => rfl | true => exact (h ((heq _ _).1 hh)).elim
    simp only [List.map_cons, List.nodup_cons] at hn
    by_cases hx : x = p.1
    · have e1 : eq x p.1 = true := (heq _ _).2 hx
      simp only [mDel, e1, if_true, mGet]
      by_cases hz : z = x
      · rw [if_pos hz]
        exact (mget_none_iff heq l z).2 (by rw [hz, hx]; exact hn.1)
      · rw [if_neg hz, hf (fun e => hz (e.trans hx.symm))]; rfl
    · simp only [mDel, hf hx, Bool.false_eq_true, if_false, mGet]
      by_cases hz : z = p.1
      · rw [(heq _ _).2 hz, if_pos rfl, if_pos rfl, if_neg (fun e => hx (e.symm.trans hz))]
      · rw [hf hz]
        simp only [Bool.false_eq_true, if_false]
        exact mget_mdel heq l x z hn.2

theorem bit_eq {w i : Nat} (hw : w < 2 ^ 63) (hi : i < 63) : ref_Bit (w : Int) (i : Int) = some (w.testBit i) := by
  unfold ref_Bit
  have c : (decide ((i : Int) ≥ 0) && decide ((i : Int) < 63)) = true := by simp; omega
  have e : IntKind.wrap .u64 (i : Int) = (i : Int) := wrap_u64 (by omega) (by omega)
  rw [c, e, ck_ok (by omega)]
  simp only [cond_true, Option.bind_some, bit_mask hw hi]

theorem word_loop : ∀ (l : List Bool) (i : Nat) (x : Nat), i + l.length ≤ 60 → x < 2 ^ i → forL ref_Word_b5 (fun x => x) l (i : Int) (x : Int) = some ((x + 2 ^ i * wd l : Nat) : Int)
  | [], i, x, hi, hx => by simp [forL, wd]
  | b :: l, i, x, hi, hx => by
    simp only [List.length_cons] at hi
    have hp : 2 ^ i ≤ 2 ^ 60 := Nat.pow_le_pow_right (by omega) (by omega)
    have hs : ref_Word_b5 (i : Int) b (x : Int) = some (.next ((x + 2 ^ i * b.toNat : Nat) : Int)) := by
      unfold ref_Word_b5
      have e : IntKind.wrap .u64 (i : Int) = (i : Int) := wrap_u64 (by omega) (by omega)
      rw [e, ck_ok (by omega), bShl_one (by omega)]
      cases b with
      | true =>
        have : w64 ((x : Int) + ((2 ^ i : Nat) : Int)) = ((x + 2 ^ i * 1 : Nat) : Int) := by
          generalize 2 ^ i = p at *
          rw [w64_id (by omega) (by omega)]; omega
        simp only [cond_true, Option.bind_some, this]; rfl
      | false => simp
    have hb : b.toNat ≤ 1 := Bool.toNat_le b
    have hlt : x + 2 ^ i * b.toNat < 2 ^ (i + 1) := by
      have : 2 ^ i * b.toNat ≤ 2 ^ i * 1 := Nat.mul_le_mul_left _ hb
      rw [Nat.pow_succ]; omega
    simp only [forL, hs]
    have := word_loop l (i + 1) (x + 2 ^ i * b.toNat) (by omega) hlt
    rw [Int.natCast_add, Int.natCast_one] at this
    rw [this]
    congr 2
    simp only [wd]
    rw [Nat.mul_add, Nat.pow_succ, Nat.mul_assoc]
    omega
theorem word_eq (l : List Bool) (h : l.length ≤ 60) : ref_Word l = some ((wd l : Nat) : Int) := by
  unfold ref_Word
  have := word_loop l 0 0 (by omega) (by simp)
  simp only [Int.natCast_zero, Nat.pow_zero, Nat.one_mul, Nat.zero_add] at this
  rw [this]; rfl

abbrev Mc : Type := Int × Int × List (List (Int × Int × Int))
theorem deqi (a b : Int) : deqT tI a b = true ↔ a = b := deqI a b
def uAll (m : Mc) (c k : Int) : Int := if tpAll m = 0 then (if m.2.1 = 2 ∧ m.1 ≤ 2 then (if 1 ≤ c ∧ c ≤ 5 then (if 0 ≤ k ∧ k ≤ 6 then 0 else 7) else 1) else 3) else tpAll m
theorem u_wrong (m : Mc) (c k : Int) : unroll_wrong m c k = some (uAll m c k) := by
  unfold unroll_wrong uAll
  rw [tp_check, bind_some']
  by_cases h0 : tpAll m = 0
  · rw [if_pos h0, h0, show ((0 : Int) != 0) = false from rfl, cond_false]
    obtain ⟨h1, h2, _⟩ := tp_ok h0
    have e1 : (bif decide (m.2.1 > (2 : Int)) then (some true) else (some (decide (m.1 > (2 : Int))))) = some (!decide (m.2.1 = 2 ∧ m.1 ≤ 2)) := by
      by_cases a : m.2.1 > 2
      · rw [decide_eq_true a, cond_true, show decide (m.2.1 = 2 ∧ m.1 ≤ 2) = false from decide_eq_false (by omega)]; rfl
      · rw [decide_eq_false a, cond_false, not_dec]; congr 1; exact decide_eq_decide.2 (by omega)
    have e2 : ((decide (c < (1 : Int))) || (decide (c > (5 : Int)))) = !decide (1 ≤ c ∧ c ≤ 5) := by
      by_cases a : 1 ≤ c ∧ c ≤ 5
      · rw [decide_eq_true a, decide_eq_false (by omega), decide_eq_false (by omega)]; rfl
      · rw [decide_eq_false a]
        simp only [Bool.not_false, Bool.or_eq_true, decide_eq_true_eq]; omega
    have e3 : ((decide (k < (0 : Int))) || (decide (k > (6 : Int)))) = !decide (0 ≤ k ∧ k ≤ 6) := by
      by_cases a : 0 ≤ k ∧ k ≤ 6
      · rw [decide_eq_true a, decide_eq_false (by omega), decide_eq_false (by omega)]; rfl
      · rw [decide_eq_false a]
        simp only [Bool.not_false, Bool.or_eq_true, decide_eq_true_eq]; omega
    rw [e1, e2, e3, bind_some']
    by_cases a : m.2.1 = 2 ∧ m.1 ≤ 2 <;> by_cases b : 1 ≤ c ∧ c ≤ 5 <;> by_cases d : 0 ≤ k ∧ k ≤ 6 <;> simp [a, b, d]
  · rw [if_neg h0, bif_t (by simp [h0])]
theorem u_check (m : Mc) (c k : Int) : ref_UnrollCheck m c k = some (uAll m c k) := by
  unfold ref_UnrollCheck uAll
  rw [tp_rcheck, bind_some']
  by_cases h0 : tpAll m = 0
  · rw [if_pos h0, h0, show ((0 : Int) != 0) = false from rfl, cond_false]
    have e1 : (bif m.2.1 != (2 : Int) then (some true) else (some (decide (m.1 > (2 : Int))))) = some (!decide (m.2.1 = 2 ∧ m.1 ≤ 2)) := by
      by_cases a : m.2.1 = 2
      · rw [a, show ((2 : Int) != 2) = false from rfl, cond_false, not_dec]; congr 1; exact decide_eq_decide.2 (by omega)
      · rw [bif_t (by simp [a]), show decide (m.2.1 = 2 ∧ m.1 ≤ 2) = false from decide_eq_false (by omega)]; rfl
    rw [e1, within_eq, within_eq]
    simp only [bind_some']
    by_cases a : m.2.1 = 2 ∧ m.1 ≤ 2 <;> by_cases b : 1 ≤ c ∧ c ≤ 5 <;> by_cases d : 0 ≤ k ∧ k ≤ 6 <;> simp [a, b, d]
  · rw [if_neg h0, bif_t (by simp [h0])]
theorem u_ok {m : Mc} {c k : Int} (h : uAll m c k = 0) : tpAll m = 0 ∧ (m.2.1 = 2 ∧ m.1 ≤ 2) ∧ (1 ≤ c ∧ c ≤ 5) ∧ (0 ≤ k ∧ k ≤ 6) := by
  unfold uAll at h
  split at h
  · split at h
    · split at h
      · split at h
        · exact ⟨by assumption, by assumption, by assumption, by assumption⟩
        · omega
      · omega
    · omega
  · omega
/-- a tape as a map, and as bits -/
def TR (l : List (Int × Int)) (t : List Bool) : Prop := (l.map (·.1)).Nodup ∧ ∀ p : Nat, p < t.length → (mGet (deqT tI) l (p : Int)).getD 0 = ((t.getD p false).toNat : Int)
theorem getD_set {t : List Bool} {i j : Nat} {b : Bool} (h : i < t.length) : (t.set i b).getD j false = if j = i then b else t.getD j false := by
  rw [List.getD_eq_getElem?_getD, List.getD_eq_getElem?_getD]
  by_cases hj : j = i
  · subst hj; rw [List.getElem?_set_self h, if_pos rfl]; rfl
  · rw [List.getElem?_set_ne (fun e => hj e.symm), if_neg hj]
theorem put_ok {l : List (Int × Int)} {t : List Bool} (h : TR l t) {p : Nat} (hp : p < t.length) (b : Bool) : ∃ l', tape_Tape_Put (p : Int) (b.toNat : Int) (some l) = some (some l') ∧ TR l' (t.set p b) := by
  unfold tape_Tape_Put
  cases b with
  | false =>
    refine ⟨mDel (deqT tI) l (p : Int), rfl, mdel_nodup h.1 _, ?_⟩
    intro q hq
    rw [mget_mdel deqi _ _ _ h.1, getD_set hp]
    by_cases hqp : q = p
    · subst hqp; simp
    · rw [if_neg (by omega), if_neg hqp]; exact h.2 q (by simpa using hq)
  | true =>
    have hc : ck (Option.isSome (some l) = true) = some () := ck_ok rfl
    refine ⟨mPut (deqT tI) l (p : Int) 1, ?_, mput_nodup deqi h.1 _ _, ?_⟩
    · rw [show (((true.toNat : Nat) : Int) == (0 : Int)) = false from rfl, cond_false, hc, bind_some']; rfl
    · intro q hq
      rw [mget_mput deqi, getD_set hp]
      by_cases hqp : q = p
      · subst hqp; simp
      · rw [if_neg (by omega), if_neg hqp]; exact h.2 q (by simpa using hq)
theorem fill_ok (t : List Bool) : ∃ l, forL unroll_Ask_b5 (fun x44 => x44) t 0 (some [] : Option (List (Int × Int))) = some (some l) ∧ TR l t := by
  obtain ⟨y, hy, l, rfl, hl⟩ := forL_inv (body := unroll_Ask_b5) (fin := fun x => x) (l := t) (x := (some [] : Option (List (Int × Int))))
    (fun n x => ∃ l, x = some l ∧ TR l (t.take n ++ List.replicate (t.length - n) false)) (fun y => ∃ l, y = some l ∧ TR l t)
    ⟨[], rfl, by simp, by
      intro p hp
      simp [mGet, List.getD_eq_getElem?_getD, List.getElem?_replicate]
      split <;> rfl⟩
    (by
      rintro n b x hb ⟨l, rfl, hl⟩
      have hn := (List.getElem?_eq_some_iff.1 hb).1
      have hset : (t.take n ++ List.replicate (t.length - n) false).set n b = t.take (n + 1) ++ List.replicate (t.length - (n + 1)) false := by
        rw [List.set_append_right _ _ (by simp; omega), List.take_add_one, hb]
        have : n - (t.take n).length = 0 := by simp; omega
        rw [this, show t.length - n = (t.length - (n + 1)) + 1 by omega, List.replicate_succ, List.set_cons_zero]
        simp
      have hlen : (t.take n ++ List.replicate (t.length - n) false).length = t.length := by simp; omega
      unfold unroll_Ask_b5
      cases b with
      | true =>
        obtain ⟨l', h1, h2⟩ := put_ok hl (p := n) (by omega) true
        rw [hset] at h2
        have h1' : tape_Tape_Put (n : Int) (1 : Int) (some l) = some (some l') := h1
        rw [cond_true, h1']
        exact ⟨_, rfl, l', rfl, h2⟩
      | false =>
        refine ⟨_, rfl, l, rfl, ?_⟩
        have e : (t.take n ++ List.replicate (t.length - n) false).set n false = t.take n ++ List.replicate (t.length - n) false := by
          apply List.ext_getElem?
          intro j
          by_cases hj : j = n
          · subst hj
            rw [List.getElem?_set_self (by omega), List.getElem?_append_right (by simp; omega)]
            have : j - (t.take j).length = 0 := by simp; omega
            rw [this, List.getElem?_replicate, if_pos (by omega)]
          · rw [List.getElem?_set_ne (fun e => hj e.symm)]
        rw [← hset, e]; exact hl)
    (by rintro x ⟨l, rfl, hl⟩; exact ⟨l, rfl, by simpa using hl⟩)
  exact ⟨l, hy, hl⟩
theorem wd_set : ∀ (t : List Bool) (p : Nat) (b : Bool), p < t.length → wd (t.set p b) + 2 ^ p * (t.getD p false).toNat = wd t + 2 ^ p * b.toNat
  | [], p, b, h => by simp at h
  | x :: t, 0, b, h => by simp [wd]; omega
  | x :: t, p + 1, b, h => by
    have := wd_set t p b (by simpa using h)
    simp only [List.set_cons_succ, wd, List.getD_cons_succ, Nat.pow_succ]
    rw [Nat.mul_comm (2 ^ p) 2, Nat.mul_assoc, Nat.mul_assoc]
    omega
theorem shl_bit {b : Bool} {p : Nat} (h : p < 5) : bShl .i64 (b.toNat : Int) (p : Int) = ((2 ^ p * b.toNat : Nat) : Int) := by
  cases b with
  | true => rw [Bool.toNat_true, Nat.mul_one]; exact bShl_one (by omega)
  | false =>
    have := (show ∀ p : Nat, p < 5 → bShl .i64 0 (p : Int) = 0 by decide) p h
    simpa using this
theorem wrap5 : ∀ p : Nat, p < 5 → IntKind.wrap .u64 ((p : Nat) : Int) = (p : Int) := by decide
/-- both runs side by side -/
def UR (m : Mc) (c : Nat) (k : Int) (x : Int × Int × Int × Option (List (Int × Int))) (y : Int × Int × Int × Int) : Prop :=
  ∃ (t : List Bool) (l : List (Int × Int)) (p : Nat), t.length = c ∧ TR l t ∧ p < c ∧ x.2.2.2 = some l ∧ x.2.2.1 = (p : Int) ∧ y.1 = ((wd t : Nat) : Int) ∧ y.2.1 = (p : Int) ∧ x.2.1 = y.2.2.1 ∧ (0 ≤ x.2.1 ∧ x.2.1 ≤ m.1) ∧ x.1 + y.2.2.2 = k ∧ 0 ≤ x.1 ∧ 0 ≤ y.2.2.2
def US (m : Mc) (c : Nat) (x : Int × Int × Option (List (Int × Int))) (y : Int × Int × Int) : Prop :=
  ∃ (t : List Bool) (l : List (Int × Int)) (p : Nat), t.length = c ∧ TR l t ∧ p < c ∧ x.2.2 = some l ∧ x.2.1 = (p : Int) ∧ y.1 = ((wd t : Nat) : Int) ∧ y.2.1 = (p : Int) ∧ x.1 = y.2.2
theorem u_step {m : Mc} (h0 : tpAll m = 0) (hg : m.2.1 = 2) {c : Nat} (hc : 1 ≤ c ∧ c ≤ 5) {k : Int} (hk : 0 ≤ k ∧ k ≤ 6) (x : Int × Int × Int × Option (List (Int × Int))) (y : Int × Int × Int × Int) (h : UR m c k x y) :
    ∃ s s', unroll_Ask_b11 m (c : Int) x = some s ∧ ref_Asked_b22 m (c : Int) k y = some s' ∧ (match s, s' with | .next a, .next b => UR m c k a b ∧ a.1.toNat < x.1.toNat | .done a, .done b => US m c a b | _, _ => False) := by
  obtain ⟨left, st, pos, mp⟩ := x
  obtain ⟨w, pos', st', n⟩ := y
  obtain ⟨t, l, p, ht, htr, hp, rfl, rfl, rfl, rfl, rfl, hst, hn, hl, hn0⟩ := h
  simp only at ht hst hn hl hn0
  obtain ⟨⟨s1, s2⟩, _, hrows, hall⟩ := tp_ok h0
  unfold unroll_Ask_b11 ref_Asked_b22
  by_cases hgo : left > 0 ∧ st < m.1
  · have e1 : (bif decide (left > (0 : Int)) then (some (decide (st < m.1))) else (some false)) = some true := by
      rw [decide_eq_true hgo.1, cond_true, decide_eq_true hgo.2]
    have e2 : (bif decide (n < k) then (some (decide (st < m.1))) else (some false)) = some true := by
      rw [show decide (n < k) = true from decide_eq_true (by omega), cond_true, decide_eq_true hgo.2]
    simp only [e1, e2, bind_some', cond_true]
    obtain ⟨row, hrow, hrow2⟩ := idx_get (xs := m.2.2) (i := st) hst.1 (by omega)
    obtain ⟨rl, rr⟩ := hall row (List.mem_of_getElem? hrow2)
    obtain ⟨b, hb⟩ : ∃ b, b = t.getD p false := ⟨_, rfl⟩
    have hcell : (mGet (deqT tI) l (p : Int)).getD 0 = (b.toNat : Int) := by rw [hb]; exact htr.2 p (by omega)
    have hb1 : b.toNat ≤ 1 := Bool.toNat_le b
    obtain ⟨r, hr, hr2⟩ := idx_get (xs := row) (i := (b.toNat : Int)) (by omega) (by omega)
    obtain ⟨q1, q2, q3⟩ := rr r (List.mem_of_getElem? hr2)
    obtain ⟨v, hv⟩ : ∃ v : Bool, r.1 = (v.toNat : Int) := by
      rcases (show r.1 = 0 ∨ r.1 = 1 by omega) with h | h
      · exact ⟨false, h⟩
      · exact ⟨true, h⟩
    obtain ⟨l', hput, htr'⟩ := put_ok htr (p := p) (by omega) v
    have hstep : tape_Step m st (p : Int) (some l) = some (r.2.2, w64 ((p : Int) + r.2.1), some l') := by
      unfold tape_Step
      rw [hrow, bind_some', show Option.getD (some l) [] = l from rfl, hcell, hr, bind_some', hv, hput]; rfl
    have hbit : ref_Bit ((wd t : Nat) : Int) (p : Int) = some b := by
      have hw := wd_lt t
      have hlt : wd t < 2 ^ 63 := Nat.lt_of_lt_of_le hw (Nat.pow_le_pow_right (by decide) (by omega))
      rw [bit_eq hlt (by omega), wd_bit, hb]
    have hbsel : (bif b then (some (1 : Int)) else (some (0 : Int))) = some (b.toNat : Int) := by cases b <;> rfl
    have hck : ck (0 ≤ IntKind.wrap .u64 ((p : Nat) : Int)) = some () := ck_ok (by rw [wrap5 p (by omega)]; omega)
    simp only [hstep, hbit, bind_some', hbsel, hrow, hr, hck]
    have w1 : w64 (left - 1) = left - 1 := w64_id (by
      have := hn; omega) (by omega)
    have w2 : w64 ((p : Int) + r.2.1) = (p : Int) + r.2.1 := w64_id (by omega) (by omega)
    have w3 : w64 ((c : Int) - 1) = (c : Int) - 1 := w64_id (by omega) (by omega)
    have w4 : w64 (n + 1) = n + 1 := w64_id (by omega) (by omega)
    obtain ⟨np, hnp⟩ : ∃ np : Nat, (np : Int) = imin (imax ((p : Int) + r.2.1) 0) ((c : Int) - 1) ∧ np < c := by
      have h1 : 0 ≤ imin (imax ((p : Int) + r.2.1) 0) ((c : Int) - 1) ∧ imin (imax ((p : Int) + r.2.1) 0) ((c : Int) - 1) ≤ (c : Int) - 1 := by
        unfold imin imax
        split <;> split <;> omega
      exact ⟨(imin (imax ((p : Int) + r.2.1) 0) ((c : Int) - 1)).toNat, by omega, by omega⟩
    have w5 : ((bif decide (((p : Int) + r.2.1) < (0 : Int)) then (some (0 : Int)) else (some ((p : Int) + r.2.1))).bind fun v168 =>
        (bif decide (v168 ≥ (c : Int)) then (some ((c : Int) - 1)) else (some v168))) = some (np : Int) := by
      rw [hnp.1]
      unfold imin imax
      by_cases a : (p : Int) + r.2.1 < 0
      · rw [decide_eq_true a, cond_true, bind_some', show decide ((0 : Int) ≥ (c : Int)) = false from decide_eq_false (by omega), cond_false]
        congr 1
        split <;> split <;> omega
      · rw [decide_eq_false a, cond_false, bind_some']
        by_cases d : (p : Int) + r.2.1 ≥ c
        · rw [decide_eq_true d, cond_true]
          congr 1
          split <;> split <;> omega
        · rw [decide_eq_false d, cond_false]
          congr 1
          split <;> split <;> omega
    rw [w1, w2, w3, w4, ← hnp.1, hv, wrap5 p (by omega), shl_bit (by omega), shl_bit (by omega)]
    have hset := wd_set t p v (by omega)
    rw [← hb] at hset
    have hw := wd_lt t
    have hw' := wd_lt (t.set p v)
    rw [List.length_set] at hw'
    have h32 : 2 ^ t.length ≤ 32 := Nat.pow_le_pow_right (n := 2) (by decide) (show t.length ≤ 5 by omega)
    have hge : 2 ^ p * b.toNat ≤ 32 := by
      have : 2 ^ p ≤ 32 := Nat.pow_le_pow_right (n := 2) (by decide) (show p ≤ 5 by omega)
      exact Nat.le_trans (Nat.mul_le_mul_left _ hb1) (by omega)
    have hge2 : 2 ^ p * v.toNat ≤ 32 := by
      have : 2 ^ p ≤ 32 := Nat.pow_le_pow_right (n := 2) (by decide) (show p ≤ 5 by omega)
      exact Nat.le_trans (Nat.mul_le_mul_left _ (Bool.toNat_le v)) (by omega)
    have w6 : w64 (w64 (((wd t : Nat) : Int) - ((2 ^ p * b.toNat : Nat) : Int)) + ((2 ^ p * v.toNat : Nat) : Int)) = ((wd (t.set p v) : Nat) : Int) := by
      generalize 2 ^ p * b.toNat = A at *
      generalize 2 ^ p * v.toNat = B at *
      rw [w64_id (n := ((wd t : Nat) : Int) - (A : Int)) (by omega) (by omega), w64_id (by omega) (by omega)]
      omega
    rw [w6]
    have w7 := w5
    cases hd : (bif decide (((p : Int) + r.2.1) < (0 : Int)) then (some (0 : Int)) else (some ((p : Int) + r.2.1))) with
    | none => rw [hd] at w7; cases w7
    | some z =>
      rw [hd, bind_some'] at w7
      rw [bind_some', w7, bind_some']
      refine ⟨_, _, rfl, rfl, ⟨t.set p v, l', np, by simpa using ht, htr', hnp.2, rfl, rfl, rfl, rfl, rfl, ⟨q3.1, q3.2⟩, by simp only; omega, by simp only; omega, by simp only; omega⟩, by simp only; omega⟩
  · have e1 : (bif decide (left > (0 : Int)) then (some (decide (st < m.1))) else (some false)) = some false := by
      by_cases a : left > 0
      · rw [decide_eq_true a, cond_true, decide_eq_false (fun b => hgo ⟨a, b⟩)]
      · rw [decide_eq_false a]; rfl
    have e2 : (bif decide (n < k) then (some (decide (st < m.1))) else (some false)) = some false := by
      by_cases a : n < k
      · rw [decide_eq_true a, cond_true, show decide (st < m.1) = false from decide_eq_false (fun b => hgo ⟨by omega, b⟩)]
      · rw [decide_eq_false a]; rfl
    simp only [e1, e2, bind_some', cond_false]
    exact ⟨_, _, rfl, rfl, t, l, p, ht, htr, hp, rfl, rfl, rfl, rfl, rfl⟩
theorem UnrollAsks_true (a0 : Int × (Int × List (List (Int × (Int × Int))))) (a1 a2 : Int) (a3 : List Bool) (f0 : Fits (.pair (.int .i64) (.pair (.int .i64) (.slice (.slice (.pair (.int .i64) (.pair (.int .i64) (.int .i64))))))) a0) (f1 : Fits (.int .i64) a1) (f2 : Fits (.int .i64) a2) (f3 : Fits (.slice .bool) a3) : ∃ fuel, law_UnrollAsks fuel a0 a1 a2 a3 = some true := by
  refine ⟨8, ?_⟩
  unfold law_UnrollAsks unroll_Ask
  rw [u_wrong, u_check]
  simp only [bind_some']
  by_cases h0 : uAll a0 a1 a2 = 0
  · rw [h0, show ((0 : Int) != 0) = false from rfl, cond_false, show ((0 : Int) == 0) = true from rfl, Bool.true_and]
    obtain ⟨t0, hg, hc, hk⟩ := u_ok h0
    by_cases hl : (a3.length : Int) = a1
    · have hne : ((a3.length : Int) != a1) = false := by simp [hl]
      rw [hne, cond_false, cond_false]
      obtain ⟨l, hf, htr⟩ := fill_ok a3
      subst hl
      have hcn : 1 ≤ a3.length ∧ a3.length ≤ 5 := ⟨by omega, by omega⟩
      obtain ⟨y, y', i1, i2, t, l', p, h1, h2, h3, h4, h5, h6, h7, h8⟩ := iter_rel (f := unroll_Ask_b11 a0 (a3.length : Int)) (f' := ref_Asked_b22 a0 (a3.length : Int) a2) (UR a0 a3.length a2) (fun x => x.1.toNat) (US a0 a3.length)
        (fun x y h => by
          obtain ⟨s, s', e1, e2, e3⟩ := u_step t0 hg.1 hcn hk x y h
          refine ⟨s, s', e1, e2, ?_⟩
          cases s <;> cases s' <;> exact e3) 8 (a2, (0 : Int), (0 : Int), some l) (((wd a3 : Nat) : Int), (0 : Int), (0 : Int), (0 : Int)) (by simp only; omega)
        ⟨a3, l, 0, rfl, htr, by omega, rfl, rfl, rfl, rfl, rfl, ⟨by simp, by simp only; have := (tp_ok t0).1; omega⟩, by simp, by simp only; omega, by simp⟩
      rw [hf, bind_some', i1, bind_some', bind_some', bind_some', show ((0 : Int) != 0) = false from rfl, cond_false]
      simp only []
      rw [show ((0 : Int) == 0) = true from rfl, cond_true]
      rw [word_eq a3 (by omega), bind_some']
      unfold ref_Asked
      rw [i2]
      obtain ⟨y1, y2, y3⟩ := y
      obtain ⟨z1, z2, z3⟩ := y'
      simp only at h4 h5 h6 h7 h8
      subst h4; subst h5; subst h6; subst h7; subst h8
      have hcell : (mGet (deqT tI) l' (p : Int)).getD 0 = ((t.getD p false).toNat : Int) := h2.2 p (by omega)
      have hbit : ref_Bit ((wd t : Nat) : Int) (p : Int) = some (t.getD p false) := by
        have hw := wd_lt t
        have hlt : wd t < 2 ^ 63 := Nat.lt_of_lt_of_le hw (Nat.pow_le_pow_right (by decide) (by omega))
        rw [bit_eq hlt (by omega), wd_bit]
      simp only [bind_some', hbit]
      rw [show Option.getD (some l') [] = l' from rfl, hcell]
      cases (y1 == a0.1) <;> cases t.getD p false <;> rfl
    · have hne : ((a3.length : Int) != a1) = true := by simp [hl]
      rw [hne]; rfl
  · rw [show (uAll a0 a1 a2 != 0) = true by simp [h0], cond_true, show (uAll a0 a1 a2 == 0) = false by simp [h0], Bool.false_and, cond_false, bind_some', bind_some',
      show (uAll a0 a1 a2 != 0) = true by simp [h0], cond_true]
    simp

end Go.Proofs.Ytnkeccbcboplnaa.unrollAsks
namespace Go.Proofs.Ytnkeccbcboplnaa.unrollAsks
open Go.ChangeShapes Go.WideShapes Go.ChangeAt Go.RowKit
open Go.ChangeMaps (open_string shut_string)
theorem own : ownKnob Try.prog.godebug = none := by kernel_rfl
theorem laidOut : laidOutB Try.prog = true := by kernel_rfl
theorem lifted (os : Os) (started : os.Started) (H : Type) (enc : TypeId × Value → H) :
    ReturnsInHanded {} Try.checked os 3 .any (Rows.unrollAsksSpec.pre6 enc Try.prog Try.f3 Rows.unrollAsksRow.domain false) (Rows.unrollAsksSpec.post enc Try.prog Try.f3 false true false false) := by
  refine returnsInHanded_of_change (C := Try.checked) own started (by kernel_rfl) Try.func3
    (ChangeSpec.witness6 (enc := enc) (C := Try.checked) false ⟨#[], #[.agg #[.int .i64 0, .int .i64 0, .slice none 0 0], .int .i64 0, .int .i64 0, .slice none 0 0], []⟩ 8 (by kernel_rfl) (by kernel_rfl) (by kernel_rfl) (by kernel_rfl)) ?_
  intro W base args ds gs before hval0 hW hcnd _
  have hval : ∀ (j : Nat) t v, Try.f3.params[j]? = some t → args[j]? = some v → Value.okWide Try.prog W .any base t v := hval0
  have hW' := hW
  obtain ⟨p, q, hA0, hV, rfl, hfz, hnd⟩ := hW
  have hA : DataW.TrodAll enc Try.prog W 0 (fun _ => true) true Try.f3.params.toList args.toList ds p := hA0
  rw [Try.params3] at hA hval
  obtain ⟨v0, vs0, d0, ds0, p0, q0, hargs, rfl, rfl, h0, r0⟩ := trodAll_cons hA
  obtain ⟨v1, vs1, d1, ds1, p1, q1, rfl, rfl, rfl, h1, r1⟩ := trodAll_cons r0
  obtain ⟨v2, vs2, d2, ds2, p2, q2, rfl, rfl, rfl, h2, r2⟩ := trodAll_cons r1
  obtain ⟨v3, vs3, d3, ds3, p3, q3, rfl, rfl, rfl, h3, r3⟩ := trodAll_cons r2
  obtain ⟨rfl, rfl, rfl⟩ := trodAll_nil r3
  obtain rfl : args = #[v0, v1, v2, v3] := by cases args; simp_all
  obtain ⟨rfl, rfl⟩ := trodVars_none hV
  obtain ⟨x0, f0, k0⟩ := Go.Sl.read_arg (u := (.pair (.int .i64) (.pair (.int .i64) (.slice (.slice (.pair (.int .i64) (.pair (.int .i64) (.int .i64)))))))) (by kernel_rfl) (by kernel_rfl) (hval 0 24 v0 rfl rfl) h0
  have lt0 : ∀ x ∈ p0, x.block < W.heap.size := by obtain ⟨m, hm⟩ := h0; exact DataW.trod_lt m _ _ _ hm
  obtain ⟨x1, f1, k1⟩ := Go.Sl.read_arg (u := (.int .i64)) (by kernel_rfl) (by kernel_rfl) (hval 1 3 v1 rfl rfl) h1
  have lt1 : ∀ x ∈ p1, x.block < W.heap.size := by obtain ⟨m, hm⟩ := h1; exact DataW.trod_lt m _ _ _ hm
  obtain ⟨x2, f2, k2⟩ := Go.Sl.read_arg (u := (.int .i64)) (by kernel_rfl) (by kernel_rfl) (hval 2 3 v2 rfl rfl) h2
  have lt2 : ∀ x ∈ p2, x.block < W.heap.size := by obtain ⟨m, hm⟩ := h2; exact DataW.trod_lt m _ _ _ hm
  obtain ⟨x3, f3, k3⟩ := Go.Sl.read_arg (u := (.slice .bool)) (by kernel_rfl) (by kernel_rfl) (hval 3 25 v3 rfl rfl) h3
  have lt3 : ∀ x ∈ p3, x.block < W.heap.size := by obtain ⟨m, hm⟩ := h3; exact DataW.trod_lt m _ _ _ hm
  clear hA0 hval0
  obtain ⟨fuel, hm⟩ := UnrollAsks_true x0 x1 x2 x3 f0 f1 f2 f3
  refine (Go.Sl.law_of (vs := [v0, v1, v2, v3]) (law_UnrollAsks_ok hm) rfl (.cons (k0 _ _) (.cons (k1 _ _) (.cons (k2 _ _) (.cons (k3 _ _) .nil))))).mono fun e W' ⟨he, bel⟩ => ?_
  subst he
  exact ⟨_, rfl, _, _, _, [], _, [], hW', trodAll_mk1 (shut_bool Try.underlying4 _), (trodAll_cons_mk (Below.trod laidOut (by kernel_rfl) (of_decide_eq_true (by kernel_rfl)) h0 bel lt0) (trodAll_cons_mk (Below.trod laidOut (by kernel_rfl) (of_decide_eq_true (by kernel_rfl)) h1 bel lt1) (trodAll_cons_mk (Below.trod laidOut (by kernel_rfl) (of_decide_eq_true (by kernel_rfl)) h2 bel lt2) (trodAll_cons_mk (Below.trod laidOut (by kernel_rfl) (of_decide_eq_true (by kernel_rfl)) h3 bel lt3) trodAll_mk0)))), rfl, bel.frame _, fun h => by cases h⟩
theorem proved : Rows.UnrollAsksSaid :=
  OpenClaim.holds_of_wide 3 Try.f3 rfl rfl rfl rfl rfl rfl rfl ⟨rfl, rfl, rfl, rfl, rfl⟩ rfl rfl rfl rfl rfl (by kernel_rfl) Try.func3 (by kernel_rfl)
    (of_decide_eq_true (by kernel_rfl)) (by unfold Func.isWrapper; first | (rw [if_pos (by decide +kernel)]; kernel_rfl) | (rw [if_neg (by decide +kernel)]; exact ⟨rfl, rfl⟩))
    (fun os started H enc _ => lifted os started H enc)
#print axioms proved
end Go.Proofs.Ytnkeccbcboplnaa.unrollAsks
