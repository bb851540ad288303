/- For any machine busy.Number returns the specified results: BusyNumbers returns true and changes nothing; no conditions. -/
import Derived.Test.YtpkbglckacoccaaRows
import Derived.WalkKit
import Derived.ProofKit
import Derived.OpenShut
import Derived.ShutString
import Derived.ChangeOld
import Derived.Below
import Derived.Test.YtpkbglckacoccaaBusyNumbersM
set_option linter.all false
set_option maxRecDepth 100000
namespace Go.Proofs.Ytpkbglckacoccaa.busyNumbers
open Go Go.Sl

theorem inside1 (n v : Int) : ref_Inside n [v] = some (decide (0 ≤ v ∧ v < n)) := by
  unfold ref_Inside
  rw [forL_ex (p := fun v => decide (v < 0) || decide (v ≥ n)) (y := Esc.ret false) (fun i a _ => by unfold ref_Inside_b1; cases (decide (a < 0) || decide (a ≥ n)) <;> rfl)]
  by_cases h : 0 ≤ v ∧ v < n
  · have : (decide (v < 0) || decide (v ≥ n)) = false := by simp only [Bool.or_eq_false_iff, decide_eq_false_iff_not]; omega
    simp [this, h]
  · have : (decide (v < 0) || decide (v ≥ n)) = true := by simp only [Bool.or_eq_true, decide_eq_true_eq]; omega
    simp [this, h]

theorem within_eq (a b c : Int) : ref_Within a b c = some (decide (a ≤ b ∧ b ≤ c)) := by
  unfold ref_Within
  rw [Bool.decide_and]

def tpRule (S G : Int) (r : Int × Int × Int) : Option Int :=
  bif !decide (0 ≤ r.1 ∧ r.1 < G) then some 2 else bif !decide (-1 ≤ r.2.1 ∧ r.2.1 ≤ 1) then some 4 else bif !decide (0 ≤ r.2.2 ∧ r.2.2 ≤ S) then some 2 else none
def tpLen (G : Int) (l : List (Int × Int × Int)) : Bool := (l.length : Int) != G
def tpAll (m : Int × Int × List (List (Int × Int × Int))) : Int :=
  bif !(decide (1 ≤ m.1 ∧ m.1 ≤ 5) && decide (2 ≤ m.2.1 ∧ m.2.1 ≤ 4)) then 1 else bif (m.2.2.length : Int) != m.1 then 3 else bif m.2.2.any (tpLen m.2.1) then 3 else
    (m.2.2.findSome? fun l => l.findSome? (tpRule m.1 m.2.1)).getD 0
theorem tp_lens (m : Int × Int × List (List (Int × Int × Int))) (l : List (List (Int × Int × Int))) : slices_ContainsFunc_LLapiRuleLapiRule_with_tape_Check_1 l m = some (l.any (tpLen m.2.1)) := by
  unfold slices_ContainsFunc_LLapiRuleLapiRule_with_tape_Check_1 slices_IndexFunc_LLapiRuleLapiRule_with_tape_Check_1
  rcases forL_at (body := slices_IndexFunc_LLapiRuleLapiRule_with_tape_Check_1_b1 m) (fin := fun _ => (Esc.brk () : Esc Int Unit)) (p := tpLen m.2.1) (g := fun j => Esc.ret j) (l := l)
    (fun i a _ => by unfold slices_IndexFunc_LLapiRuleLapiRule_with_tape_Check_1_b1 tape_Check_1 tpLen; cases ((List.length a : Int) != m.2.1) <;> rfl) (i := 0) with ⟨h1, h2⟩ | ⟨h1, j, h2, h3, h4⟩
  · rw [h2, h1]; rfl
  · rw [h4, h1]
    simp [h2]
theorem tp_row (m : Int × Int × List (List (Int × Int × Int))) (i : Int) (l : List (Int × Int × Int)) : tape_Check_b40 m i l () = some (said Esc.ret (l.findSome? (tpRule m.1 m.2.1))) := by
  unfold tape_Check_b40
  rw [forL_find (f := tpRule m.1 m.2.1) (g := Esc.ret) (fun i a _ => by
    unfold tape_Check_b36 tpRule
    have e1 : (bif decide (a.1 < (0 : Int)) then (some true) else (some (decide (a.1 ≥ m.2.1)))) = some (!decide (0 ≤ a.1 ∧ a.1 < m.2.1)) := by
      rw [bif_some]; congr 1
      by_cases h : a.1 < 0
      · simp [h]
      · simp only [h, Int.not_lt.1 h, decide_false, cond_false, true_and, not_dec]; exact decide_eq_decide.2 (by omega)
    have e2 : (bif decide (a.2.1 < (-1 : Int)) then (some true) else (some (decide (a.2.1 > (1 : Int))))) = some (!decide (-1 ≤ a.2.1 ∧ a.2.1 ≤ 1)) := by
      rw [bif_some]; congr 1
      by_cases h : a.2.1 < -1
      · simp [h]
      · simp only [h, Int.not_lt.1 h, decide_false, cond_false, true_and, not_dec]; exact decide_eq_decide.2 (by omega)
    have e3 : (bif decide (a.2.2 < (0 : Int)) then (some true) else (some (decide (a.2.2 > m.1)))) = some (!decide (0 ≤ a.2.2 ∧ a.2.2 ≤ m.1)) := by
      rw [bif_some]; congr 1
      by_cases h : a.2.2 < 0
      · simp [h]
      · simp only [h, Int.not_lt.1 h, decide_false, cond_false, true_and, not_dec]; exact decide_eq_decide.2 (by omega)
    rw [e1, e2, e3]
    cases decide (0 ≤ a.1 ∧ a.1 < m.2.1) <;> cases decide (-1 ≤ a.2.1 ∧ a.2.1 ≤ 1) <;> cases decide (0 ≤ a.2.2 ∧ a.2.2 ≤ m.1) <;> rfl)]
  cases l.findSome? (tpRule m.1 m.2.1) <;> rfl
theorem tp_rrow (m : Int × Int × List (List (Int × Int × Int))) (hm : 1 ≤ m.1 ∧ m.1 ≤ 5) (i : Int) (l : List (Int × Int × Int)) : ref_MachineCheck_b15 m i l () = some (said Esc.ret (l.findSome? (tpRule m.1 m.2.1))) := by
  unfold ref_MachineCheck_b15
  rw [forL_find (f := tpRule m.1 m.2.1) (g := Esc.ret) (fun i a _ => by
    unfold ref_MachineCheck_b11 tpRule
    rw [inside1, within_eq, inside1, w64_id (by omega) (by omega)]
    have e3 : decide (0 ≤ a.2.2 ∧ a.2.2 < m.1 + 1) = decide (0 ≤ a.2.2 ∧ a.2.2 ≤ m.1) := decide_eq_decide.2 (by omega)
    rw [e3]
    cases decide (0 ≤ a.1 ∧ a.1 < m.2.1) <;> cases decide (-1 ≤ a.2.1 ∧ a.2.1 ≤ 1) <;> cases decide (0 ≤ a.2.2 ∧ a.2.2 ≤ m.1) <;> rfl)]
  cases l.findSome? (tpRule m.1 m.2.1) <;> rfl
theorem tp_check (m : Int × Int × List (List (Int × Int × Int))) : tape_Check m = some (tpAll m) := by
  unfold tape_Check tape_Check_g1 tpAll
  have e : (bif decide (m.1 < (1 : Int)) then (some true) else (bif decide (m.1 > (5 : Int)) then (some true) else (bif decide (m.2.1 < (2 : Int)) then (some true) else (some (decide (m.2.1 > (4 : Int))))))) =
      some (!(decide (1 ≤ m.1 ∧ m.1 ≤ 5) && decide (2 ≤ m.2.1 ∧ m.2.1 ≤ 4))) := by
    by_cases h1 : m.1 < 1
    · have : ¬ (1 ≤ m.1 ∧ m.1 ≤ 5) := by omega
      simp [h1, this]
    · by_cases h2 : m.1 > 5
      · have : ¬ (1 ≤ m.1 ∧ m.1 ≤ 5) := by omega
        simp [h1, h2, this]
      · have h3 : 1 ≤ m.1 ∧ m.1 ≤ 5 := by omega
        by_cases h4 : m.2.1 < 2
        · have : ¬ (2 ≤ m.2.1 ∧ m.2.1 ≤ 4) := by omega
          simp [h1, h2, h4, this]
        · have : (decide (m.2.1 > 4)) = !decide (2 ≤ m.2.1 ∧ m.2.1 ≤ 4) := by rw [not_dec]; exact decide_eq_decide.2 (by omega)
          simp only [h1, h2, h4, decide_false, cond_false, h3, decide_true, Bool.true_and, this, and_self]
  rw [e, bind_some', tp_lens]
  rw [forL_find (f := fun l => l.findSome? (tpRule m.1 m.2.1)) (g := Esc.ret) (fun i a _ => tp_row m i a)]
  cases (!(decide (1 ≤ m.1 ∧ m.1 ≤ 5) && decide (2 ≤ m.2.1 ∧ m.2.1 ≤ 4))) <;> cases ((List.length m.2.2 : Int) != m.1) <;> cases m.2.2.any (tpLen m.2.1) <;>
    cases (m.2.2.findSome? fun l => l.findSome? (tpRule m.1 m.2.1)) <;> rfl
theorem tp_rcheck (m : Int × Int × List (List (Int × Int × Int))) : ref_MachineCheck m = some (tpAll m) := by
  unfold ref_MachineCheck tpAll
  rw [within_eq, within_eq, bind_some', bind_some']
  by_cases h1 : 1 ≤ m.1 ∧ m.1 ≤ 5
  · by_cases h2 : 2 ≤ m.2.1 ∧ m.2.1 ≤ 4
    · rw [forL_ex (p := tpLen m.2.1) (y := Esc.ret 3) (fun i a _ => by unfold ref_MachineCheck_b1 tpLen; cases ((List.length a : Int) != m.2.1) <;> rfl)]
      rw [forL_find (f := fun l => l.findSome? (tpRule m.1 m.2.1)) (g := Esc.ret) (fun i a _ => tp_rrow m h1 i a)]
      simp only [h1, h2, and_self, decide_true, Bool.not_true, cond_false, Bool.and_self, bind_some']
      cases ((List.length m.2.2 : Int) != m.1) <;> cases m.2.2.any (tpLen m.2.1) <;> cases (m.2.2.findSome? fun l => l.findSome? (tpRule m.1 m.2.1)) <;> rfl
    · simp [h1, h2, decide_eq_false h2]
  · simp [decide_eq_false h1]
theorem tp_ok {m : Int × Int × List (List (Int × Int × Int))} (h : tpAll m = 0) : (1 ≤ m.1 ∧ m.1 ≤ 5) ∧ (2 ≤ m.2.1 ∧ m.2.1 ≤ 4) ∧ (m.2.2.length : Int) = m.1 ∧ ∀ l ∈ m.2.2, (l.length : Int) = m.2.1 ∧ ∀ r ∈ l, (0 ≤ r.1 ∧ r.1 < m.2.1) ∧ (-1 ≤ r.2.1 ∧ r.2.1 ≤ 1) ∧ (0 ≤ r.2.2 ∧ r.2.2 ≤ m.1) := by
  unfold tpAll at h
  cases hc : (!(decide (1 ≤ m.1 ∧ m.1 ≤ 5) && decide (2 ≤ m.2.1 ∧ m.2.1 ≤ 4))) with
  | true => rw [hc] at h; cases h
  | false =>
    rw [hc] at h
    cases hl : ((List.length m.2.2 : Int) != m.1) with
    | true => rw [hl] at h; cases h
    | false =>
      rw [hl] at h
      cases ha : m.2.2.any (tpLen m.2.1) with
      | true => rw [ha] at h; cases h
      | false =>
        rw [ha] at h
        simp only [cond_false] at h
        simp only [Bool.not_eq_false', Bool.and_eq_true, decide_eq_true_eq] at hc
        refine ⟨hc.1, hc.2, by simpa using hl, fun l hm => ?_⟩
        have hlen := List.any_eq_false.1 ha l hm
        refine ⟨by unfold tpLen at hlen; simpa using hlen, fun r hr => ?_⟩
        have hval : ∀ (r : Int × Int × Int) e, tpRule m.1 m.2.1 r = some e → e ≠ 0 := by
          intro r e he h0
          subst h0
          unfold tpRule at he
          cases h1 : !decide (0 ≤ r.1 ∧ r.1 < m.2.1) <;> cases h2 : !decide (-1 ≤ r.2.1 ∧ r.2.1 ≤ 1) <;> cases h3 : !decide (0 ≤ r.2.2 ∧ r.2.2 ≤ m.1) <;> rw [h1, h2, h3] at he <;> simp at he
        cases hf : m.2.2.findSome? fun l => l.findSome? (tpRule m.1 m.2.1) with
        | some e =>
          rw [hf] at h
          obtain ⟨l', _, hl'⟩ := List.exists_of_findSome?_eq_some hf
          obtain ⟨r', _, hr'⟩ := List.exists_of_findSome?_eq_some hl'
          exact (hval r' e hr' h).elim
        | none =>
          have h1 := List.findSome?_eq_none_iff.1 hf l hm
          have h2 := List.findSome?_eq_none_iff.1 h1 r hr
          unfold tpRule at h2
          cases h3 : !decide (0 ≤ r.1 ∧ r.1 < m.2.1) with
          | true => rw [h3] at h2; cases h2
          | false =>
            rw [h3] at h2
            cases h4 : !decide (-1 ≤ r.2.1 ∧ r.2.1 ≤ 1) with
            | true => rw [h4] at h2; cases h2
            | false =>
              rw [h4] at h2
              cases h5 : !decide (0 ≤ r.2.2 ∧ r.2.2 ≤ m.1) with
              | true => rw [h5] at h2; cases h2
              | false =>
                simp only [Bool.not_eq_false', decide_eq_true_eq] at h3 h4 h5
                exact ⟨h3, h4, h5⟩

def bnB : Nat → Int
  | 0 => 1
  | n + 1 => 12 * bnB n
theorem bnB_pos : ∀ n, 1 ≤ bnB n
  | 0 => by decide
  | n + 1 => by have := bnB_pos n; unfold bnB; omega
theorem bnB_le : ∀ n, n ≤ 4 → bnB n ≤ 20736 := by
  intro n hn
  have : n = 0 ∨ n = 1 ∨ n = 2 ∨ n = 3 ∨ n = 4 := by omega
  rcases this with rfl | rfl | rfl | rfl | rfl <;> decide
/-- one rule -/
theorem bn_rule {m : Int × Int × List (List (Int × Int × Int))} (hs : 1 ≤ m.1 ∧ m.1 ≤ 2) (i : Int) (r : Int × Int × Int) (hr : (0 ≤ r.1 ∧ r.1 < 2) ∧ (-1 ≤ r.2.1 ∧ r.2.1 ≤ 1) ∧ (0 ≤ r.2.2 ∧ r.2.2 ≤ m.1)) (n : Nat) (hn : n < 4) (x : Int) (hx : 0 ≤ x ∧ x < bnB n) :
    ∃ s s', busy_Number_b8 m i r x = some s ∧ law_digits_b26 m i r x = some s' ∧ (match s, s' with | .next y, .next y' => y = y' ∧ 0 ≤ y ∧ y < bnB (n + 1) | .done (.ret y), .done (.ret y') => y = (0, 3) ∧ y' = -1 | _, _ => False) := by
  obtain ⟨W, M, N⟩ := r
  obtain ⟨S, rest⟩ := m
  simp only at hs hr
  have hB := bnB_le n (by omega)
  unfold busy_Number_b8 law_digits_b26
  simp only
  have hM : M = -1 ∨ M = 0 ∨ M = 1 := by omega
  have hx2 : (x + 1) ≤ bnB n := by omega
  have hd : bnB (n + 1) = 12 * bnB n := rfl
  rcases hM with rfl | rfl | rfl
  · have hS : S = 1 ∨ S = 2 := by omega
    refine ⟨_, _, rfl, rfl, ?_⟩
    simp only
    have e1 : w64 (-1 + 1) = 0 := by decide
    have e2 : w64 (Int.tdiv 0 2) = 0 := by decide
    have e3 : w64 (2 * W) = 2 * W := w64_id (by omega) (by omega)
    rw [e1, e2, e3]
    have e4 : w64 (2 * W + 0) = 2 * W := by rw [Int.add_zero]; exact e3
    have e5 : w64 (S + 1) = S + 1 := w64_id (by omega) (by omega)
    have e6 : w64 (x * 4) = x * 4 := w64_id (by omega) (by omega)
    rw [e4, e5, e6]
    rcases hS with rfl | rfl
    · have a1 : w64 (x * 4 * (1 + 1)) = x * 8 := by rw [w64_id] <;> omega
      have a2 : w64 (2 * W * (1 + 1)) = W * 4 := by rw [w64_id] <;> omega
      rw [a1, a2, w64_id (n := x * 8 + W * 4) (by omega) (by omega), w64_id (n := x * 8 + W * 4 + N) (by omega) (by omega)]
      refine ⟨rfl, by omega, by omega⟩
    · have a1 : w64 (x * 4 * (2 + 1)) = x * 12 := by rw [w64_id] <;> omega
      have a2 : w64 (2 * W * (2 + 1)) = W * 6 := by rw [w64_id] <;> omega
      rw [a1, a2, w64_id (n := x * 12 + W * 6) (by omega) (by omega), w64_id (n := x * 12 + W * 6 + N) (by omega) (by omega)]
      refine ⟨rfl, by omega, by omega⟩
  · exact ⟨_, _, rfl, rfl, rfl, rfl⟩
  · have hS : S = 1 ∨ S = 2 := by omega
    refine ⟨_, _, rfl, rfl, ?_⟩
    simp only
    have e1 : w64 (1 + 1) = 2 := by decide
    have e2 : w64 (Int.tdiv 2 2) = 1 := by decide
    have e3 : w64 (2 * W) = 2 * W := w64_id (by omega) (by omega)
    rw [e1, e2, e3]
    have e4 : w64 (2 * W + 1) = 2 * W + 1 := w64_id (by omega) (by omega)
    have e5 : w64 (S + 1) = S + 1 := w64_id (by omega) (by omega)
    have e6 : w64 (x * 4) = x * 4 := w64_id (by omega) (by omega)
    rw [e4, e5, e6]
    rcases hS with rfl | rfl
    · have a1 : w64 (x * 4 * (1 + 1)) = x * 8 := by rw [w64_id] <;> omega
      have a2 : w64 ((2 * W + 1) * (1 + 1)) = W * 4 + 2 := by rw [w64_id] <;> omega
      rw [a1, a2, w64_id (n := x * 8 + (W * 4 + 2)) (by omega) (by omega), w64_id (n := x * 8 + (W * 4 + 2) + N) (by omega) (by omega)]
      refine ⟨rfl, by omega, by omega⟩
    · have a1 : w64 (x * 4 * (2 + 1)) = x * 12 := by rw [w64_id] <;> omega
      have a2 : w64 ((2 * W + 1) * (2 + 1)) = W * 6 + 3 := by rw [w64_id] <;> omega
      rw [a1, a2, w64_id (n := x * 12 + (W * 6 + 3)) (by omega) (by omega), w64_id (n := x * 12 + (W * 6 + 3) + N) (by omega) (by omega)]
      refine ⟨rfl, by omega, by omega⟩
def bnS : Esc (Int × Int) Int → Esc Int Int → Prop
  | .ret y, .ret y' => y = (0, 3) ∧ y' = -1
  | .brk y, .brk y' => y = y' ∧ 0 ≤ y
  | _, _ => False
theorem bn_all {m : Int × Int × List (List (Int × Int × Int))} (h : tpAll m = 0) (hs : m.1 ≤ 2) (hg : m.2.1 = 2) :
    ∃ y y', forL (busy_Number_b12 m) (fun x69 => (Esc.brk x69 : Esc (Int × Int) Int)) m.2.2 0 (0 : Int) = some y ∧ forL (law_digits_b30 m) (fun x134 => (Esc.brk x134 : Esc Int Int)) m.2.2 0 (0 : Int) = some y' ∧ bnS y y' := by
  obtain ⟨h1, h2, h3, h4⟩ := tp_ok h
  refine forL_rel (R := fun n x x' => x = x' ∧ 0 ≤ x ∧ x < bnB (2 * n)) (S := bnS) rfl ⟨rfl, by decide, by decide⟩ ?_ ?_
  · rintro n a a' x _ ha ha' ⟨rfl, hx1, hx2⟩
    obtain rfl := Option.some.inj (ha.symm.trans ha')
    have hn : n < m.2.2.length := (List.getElem?_eq_some_iff.1 ha).1
    obtain ⟨hl, hr⟩ := h4 a (List.mem_of_getElem? ha)
    have key : ∃ y y', forL (busy_Number_b8 m) (fun x85 => (Esc.brk x85 : Esc (Int × Int) Int)) a 0 x = some y ∧ forL (law_digits_b26 m) (fun x176 => (Esc.brk x176 : Esc Int Int)) a 0 x = some y' ∧
        (match y, y' with | .brk z, .brk z' => z = z' ∧ 0 ≤ z ∧ z < bnB (2 * n + 2) | .ret z, .ret z' => z = ((0, 3) : Int × Int) ∧ z' = (-1 : Int) | _, _ => False) := by
      refine forL_rel (R := fun k x x' => x = x' ∧ 0 ≤ x ∧ x < bnB (2 * n + k)) (S := fun (y : Esc (Int × Int) Int) (y' : Esc Int Int) => match y, y' with | .brk z, .brk z' => z = z' ∧ 0 ≤ z ∧ z < bnB (2 * n + 2) | .ret z, .ret z' => z = ((0, 3) : Int × Int) ∧ z' = (-1 : Int) | _, _ => False) rfl ⟨rfl, hx1, hx2⟩ ?_ ?_
      · rintro k b b' z _ hb hb' ⟨rfl, hz1, hz2⟩
        obtain rfl := Option.some.inj (hb.symm.trans hb')
        have hk : k < a.length := (List.getElem?_eq_some_iff.1 hb).1
        have hrr := hr b (List.mem_of_getElem? hb)
        rw [hg] at hrr
        obtain ⟨s, s', e1, e2, e3⟩ := bn_rule (m := m) ⟨h1.1, hs⟩ k b hrr (2 * n + k) (by omega) z ⟨hz1, hz2⟩
        refine ⟨s, s', e1, e2, ?_⟩
        cases s with
        | next y => cases s' with
          | next y' => exact e3
          | done y' => exact e3.elim
        | done y => cases s' with
          | next y' => cases y <;> exact e3.elim
          | done y' => cases y <;> cases y' <;> first | exact e3 | exact e3.elim
      · rintro z _ ⟨rfl, hz1, hz2⟩
        have : a.length = 2 := by omega
        rw [this] at hz2
        exact ⟨rfl, hz1, hz2⟩
    obtain ⟨y, y', e1, e2, e3⟩ := key
    unfold busy_Number_b12 law_digits_b30
    rw [e1, e2]
    cases y with
    | ret z => cases y' with
      | ret z' => exact ⟨_, _, rfl, rfl, by obtain ⟨rfl, rfl⟩ := e3; exact ⟨rfl, rfl⟩⟩
      | brk z' => exact e3.elim
    | brk z => cases y' with
      | ret z' => exact e3.elim
      | brk z' => exact ⟨_, _, rfl, rfl, e3.1, e3.2.1, by rw [show 2 * (n + 1) = 2 * n + 2 by omega]; exact e3.2.2⟩
  · rintro x _ ⟨rfl, hx1, _⟩
    exact ⟨rfl, hx1⟩
theorem BusyNumbers_true (a0 : Int × (Int × List (List (Int × (Int × Int))))) (f0 : Fits (.pair (.int .i64) (.pair (.int .i64) (.slice (.slice (.pair (.int .i64) (.pair (.int .i64) (.int .i64))))))) a0) : law_BusyNumbers a0 = some true := by
  unfold law_BusyNumbers busy_Number law_BusyNumbers_g5
  rw [tp_check, tp_rcheck]
  simp only [bind_some']
  by_cases hz : tpAll a0 = 0
  · rw [hz]
    by_cases h1 : a0.1 ≤ 2
    · by_cases h2 : a0.2.1 = 2
      · obtain ⟨y, y', e1, e2, e3⟩ := bn_all hz h1 h2
        have d1 : decide (a0.1 > 2) = false := decide_eq_false (by omega)
        have d2 : (a0.2.1 != 2) = false := by simp [h2]
        unfold law_digits
        rw [e1, e2, d1, d2]
        cases y with
        | ret z => cases y' with
          | ret z' => obtain ⟨rfl, rfl⟩ := e3; rfl
          | brk z' => exact e3.elim
        | brk z => cases y' with
          | ret z' => exact e3.elim
          | brk z' =>
            obtain ⟨rfl, hz0⟩ := e3
            have : decide (z < 0) = false := decide_eq_false (by omega)
            simp [this]
      · have d1 : decide (a0.1 > 2) = false := decide_eq_false (by omega)
        have d2 : (a0.2.1 != 2) = true := by simp [h2]
        rw [d1, d2]; rfl
    · have d1 : decide (a0.1 > 2) = true := decide_eq_true (by omega)
      rw [d1]; rfl
  · have e : (tpAll a0 != 0) = true := by simp [hz]
    have e2 : (tpAll a0 == 0) = false := by simp [hz]
    rw [e, e2]
    simp [e]

end Go.Proofs.Ytpkbglckacoccaa.busyNumbers
namespace Go.Proofs.Ytpkbglckacoccaa.busyNumbers
open Go.ChangeShapes Go.WideShapes Go.ChangeAt Go.RowKit
open Go.ChangeMaps (open_string shut_string)
theorem own : ownKnob Try.prog.godebug = none := by kernel_rfl
theorem laidOut : laidOutB Try.prog = true := by kernel_rfl
theorem lifted (os : Os) (started : os.Started) (H : Type) (enc : TypeId × Value → H) :
    ReturnsInHanded {} Try.checked os 9 .any (Rows.busyNumbersSpec.pre6 enc Try.prog Try.f9 Rows.busyNumbersRow.domain false) (Rows.busyNumbersSpec.post enc Try.prog Try.f9 false true false false) := by
  refine returnsInHanded_of_change (C := Try.checked) own started (by kernel_rfl) Try.func9
    (ChangeSpec.witness6 (enc := enc) (C := Try.checked) false ⟨#[], #[.agg #[.int .i64 0, .int .i64 0, .slice none 0 0]], []⟩ 8 (by kernel_rfl) (by kernel_rfl) (by kernel_rfl) (by kernel_rfl)) ?_
  intro W base args ds gs before hval0 hW hcnd _
  have hval : ∀ (j : Nat) t v, Try.f9.params[j]? = some t → args[j]? = some v → Value.okWide Try.prog W .any base t v := hval0
  have hW' := hW
  obtain ⟨p, q, hA0, hV, rfl, hfz, hnd⟩ := hW
  have hA : DataW.TrodAll enc Try.prog W 0 (fun _ => true) true Try.f9.params.toList args.toList ds p := hA0
  rw [Try.params9] at hA hval
  obtain ⟨v0, vs0, d0, ds0, p0, q0, hargs, rfl, rfl, h0, r0⟩ := trodAll_cons hA
  obtain ⟨rfl, rfl, rfl⟩ := trodAll_nil r0
  obtain rfl : args = #[v0] := by cases args; simp_all
  obtain ⟨rfl, rfl⟩ := trodVars_none hV
  obtain ⟨x0, f0, k0⟩ := Go.Sl.read_arg (u := (.pair (.int .i64) (.pair (.int .i64) (.slice (.slice (.pair (.int .i64) (.pair (.int .i64) (.int .i64)))))))) (by kernel_rfl) (by kernel_rfl) (hval 0 39 v0 rfl rfl) h0
  have lt0 : ∀ x ∈ p0, x.block < W.heap.size := by obtain ⟨m, hm⟩ := h0; exact DataW.trod_lt m _ _ _ hm
  clear hA0 hval0
  have hm := BusyNumbers_true x0 f0
  refine (Go.Sl.law_of (vs := [v0]) (law_BusyNumbers_ok hm) rfl (.cons (k0 _ _) .nil)).mono fun e W' ⟨he, bel⟩ => ?_
  subst he
  exact ⟨_, rfl, _, _, _, [], _, [], hW', trodAll_mk1 (shut_bool Try.underlying4 _), (trodAll_cons_mk (Below.trod laidOut (by kernel_rfl) (of_decide_eq_true (by kernel_rfl)) h0 bel lt0) trodAll_mk0), rfl, bel.frame _, fun h => by cases h⟩
theorem proved : Rows.BusyNumbersSaid :=
  OpenClaim.holds_of_wide 9 Try.f9 rfl rfl rfl rfl rfl rfl rfl ⟨rfl, rfl, rfl, rfl, rfl⟩ rfl rfl rfl rfl rfl (by kernel_rfl) Try.func9 (by kernel_rfl)
    (of_decide_eq_true (by kernel_rfl)) (by unfold Func.isWrapper; first | (rw [if_pos (by decide +kernel)]; kernel_rfl) | (rw [if_neg (by decide +kernel)]; exact ⟨rfl, rfl⟩))
    (fun os started H enc _ => lifted os started H enc)
#print axioms proved
end Go.Proofs.Ytpkbglckacoccaa.busyNumbers
