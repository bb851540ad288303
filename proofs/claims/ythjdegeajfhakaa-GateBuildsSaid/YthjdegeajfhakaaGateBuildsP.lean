/- GateBuilds holds for every input: no conditions. -/
import Derived.Test.YthjdegeajfhakaaRows
import Derived.WalkKit
import Derived.ProofKit
import Derived.OpenShut
import Derived.ShutString
import Derived.ChangeOld
import Derived.Below
import Derived.Test.YthjdegeajfhakaaGateBuildsM
set_option linter.all false
set_option maxRecDepth 100000
namespace Go.Proofs.Ythjdegeajfhakaa.gateBuilds
open Go Go.Sl
theorem within_eq (a b c : Int) : ref_Within a b c = some (decide (a ≤ b ∧ b ≤ c)) := by
  unfold ref_Within
  rw [Bool.decide_and]

theorem inside1 (n v : Int) : ref_Inside n [v] = some (decide (0 ≤ v ∧ v < n)) := by
  unfold ref_Inside
  rw [forL_ex (p := fun v => decide (v < 0) || decide (v ≥ n)) (y := Esc.ret false) (fun i a _ => by unfold ref_Inside_b1; cases (decide (a < 0) || decide (a ≥ n)) <;> rfl)]
  by_cases h : 0 ≤ v ∧ v < n
  · have : (decide (v < 0) || decide (v ≥ n)) = false := by simp only [Bool.or_eq_false_iff, decide_eq_false_iff_not]; omega
    simp [this, h]
  · have : (decide (v < 0) || decide (v ≥ n)) = true := by simp only [Bool.or_eq_true, decide_eq_true_eq]; omega
    simp [this, h]

def gc (a0 : Int) (n : Nat) (v : Int × Int × Int) : Option Int :=
  bif !decide (1 ≤ v.1 ∧ v.1 ≤ 4) then some 6 else bif (v.1 == 1) && !decide (0 ≤ v.2.1 ∧ v.2.1 < a0) then some 4
  else bif (!(v.1 == 1) && !decide (0 ≤ v.2.1 ∧ v.2.1 < n)) || (decide (v.1 ≥ 3) && !decide (0 ≤ v.2.2 ∧ v.2.2 < n)) then some 2 else none
theorem gc_body (a0 : Int) (n : Nat) (v : Int × Int × Int) : ref_GatesCheck_b10 a0 n v () = some (said Esc.ret (gc a0 n v)) := by
  unfold ref_GatesCheck_b10 ref_GatesCheck_g7 gc
  rw [within_eq, inside1, inside1, inside1]
  simp only [bne]
  generalize decide (1 ≤ v.1 ∧ v.1 ≤ 4) = c1
  generalize decide (0 ≤ v.2.1 ∧ v.2.1 < a0) = c2
  generalize decide (0 ≤ v.2.1 ∧ v.2.1 < (n : Int)) = c3
  generalize decide (0 ≤ v.2.2 ∧ v.2.2 < (n : Int)) = c4
  generalize (v.1 == 1) = c5
  generalize decide (v.1 ≥ 3) = c6
  cases c1 <;> cases c2 <;> cases c3 <;> cases c4 <;> cases c5 <;> cases c6 <;> rfl
theorem gc_pos {a0 : Int} {n : Nat} {v : Int × Int × Int} {e : Int} (h : gc a0 n v = some e) : e ≠ 0 := by
  unfold gc at h
  revert h
  generalize (!decide (1 ≤ v.1 ∧ v.1 ≤ 4)) = c1
  generalize ((v.1 == 1) && !decide (0 ≤ v.2.1 ∧ v.2.1 < a0)) = c2
  generalize ((!(v.1 == 1) && !decide (0 ≤ v.2.1 ∧ v.2.1 < (n : Int))) || (decide (v.1 ≥ 3) && !decide (0 ≤ v.2.2 ∧ v.2.2 < (n : Int)))) = c3
  cases c1 <;> cases c2 <;> cases c3 <;> simp <;> rintro rfl <;> decide
theorem gc_ref (a0 : Int) (l : List (Int × Int × Int)) : ref_GatesCheck a0 l = some ((firstOf (gc a0) 0 l).getD 0) := by
  unfold ref_GatesCheck
  rw [forL_findI (f := gc a0) (g := Esc.ret) (fun n a _ => gc_body a0 n a)]
  cases firstOf (gc a0) 0 l <;> rfl
def GatesOk (a0 : Int) (l : List (Int × Int × Int)) : Prop :=
  ∀ (j : Nat) (g : Int × Int × Int), l[j]? = some g → (1 ≤ g.1 ∧ g.1 ≤ 4) ∧ (g.1 = 1 → 0 ≤ g.2.1 ∧ g.2.1 < a0) ∧ (g.1 ≠ 1 → 0 ≤ g.2.1 ∧ g.2.1 < j) ∧ (3 ≤ g.1 → 0 ≤ g.2.2 ∧ g.2.2 < j)
theorem gc_ok {a0 : Int} {l : List (Int × Int × Int)} (h : (firstOf (gc a0) 0 l).getD 0 = 0) : GatesOk a0 l := by
  intro j g hg
  cases hf : firstOf (gc a0) 0 l with
  | some e =>
    rw [hf] at h
    obtain ⟨k, v, _, hv⟩ := firstOf_some hf
    exact (gc_pos hv h).elim
  | none =>
    obtain ⟨h1, h2⟩ := bif_none (firstOf_none hf hg)
    obtain ⟨h2, h3⟩ := bif_none h2
    obtain ⟨h3, _⟩ := bif_none h3
    simp only [Bool.not_eq_false', Bool.and_eq_false_iff, Bool.or_eq_false_iff, decide_eq_true_eq, decide_eq_false_iff_not, beq_eq_false_iff_ne, beq_iff_eq, ne_eq] at h1 h2 h3
    refine ⟨by omega, by omega, by omega, by omega⟩
theorem gc_of {a0 : Int} {l : List (Int × Int × Int)} (h : GatesOk a0 l) : ref_GatesCheck a0 l = some 0 := by
  rw [gc_ref]
  cases hf : firstOf (gc a0) 0 l with
  | none => rfl
  | some e =>
    obtain ⟨k, v, hk, hv⟩ := firstOf_some hf
    obtain ⟨h1, h2, h3, h4⟩ := h k v hk
    have c1 : (!decide (1 ≤ v.1 ∧ v.1 ≤ 4)) = false := by rw [decide_eq_true h1]; rfl
    have c2 : ((v.1 == 1) && !decide (0 ≤ v.2.1 ∧ v.2.1 < a0)) = false := by
      simp only [Bool.not_eq_false', Bool.and_eq_false_iff, decide_eq_true_eq, beq_eq_false_iff_ne, ne_eq]; omega
    have c3 : ((!(v.1 == 1) && !decide (0 ≤ v.2.1 ∧ v.2.1 < (k : Int))) || (decide (v.1 ≥ 3) && !decide (0 ≤ v.2.2 ∧ v.2.2 < (k : Int)))) = false := by
      simp only [Bool.not_eq_false', Bool.and_eq_false_iff, Bool.or_eq_false_iff, decide_eq_true_eq, decide_eq_false_iff_not, beq_iff_eq]; omega
    unfold gc at hv
    rw [c1, c2, c3] at hv
    cases hv

theorem bit_eq {w i : Nat} (hw : w < 2 ^ 63) (hi : i < 63) : ref_Bit (w : Int) (i : Int) = some (w.testBit i) := by
  unfold ref_Bit
  have c : (decide ((i : Int) ≥ 0) && decide ((i : Int) < 63)) = true := by simp; omega
  have e : IntKind.wrap .u64 (i : Int) = (i : Int) := wrap_u64 (by omega) (by omega)
  rw [c, e, ck_ok (by omega)]
  simp only [cond_true, Option.bind_some, bit_mask hw hi]

/-- one gate, by the inputs and what those ahead of it are -/
def gval (env : Nat → Bool) (v : List Bool) (g : Int × Int × Int) : Bool :=
  if g.1 = 1 then env g.2.1.toNat else if g.1 = 2 then !(v.getD g.2.1.toNat false)
  else if g.1 = 3 then v.getD g.2.1.toNat false && v.getD g.2.2.toNat false else v.getD g.2.1.toNat false || v.getD g.2.2.toNat false
def gall (env : Nat → Bool) : List (Int × Int × Int) → List Bool := fun l => l.foldl (fun v g => v ++ [gval env v g]) []
theorem gall_snoc (env : Nat → Bool) (l : List (Int × Int × Int)) (g : Int × Int × Int) : gall env (l ++ [g]) = gall env l ++ [gval env (gall env l) g] := by
  unfold gall
  rw [List.foldl_append]; rfl
theorem gall_len (env : Nat → Bool) (l : List (Int × Int × Int)) : (gall env l).length = l.length := by
  induction l using snoc_ind with
  | h0 => rfl
  | h1 l g ih => rw [gall_snoc]; simp [ih]
theorem gall_take (env : Nat → Bool) (l : List (Int × Int × Int)) : ∀ n, (gall env l).take n = gall env (l.take n) := by
  induction l using snoc_ind with
  | h0 => intro n; simp [gall]
  | h1 l g ih =>
    intro n
    rw [gall_snoc]
    rcases Nat.lt_or_ge l.length n with h | h
    · rw [List.take_of_length_le (by simp [gall_len]; omega), List.take_of_length_le (by simp; omega), gall_snoc]
    · rw [List.take_append_of_le_length (by rw [gall_len]; exact h), List.take_append_of_le_length h]
      exact ih n
theorem gall_get (env : Nat → Bool) {l : List (Int × Int × Int)} {n : Nat} {g : Int × Int × Int} (h : l[n]? = some g) : (gall env l)[n]? = some (gval env ((gall env l).take n) g) := by
  have hn := (List.getElem?_eq_some_iff.1 h).1
  have e1 : l.take (n + 1) = l.take n ++ [g] := by
    rw [List.take_add_one, h]; rfl
  have e2 : (gall env l)[n]? = ((gall env l).take (n + 1))[n]? := by rw [List.getElem?_take_of_lt (by omega)]
  rw [e2, gall_take, e1, gall_snoc, List.getElem?_append_right (by rw [gall_len]; simp; omega), gall_len]
  have : n - (l.take n).length = 0 := by simp; omega
  rw [this, gall_take]; rfl
theorem getD_take {v : List Bool} {n k : Nat} (h : k < n) : (v.take n).getD k false = v.getD k false := by
  rw [List.getD_eq_getElem?_getD, List.getD_eq_getElem?_getD, List.getElem?_take_of_lt h]
theorem gval_take {a0 : Int} {l : List (Int × Int × Int)} (hok : GatesOk a0 l) (env : Nat → Bool) (v : List Bool) {n : Nat} {g : Int × Int × Int} (h : l[n]? = some g) : gval env (v.take n) g = gval env v g := by
  obtain ⟨h1, h2, h3, h4⟩ := hok n g h
  unfold gval
  split
  · rfl
  · rename_i k1
    have e1 : (v.take n).getD g.2.1.toNat false = v.getD g.2.1.toNat false := getD_take (by have := h3 k1; omega)
    split
    · rw [e1]
    · rename_i k2
      have e2 : (v.take n).getD g.2.2.toNat false = v.getD g.2.2.toNat false := getD_take (by have := h4 (by omega); omega)
      split
      · rw [e1, e2]
      · rw [e1, e2]
theorem gall_get' {a0 : Int} {l : List (Int × Int × Int)} (hok : GatesOk a0 l) (env : Nat → Bool) {n : Nat} {g : Int × Int × Int} (h : l[n]? = some g) : (gall env l)[n]? = some (gval env (gall env l) g) := by
  rw [gall_get env h, gval_take hok env _ h]
theorem getD_idx {x : List Bool} {i : Int} (h0 : 0 ≤ i) (h : i < (x.length : Int)) : idx x i = some (x.getD i.toNat false) := by
  obtain ⟨b, hb, hb2⟩ := idx_get h0 h
  rw [hb, List.getD_eq_getElem?_getD, hb2]; rfl
/-- what the document's circuit values are -/
theorem gates_ref {a0 : Int} {l : List (Int × Int × Int)} (hok : GatesOk a0 l) (ha : a0 ≤ 63) (hl : l.length ≤ 4294967296) (w : Nat) (hw : w < 2 ^ 63) : ref_Gates l (w : Int) = some (gall w.testBit l) := by
  unfold ref_Gates
  rw [ck_ok (by omega)]
  have hG := gall_len w.testBit l
  obtain ⟨y, hy, rfl⟩ := forL_inv (body := ref_Gates_b7 (w : Int)) (fin := fun x => x) (l := l) (x := List.replicate (Int.toNat (l.length : Int)) false)
    (fun n x => x.length = l.length ∧ ∀ j, j < n → x[j]? = (gall w.testBit l)[j]?) (fun y => y = gall w.testBit l) ⟨by simp, fun j hj => by omega⟩
    (by
      rintro n g x hg ⟨hx, hv⟩
      have hn := (List.getElem?_eq_some_iff.1 hg).1
      obtain ⟨h1, h2, h3, h4⟩ := hok n g hg
      obtain ⟨old, ho, _⟩ := idx_get (xs := x) (i := (n : Int)) (by omega) (by omega)
      have same : ∀ k, k < n → x.getD k false = (gall w.testBit l).getD k false := by
        intro k hk
        rw [List.getD_eq_getElem?_getD, List.getD_eq_getElem?_getD, hv k hk]
      have step : ref_Gates_b7 (w : Int) (n : Int) g x = some (.next (x.set n (gval w.testBit (gall w.testBit l) g))) := by
        unfold ref_Gates_b7 ref_Gates_g5 gval
        by_cases k1 : g.1 = 1
        · obtain ⟨i, hi⟩ := Int.eq_ofNat_of_zero_le (h2 k1).1
          have := (h2 k1).2
          simp [k1, hi, bit_eq hw (show i < 63 by omega), ho]
        · have b1 : (g.1 == 1) = false := by simp [k1]
          have a1 := h3 k1
          have e1 : idx x g.2.1 = some ((gall w.testBit l).getD g.2.1.toNat false) := by
            rw [getD_idx a1.1 (by omega), same _ (by omega)]
          rw [b1, if_neg k1]
          by_cases k2 : g.1 = 2
          · simp [k2, e1, ho]
          · have b2 : (g.1 == 2) = false := by simp [k2]
            have a2 := h4 (by omega)
            have e2 : idx x g.2.2 = some ((gall w.testBit l).getD g.2.2.toNat false) := by
              rw [getD_idx a2.1 (by omega), same _ (by omega)]
            rw [b2, if_neg k2]
            rw [e1, e2, ho]
            generalize (gall w.testBit l).getD g.2.1.toNat false = p
            generalize (gall w.testBit l).getD g.2.2.toNat false = q
            by_cases k3 : g.1 = 3
            · cases p <;> cases q <;> simp [k3]
            · have k4 : g.1 = 4 := by omega
              cases p <;> cases q <;> simp [k4]
      refine ⟨_, step, by simpa using hx, ?_⟩
      intro j hj
      rcases Nat.lt_or_ge j n with hjn | hjn
      · rw [List.getElem?_set_ne (by omega)]; exact hv j hjn
      · have : j = n := by omega
        subst this
        rw [List.getElem?_set_self (by omega), gall_get' hok _ hg])
    (by
      rintro x ⟨hx, hv⟩
      apply List.ext_getElem?
      intro j
      rcases Nat.lt_or_ge j l.length with h | h
      · exact hv j h
      · rw [List.getElem?_eq_none (by omega), List.getElem?_eq_none (by omega)])
  rw [hy]; rfl

theorem mget_mput {α β : Type} {eq : α → α → Bool} [DecidableEq α] (heq : ∀ a b, eq a b = true ↔ a = b) : ∀ (l : List (α × β)) (x : α) (y : β) (z : α), mGet eq (mPut eq l x y) z = if z = x then some y else mGet eq l z
  | [], x, y, z => by
    by_cases h : z = x
    · simp [mPut, mGet, h, (heq x x).2 rfl]
    · have : eq z x = false := by cases hh : eq z x with | false => rfl | true => exact (h ((heq _ _).1 hh)).elim
      simp [mPut, mGet, h, this]
  | p :: l, x, y, z => by
    have hf : ∀ {a b}, a ≠ b → eq a b = false := by
      intro a b h
      cases hh : eq a b with | false => rfl | true => exact (h ((heq _ _).1 hh)).elim
    by_cases hp : x = p.1
    · have e1 : eq x p.1 = true := (heq _ _).2 hp
      by_cases h : z = x
      · simp [mPut, mGet, e1, h, (heq x x).2 rfl]
      · simp [mPut, mGet, e1, h, hf h, hf (fun e => h (e.trans hp.symm))]
    · have e1 : eq x p.1 = false := hf hp
      by_cases hz : z = p.1
      · have e2 : eq z p.1 = true := (heq _ _).2 hz
        have hzx : z ≠ x := fun e => hp (e ▸ hz)
        simp [mPut, mGet, e1, e2, hzx]
      · simp only [mPut, e1, Bool.false_eq_true, if_false, mGet, hf hz]
        exact mget_mput heq l x y z
theorem deqI {k : IntKind} (a b : Int) : deqT (.int k) a b = true ↔ a = b := by simp [deqT]

abbrev Gt : Type := Int × Int × Int
abbrev GMap : Type := Option (List (Gt × Int))
theorem deqG (a b : Gt) : deqT (.pair tI (.pair tI tI)) a b = true ↔ a = b := by
  obtain ⟨a1, a2, a3⟩ := a
  obtain ⟨b1, b2, b3⟩ := b
  simp [deqT, tI]
/-- the map holds each gate's place -/
def MOk (L : List Gt) (m : GMap) : Prop :=
  ∀ (g : Gt) (y : Int), mGet (deqT (.pair tI (.pair tI tI))) (m.getD []) g = some y ↔ ∃ i : Nat, y = i ∧ L[i]? = some g
theorem mok_nil : MOk [] none := by
  intro g y; constructor
  · intro h; simp [mGet] at h
  · rintro ⟨i, _, h⟩; simp at h
theorem mok_put {L : List Gt} {m : GMap} (h : MOk L m) (hl : L.length < 4294967295) (a b c : Int) :
    ∃ (i : Nat) (L' : List Gt) (m' : GMap), gate_Maker_Put_i2 a b c L m = some ((i : Int), L', m') ∧ MOk L' m' ∧ L'[i]? = some (a, b, c) ∧
      ((L' = L ∧ (a, b, c) ∈ L) ∨ (L' = L ++ [(a, b, c)] ∧ (a, b, c) ∉ L)) := by
  obtain ⟨m2, hm2⟩ : ∃ m2 : List (Gt × Int), m2 = m.getD [] := ⟨_, rfl⟩
  have e1 : (bif Option.isNone m then (some (some [] : Option (List ((Int × (Int × Int)) × Int)))) else (some m)) = some (some m2) := by
    cases m with
    | none => subst hm2; rfl
    | some x => subst hm2; rfl
  have h2 : MOk L (some m2) := by
    subst hm2; exact h
  unfold gate_Maker_Put_i2 gate_Maker_Put_i2_g1
  rw [e1]
  rw [Option.bind_some]
  rw [show Option.getD (some m2) ([] : List (Gt × Int)) = m2 from rfl]
  cases hg : mGet (deqT (.pair tI (.pair tI tI))) m2 (a, b, c) with
  | some y =>
    obtain ⟨i, hi, hL⟩ := (h2 _ _).1 hg
    refine ⟨i, L, some m2, ?_, h2, hL, Or.inl ⟨rfl, List.mem_of_getElem? hL⟩⟩
    subst hi; rfl
  | none =>
    have hno : (a, b, c) ∉ L := by
      intro hm
      obtain ⟨i, hi⟩ := List.getElem?_of_mem hm
      have := (h2 (a, b, c) i).2 ⟨i, rfl, hi⟩
      rw [show Option.getD (some m2) ([] : List (Gt × Int)) = m2 from rfl, hg] at this
      cases this
    refine ⟨L.length, L ++ [(a, b, c)], some (mPut (deqT (.pair tI (.pair tI tI))) m2 (a, b, c) (L.length : Int)), ?_, ?_, by simp, Or.inr ⟨rfl, hno⟩⟩
    · have c1 : ck ((L.length : Int) + 1 ≤ 4294967296) = some () := ck_ok (by omega)
      have c2 : ck (Option.isSome (some m2) = true) = some () := ck_ok rfl
      rw [bif_t (show (!(Option.isSome (none : Option Int))) = true from rfl), c1, bind_some', c2, bind_some']; rfl
    · intro g y
      rw [show Option.getD (some (mPut (deqT (.pair tI (.pair tI tI))) m2 (a, b, c) (L.length : Int))) ([] : List (Gt × Int)) = mPut (deqT (.pair tI (.pair tI tI))) m2 (a, b, c) (L.length : Int) from rfl,
        mget_mput deqG]
      by_cases hgx : g = (a, b, c)
      · rw [if_pos hgx]
        constructor
        · intro hy; injection hy with hy
          exact ⟨L.length, hy.symm, by rw [hgx]; simp⟩
        · rintro ⟨i, rfl, hi⟩
          rcases Nat.lt_or_ge i L.length with h3 | h3
          · rw [List.getElem?_append_left h3] at hi
            exact (hno (hgx ▸ List.mem_of_getElem? hi)).elim
          · have := (List.getElem?_eq_some_iff.1 hi).1
            simp at this
            rw [show i = L.length by omega]
      · rw [if_neg hgx]
        have := h2 g y
        rw [show Option.getD (some m2) ([] : List (Gt × Int)) = m2 from rfl] at this
        rw [this]
        constructor
        · rintro ⟨i, rfl, hi⟩
          exact ⟨i, rfl, by rw [List.getElem?_append_left (List.getElem?_eq_some_iff.1 hi).1]; exact hi⟩
        · rintro ⟨i, rfl, hi⟩
          refine ⟨i, rfl, ?_⟩
          rcases Nat.lt_or_ge i L.length with h3 | h3
          · rw [List.getElem?_append_left h3] at hi; exact hi
          · rw [List.getElem?_append_right h3] at hi
            have := (List.getElem?_eq_some_iff.1 hi).1
            simp at this
            rw [show i - L.length = 0 by omega] at hi
            simp at hi
            exact (hgx (by rw [← hi])).elim
/-- may g stand at place j behind L -/
def GOk (a0 : Int) (j : Nat) (g : Gt) : Prop := (1 ≤ g.1 ∧ g.1 ≤ 4) ∧ (g.1 = 1 → 0 ≤ g.2.1 ∧ g.2.1 < a0) ∧ (g.1 ≠ 1 → 0 ≤ g.2.1 ∧ g.2.1 < j) ∧ (3 ≤ g.1 → 0 ≤ g.2.2 ∧ g.2.2 < j)
theorem gok_snoc {a0 : Int} {L : List Gt} (h : GatesOk a0 L) {g : Gt} (hg : GOk a0 L.length g) : GatesOk a0 (L ++ [g]) := by
  intro j g' hj
  rcases Nat.lt_or_ge j L.length with h3 | h3
  · rw [List.getElem?_append_left h3] at hj; exact h j g' hj
  · rw [List.getElem?_append_right h3] at hj
    have := (List.getElem?_eq_some_iff.1 hj).1
    simp at this
    rw [show j - L.length = 0 by omega] at hj
    simp at hj
    subst hj
    rw [show j = L.length by omega]; exact hg
/-- a circuit under way: the gates are in order, the map is right -/
structure MkrOk (a0 : Int) (L : List Gt) (m : GMap) : Prop where
  ok : GatesOk a0 L
  mp : MOk L m
theorem gval_ext (env : Nat → Bool) {v w : List Bool} {g : Gt} (h1 : g.1 ≠ 1 → v.getD g.2.1.toNat false = w.getD g.2.1.toNat false) (h2 : g.1 ≠ 1 → g.1 ≠ 2 → v.getD g.2.2.toNat false = w.getD g.2.2.toNat false) : gval env v g = gval env w g := by
  unfold gval
  by_cases k1 : g.1 = 1
  · rw [if_pos k1, if_pos k1]
  · rw [if_neg k1, if_neg k1, h1 k1]
    by_cases k2 : g.1 = 2
    · rw [if_pos k2, if_pos k2]
    · rw [if_neg k2, if_neg k2, h2 k1 k2]
theorem gall_pre (env : Nat → Bool) {L L' : List Gt} (h : L <+: L') {p : Nat} (hp : p < L.length) : (gall env L').getD p false = (gall env L).getD p false := by
  obtain ⟨t, rfl⟩ := h
  have : gall env L = (gall env (L ++ t)).take L.length := by rw [gall_take]; simp
  rw [this, getD_take hp]
/-- a gate put: its value, by the values of what it names -/
theorem mk_put {a0 : Int} {L : List Gt} {m : GMap} (h : MkrOk a0 L m) (hl : L.length < 4294967295) (a b c : Int) (hg : GOk a0 L.length (a, b, c)) :
    ∃ (i : Nat) (L' : List Gt) (m' : GMap), gate_Maker_Put_i2 a b c L m = some ((i : Int), L', m') ∧ MkrOk a0 L' m' ∧ L <+: L' ∧ L'.length ≤ L.length + 1 ∧ i < L'.length ∧ L'[i]? = some (a, b, c) ∧
      ((L' = L ∧ (a, b, c) ∈ L) ∨ (L' = L ++ [(a, b, c)] ∧ (a, b, c) ∉ L)) ∧
      ∀ env, (gall env L').getD i false = gval env (gall env L) (a, b, c) := by
  obtain ⟨i, L', m', h1, h2, h3, h4⟩ := mok_put h.mp hl a b c
  have hi := (List.getElem?_eq_some_iff.1 h3).1
  have hpre : L <+: L' := by
    rcases h4 with ⟨rfl, _⟩ | ⟨rfl, _⟩
    · exact List.prefix_rfl
    · exact List.prefix_append _ _
  have hok : GatesOk a0 L' := by
    rcases h4 with ⟨rfl, _⟩ | ⟨rfl, _⟩
    · exact h.ok
    · exact gok_snoc h.ok hg
  refine ⟨i, L', m', h1, ⟨hok, h2⟩, hpre, ?_, hi, h3, h4, ?_⟩
  · rcases h4 with ⟨rfl, _⟩ | ⟨rfl, _⟩ <;> simp
  · intro env
    rw [List.getD_eq_getElem?_getD, gall_get' hok env h3]
    refine gval_ext env ?_ ?_
    · intro k1; exact gall_pre env hpre (by have := hg.2.2.1 k1; omega)
    · intro k1 k2; exact gall_pre env hpre (by have h5 := hg.1; have := hg.2.2.2 (by omega); omega)

theorem gval_at1 (env : Nat → Bool) (v : List Bool) {a b c : Int} (h : a = 1) : gval env v (a, b, c) = env b.toNat := by subst h; rfl
theorem gval_at2 (env : Nat → Bool) (v : List Bool) {a b c : Int} (h : a = 2) : gval env v (a, b, c) = !(v.getD b.toNat false) := by subst h; rfl
theorem gval_at3 (env : Nat → Bool) (v : List Bool) {a b c : Int} (h : a = 3) : gval env v (a, b, c) = (v.getD b.toNat false && v.getD c.toNat false) := by subst h; rfl
theorem gval_at4 (env : Nat → Bool) (v : List Bool) {a b c : Int} (h : a = 4) : gval env v (a, b, c) = (v.getD b.toNat false || v.getD c.toNat false) := by subst h; rfl
theorem pre_get {L L' : List Gt} (h : L <+: L') {j : Nat} {g : Gt} (hj : L[j]? = some g) : L'[j]? = some g := by
  obtain ⟨t, rfl⟩ := h
  rw [List.getElem?_append_left (List.getElem?_eq_some_iff.1 hj).1]; exact hj
theorem mok_one {L : List Gt} {m : GMap} (h : MOk L m) {i j : Nat} {g : Gt} (hi : L[i]? = some g) (hj : L[j]? = some g) : i = j := by
  have h1 := (h g i).2 ⟨i, rfl, hi⟩
  have h2 := (h g j).2 ⟨j, rfl, hj⟩
  rw [h1] at h2
  injection h2 with h2
  omega
/-- which of the shared gates a circuit has -/
def flag (n : Nat) (L : List Gt) (t : Nat) : Prop :=
  if t < n then ((1, (t : Int), 0) : Gt) ∈ L
  else if t < 2 * n then ∃ j : Nat, L[j]? = some (1, ((t - n : Nat) : Int), 0) ∧ ((2, (j : Int), 0) : Gt) ∈ L
  else ∃ j k : Nat, L[j]? = some (1, 0, 0) ∧ L[k]? = some (2, (j : Int), 0) ∧ (((if t = 2 * n then 3 else 4 : Int), (j : Int), (k : Int)) : Gt) ∈ L
theorem flag_mono {n : Nat} {L L' : List Gt} (h : L <+: L') {t : Nat} (hf : flag n L t) : flag n L' t := by
  unfold flag at hf ⊢
  split
  · rename_i h1
    rw [if_pos h1] at hf
    exact h.subset hf
  · rename_i h1
    rw [if_neg h1] at hf
    split
    · rename_i h2
      rw [if_pos h2] at hf
      obtain ⟨j, hj, hj2⟩ := hf
      exact ⟨j, pre_get h hj, h.subset hj2⟩
    · rename_i h2
      rw [if_neg h2] at hf
      obtain ⟨j, k, hj, hk, hj2⟩ := hf
      exact ⟨j, k, pre_get h hj, pre_get h hk, h.subset hj2⟩
open Classical in
noncomputable def fcnt (n : Nat) (L : List Gt) : Nat := (List.range (2 * n + 2)).countP (fun t => decide (flag n L t))
theorem countP_lt {α : Type} {p q : α → Bool} : ∀ {l : List α}, (∀ x ∈ l, p x = true → q x = true) → ∀ {t}, t ∈ l → p t = false → q t = true → l.countP p + 1 ≤ l.countP q
  | [], _, t, ht, _, _ => by simp at ht
  | a :: l, h, t, ht, hp, hq => by
    have hm : l.countP p ≤ l.countP q := List.countP_mono_left (fun x hx => h x (List.mem_cons_of_mem _ hx))
    rw [List.countP_cons, List.countP_cons]
    rcases List.mem_cons.1 ht with rfl | ht
    · simp [hp, hq]; exact hm
    · have := countP_lt (l := l) (fun x hx => h x (List.mem_cons_of_mem _ hx)) ht hp hq
      have h0 : (if p a = true then 1 else 0) ≤ (if q a = true then 1 else 0) := by
        by_cases hpa : p a = true
        · simp [hpa, h a List.mem_cons_self hpa]
        · simp [hpa]
      omega
theorem fcnt_le (n : Nat) (L : List Gt) : fcnt n L ≤ 2 * n + 2 := by
  unfold fcnt
  exact Nat.le_trans List.countP_le_length (by simp)
theorem fcnt_mono {n : Nat} {L L' : List Gt} (h : L <+: L') : fcnt n L ≤ fcnt n L' := by
  unfold fcnt
  exact List.countP_mono_left (fun x _ hx => by simp at hx ⊢; exact flag_mono h hx)
theorem fcnt_lt {n : Nat} {L L' : List Gt} (h : L <+: L') {t : Nat} (ht : t < 2 * n + 2) (h1 : ¬ flag n L t) (h2 : flag n L' t) : fcnt n L + 1 ≤ fcnt n L' := by
  unfold fcnt
  exact countP_lt (fun x _ hx => by simp at hx ⊢; exact flag_mono h hx) (List.mem_range.2 ht) (by simp [h1]) (by simp [h2])
/-- what a part of the circuit grows by -/
structure Grown (n : Nat) (L L' : List Gt) (m' : GMap) (i grow own : Nat) : Prop where
  mkr : MkrOk (n : Int) L' m'
  pre : L <+: L'
  len : L'.length ≤ L.length + grow
  cnt : L'.length + fcnt n L ≤ L.length + fcnt n L' + own
  lt : i < L'.length
theorem Grown.trans {n : Nat} {L L1 L2 : List Gt} {m1 m2 : GMap} {i j a b c d : Nat} (h1 : Grown n L L1 m1 i a b) (h2 : Grown n L1 L2 m2 j c d) : Grown n L L2 m2 j (a + c) (b + d) :=
  ⟨h2.mkr, h1.pre.trans h2.pre, by have := h1.len; have := h2.len; omega, by have := h1.cnt; have := h2.cnt; omega, h2.lt⟩
theorem nput {n : Nat} {L : List Gt} {m : GMap} (h : MkrOk n L m) (hl : L.length < 4294967295) (a b c : Int) (hg : GOk n L.length (a, b, c)) :
    ∃ (i : Nat) (L' : List Gt) (m' : GMap), gate_Maker_Put_i2 a b c L m = some ((i : Int), L', m') ∧ Grown n L L' m' i 1 1 ∧ L'[i]? = some (a, b, c) ∧ ∀ env, (gall env L').getD i false = gval env (gall env L) (a, b, c) := by
  obtain ⟨i, L', m', h1, h2, h3, h4, h5, h6, h7, h8⟩ := mk_put h hl a b c hg
  have := fcnt_mono (n := n) h3
  exact ⟨i, L', m', h1, ⟨h2, h3, h4, by omega, h5⟩, h6, h8⟩
theorem sput {n : Nat} {L : List Gt} {m : GMap} (h : MkrOk n L m) (hl : L.length < 4294967295) (a b c : Int) (hg : GOk n L.length (a, b, c)) (t : Nat) (ht : t < 2 * n + 2) (f1 : flag n L t → (a, b, c) ∈ L)
    (f2 : ∀ L' : List Gt, L <+: L' → (a, b, c) ∈ L' → flag n L' t) :
    ∃ (i : Nat) (L' : List Gt) (m' : GMap), gate_Maker_Put_i2 a b c L m = some ((i : Int), L', m') ∧ Grown n L L' m' i 1 0 ∧ L'[i]? = some (a, b, c) ∧ ∀ env, (gall env L').getD i false = gval env (gall env L) (a, b, c) := by
  obtain ⟨i, L', m', h1, h2, h3, h4, h5, h6, h7, h8⟩ := mk_put h hl a b c hg
  refine ⟨i, L', m', h1, ⟨h2, h3, h4, ?_, h5⟩, h6, h8⟩
  rcases h7 with ⟨rfl, _⟩ | ⟨rfl, hno⟩
  · omega
  · have := fcnt_lt h3 ht (fun hf => hno (f1 hf)) (f2 _ h3 (by simp))
    simp; omega
/-- an input, and what it is not -/
theorem put_in {n : Nat} {L : List Gt} {m : GMap} (h : MkrOk n L m) (hl : L.length < 4294967295) {x : Nat} (hx : x < n) :
    ∃ (i : Nat) (L' : List Gt) (m' : GMap), gate_Maker_Put_i2 1 (x : Int) 0 L m = some ((i : Int), L', m') ∧ Grown n L L' m' i 1 0 ∧ L'[i]? = some (1, (x : Int), 0) ∧ ∀ env, (gall env L').getD i false = env x := by
  obtain ⟨i, L', m', h1, h2, h3, h4⟩ := sput h hl 1 (x : Int) 0 ⟨by simp, fun _ => by simp; omega, by simp, by simp⟩ x (by omega)
    (fun hf => by unfold flag at hf; rw [if_pos hx] at hf; exact hf) (fun L' _ hm => by unfold flag; rw [if_pos hx]; exact hm)
  exact ⟨i, L', m', h1, h2, h3, fun env => by rw [h4, gval_at1 env _ rfl]; rfl⟩
theorem put_not {n : Nat} {L : List Gt} {m : GMap} (h : MkrOk n L m) (hl : L.length < 4294967295) {x p : Nat} (hx : x < n) (hp : L[p]? = some (1, (x : Int), 0)) :
    ∃ (i : Nat) (L' : List Gt) (m' : GMap), gate_Maker_Put_i2 2 (p : Int) 0 L m = some ((i : Int), L', m') ∧ Grown n L L' m' i 1 0 ∧ L'[i]? = some (2, (p : Int), 0) ∧ ∀ env, (gall env L').getD i false = !(gall env L).getD p false := by
  have hpl := (List.getElem?_eq_some_iff.1 hp).1
  obtain ⟨i, L', m', h1, h2, h3, h4⟩ := sput h hl 2 (p : Int) 0 ⟨by simp, by simp, fun _ => by simp; omega, by simp⟩ (n + x) (by omega)
    (fun hf => by
      unfold flag at hf
      rw [if_neg (by omega), if_pos (by omega), show n + x - n = x by omega] at hf
      obtain ⟨j, hj, hj2⟩ := hf
      rw [mok_one h.mp hp hj]; exact hj2)
    (fun L' hpre hm => by
      unfold flag
      rw [if_neg (by omega), if_pos (by omega), show n + x - n = x by omega]
      exact ⟨p, pre_get hpre hp, hm⟩)
  exact ⟨i, L', m', h1, h2, h3, fun env => by rw [h4, gval_at2 env _ rfl]; rfl⟩
theorem put_const {n : Nat} (hn : 1 ≤ n) {L : List Gt} {m : GMap} (h : MkrOk n L m) (hl : L.length < 4294967200) (v : Bool) :
    ∃ (i : Nat) (L' : List Gt) (m' : GMap), gate_Maker_constant_i2 v L m = some ((i : Int), L', m') ∧ Grown n L L' m' i 3 0 ∧ ∀ env, (gall env L').getD i false = v := by
  obtain ⟨p, L1, m1, e1, G1, g1, v1⟩ := put_in h (by omega) (show 0 < n by omega)
  have l1 := G1.len
  obtain ⟨q, L2, m2, e2, G2, g2, v2⟩ := put_not G1.mkr (by omega) (show 0 < n by omega) g1
  have l2 := G2.len
  have gp := pre_get G2.pre g1
  have hpl := (List.getElem?_eq_some_iff.1 gp).1
  have hql := (List.getElem?_eq_some_iff.1 g2).1
  obtain ⟨i, L3, m3, e3, G3, g3, v3⟩ := sput G2.mkr (by omega) (if v then 4 else 3) (p : Int) (q : Int) ⟨by cases v <;> simp, by cases v <;> simp, fun _ => by simp; omega, fun _ => by simp; omega⟩ (2 * n + (if v then 1 else 0)) (by cases v <;> simp)
    (fun hf => by
      unfold flag at hf
      rw [if_neg (by cases v <;> simp <;> omega), if_neg (by cases v <;> simp)] at hf
      obtain ⟨j, k, hj, hk, hj2⟩ := hf
      have ej := mok_one G2.mkr.mp gp hj
      subst ej
      have ek := mok_one G2.mkr.mp g2 hk
      subst ek
      cases v
      · simpa using hj2
      · simpa using hj2)
    (fun L' hpre hm => by
      unfold flag
      rw [if_neg (by cases v <;> simp <;> omega), if_neg (by cases v <;> simp)]
      refine ⟨p, q, pre_get hpre gp, pre_get hpre g2, ?_⟩
      cases v
      · simpa using hm
      · simpa using hm)
  have G := (G1.trans G2).trans G3
  refine ⟨i, L3, m3, ?_, G, ?_⟩
  · unfold gate_Maker_constant_i2
    have e1' : gate_Maker_Put_i2 1 0 0 L m = some ((p : Int), L1, m1) := e1
    rw [e1', bind_some']; simp only []
    rw [e2, bind_some']; simp only []
    cases v
    · have e3' : gate_Maker_Put_i2 3 (p : Int) (q : Int) L2 m2 = some ((i : Int), L3, m3) := e3
      rw [cond_false, e3']; rfl
    · have e3' : gate_Maker_Put_i2 4 (p : Int) (q : Int) L2 m2 = some ((i : Int), L3, m3) := e3
      rw [cond_true, e3']; rfl
  · intro env
    rw [v3]
    have hv1 : (gall env L2).getD p false = env 0 := by rw [gall_pre env G2.pre G1.lt, v1]
    have hv2 : (gall env L2).getD q false = !env 0 := by rw [v2, v1]
    cases v
    · rw [gval_at3 env _ (show (if false = true then (4 : Int) else 3) = 3 from rfl), Int.toNat_natCast, Int.toNat_natCast, hv1, hv2]; simp
    · rw [gval_at4 env _ (show (if true = true then (4 : Int) else 3) = 4 from rfl), Int.toNat_natCast, Int.toNat_natCast, hv1, hv2]; simp
/-- a table read -/
def tval : Nat → List Bool → (Nat → Bool) → Bool
  | 0, f, _ => f.getD 0 false
  | k + 1, f, env => if env k then tval k (f.drop (2 ^ k)) env else tval k (f.take (2 ^ k)) env
theorem tval_mem : ∀ (k : Nat) (f : List Bool) (env : Nat → Bool), f.length = 2 ^ k → tval k f env ∈ f
  | 0, f, env, h => by
    match f, h with
    | [x], _ => simp [tval]
  | k + 1, f, env, h => by
    have hp : 2 ^ (k + 1) = 2 * 2 ^ k := by rw [Nat.pow_succ]; omega
    unfold tval
    split
    · exact List.mem_of_mem_drop (tval_mem k _ env (by rw [List.length_drop]; omega))
    · exact List.mem_of_mem_take (tval_mem k _ env (by rw [List.length_take]; omega))
theorem tval_at : ∀ (k : Nat) (f : List Bool) (w : Nat), f.length = 2 ^ k → tval k f w.testBit = f.getD (w % 2 ^ k) false
  | 0, f, w, h => by simp [tval, Nat.mod_one]
  | k + 1, f, w, h => by
    have hp : 2 ^ (k + 1) = 2 * 2 ^ k := by rw [Nat.pow_succ]; omega
    have hm : w % 2 ^ (k + 1) = w % 2 ^ k + 2 ^ k * (w / 2 ^ k % 2) := by rw [Nat.pow_succ, Nat.mod_mul]
    have hlt : w % 2 ^ k < 2 ^ k := Nat.mod_lt _ (Nat.two_pow_pos k)
    have hb : w.testBit k = decide (w / 2 ^ k % 2 = 1) := by rw [Nat.testBit_eq_decide_div_mod_eq]
    unfold tval
    rw [hb]
    by_cases h1 : w / 2 ^ k % 2 = 1
    · rw [decide_eq_true h1, if_pos rfl, tval_at k _ w (by rw [List.length_drop]; omega), hm, h1, List.getD_eq_getElem?_getD, List.getD_eq_getElem?_getD, List.getElem?_drop]
      congr 2; omega
    · rw [decide_eq_false h1, if_neg (by simp), tval_at k _ w (by rw [List.length_take]; omega), hm, show w / 2 ^ k % 2 = 0 by omega, List.getD_eq_getElem?_getD, List.getD_eq_getElem?_getD, List.getElem?_take_of_lt hlt]
      simp
theorem gb_has (l : List Bool) (x : Bool) : slices_Contains_Lboolbool l x = some (l.any (x == ·)) := by
  unfold slices_Contains_Lboolbool slices_Index_Lboolbool
  rcases forL_at (body := slices_Index_Lboolbool_b1 x) (fin := fun _ => (Esc.brk () : Esc Int Unit)) (p := (x == ·)) (g := fun j => Esc.ret j) (l := l)
    (fun i a _ => by unfold slices_Index_Lboolbool_b1; cases (x == a) <;> rfl) (i := 0) with ⟨h1, h2⟩ | ⟨h1, j, h2, h3, h4⟩
  · rw [h2, h1]; rfl
  · rw [h4, h1]; simp [h2]
theorem len_ne {α β : Type} (a : List α) (b : List β) : (((a.length : Int)) != (b.length : Int)) = !decide (a.length = b.length) := by
  by_cases h : a.length = b.length
  · simp [h]
  · have : ¬ ((a.length : Int) = (b.length : Int)) := by omega
    simp [h, this]
theorem gb_eqs (a b : List Bool) : slices_Equal_Lboolbool a b = some (decide (a = b)) := by
  unfold slices_Equal_Lboolbool
  rw [len_ne]
  by_cases h : a.length = b.length
  · rw [forL_eqs (q := b) (fun n x c hc => by
      unfold slices_Equal_Lboolbool_b1
      rw [idx_nat, hc, bind_some']
      by_cases hx : x = c
      · subst hx; simp
      · have : (x == c) = false := by simpa using hx
        simp [hx, this]) h]
    by_cases hab : a = b <;> simp [h, hab]
  · have : a ≠ b := fun e => h (by rw [e])
    simp [h, this]
theorem sub_lo {α : Type} (f : List α) (h : Nat) : sub f (0 : Int) (h : Int) = f.take h := by simp [sub]
theorem sub_hi {α : Type} (f : List α) (h : Nat) : sub f (h : Int) (f.length : Int) = f.drop h := by
  simp only [sub, Int.toNat_natCast]
  rw [List.take_of_length_le (by simp)]
/-- a table's circuit -/
theorem table_ok {n : Nat} (hn : n ≤ 5) : ∀ (k fuel : Nat), k < fuel → ∀ (f : List Bool) (L : List Gt) (m : GMap), f.length = 2 ^ (k + 1) → k + 1 ≤ n → MkrOk n L m → L.length + 9 * 2 ^ k ≤ 1000000 →
    ∃ (i : Nat) (L' : List Gt) (m' : GMap), gate_Maker_table_i2 fuel ((k + 1 : Nat) : Int) f L m = some ((i : Int), L', m') ∧ Grown n L L' m' i (9 * 2 ^ k - 5) (3 * 2 ^ k - 3) ∧ ∀ env, (gall env L').getD i false = tval (k + 1) f env := by
  intro k
  induction k with
  | zero =>
    intro fuel hf f L m hlen hk hmk hl
    obtain ⟨fuel, rfl⟩ : ∃ k, fuel = k + 1 := ⟨fuel - 1, by omega⟩
    match f, hlen with
    | [x, y], _ =>
      unfold gate_Maker_table_i2 gate_Maker_table_i2_step
      have e0 : idx [x, y] (0 : Int) = some x := rfl
      rw [e0, bind_some', gb_has, bind_some']
      by_cases hxy : y = x
      · subst hxy
        have : (!([y, y].any ((!y) == ·))) = true := by cases y <;> rfl
        rw [bif_t this]
        obtain ⟨i, L', m', h1, h2, h3⟩ := put_const (by omega) hmk (by omega) y
        refine ⟨i, L', m', ?_, ⟨h2.mkr, h2.pre, by have := h2.len; omega, by have := h2.cnt; omega, h2.lt⟩, ?_⟩
        · rw [h1]; rfl
        · intro env; rw [h3]; simp [tval]
      · have : (!([x, y].any ((!x) == ·))) = false := by revert hxy; cases x <;> cases y <;> simp
        rw [this, cond_false]
        have hw1 : w64 (Int.tdiv (List.length [x, y] : Int) (2 : Int)) = 1 := show w64 (Int.tdiv 2 2) = 1 by decide
        have hw2 : (List.length [x, y] : Int) = 2 := rfl
        rw [hw1]
        have c1 : ck (0 ≤ (0 : Int) ∧ (0 : Int) ≤ 1 ∧ 1 ≤ (List.length [x, y] : Int)) = some () := ck_ok (by simp)
        have c2 : ck (0 ≤ (1 : Int) ∧ 1 ≤ (List.length [x, y] : Int) ∧ (List.length [x, y] : Int) ≤ (List.length [x, y] : Int)) = some () := ck_ok (by simp)
        rw [c1, bind_some', c2, bind_some']
        rw [show sub [x, y] (0 : Int) 1 = [x] from rfl, show sub [x, y] 1 (List.length [x, y] : Int) = [y] from rfl]
        rw [gb_eqs, bind_some', show decide ([x] = [y]) = false by simp [Ne.symm hxy], cond_false]
        obtain ⟨i, L1, m1, h1, h2, h3, h4⟩ := put_in hmk (by omega) (show 0 < n by omega)
        have h1' : gate_Maker_Put_i2 (1 : Int) (w64 (((0 + 1 : Nat) : Int) - (1 : Int))) (0 : Int) L m = some ((i : Int), L1, m1) := by
          rw [show w64 (((0 + 1 : Nat) : Int) - (1 : Int)) = ((0 : Nat) : Int) by decide]; exact h1
        rw [h1', bind_some', show ((((0 + 1 : Nat) : Int)) == (1 : Int)) = true from rfl, cond_true, show idx [x] (0 : Int) = some x from rfl, bind_some']
        cases x
        · refine ⟨i, L1, m1, rfl, ⟨h2.mkr, h2.pre, by have := h2.len; omega, by have := h2.cnt; omega, h2.lt⟩, ?_⟩
          intro env
          have : y = true := by revert hxy; cases y <;> simp
          rw [h4, this]; cases hh : env 0 <;> simp [tval, hh]
        · have l2 := h2.len
          obtain ⟨j, L2, m2, k1, k2, k3, k4⟩ := put_not h2.mkr (by omega) (show 0 < n by omega) h3
          rw [cond_true]
          simp only []
          rw [k1]
          have G := h2.trans k2
          refine ⟨j, L2, m2, rfl, ⟨G.mkr, G.pre, by have := G.len; omega, by have := G.cnt; omega, G.lt⟩, ?_⟩
          intro env
          have : y = false := by revert hxy; cases y <;> simp
          rw [k4, h4, this]; cases hh : env 0 <;> simp [tval, hh]
  | succ k ih =>
    intro fuel hf f L m hlen hk hmk hl
    obtain ⟨fuel, rfl⟩ : ∃ k, fuel = k + 1 := ⟨fuel - 1, by omega⟩
    have hp1 : 2 ^ (k + 1) = 2 * 2 ^ k := by rw [Nat.pow_succ]; omega
    have hp2 : 2 ^ (k + 2) = 4 * 2 ^ k := by rw [Nat.pow_succ, Nat.pow_succ]; omega
    have hp0 := Nat.two_pow_pos k
    have hk4 : 2 ^ k ≤ 16 := by
      have : k ≤ 4 := by omega
      exact Nat.pow_le_pow_right (n := 2) (by decide) this
    have hlen2 : f.length = 4 * 2 ^ k := by rw [hlen, ← hp2]
    unfold gate_Maker_table_i2 gate_Maker_table_i2_step
    obtain ⟨x, e0, e0'⟩ := idx_get (xs := f) (i := 0) (by omega) (by omega)
    rw [e0, bind_some', gb_has, bind_some']
    have hhalf : w64 (Int.tdiv (List.length f : Int) (2 : Int)) = ((2 ^ (k + 1) : Nat) : Int) := by
      have : Int.tdiv (List.length f : Int) (2 : Int) = ((2 ^ (k + 1) : Nat) : Int) := by
        rw [Int.tdiv_eq_ediv_of_nonneg (by omega)]; omega
      rw [this, w64_id (by omega) (by omega)]
    rw [hhalf]
    have hlo : sub f (0 : Int) ((2 ^ (k + 1) : Nat) : Int) = f.take (2 ^ (k + 1)) := sub_lo f _
    have hhi : sub f ((2 ^ (k + 1) : Nat) : Int) (List.length f : Int) = f.drop (2 ^ (k + 1)) := sub_hi f _
    have lo_len : (f.take (2 ^ (k + 1))).length = 2 ^ (k + 1) := by rw [List.length_take]; omega
    have hi_len : (f.drop (2 ^ (k + 1))).length = 2 ^ (k + 1) := by rw [List.length_drop]; omega
    by_cases hc : f.any ((!x) == ·) = true
    · rw [hc, Bool.not_true, cond_false]
      have c1 : ck (0 ≤ (0 : Int) ∧ (0 : Int) ≤ ((2 ^ (k + 1) : Nat) : Int) ∧ ((2 ^ (k + 1) : Nat) : Int) ≤ (List.length f : Int)) = some () := ck_ok (by omega)
      have c2 : ck (0 ≤ ((2 ^ (k + 1) : Nat) : Int) ∧ ((2 ^ (k + 1) : Nat) : Int) ≤ (List.length f : Int) ∧ (List.length f : Int) ≤ (List.length f : Int)) = some () := ck_ok (by omega)
      rw [c1, bind_some', c2, bind_some', hlo, hhi, gb_eqs, bind_some']
      have hw : w64 (((k + 1 + 1 : Nat) : Int) - (1 : Int)) = ((k + 1 : Nat) : Int) := by rw [w64_id (by omega) (by omega)]; omega
      rw [hw]
      by_cases heq : f.take (2 ^ (k + 1)) = f.drop (2 ^ (k + 1))
      · rw [decide_eq_true heq, cond_true]
        obtain ⟨i, L', m', h1, h2, h3⟩ := ih fuel (by omega) (f.take (2 ^ (k + 1))) L m lo_len (by omega) hmk (by omega)
        refine ⟨i, L', m', by rw [h1]; rfl, ⟨h2.mkr, h2.pre, by have := h2.len; omega, by have := h2.cnt; omega, h2.lt⟩, ?_⟩
        intro env
        rw [h3]
        conv => rhs; unfold tval
        rw [← heq]; simp
      · rw [decide_eq_false heq, cond_false]
        obtain ⟨i1, L1, m1, a1, G1, g1, v1⟩ := put_in hmk (by omega) (show k + 1 < n by omega)
        have l1 := G1.len
        obtain ⟨i2, L2, m2, a2, G2, g2, v2⟩ := put_not G1.mkr (by omega) (show k + 1 < n by omega) g1
        have l2 := G2.len
        obtain ⟨i3, L3, m3, a3, G3, v3⟩ := ih fuel (by omega) (f.take (2 ^ (k + 1))) L2 m2 lo_len (by omega) G2.mkr (by omega)
        have l3 := G3.len
        obtain ⟨i4, L4, m4, a4, G4, v4⟩ := ih fuel (by omega) (f.drop (2 ^ (k + 1))) L3 m3 hi_len (by omega) G3.mkr (by omega)
        have l4 := G4.len
        have q1 := G1.lt
        have q2 := G2.lt
        have q3 := G3.lt
        have q4 := G4.lt
        have w2 := G2.pre.length_le
        have w3 := G3.pre.length_le
        have w4 := G4.pre.length_le
        obtain ⟨i5, L5, m5, a5, G5, g5, v5⟩ := nput G4.mkr (by omega) 3 (i2 : Int) (i3 : Int) ⟨by simp, by simp, fun _ => by simp; omega, fun _ => by simp; omega⟩
        have l5 := G5.len
        have q5 := G5.lt
        have w5 := G5.pre.length_le
        obtain ⟨i6, L6, m6, a6, G6, g6, v6⟩ := nput G5.mkr (by omega) 3 (i1 : Int) (i4 : Int) ⟨by simp, by simp, fun _ => by simp; omega, fun _ => by simp; omega⟩
        have l6 := G6.len
        have q6 := G6.lt
        have w6 := G6.pre.length_le
        obtain ⟨i7, L7, m7, a7, G7, g7, v7⟩ := nput G6.mkr (by omega) 4 (i5 : Int) (i6 : Int) ⟨by simp, by simp, fun _ => by simp; omega, fun _ => by simp; omega⟩
        have G := (((((G1.trans G2).trans G3).trans G4).trans G5).trans G6).trans G7
        have hb : ((((k + 1 + 1 : Nat) : Int)) == (1 : Int)) = false := by simp; omega
        rw [a1, bind_some', hb, cond_false]; simp only []
        rw [a2, bind_some']; simp only []
        rw [a3, bind_some']; simp only []
        rw [a4, bind_some']; simp only []
        rw [a5, bind_some']; simp only []
        rw [a6, bind_some']; simp only []
        rw [a7]
        refine ⟨i7, L7, m7, rfl, ⟨G.mkr, G.pre, by have := G.len; omega, by have := G.cnt; omega, G.lt⟩, ?_⟩
        intro env
        have u1 : ∀ env, (gall env L5).getD i1 false = env (k + 1) := fun env => by
          rw [gall_pre env (((G2.pre.trans G3.pre).trans G4.pre).trans G5.pre) q1, v1]
        have u2 : (gall env L4).getD i2 false = !env (k + 1) := by
          rw [gall_pre env (G3.pre.trans G4.pre) q2, v2, v1]
        have u3 : (gall env L4).getD i3 false = tval (k + 1) (f.take (2 ^ (k + 1))) env := by
          rw [gall_pre env G4.pre q3, v3]
        have u4 : (gall env L5).getD i4 false = tval (k + 1) (f.drop (2 ^ (k + 1))) env := by
          rw [gall_pre env G5.pre q4, v4]
        have u5 : (gall env L6).getD i5 false = (!env (k + 1) && tval (k + 1) (f.take (2 ^ (k + 1))) env) := by
          rw [gall_pre env G6.pre q5, v5, gval_at3 env _ rfl, Int.toNat_natCast, Int.toNat_natCast, u2, u3]
        have u6 : (gall env L6).getD i6 false = (env (k + 1) && tval (k + 1) (f.drop (2 ^ (k + 1))) env) := by
          rw [v6, gval_at3 env _ rfl, Int.toNat_natCast, Int.toNat_natCast, u1, u4]
        rw [v7, gval_at4 env _ rfl, Int.toNat_natCast, Int.toNat_natCast, u5, u6]
        conv => rhs; unfold tval
        cases env (k + 1) <;> simp
    · have hc' : f.any ((!x) == ·) = false := by simpa using hc
      rw [hc', Bool.not_false, cond_true]
      obtain ⟨i, L', m', h1, h2, h3⟩ := put_const (by omega) hmk (by omega) x
      refine ⟨i, L', m', ?_, ⟨h2.mkr, h2.pre, by have := h2.len; omega, by have := h2.cnt; omega, h2.lt⟩, ?_⟩
      · rw [h1]; rfl
      · intro env; rw [h3]
        have := tval_mem (k + 2) f env hlen
        have h4 := List.any_eq_false.1 hc' _ this
        revert h4; cases x <;> cases tval (k + 2) f env <;> simp
theorem nat_ne (a b : Nat) : (((a : Int)) != (b : Int)) = !decide (a = b) := by
  by_cases h : a = b
  · simp [h]
  · have : ¬ ((a : Int) = (b : Int)) := by omega
    simp [h, this]
theorem ok_take {a0 : Int} {L : List Gt} (h : GatesOk a0 L) (n : Nat) : GatesOk a0 (L.take n) := by
  intro j g hj
  rw [List.getElem?_take] at hj
  split at hj
  · exact h j g hj
  · cases hj
theorem fcnt_nil (n : Nat) : fcnt n [] = 0 := by
  unfold fcnt
  rw [List.countP_eq_zero]
  intro t _
  simp [flag]
theorem build_ok {k : Nat} (hk : k ≤ 4) {f : List Bool} (hf : f.length = 2 ^ (k + 1)) :
    ∃ r : List Gt, gate_Build 6 ((k + 1 : Nat) : Int) f = some (r, 0) ∧ 1 ≤ r.length ∧ r.length ≤ 3 * 2 ^ (k + 1) + 3 * (k + 1) + 3 ∧ GatesOk ((k + 1 : Nat) : Int) r ∧
      ∀ env, (gall env r).getD (r.length - 1) false = tval (k + 1) f env := by
  have hk4 : 2 ^ k ≤ 16 := Nat.pow_le_pow_right (n := 2) (by decide) hk
  have hp1 : 2 ^ (k + 1) = 2 * 2 ^ k := by rw [Nat.pow_succ]; omega
  have hp0 := Nat.two_pow_pos k
  unfold gate_Build
  have hb : ((decide (((k + 1 : Nat) : Int) < (1 : Int))) || (decide (((k + 1 : Nat) : Int) > (5 : Int)))) = false := by
    simp only [Bool.or_eq_false_iff, decide_eq_false_iff_not]; omega
  rw [hb, cond_false]
  have c0 : ck (0 ≤ ((k + 1 : Nat) : Int)) = some () := ck_ok (by omega)
  rw [c0, bind_some', bShl_one (by omega), nat_ne, decide_eq_true hf, Bool.not_true, cond_false]
  obtain ⟨i, L, m, e, G, v⟩ := table_ok (n := k + 1) (by omega) k 6 (by omega) f [] none hf (by omega) ⟨fun j g h => by simp at h, mok_nil⟩ (by simp; omega)
  rw [e, bind_some']
  have hcnt := G.cnt
  rw [fcnt_nil] at hcnt
  have hle := fcnt_le (k + 1) L
  have hlt := G.lt
  simp only [List.length_nil] at hcnt
  have e2 : w64 ((i : Int) + 1) = ((i + 1 : Nat) : Int) := by rw [w64_id (by omega) (by omega)]; omega
  simp only []
  rw [e2]
  have c : ck (0 ≤ (0 : Int) ∧ (0 : Int) ≤ ((i + 1 : Nat) : Int) ∧ ((i + 1 : Nat) : Int) ≤ (List.length L : Int)) = some () := ck_ok (by omega)
  rw [c, bind_some', sub_lo]
  have e4 : slices_Clone_LapiGateapiGate (L.take (i + 1)) = some (L.take (i + 1)) := by
    unfold slices_Clone_LapiGateapiGate
    have : ck ((0 : Int) + (List.length (L.take (i + 1)) : Int) ≤ 4294967296) = some () := ck_ok (by rw [List.length_take]; omega)
    rw [this, bind_some']; rfl
  rw [e4]
  have hL : (L.take (i + 1)).length = i + 1 := by rw [List.length_take]; omega
  refine ⟨L.take (i + 1), rfl, by omega, by omega, ok_take G.mkr.ok _, ?_⟩
  intro env
  rw [hL, show i + 1 - 1 = i by omega, ← gall_take, getD_take (by omega)]
  exact v env
theorem GateBuilds_true (a0 : Int) (a1 : List Bool) (f0 : Fits (.int .i64) a0) (f1 : Fits (.slice .bool) a1) : ∃ fuel, law_GateBuilds fuel a0 a1 = some true := by
  refine ⟨6, ?_⟩
  unfold law_GateBuilds law_GateBuilds_g1
  rw [within_eq]
  by_cases h1 : 1 ≤ a0 ∧ a0 ≤ 5
  · obtain ⟨k, rfl⟩ : ∃ k : Nat, a0 = ((k + 1 : Nat) : Int) := ⟨(a0 - 1).toNat, by omega⟩
    have hk : k ≤ 4 := by omega
    have hk4 : 2 ^ k ≤ 16 := Nat.pow_le_pow_right (n := 2) (by decide) hk
    have hp1 : 2 ^ (k + 1) = 2 * 2 ^ k := by rw [Nat.pow_succ]; omega
    have hwr : IntKind.wrap .u64 ((k + 1 : Nat) : Int) = ((k + 1 : Nat) : Int) := (show ∀ k : Nat, k < 6 → IntKind.wrap .u64 ((k : Nat) : Int) = (k : Int) by decide) (k + 1) (by omega)
    have c0 : ck (0 ≤ ((k + 1 : Nat) : Int)) = some () := ck_ok (by omega)
    rw [decide_eq_true h1, bind_some', Bool.not_true, cond_false, hwr, c0]
    simp only [bind_some']
    rw [bShl_one (by omega), nat_ne]
    by_cases hf : a1.length = 2 ^ (k + 1)
    · obtain ⟨r, hr, r1, r2, r3, r4⟩ := build_ok hk hf
      rw [hr, bind_some', decide_eq_true hf, Bool.not_true, cond_false, bind_some', show ((0 : Int) != 0) = false from rfl, cond_false]
      have g2 : law_GateBuilds_g2 ((k + 1 : Nat) : Int) a1 (r, 0) = some false := by
        unfold law_GateBuilds_g2
        have hw1 : w64 ((3 : Int) * (List.length a1 : Int)) = 3 * (a1.length : Int) := w64_id (by omega) (by omega)
        have hw2 : w64 ((3 : Int) * ((k + 1 : Nat) : Int)) = 3 * ((k + 1 : Nat) : Int) := w64_id (by omega) (by omega)
        rw [hw1, hw2, w64_id (n := 3 * (a1.length : Int) + 3 * ((k + 1 : Nat) : Int)) (by omega) (by omega), w64_id (by omega) (by omega)]
        have : ((((0 : Int) != (0 : Int)) || ((List.length r : Int) == (0 : Int))) || (decide ((List.length r : Int) > 3 * (a1.length : Int) + 3 * ((k + 1 : Nat) : Int) + 3))) = false := by
          simp only [Bool.or_eq_false_iff, decide_eq_false_iff_not, beq_eq_false_iff_ne, bne_self_eq_false, true_and]; omega
        simp only []
        rw [this, cond_false, gc_of r3]; rfl
      rw [g2, bind_some', cond_false]
      have g3 : forL (law_GateBuilds_b3 (r, 0)) (fun x52 => (.brk ())) a1 0 () = some (.brk ()) := by
        obtain ⟨y, hy, rfl⟩ := forL_inv (body := law_GateBuilds_b3 (r, 0)) (fin := fun x51 => (Esc.brk () : Esc Bool Unit)) (l := a1) (x := ()) (fun _ _ => True) (fun y => y = .brk ()) trivial
          (by
            intro w b x hb _
            refine ⟨.next (), ?_, trivial⟩
            have hw := (List.getElem?_eq_some_iff.1 hb).1
            have hw63 : w < 2 ^ 63 := by
              have : (32 : Nat) < 2 ^ 63 := by decide
              omega
            unfold law_GateBuilds_b3
            rw [gates_ref r3 (by omega) (by omega) w hw63, bind_some']
            have hR := gall_len w.testBit r
            have i2 : idx (gall w.testBit r) (w64 ((List.length r : Int) - (1 : Int))) = some ((gall w.testBit r).getD (r.length - 1) false) := by
              have hi : ((r.length : Int) - 1).toNat = r.length - 1 := by omega
              rw [w64_id (by omega) (by omega), getD_idx (by omega) (by omega), hi]
            simp only [i2]
            rw [bind_some', r4, tval_at _ _ _ hf, Nat.mod_eq_of_lt (by omega), List.getD_eq_getElem?_getD, hb]
            simp)
          (by intro x _; rfl)
        exact hy
      rw [g3]; rfl
    · rw [decide_eq_false hf, Bool.not_false, cond_true]
      have hb : gate_Build 6 ((k + 1 : Nat) : Int) a1 = some ([], 3) := by
        unfold gate_Build
        have hb : ((decide (((k + 1 : Nat) : Int) < (1 : Int))) || (decide (((k + 1 : Nat) : Int) > (5 : Int)))) = false := by
          simp only [Bool.or_eq_false_iff, decide_eq_false_iff_not]; omega
        rw [hb, cond_false, c0, bind_some', bShl_one (by omega), nat_ne, decide_eq_false hf]; rfl
      rw [hb]; rfl
  · have hb : gate_Build 6 a0 a1 = some ([], 1) := by
      unfold gate_Build
      have hb : ((decide (a0 < (1 : Int))) || (decide (a0 > (5 : Int)))) = true := by
        simp only [Bool.or_eq_true, decide_eq_true_eq]; omega
      rw [hb]; rfl
    rw [hb, decide_eq_false h1]; rfl

end Go.Proofs.Ythjdegeajfhakaa.gateBuilds
namespace Go.Proofs.Ythjdegeajfhakaa.gateBuilds
open Go.ChangeShapes Go.WideShapes Go.ChangeAt Go.RowKit
open Go.ChangeMaps (open_string shut_string)
theorem own : ownKnob Try.prog.godebug = none := by kernel_rfl
theorem laidOut : laidOutB Try.prog = true := by kernel_rfl
theorem lifted (os : Os) (started : os.Started) (H : Type) (enc : TypeId × Value → H) :
    ReturnsInHanded {} Try.checked os 5 .any (Rows.gateBuildsSpec.pre6 enc Try.prog Try.f5 Rows.gateBuildsRow.domain false) (Rows.gateBuildsSpec.post enc Try.prog Try.f5 false true false false) := by
  refine returnsInHanded_of_change (C := Try.checked) own started (by kernel_rfl) Try.func5
    (ChangeSpec.witness6 (enc := enc) (C := Try.checked) false ⟨#[], #[.int .i64 0, .slice none 0 0], []⟩ 8 (by kernel_rfl) (by kernel_rfl) (by kernel_rfl) (by kernel_rfl)) ?_
  intro W base args ds gs before hval0 hW hcnd _
  have hval : ∀ (j : Nat) t v, Try.f5.params[j]? = some t → args[j]? = some v → Value.okWide Try.prog W .any base t v := hval0
  have hW' := hW
  obtain ⟨p, q, hA0, hV, rfl, hfz, hnd⟩ := hW
  have hA : DataW.TrodAll enc Try.prog W 0 (fun _ => true) true Try.f5.params.toList args.toList ds p := hA0
  rw [Try.params5] at hA hval
  obtain ⟨v0, vs0, d0, ds0, p0, q0, hargs, rfl, rfl, h0, r0⟩ := trodAll_cons hA
  obtain ⟨v1, vs1, d1, ds1, p1, q1, rfl, rfl, rfl, h1, r1⟩ := trodAll_cons r0
  obtain ⟨rfl, rfl, rfl⟩ := trodAll_nil r1
  obtain rfl : args = #[v0, v1] := by cases args; simp_all
  obtain ⟨rfl, rfl⟩ := trodVars_none hV
  obtain ⟨x0, f0, k0⟩ := Go.Sl.read_arg (u := (.int .i64)) (by kernel_rfl) (by kernel_rfl) (hval 0 3 v0 rfl rfl) h0
  have lt0 : ∀ x ∈ p0, x.block < W.heap.size := by obtain ⟨m, hm⟩ := h0; exact DataW.trod_lt m _ _ _ hm
  obtain ⟨x1, f1, k1⟩ := Go.Sl.read_arg (u := (.slice .bool)) (by kernel_rfl) (by kernel_rfl) (hval 1 40 v1 rfl rfl) h1
  have lt1 : ∀ x ∈ p1, x.block < W.heap.size := by obtain ⟨m, hm⟩ := h1; exact DataW.trod_lt m _ _ _ hm
  clear hA0 hval0
  obtain ⟨fuel, hm⟩ := GateBuilds_true x0 x1 f0 f1
  refine (Go.Sl.law_of (vs := [v0, v1]) (law_GateBuilds_ok hm) rfl (.cons (k0 _ _) (.cons (k1 _ _) .nil))).mono fun e W' ⟨he, bel⟩ => ?_
  subst he
  exact ⟨_, rfl, _, _, _, [], _, [], hW', trodAll_mk1 (shut_bool Try.underlying4 _), (trodAll_cons_mk (Below.trod laidOut (by kernel_rfl) (of_decide_eq_true (by kernel_rfl)) h0 bel lt0) (trodAll_cons_mk (Below.trod laidOut (by kernel_rfl) (of_decide_eq_true (by kernel_rfl)) h1 bel lt1) trodAll_mk0)), rfl, bel.frame _, fun h => by cases h⟩
theorem proved : Rows.GateBuildsSaid :=
  OpenClaim.holds_of_wide 5 Try.f5 rfl rfl rfl rfl rfl rfl rfl ⟨rfl, rfl, rfl, rfl, rfl⟩ rfl rfl rfl rfl rfl (by kernel_rfl) Try.func5 (by kernel_rfl)
    (of_decide_eq_true (by kernel_rfl)) (by unfold Func.isWrapper; first | (rw [if_pos (by decide +kernel)]; kernel_rfl) | (rw [if_neg (by decide +kernel)]; exact ⟨rfl, rfl⟩))
    (fun os started H enc _ => lifted os started H enc)
#print axioms proved
end Go.Proofs.Ythjdegeajfhakaa.gateBuilds
