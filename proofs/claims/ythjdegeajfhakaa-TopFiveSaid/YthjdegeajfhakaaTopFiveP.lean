/- A truth table, its circuit and its branching program agree: TopFive returns true for every input and changes nothing; no conditions. -/
import Derived.Test.YthjdegeajfhakaaRows
import Derived.WalkKit
import Derived.ProofKit
import Derived.OpenShut
import Derived.ShutString
import Derived.ChangeOld
import Derived.Below
import Derived.Test.YthjdegeajfhakaaTopFiveM2
set_option linter.all false
set_option maxRecDepth 100000
namespace Go.Proofs.Ythjdegeajfhakaa.topFive
open Go Go.Sl

theorem bit_eq {w i : Nat} (hw : w < 2 ^ 63) (hi : i < 63) : ref_Bit (w : Int) (i : Int) = some (w.testBit i) := by
  unfold ref_Bit
  have c : (decide ((i : Int) ≥ 0) && decide ((i : Int) < 63)) = true := by simp; omega
  have e : IntKind.wrap .u64 (i : Int) = (i : Int) := wrap_u64 (by omega) (by omega)
  rw [c, e, ck_ok (by omega)]
  simp only [cond_true, Option.bind_some, bit_mask hw hi]

def gc (a0 : Int) (n : Nat) (v : Int × Int × Int) : Option Int :=
  bif !decide (1 ≤ v.1 ∧ v.1 ≤ 4) then some 6 else bif (v.1 == 1) && !decide (0 ≤ v.2.1 ∧ v.2.1 < a0) then some 4
  else bif (!(v.1 == 1) && !decide (0 ≤ v.2.1 ∧ v.2.1 < n)) || (decide (v.1 ≥ 3) && !decide (0 ≤ v.2.2 ∧ v.2.2 < n)) then some 2 else none
theorem gc_pos {a0 : Int} {n : Nat} {v : Int × Int × Int} {e : Int} (h : gc a0 n v = some e) : e ≠ 0 := by
  unfold gc at h
  revert h
  generalize (!decide (1 ≤ v.1 ∧ v.1 ≤ 4)) = c1
  generalize ((v.1 == 1) && !decide (0 ≤ v.2.1 ∧ v.2.1 < a0)) = c2
  generalize ((!(v.1 == 1) && !decide (0 ≤ v.2.1 ∧ v.2.1 < (n : Int))) || (decide (v.1 ≥ 3) && !decide (0 ≤ v.2.2 ∧ v.2.2 < (n : Int)))) = c3
  cases c1 <;> cases c2 <;> cases c3 <;> simp <;> rintro rfl <;> decide
def GatesOk (a0 : Int) (l : List (Int × Int × Int)) : Prop :=
  ∀ (j : Nat) (g : Int × Int × Int), l[j]? = some g → (1 ≤ g.1 ∧ g.1 ≤ 4) ∧ (g.1 = 1 → 0 ≤ g.2.1 ∧ g.2.1 < a0) ∧ (g.1 ≠ 1 → 0 ≤ g.2.1 ∧ g.2.1 < j) ∧ (3 ≤ g.1 → 0 ≤ g.2.2 ∧ g.2.2 < j)
theorem gc_ok {a0 : Int} {l : List (Int × Int × Int)} (h : (firstOf (gc a0) 0 l).getD 0 = 0) : GatesOk a0 l := by
  intro j g hg
  cases hf : firstOf (gc a0) 0 l with
  | some e =>
    rw [hf] at h
    obtain ⟨k, v, _, hv⟩ := firstOf_some hf
    exact (gc_pos hv h).elim
  | none =>
    obtain ⟨h1, h2⟩ := bif_none (firstOf_none hf hg)
    obtain ⟨h2, h3⟩ := bif_none h2
    obtain ⟨h3, _⟩ := bif_none h3
    simp only [Bool.not_eq_false', Bool.and_eq_false_iff, Bool.or_eq_false_iff, decide_eq_true_eq, decide_eq_false_iff_not, beq_eq_false_iff_ne, beq_iff_eq, ne_eq] at h1 h2 h3
    refine ⟨by omega, by omega, by omega, by omega⟩
def gcAll (a0 : Int) (l : List (Int × Int × Int)) : Int :=
  if (0 ≤ a0 ∧ a0 ≤ 5) ∧ 1 ≤ (l.length : Int) ∧ (l.length : Int) ≤ 40 then (firstOf (gc a0) 0 l).getD 0 else 1
theorem gc_valid {a0 : Int} {l : List (Int × Int × Int)} (h : gcAll a0 l = 0) : ((0 ≤ a0 ∧ a0 ≤ 5) ∧ 1 ≤ (l.length : Int) ∧ (l.length : Int) ≤ 40) ∧ GatesOk a0 l := by
  unfold gcAll at h
  split at h
  · rename_i hc
    exact ⟨hc, gc_ok h⟩
  · omega
theorem gc_wrong_body (a0 : Int) (n : Nat) (v : Int × Int × Int) : gate_Wrong_b43 a0 n v () = some (said Esc.ret (gc a0 n v)) := by
  have ht : ∀ u : Int, gate_Wrong_1 u (n : Int) = some (decide (0 ≤ u ∧ u < (n : Int))) := by
    intro u
    unfold gate_Wrong_1
    rw [Bool.decide_and]
  unfold gate_Wrong_b43 gate_Wrong_g39 gc
  rw [ht, ht]
  have e : (bif decide (v.2.1 < (0 : Int)) then (some true) else (some (decide (v.2.1 ≥ a0)))) = some (!decide (0 ≤ v.2.1 ∧ v.2.1 < a0)) := by
    by_cases h1 : v.2.1 < 0
    · simp [h1]
    · by_cases h2 : v.2.1 < a0
      · simp [h1, h2, Int.not_lt.1 h1]
      · simp [h1, h2]; omega
  have e1 : (bif decide (v.1 < (1 : Int)) then (some true) else (some (decide (v.1 > (4 : Int))))) = some (!decide (1 ≤ v.1 ∧ v.1 ≤ 4)) := by
    by_cases h1 : 1 ≤ v.1 ∧ v.1 ≤ 4
    · rw [decide_eq_true h1, decide_eq_false (by omega), decide_eq_false (by omega)]; rfl
    · rw [decide_eq_false h1]
      by_cases h2 : v.1 < 1
      · rw [decide_eq_true h2]; rfl
      · rw [decide_eq_false h2, decide_eq_true (by omega)]; rfl
  rw [e, e1]
  by_cases h1 : 1 ≤ v.1 ∧ v.1 ≤ 4
  · rw [decide_eq_true h1]
    have k2 : decide (v.1 > 1) = !(v.1 == 1) := by
      rw [beq_dec, not_dec]; exact decide_eq_decide.2 (by omega)
    have k3 : decide (v.1 > 2) = decide (v.1 ≥ 3) := decide_eq_decide.2 (by omega)
    rw [k2, k3]
    generalize decide (0 ≤ v.2.1 ∧ v.2.1 < a0) = c2
    generalize decide (0 ≤ v.2.1 ∧ v.2.1 < (n : Int)) = c3
    generalize decide (0 ≤ v.2.2 ∧ v.2.2 < (n : Int)) = c4
    generalize (v.1 == 1) = c5
    generalize decide (v.1 ≥ 3) = c6
    cases c2 <;> cases c3 <;> cases c4 <;> cases c5 <;> cases c6 <;> rfl
  · rw [decide_eq_false h1]; rfl
theorem gc_wrong (a0 : Int) (l : List (Int × Int × Int)) : gate_Wrong a0 l = some ((firstOf (gc a0) 0 l).getD 0) := by
  unfold gate_Wrong
  rw [forL_findI (f := gc a0) (g := Esc.ret) (fun n a _ => gc_wrong_body a0 n a)]
  cases firstOf (gc a0) 0 l <;> rfl
theorem gc_check (a0 : Int) (l : List (Int × Int × Int)) : gate_Check a0 l = some (gcAll a0 l) := by
  unfold gate_Check gcAll
  rw [gc_wrong]
  by_cases h : (0 ≤ a0 ∧ a0 ≤ 5) ∧ 1 ≤ (l.length : Int) ∧ (l.length : Int) ≤ 40
  · have hb : ((((decide (a0 < (0 : Int))) || (decide (a0 > (5 : Int)))) || (decide ((List.length l : Int) < (1 : Int)))) || (decide ((List.length l : Int) > (40 : Int)))) = false := by
      simp only [Bool.or_eq_false_iff, decide_eq_false_iff_not]; omega
    rw [bif_f hb, if_pos h]; rfl
  · have hb : ((((decide (a0 < (0 : Int))) || (decide (a0 > (5 : Int)))) || (decide ((List.length l : Int) < (1 : Int)))) || (decide ((List.length l : Int) > (40 : Int)))) = true := by
      simp only [Bool.or_eq_true, decide_eq_true_eq]; omega
    rw [bif_t hb, if_neg h]

/-- one gate, by the inputs and what those ahead of it are -/
def gval (env : Nat → Bool) (v : List Bool) (g : Int × Int × Int) : Bool :=
  if g.1 = 1 then env g.2.1.toNat else if g.1 = 2 then !(v.getD g.2.1.toNat false)
  else if g.1 = 3 then v.getD g.2.1.toNat false && v.getD g.2.2.toNat false else v.getD g.2.1.toNat false || v.getD g.2.2.toNat false
def gall (env : Nat → Bool) : List (Int × Int × Int) → List Bool := fun l => l.foldl (fun v g => v ++ [gval env v g]) []
theorem gall_snoc (env : Nat → Bool) (l : List (Int × Int × Int)) (g : Int × Int × Int) : gall env (l ++ [g]) = gall env l ++ [gval env (gall env l) g] := by
  unfold gall
  rw [List.foldl_append]; rfl
theorem gall_len (env : Nat → Bool) (l : List (Int × Int × Int)) : (gall env l).length = l.length := by
  induction l using snoc_ind with
  | h0 => rfl
  | h1 l g ih => rw [gall_snoc]; simp [ih]
theorem gall_take (env : Nat → Bool) (l : List (Int × Int × Int)) : ∀ n, (gall env l).take n = gall env (l.take n) := by
  induction l using snoc_ind with
  | h0 => intro n; simp [gall]
  | h1 l g ih =>
    intro n
    rw [gall_snoc]
    rcases Nat.lt_or_ge l.length n with h | h
    · rw [List.take_of_length_le (by simp [gall_len]; omega), List.take_of_length_le (by simp; omega), gall_snoc]
    · rw [List.take_append_of_le_length (by rw [gall_len]; exact h), List.take_append_of_le_length h]
      exact ih n
theorem gall_get (env : Nat → Bool) {l : List (Int × Int × Int)} {n : Nat} {g : Int × Int × Int} (h : l[n]? = some g) : (gall env l)[n]? = some (gval env ((gall env l).take n) g) := by
  have hn := (List.getElem?_eq_some_iff.1 h).1
  have e1 : l.take (n + 1) = l.take n ++ [g] := by
    rw [List.take_add_one, h]; rfl
  have e2 : (gall env l)[n]? = ((gall env l).take (n + 1))[n]? := by rw [List.getElem?_take_of_lt (by omega)]
  rw [e2, gall_take, e1, gall_snoc, List.getElem?_append_right (by rw [gall_len]; simp; omega), gall_len]
  have : n - (l.take n).length = 0 := by simp; omega
  rw [this, gall_take]; rfl
theorem getD_take {v : List Bool} {n k : Nat} (h : k < n) : (v.take n).getD k false = v.getD k false := by
  rw [List.getD_eq_getElem?_getD, List.getD_eq_getElem?_getD, List.getElem?_take_of_lt h]
theorem gval_take {a0 : Int} {l : List (Int × Int × Int)} (hok : GatesOk a0 l) (env : Nat → Bool) (v : List Bool) {n : Nat} {g : Int × Int × Int} (h : l[n]? = some g) : gval env (v.take n) g = gval env v g := by
  obtain ⟨h1, h2, h3, h4⟩ := hok n g h
  unfold gval
  split
  · rfl
  · rename_i k1
    have e1 : (v.take n).getD g.2.1.toNat false = v.getD g.2.1.toNat false := getD_take (by have := h3 k1; omega)
    split
    · rw [e1]
    · rename_i k2
      have e2 : (v.take n).getD g.2.2.toNat false = v.getD g.2.2.toNat false := getD_take (by have := h4 (by omega); omega)
      split
      · rw [e1, e2]
      · rw [e1, e2]
theorem gall_get' {a0 : Int} {l : List (Int × Int × Int)} (hok : GatesOk a0 l) (env : Nat → Bool) {n : Nat} {g : Int × Int × Int} (h : l[n]? = some g) : (gall env l)[n]? = some (gval env (gall env l) g) := by
  rw [gall_get env h, gval_take hok env _ h]
theorem getD_idx {x : List Bool} {i : Int} (h0 : 0 ≤ i) (h : i < (x.length : Int)) : idx x i = some (x.getD i.toNat false) := by
  obtain ⟨b, hb, hb2⟩ := idx_get h0 h
  rw [hb, List.getD_eq_getElem?_getD, hb2]; rfl

/-- how deep a gate is, by those ahead of it -/
def dval (v : List Int) (g : Int × Int × Int) : Int :=
  if g.1 = 1 then 0 else if g.1 = 2 then v.getD g.2.1.toNat 0 + 1 else imax (v.getD g.2.1.toNat 0 + 1) (v.getD g.2.2.toNat 0 + 1)
theorem getI_idx {x : List Int} {i : Int} (h0 : 0 ≤ i) (h : i < (x.length : Int)) : idx x i = some (x.getD i.toNat 0) := by
  obtain ⟨b, hb, hb2⟩ := idx_get h0 h
  rw [hb, List.getD_eq_getElem?_getD, hb2]; rfl
theorem deep_prog {a0 : Int} {l : List (Int × Int × Int)} (hok : GatesOk a0 l) (hl : l.length ≤ 1000000) :
    ∃ D : List Int, D.length = l.length ∧ forL gate_Deep_b9 (fun x71 => x71) l 0 [] = some D ∧ (∀ (j : Nat) v, D[j]? = some v → 0 ≤ v ∧ v ≤ j) ∧ (∀ (j : Nat) g, l[j]? = some g → D[j]? = some (dval D g)) := by
  obtain ⟨y, h1, h3, h4, h5⟩ := forL_inv (body := gate_Deep_b9) (fin := fun x => x) (l := l) (x := [])
    (fun n x => x.length = n ∧ (∀ (j : Nat) v, x[j]? = some v → 0 ≤ v ∧ v ≤ j) ∧ (∀ (j : Nat) g, j < n → l[j]? = some g → x[j]? = some (dval (x.take j) g)))
    (fun x => x.length = l.length ∧ (∀ (j : Nat) v, x[j]? = some v → 0 ≤ v ∧ v ≤ j) ∧ (∀ (j : Nat) g, l[j]? = some g → x[j]? = some (dval (x.take j) g)))
    ⟨rfl, fun j v hv => by simp at hv, fun j g hj => by omega⟩
    (by
      rintro n g x hg ⟨hx, hb, hd⟩
      have hn := (List.getElem?_eq_some_iff.1 hg).1
      obtain ⟨h1, h2, h3, h4⟩ := hok n g hg
      have get : ∀ k : Int, 0 ≤ k → k < n → idx x k = some (x.getD k.toNat 0) ∧ 0 ≤ x.getD k.toNat 0 ∧ x.getD k.toNat 0 ≤ k.toNat := by
        intro k hk0 hk
        have e1 := getI_idx (x := x) hk0 (by omega)
        have e4 := hb k.toNat _ (idx_some e1).2.2
        exact ⟨e1, e4⟩
      have key : ∃ v : Int, gate_Deep_b9 (n : Int) g x = some (.next (x ++ [v])) ∧ 0 ≤ v ∧ v ≤ n ∧ v = dval x g := by
        have c1 : ck ((x.length : Int) + 1 ≤ 4294967296) = some () := ck_ok (by omega)
        unfold gate_Deep_b9 dval
        by_cases k1 : g.1 = 1
        · exact ⟨0, by simp [k1, c1], by omega, by omega, by simp [k1]⟩
        · obtain ⟨p1, p3, p4⟩ := get g.2.1 (h3 k1).1 (h3 k1).2
          have q1 := h3 k1
          have b2 : decide (g.1 > 1) = true := by simp; omega
          have ew : w64 (x.getD g.2.1.toNat 0 + 1) = x.getD g.2.1.toNat 0 + 1 := w64_id (by omega) (by omega)
          simp only [b2, p1, Option.bind_some, cond_true, cond_false, ew, if_neg k1, c1]
          by_cases k2 : g.1 = 2
          · have b3 : decide (g.1 > 2) = false := by simp; omega
            simp only [b3, cond_false, Option.bind_some, if_pos k2]
            exact ⟨_, rfl, by omega, by omega, rfl⟩
          · have q2 := h4 (by omega)
            obtain ⟨r1, r3, r4⟩ := get g.2.2 q2.1 q2.2
            have b3 : decide (g.1 > 2) = true := by simp; omega
            have ew2 : w64 (x.getD g.2.2.toNat 0 + 1) = x.getD g.2.2.toNat 0 + 1 := w64_id (by omega) (by omega)
            simp only [b3, cond_true, cond_false, Option.bind_some, if_neg k2, r1, ew2]
            exact ⟨_, rfl, by unfold imax; split <;> omega, by unfold imax; split <;> omega, rfl⟩
      obtain ⟨v, k1, k3, k4, k5⟩ := key
      refine ⟨_, k1, by simp [hx], ?_, ?_⟩
      · intro j w hw
        rcases Nat.lt_or_ge j n with h | h
        · rw [List.getElem?_append_left (by omega)] at hw; exact hb j w hw
        · have hlt := (List.getElem?_eq_some_iff.1 hw).1
          simp only [List.length_append, List.length_singleton] at hlt
          have : j = n := by omega
          subst this
          rw [List.getElem?_append_right (by omega)] at hw
          simp [hx] at hw
          subst hw; exact ⟨k3, k4⟩
      · intro j g' hj hg2
        rcases Nat.lt_or_ge j n with h | h
        · rw [List.getElem?_append_left (by omega), hd j g' h hg2, List.take_append_of_le_length (by omega)]
        · have : j = n := by omega
          subst this
          obtain rfl := Option.some.inj (hg.symm.trans hg2)
          rw [List.getElem?_append_right (by omega), List.take_append_of_le_length (by omega), List.take_of_length_le (by omega), ← k5]; simp [hx])
    (by
      rintro x ⟨hx, hb, hd⟩
      exact ⟨hx, hb, fun j g hg => hd j g (List.getElem?_eq_some_iff.1 hg).1 hg⟩)
  refine ⟨y, h3, h1, h4, ?_⟩
  intro j g hg
  rw [h5 j g hg]
  obtain ⟨g1, g2, g3, g4⟩ := hok j g hg
  congr 1
  unfold dval
  split
  · rfl
  · rename_i k1
    have e1 : (y.take j).getD g.2.1.toNat 0 = y.getD g.2.1.toNat 0 := by
      rw [List.getD_eq_getElem?_getD, List.getD_eq_getElem?_getD, List.getElem?_take_of_lt (by have := g3 k1; omega)]
    split
    · rw [e1]
    · have e2 : (y.take j).getD g.2.2.toNat 0 = y.getD g.2.2.toNat 0 := by
        rw [List.getD_eq_getElem?_getD, List.getD_eq_getElem?_getD, List.getElem?_take_of_lt (by have := g4 (by omega); omega)]
      rw [e1, e2]

theorem mget_mput {α β : Type} {eq : α → α → Bool} [DecidableEq α] (heq : ∀ a b, eq a b = true ↔ a = b) : ∀ (l : List (α × β)) (x : α) (y : β) (z : α), mGet eq (mPut eq l x y) z = if z = x then some y else mGet eq l z
  | [], x, y, z => by
    by_cases h : z = x
    · simp [mPut, mGet, h, (heq x x).2 rfl]
    · have : eq z x = false := by cases hh : eq z x with | false => rfl | true => exact (h ((heq _ _).1 hh)).elim
      simp [mPut, mGet, h, this]
  | p :: l, x, y, z => by
    have hf : ∀ {a b}, a ≠ b → eq a b = false := by
      intro a b h
      cases hh : eq a b with | false => rfl | true => exact (h ((heq _ _).1 hh)).elim
    by_cases hp : x = p.1
    · have e1 : eq x p.1 = true := (heq _ _).2 hp
      by_cases h : z = x
      · simp [mPut, mGet, e1, h, (heq x x).2 rfl]
      · simp [mPut, mGet, e1, h, hf h, hf (fun e => h (e.trans hp.symm))]
    · have e1 : eq x p.1 = false := hf hp
      by_cases hz : z = p.1
      · have e2 : eq z p.1 = true := (heq _ _).2 hz
        have hzx : z ≠ x := fun e => hp (e ▸ hz)
        simp [mPut, mGet, e1, e2, hzx]
      · simp only [mPut, e1, Bool.false_eq_true, if_false, mGet, hf hz]
        exact mget_mput heq l x y z
theorem deqI {k : IntKind} (a b : Int) : deqT (.int k) a b = true ↔ a = b := by simp [deqT]

abbrev Gt : Type := Int × Int × Int
abbrev GMap : Type := Option (List (Gt × Int))
theorem deqG (a b : Gt) : deqT (.pair tI (.pair tI tI)) a b = true ↔ a = b := by
  obtain ⟨a1, a2, a3⟩ := a
  obtain ⟨b1, b2, b3⟩ := b
  simp [deqT, tI]
/-- the map holds each gate's place -/
def MOk (L : List Gt) (m : GMap) : Prop :=
  ∀ (g : Gt) (y : Int), mGet (deqT (.pair tI (.pair tI tI))) (m.getD []) g = some y ↔ ∃ i : Nat, y = i ∧ L[i]? = some g
theorem mok_nil : MOk [] none := by
  intro g y; constructor
  · intro h; simp [mGet] at h
  · rintro ⟨i, _, h⟩; simp at h
theorem mok_put {L : List Gt} {m : GMap} (h : MOk L m) (hl : L.length < 4294967295) (a b c : Int) :
    ∃ (i : Nat) (L' : List Gt) (m' : GMap), gate_Maker_Put_i2 a b c L m = some ((i : Int), L', m') ∧ MOk L' m' ∧ L'[i]? = some (a, b, c) ∧
      ((L' = L ∧ (a, b, c) ∈ L) ∨ (L' = L ++ [(a, b, c)] ∧ (a, b, c) ∉ L)) := by
  obtain ⟨m2, hm2⟩ : ∃ m2 : List (Gt × Int), m2 = m.getD [] := ⟨_, rfl⟩
  have e1 : (bif Option.isNone m then (some (some [] : Option (List ((Int × (Int × Int)) × Int)))) else (some m)) = some (some m2) := by
    cases m with
    | none => subst hm2; rfl
    | some x => subst hm2; rfl
  have h2 : MOk L (some m2) := by
    subst hm2; exact h
  unfold gate_Maker_Put_i2 gate_Maker_Put_i2_g1
  rw [e1]
  rw [Option.bind_some]
  rw [show Option.getD (some m2) ([] : List (Gt × Int)) = m2 from rfl]
  cases hg : mGet (deqT (.pair tI (.pair tI tI))) m2 (a, b, c) with
  | some y =>
    obtain ⟨i, hi, hL⟩ := (h2 _ _).1 hg
    refine ⟨i, L, some m2, ?_, h2, hL, Or.inl ⟨rfl, List.mem_of_getElem? hL⟩⟩
    subst hi; rfl
  | none =>
    have hno : (a, b, c) ∉ L := by
      intro hm
      obtain ⟨i, hi⟩ := List.getElem?_of_mem hm
      have := (h2 (a, b, c) i).2 ⟨i, rfl, hi⟩
      rw [show Option.getD (some m2) ([] : List (Gt × Int)) = m2 from rfl, hg] at this
      cases this
    refine ⟨L.length, L ++ [(a, b, c)], some (mPut (deqT (.pair tI (.pair tI tI))) m2 (a, b, c) (L.length : Int)), ?_, ?_, by simp, Or.inr ⟨rfl, hno⟩⟩
    · have c1 : ck ((L.length : Int) + 1 ≤ 4294967296) = some () := ck_ok (by omega)
      have c2 : ck (Option.isSome (some m2) = true) = some () := ck_ok rfl
      rw [bif_t (show (!(Option.isSome (none : Option Int))) = true from rfl), c1, bind_some', c2, bind_some']; rfl
    · intro g y
      rw [show Option.getD (some (mPut (deqT (.pair tI (.pair tI tI))) m2 (a, b, c) (L.length : Int))) ([] : List (Gt × Int)) = mPut (deqT (.pair tI (.pair tI tI))) m2 (a, b, c) (L.length : Int) from rfl,
        mget_mput deqG]
      by_cases hgx : g = (a, b, c)
      · rw [if_pos hgx]
        constructor
        · intro hy; injection hy with hy
          exact ⟨L.length, hy.symm, by rw [hgx]; simp⟩
        · rintro ⟨i, rfl, hi⟩
          rcases Nat.lt_or_ge i L.length with h3 | h3
          · rw [List.getElem?_append_left h3] at hi
            exact (hno (hgx ▸ List.mem_of_getElem? hi)).elim
          · have := (List.getElem?_eq_some_iff.1 hi).1
            simp at this
            rw [show i = L.length by omega]
      · rw [if_neg hgx]
        have := h2 g y
        rw [show Option.getD (some m2) ([] : List (Gt × Int)) = m2 from rfl] at this
        rw [this]
        constructor
        · rintro ⟨i, rfl, hi⟩
          exact ⟨i, rfl, by rw [List.getElem?_append_left (List.getElem?_eq_some_iff.1 hi).1]; exact hi⟩
        · rintro ⟨i, rfl, hi⟩
          refine ⟨i, rfl, ?_⟩
          rcases Nat.lt_or_ge i L.length with h3 | h3
          · rw [List.getElem?_append_left h3] at hi; exact hi
          · rw [List.getElem?_append_right h3] at hi
            have := (List.getElem?_eq_some_iff.1 hi).1
            simp at this
            rw [show i - L.length = 0 by omega] at hi
            simp at hi
            exact (hgx (by rw [← hi])).elim
/-- may g stand at place j behind L -/
def GOk (a0 : Int) (j : Nat) (g : Gt) : Prop := (1 ≤ g.1 ∧ g.1 ≤ 4) ∧ (g.1 = 1 → 0 ≤ g.2.1 ∧ g.2.1 < a0) ∧ (g.1 ≠ 1 → 0 ≤ g.2.1 ∧ g.2.1 < j) ∧ (3 ≤ g.1 → 0 ≤ g.2.2 ∧ g.2.2 < j)
theorem gok_snoc {a0 : Int} {L : List Gt} (h : GatesOk a0 L) {g : Gt} (hg : GOk a0 L.length g) : GatesOk a0 (L ++ [g]) := by
  intro j g' hj
  rcases Nat.lt_or_ge j L.length with h3 | h3
  · rw [List.getElem?_append_left h3] at hj; exact h j g' hj
  · rw [List.getElem?_append_right h3] at hj
    have := (List.getElem?_eq_some_iff.1 hj).1
    simp at this
    rw [show j - L.length = 0 by omega] at hj
    simp at hj
    subst hj
    rw [show j = L.length by omega]; exact hg
/-- a circuit under way: the gates are in order, the map is right -/
structure MkrOk (a0 : Int) (L : List Gt) (m : GMap) : Prop where
  ok : GatesOk a0 L
  mp : MOk L m
theorem gval_ext (env : Nat → Bool) {v w : List Bool} {g : Gt} (h1 : g.1 ≠ 1 → v.getD g.2.1.toNat false = w.getD g.2.1.toNat false) (h2 : g.1 ≠ 1 → g.1 ≠ 2 → v.getD g.2.2.toNat false = w.getD g.2.2.toNat false) : gval env v g = gval env w g := by
  unfold gval
  by_cases k1 : g.1 = 1
  · rw [if_pos k1, if_pos k1]
  · rw [if_neg k1, if_neg k1, h1 k1]
    by_cases k2 : g.1 = 2
    · rw [if_pos k2, if_pos k2]
    · rw [if_neg k2, if_neg k2, h2 k1 k2]
theorem gall_pre (env : Nat → Bool) {L L' : List Gt} (h : L <+: L') {p : Nat} (hp : p < L.length) : (gall env L').getD p false = (gall env L).getD p false := by
  obtain ⟨t, rfl⟩ := h
  have : gall env L = (gall env (L ++ t)).take L.length := by rw [gall_take]; simp
  rw [this, getD_take hp]
/-- a gate put: its value, by the values of what it names -/
theorem mk_put {a0 : Int} {L : List Gt} {m : GMap} (h : MkrOk a0 L m) (hl : L.length < 4294967295) (a b c : Int) (hg : GOk a0 L.length (a, b, c)) :
    ∃ (i : Nat) (L' : List Gt) (m' : GMap), gate_Maker_Put_i2 a b c L m = some ((i : Int), L', m') ∧ MkrOk a0 L' m' ∧ L <+: L' ∧ L'.length ≤ L.length + 1 ∧ i < L'.length ∧ L'[i]? = some (a, b, c) ∧
      ((L' = L ∧ (a, b, c) ∈ L) ∨ (L' = L ++ [(a, b, c)] ∧ (a, b, c) ∉ L)) ∧
      ∀ env, (gall env L').getD i false = gval env (gall env L) (a, b, c) := by
  obtain ⟨i, L', m', h1, h2, h3, h4⟩ := mok_put h.mp hl a b c
  have hi := (List.getElem?_eq_some_iff.1 h3).1
  have hpre : L <+: L' := by
    rcases h4 with ⟨rfl, _⟩ | ⟨rfl, _⟩
    · exact List.prefix_rfl
    · exact List.prefix_append _ _
  have hok : GatesOk a0 L' := by
    rcases h4 with ⟨rfl, _⟩ | ⟨rfl, _⟩
    · exact h.ok
    · exact gok_snoc h.ok hg
  refine ⟨i, L', m', h1, ⟨hok, h2⟩, hpre, ?_, hi, h3, h4, ?_⟩
  · rcases h4 with ⟨rfl, _⟩ | ⟨rfl, _⟩ <;> simp
  · intro env
    rw [List.getD_eq_getElem?_getD, gall_get' hok env h3]
    refine gval_ext env ?_ ?_
    · intro k1; exact gall_pre env hpre (by have := hg.2.2.1 k1; omega)
    · intro k1 k2; exact gall_pre env hpre (by have h5 := hg.1; have := hg.2.2.2 (by omega); omega)

theorem gval_at1 (env : Nat → Bool) (v : List Bool) {a b c : Int} (h : a = 1) : gval env v (a, b, c) = env b.toNat := by subst h; rfl
theorem gval_at2 (env : Nat → Bool) (v : List Bool) {a b c : Int} (h : a = 2) : gval env v (a, b, c) = !(v.getD b.toNat false) := by subst h; rfl
theorem gval_at3 (env : Nat → Bool) (v : List Bool) {a b c : Int} (h : a = 3) : gval env v (a, b, c) = (v.getD b.toNat false && v.getD c.toNat false) := by subst h; rfl
theorem gval_at4 (env : Nat → Bool) (v : List Bool) {a b c : Int} (h : a = 4) : gval env v (a, b, c) = (v.getD b.toNat false || v.getD c.toNat false) := by subst h; rfl
theorem pre_get {L L' : List Gt} (h : L <+: L') {j : Nat} {g : Gt} (hj : L[j]? = some g) : L'[j]? = some g := by
  obtain ⟨t, rfl⟩ := h
  rw [List.getElem?_append_left (List.getElem?_eq_some_iff.1 hj).1]; exact hj
theorem mok_one {L : List Gt} {m : GMap} (h : MOk L m) {i j : Nat} {g : Gt} (hi : L[i]? = some g) (hj : L[j]? = some g) : i = j := by
  have h1 := (h g i).2 ⟨i, rfl, hi⟩
  have h2 := (h g j).2 ⟨j, rfl, hj⟩
  rw [h1] at h2
  injection h2 with h2
  omega
/-- which of the shared gates a circuit has -/
def flag (n : Nat) (L : List Gt) (t : Nat) : Prop :=
  if t < n then ((1, (t : Int), 0) : Gt) ∈ L
  else if t < 2 * n then ∃ j : Nat, L[j]? = some (1, ((t - n : Nat) : Int), 0) ∧ ((2, (j : Int), 0) : Gt) ∈ L
  else ∃ j k : Nat, L[j]? = some (1, 0, 0) ∧ L[k]? = some (2, (j : Int), 0) ∧ (((if t = 2 * n then 3 else 4 : Int), (j : Int), (k : Int)) : Gt) ∈ L
theorem flag_mono {n : Nat} {L L' : List Gt} (h : L <+: L') {t : Nat} (hf : flag n L t) : flag n L' t := by
  unfold flag at hf ⊢
  split
  · rename_i h1
    rw [if_pos h1] at hf
    exact h.subset hf
  · rename_i h1
    rw [if_neg h1] at hf
    split
    · rename_i h2
      rw [if_pos h2] at hf
      obtain ⟨j, hj, hj2⟩ := hf
      exact ⟨j, pre_get h hj, h.subset hj2⟩
    · rename_i h2
      rw [if_neg h2] at hf
      obtain ⟨j, k, hj, hk, hj2⟩ := hf
      exact ⟨j, k, pre_get h hj, pre_get h hk, h.subset hj2⟩
open Classical in
noncomputable def fcnt (n : Nat) (L : List Gt) : Nat := (List.range (2 * n + 2)).countP (fun t => decide (flag n L t))
theorem countP_lt {α : Type} {p q : α → Bool} : ∀ {l : List α}, (∀ x ∈ l, p x = true → q x = true) → ∀ {t}, t ∈ l → p t = false → q t = true → l.countP p + 1 ≤ l.countP q
  | [], _, t, ht, _, _ => by simp at ht
  | a :: l, h, t, ht, hp, hq => by
    have hm : l.countP p ≤ l.countP q := List.countP_mono_left (fun x hx => h x (List.mem_cons_of_mem _ hx))
    rw [List.countP_cons, List.countP_cons]
    rcases List.mem_cons.1 ht with rfl | ht
    · simp [hp, hq]; exact hm
    · have := countP_lt (l := l) (fun x hx => h x (List.mem_cons_of_mem _ hx)) ht hp hq
      have h0 : (if p a = true then 1 else 0) ≤ (if q a = true then 1 else 0) := by
        by_cases hpa : p a = true
        · simp [hpa, h a List.mem_cons_self hpa]
        · simp [hpa]
      omega
theorem fcnt_le (n : Nat) (L : List Gt) : fcnt n L ≤ 2 * n + 2 := by
  unfold fcnt
  exact Nat.le_trans List.countP_le_length (by simp)
theorem fcnt_mono {n : Nat} {L L' : List Gt} (h : L <+: L') : fcnt n L ≤ fcnt n L' := by
  unfold fcnt
  exact List.countP_mono_left (fun x _ hx => by simp at hx ⊢; exact flag_mono h hx)
theorem fcnt_lt {n : Nat} {L L' : List Gt} (h : L <+: L') {t : Nat} (ht : t < 2 * n + 2) (h1 : ¬ flag n L t) (h2 : flag n L' t) : fcnt n L + 1 ≤ fcnt n L' := by
  unfold fcnt
  exact countP_lt (fun x _ hx => by simp at hx ⊢; exact flag_mono h hx) (List.mem_range.2 ht) (by simp [h1]) (by simp [h2])
/-- what a part of the circuit grows by -/
structure Grown (n : Nat) (L L' : List Gt) (m' : GMap) (i grow own : Nat) : Prop where
  mkr : MkrOk (n : Int) L' m'
  pre : L <+: L'
  len : L'.length ≤ L.length + grow
  cnt : L'.length + fcnt n L ≤ L.length + fcnt n L' + own
  lt : i < L'.length
theorem Grown.trans {n : Nat} {L L1 L2 : List Gt} {m1 m2 : GMap} {i j a b c d : Nat} (h1 : Grown n L L1 m1 i a b) (h2 : Grown n L1 L2 m2 j c d) : Grown n L L2 m2 j (a + c) (b + d) :=
  ⟨h2.mkr, h1.pre.trans h2.pre, by have := h1.len; have := h2.len; omega, by have := h1.cnt; have := h2.cnt; omega, h2.lt⟩
theorem nput {n : Nat} {L : List Gt} {m : GMap} (h : MkrOk n L m) (hl : L.length < 4294967295) (a b c : Int) (hg : GOk n L.length (a, b, c)) :
    ∃ (i : Nat) (L' : List Gt) (m' : GMap), gate_Maker_Put_i2 a b c L m = some ((i : Int), L', m') ∧ Grown n L L' m' i 1 1 ∧ L'[i]? = some (a, b, c) ∧ ∀ env, (gall env L').getD i false = gval env (gall env L) (a, b, c) := by
  obtain ⟨i, L', m', h1, h2, h3, h4, h5, h6, h7, h8⟩ := mk_put h hl a b c hg
  have := fcnt_mono (n := n) h3
  exact ⟨i, L', m', h1, ⟨h2, h3, h4, by omega, h5⟩, h6, h8⟩
theorem sput {n : Nat} {L : List Gt} {m : GMap} (h : MkrOk n L m) (hl : L.length < 4294967295) (a b c : Int) (hg : GOk n L.length (a, b, c)) (t : Nat) (ht : t < 2 * n + 2) (f1 : flag n L t → (a, b, c) ∈ L)
    (f2 : ∀ L' : List Gt, L <+: L' → (a, b, c) ∈ L' → flag n L' t) :
    ∃ (i : Nat) (L' : List Gt) (m' : GMap), gate_Maker_Put_i2 a b c L m = some ((i : Int), L', m') ∧ Grown n L L' m' i 1 0 ∧ L'[i]? = some (a, b, c) ∧ ∀ env, (gall env L').getD i false = gval env (gall env L) (a, b, c) := by
  obtain ⟨i, L', m', h1, h2, h3, h4, h5, h6, h7, h8⟩ := mk_put h hl a b c hg
  refine ⟨i, L', m', h1, ⟨h2, h3, h4, ?_, h5⟩, h6, h8⟩
  rcases h7 with ⟨rfl, _⟩ | ⟨rfl, hno⟩
  · omega
  · have := fcnt_lt h3 ht (fun hf => hno (f1 hf)) (f2 _ h3 (by simp))
    simp; omega
/-- an input, and what it is not -/
theorem put_in {n : Nat} {L : List Gt} {m : GMap} (h : MkrOk n L m) (hl : L.length < 4294967295) {x : Nat} (hx : x < n) :
    ∃ (i : Nat) (L' : List Gt) (m' : GMap), gate_Maker_Put_i2 1 (x : Int) 0 L m = some ((i : Int), L', m') ∧ Grown n L L' m' i 1 0 ∧ L'[i]? = some (1, (x : Int), 0) ∧ ∀ env, (gall env L').getD i false = env x := by
  obtain ⟨i, L', m', h1, h2, h3, h4⟩ := sput h hl 1 (x : Int) 0 ⟨by simp, fun _ => by simp; omega, by simp, by simp⟩ x (by omega)
    (fun hf => by unfold flag at hf; rw [if_pos hx] at hf; exact hf) (fun L' _ hm => by unfold flag; rw [if_pos hx]; exact hm)
  exact ⟨i, L', m', h1, h2, h3, fun env => by rw [h4, gval_at1 env _ rfl]; rfl⟩
theorem put_not {n : Nat} {L : List Gt} {m : GMap} (h : MkrOk n L m) (hl : L.length < 4294967295) {x p : Nat} (hx : x < n) (hp : L[p]? = some (1, (x : Int), 0)) :
    ∃ (i : Nat) (L' : List Gt) (m' : GMap), gate_Maker_Put_i2 2 (p : Int) 0 L m = some ((i : Int), L', m') ∧ Grown n L L' m' i 1 0 ∧ L'[i]? = some (2, (p : Int), 0) ∧ ∀ env, (gall env L').getD i false = !(gall env L).getD p false := by
  have hpl := (List.getElem?_eq_some_iff.1 hp).1
  obtain ⟨i, L', m', h1, h2, h3, h4⟩ := sput h hl 2 (p : Int) 0 ⟨by simp, by simp, fun _ => by simp; omega, by simp⟩ (n + x) (by omega)
    (fun hf => by
      unfold flag at hf
      rw [if_neg (by omega), if_pos (by omega), show n + x - n = x by omega] at hf
      obtain ⟨j, hj, hj2⟩ := hf
      rw [mok_one h.mp hp hj]; exact hj2)
    (fun L' hpre hm => by
      unfold flag
      rw [if_neg (by omega), if_pos (by omega), show n + x - n = x by omega]
      exact ⟨p, pre_get hpre hp, hm⟩)
  exact ⟨i, L', m', h1, h2, h3, fun env => by rw [h4, gval_at2 env _ rfl]; rfl⟩
theorem put_const {n : Nat} (hn : 1 ≤ n) {L : List Gt} {m : GMap} (h : MkrOk n L m) (hl : L.length < 4294967200) (v : Bool) :
    ∃ (i : Nat) (L' : List Gt) (m' : GMap), gate_Maker_constant_i2 v L m = some ((i : Int), L', m') ∧ Grown n L L' m' i 3 0 ∧ ∀ env, (gall env L').getD i false = v := by
  obtain ⟨p, L1, m1, e1, G1, g1, v1⟩ := put_in h (by omega) (show 0 < n by omega)
  have l1 := G1.len
  obtain ⟨q, L2, m2, e2, G2, g2, v2⟩ := put_not G1.mkr (by omega) (show 0 < n by omega) g1
  have l2 := G2.len
  have gp := pre_get G2.pre g1
  have hpl := (List.getElem?_eq_some_iff.1 gp).1
  have hql := (List.getElem?_eq_some_iff.1 g2).1
  obtain ⟨i, L3, m3, e3, G3, g3, v3⟩ := sput G2.mkr (by omega) (if v then 4 else 3) (p : Int) (q : Int) ⟨by cases v <;> simp, by cases v <;> simp, fun _ => by simp; omega, fun _ => by simp; omega⟩ (2 * n + (if v then 1 else 0)) (by cases v <;> simp)
    (fun hf => by
      unfold flag at hf
      rw [if_neg (by cases v <;> simp <;> omega), if_neg (by cases v <;> simp)] at hf
      obtain ⟨j, k, hj, hk, hj2⟩ := hf
      have ej := mok_one G2.mkr.mp gp hj
      subst ej
      have ek := mok_one G2.mkr.mp g2 hk
      subst ek
      cases v
      · simpa using hj2
      · simpa using hj2)
    (fun L' hpre hm => by
      unfold flag
      rw [if_neg (by cases v <;> simp <;> omega), if_neg (by cases v <;> simp)]
      refine ⟨p, q, pre_get hpre gp, pre_get hpre g2, ?_⟩
      cases v
      · simpa using hm
      · simpa using hm)
  have G := (G1.trans G2).trans G3
  refine ⟨i, L3, m3, ?_, G, ?_⟩
  · unfold gate_Maker_constant_i2
    have e1' : gate_Maker_Put_i2 1 0 0 L m = some ((p : Int), L1, m1) := e1
    rw [e1', bind_some']; simp only []
    rw [e2, bind_some']; simp only []
    cases v
    · have e3' : gate_Maker_Put_i2 3 (p : Int) (q : Int) L2 m2 = some ((i : Int), L3, m3) := e3
      rw [cond_false, e3']; rfl
    · have e3' : gate_Maker_Put_i2 4 (p : Int) (q : Int) L2 m2 = some ((i : Int), L3, m3) := e3
      rw [cond_true, e3']; rfl
  · intro env
    rw [v3]
    have hv1 : (gall env L2).getD p false = env 0 := by rw [gall_pre env G2.pre G1.lt, v1]
    have hv2 : (gall env L2).getD q false = !env 0 := by rw [v2, v1]
    cases v
    · rw [gval_at3 env _ (show (if false = true then (4 : Int) else 3) = 3 from rfl), Int.toNat_natCast, Int.toNat_natCast, hv1, hv2]; simp
    · rw [gval_at4 env _ (show (if true = true then (4 : Int) else 3) = 4 from rfl), Int.toNat_natCast, Int.toNat_natCast, hv1, hv2]; simp
/-- a table read -/
def tval : Nat → List Bool → (Nat → Bool) → Bool
  | 0, f, _ => f.getD 0 false
  | k + 1, f, env => if env k then tval k (f.drop (2 ^ k)) env else tval k (f.take (2 ^ k)) env
theorem tval_mem : ∀ (k : Nat) (f : List Bool) (env : Nat → Bool), f.length = 2 ^ k → tval k f env ∈ f
  | 0, f, env, h => by
    match f, h with
    | [x], _ => simp [tval]
  | k + 1, f, env, h => by
    have hp : 2 ^ (k + 1) = 2 * 2 ^ k := by rw [Nat.pow_succ]; omega
    unfold tval
    split
    · exact List.mem_of_mem_drop (tval_mem k _ env (by rw [List.length_drop]; omega))
    · exact List.mem_of_mem_take (tval_mem k _ env (by rw [List.length_take]; omega))
theorem tval_at : ∀ (k : Nat) (f : List Bool) (w : Nat), f.length = 2 ^ k → tval k f w.testBit = f.getD (w % 2 ^ k) false
  | 0, f, w, h => by simp [tval, Nat.mod_one]
  | k + 1, f, w, h => by
    have hp : 2 ^ (k + 1) = 2 * 2 ^ k := by rw [Nat.pow_succ]; omega
    have hm : w % 2 ^ (k + 1) = w % 2 ^ k + 2 ^ k * (w / 2 ^ k % 2) := by rw [Nat.pow_succ, Nat.mod_mul]
    have hlt : w % 2 ^ k < 2 ^ k := Nat.mod_lt _ (Nat.two_pow_pos k)
    have hb : w.testBit k = decide (w / 2 ^ k % 2 = 1) := by rw [Nat.testBit_eq_decide_div_mod_eq]
    unfold tval
    rw [hb]
    by_cases h1 : w / 2 ^ k % 2 = 1
    · rw [decide_eq_true h1, if_pos rfl, tval_at k _ w (by rw [List.length_drop]; omega), hm, h1, List.getD_eq_getElem?_getD, List.getD_eq_getElem?_getD, List.getElem?_drop]
      congr 2; omega
    · rw [decide_eq_false h1, if_neg (by simp), tval_at k _ w (by rw [List.length_take]; omega), hm, show w / 2 ^ k % 2 = 0 by omega, List.getD_eq_getElem?_getD, List.getD_eq_getElem?_getD, List.getElem?_take_of_lt hlt]
      simp
theorem gb_has (l : List Bool) (x : Bool) : slices_Contains_Lboolbool l x = some (l.any (x == ·)) := by
  unfold slices_Contains_Lboolbool slices_Index_Lboolbool
  rcases forL_at (body := slices_Index_Lboolbool_b1 x) (fin := fun _ => (Esc.brk () : Esc Int Unit)) (p := (x == ·)) (g := fun j => Esc.ret j) (l := l)
    (fun i a _ => by unfold slices_Index_Lboolbool_b1; cases (x == a) <;> rfl) (i := 0) with ⟨h1, h2⟩ | ⟨h1, j, h2, h3, h4⟩
  · rw [h2, h1]; rfl
  · rw [h4, h1]; simp [h2]
theorem len_ne {α β : Type} (a : List α) (b : List β) : (((a.length : Int)) != (b.length : Int)) = !decide (a.length = b.length) := by
  by_cases h : a.length = b.length
  · simp [h]
  · have : ¬ ((a.length : Int) = (b.length : Int)) := by omega
    simp [h, this]
theorem gb_eqs (a b : List Bool) : slices_Equal_Lboolbool a b = some (decide (a = b)) := by
  unfold slices_Equal_Lboolbool
  rw [len_ne]
  by_cases h : a.length = b.length
  · rw [forL_eqs (q := b) (fun n x c hc => by
      unfold slices_Equal_Lboolbool_b1
      rw [idx_nat, hc, bind_some']
      by_cases hx : x = c
      · subst hx; simp
      · have : (x == c) = false := by simpa using hx
        simp [hx, this]) h]
    by_cases hab : a = b <;> simp [h, hab]
  · have : a ≠ b := fun e => h (by rw [e])
    simp [h, this]
theorem sub_lo {α : Type} (f : List α) (h : Nat) : sub f (0 : Int) (h : Int) = f.take h := by simp [sub]
theorem sub_hi {α : Type} (f : List α) (h : Nat) : sub f (h : Int) (f.length : Int) = f.drop h := by
  simp only [sub, Int.toNat_natCast]
  rw [List.take_of_length_le (by simp)]
/-- a table's circuit -/
theorem table_ok {n : Nat} (hn : n ≤ 5) : ∀ (k fuel : Nat), k < fuel → ∀ (f : List Bool) (L : List Gt) (m : GMap), f.length = 2 ^ (k + 1) → k + 1 ≤ n → MkrOk n L m → L.length + 9 * 2 ^ k ≤ 1000000 →
    ∃ (i : Nat) (L' : List Gt) (m' : GMap), gate_Maker_table_i2 fuel ((k + 1 : Nat) : Int) f L m = some ((i : Int), L', m') ∧ Grown n L L' m' i (9 * 2 ^ k - 5) (3 * 2 ^ k - 3) ∧ ∀ env, (gall env L').getD i false = tval (k + 1) f env := by
  intro k
  induction k with
  | zero =>
    intro fuel hf f L m hlen hk hmk hl
    obtain ⟨fuel, rfl⟩ : ∃ k, fuel = k + 1 := ⟨fuel - 1, by omega⟩
    match f, hlen with
    | [x, y], _ =>
      unfold gate_Maker_table_i2 gate_Maker_table_i2_step
      have e0 : idx [x, y] (0 : Int) = some x := rfl
      rw [e0, bind_some', gb_has, bind_some']
      by_cases hxy : y = x
      · subst hxy
        have : (!([y, y].any ((!y) == ·))) = true := by cases y <;> rfl
        rw [bif_t this]
        obtain ⟨i, L', m', h1, h2, h3⟩ := put_const (by omega) hmk (by omega) y
        refine ⟨i, L', m', ?_, ⟨h2.mkr, h2.pre, by have := h2.len; omega, by have := h2.cnt; omega, h2.lt⟩, ?_⟩
        · rw [h1]; rfl
        · intro env; rw [h3]; simp [tval]
      · have : (!([x, y].any ((!x) == ·))) = false := by revert hxy; cases x <;> cases y <;> simp
        rw [this, cond_false]
        have hw1 : w64 (Int.tdiv (List.length [x, y] : Int) (2 : Int)) = 1 := show w64 (Int.tdiv 2 2) = 1 by decide
        have hw2 : (List.length [x, y] : Int) = 2 := rfl
        rw [hw1]
        have c1 : ck (0 ≤ (0 : Int) ∧ (0 : Int) ≤ 1 ∧ 1 ≤ (List.length [x, y] : Int)) = some () := ck_ok (by simp)
        have c2 : ck (0 ≤ (1 : Int) ∧ 1 ≤ (List.length [x, y] : Int) ∧ (List.length [x, y] : Int) ≤ (List.length [x, y] : Int)) = some () := ck_ok (by simp)
        rw [c1, bind_some', c2, bind_some']
        rw [show sub [x, y] (0 : Int) 1 = [x] from rfl, show sub [x, y] 1 (List.length [x, y] : Int) = [y] from rfl]
        rw [gb_eqs, bind_some', show decide ([x] = [y]) = false by simp [Ne.symm hxy], cond_false]
        obtain ⟨i, L1, m1, h1, h2, h3, h4⟩ := put_in hmk (by omega) (show 0 < n by omega)
        have h1' : gate_Maker_Put_i2 (1 : Int) (w64 (((0 + 1 : Nat) : Int) - (1 : Int))) (0 : Int) L m = some ((i : Int), L1, m1) := by
          rw [show w64 (((0 + 1 : Nat) : Int) - (1 : Int)) = ((0 : Nat) : Int) by decide]; exact h1
        rw [h1', bind_some', show ((((0 + 1 : Nat) : Int)) == (1 : Int)) = true from rfl, cond_true, show idx [x] (0 : Int) = some x from rfl, bind_some']
        cases x
        · refine ⟨i, L1, m1, rfl, ⟨h2.mkr, h2.pre, by have := h2.len; omega, by have := h2.cnt; omega, h2.lt⟩, ?_⟩
          intro env
          have : y = true := by revert hxy; cases y <;> simp
          rw [h4, this]; cases hh : env 0 <;> simp [tval, hh]
        · have l2 := h2.len
          obtain ⟨j, L2, m2, k1, k2, k3, k4⟩ := put_not h2.mkr (by omega) (show 0 < n by omega) h3
          rw [cond_true]
          simp only []
          rw [k1]
          have G := h2.trans k2
          refine ⟨j, L2, m2, rfl, ⟨G.mkr, G.pre, by have := G.len; omega, by have := G.cnt; omega, G.lt⟩, ?_⟩
          intro env
          have : y = false := by revert hxy; cases y <;> simp
          rw [k4, h4, this]; cases hh : env 0 <;> simp [tval, hh]
  | succ k ih =>
    intro fuel hf f L m hlen hk hmk hl
    obtain ⟨fuel, rfl⟩ : ∃ k, fuel = k + 1 := ⟨fuel - 1, by omega⟩
    have hp1 : 2 ^ (k + 1) = 2 * 2 ^ k := by rw [Nat.pow_succ]; omega
    have hp2 : 2 ^ (k + 2) = 4 * 2 ^ k := by rw [Nat.pow_succ, Nat.pow_succ]; omega
    have hp0 := Nat.two_pow_pos k
    have hk4 : 2 ^ k ≤ 16 := by
      have : k ≤ 4 := by omega
      exact Nat.pow_le_pow_right (n := 2) (by decide) this
    have hlen2 : f.length = 4 * 2 ^ k := by rw [hlen, ← hp2]
    unfold gate_Maker_table_i2 gate_Maker_table_i2_step
    obtain ⟨x, e0, e0'⟩ := idx_get (xs := f) (i := 0) (by omega) (by omega)
    rw [e0, bind_some', gb_has, bind_some']
    have hhalf : w64 (Int.tdiv (List.length f : Int) (2 : Int)) = ((2 ^ (k + 1) : Nat) : Int) := by
      have : Int.tdiv (List.length f : Int) (2 : Int) = ((2 ^ (k + 1) : Nat) : Int) := by
        rw [Int.tdiv_eq_ediv_of_nonneg (by omega)]; omega
      rw [this, w64_id (by omega) (by omega)]
    rw [hhalf]
    have hlo : sub f (0 : Int) ((2 ^ (k + 1) : Nat) : Int) = f.take (2 ^ (k + 1)) := sub_lo f _
    have hhi : sub f ((2 ^ (k + 1) : Nat) : Int) (List.length f : Int) = f.drop (2 ^ (k + 1)) := sub_hi f _
    have lo_len : (f.take (2 ^ (k + 1))).length = 2 ^ (k + 1) := by rw [List.length_take]; omega
    have hi_len : (f.drop (2 ^ (k + 1))).length = 2 ^ (k + 1) := by rw [List.length_drop]; omega
    by_cases hc : f.any ((!x) == ·) = true
    · rw [hc, Bool.not_true, cond_false]
      have c1 : ck (0 ≤ (0 : Int) ∧ (0 : Int) ≤ ((2 ^ (k + 1) : Nat) : Int) ∧ ((2 ^ (k + 1) : Nat) : Int) ≤ (List.length f : Int)) = some () := ck_ok (by omega)
      have c2 : ck (0 ≤ ((2 ^ (k + 1) : Nat) : Int) ∧ ((2 ^ (k + 1) : Nat) : Int) ≤ (List.length f : Int) ∧ (List.length f : Int) ≤ (List.length f : Int)) = some () := ck_ok (by omega)
      rw [c1, bind_some', c2, bind_some', hlo, hhi, gb_eqs, bind_some']
      have hw : w64 (((k + 1 + 1 : Nat) : Int) - (1 : Int)) = ((k + 1 : Nat) : Int) := by rw [w64_id (by omega) (by omega)]; omega
      rw [hw]
      by_cases heq : f.take (2 ^ (k + 1)) = f.drop (2 ^ (k + 1))
      · rw [decide_eq_true heq, cond_true]
        obtain ⟨i, L', m', h1, h2, h3⟩ := ih fuel (by omega) (f.take (2 ^ (k + 1))) L m lo_len (by omega) hmk (by omega)
        refine ⟨i, L', m', by rw [h1]; rfl, ⟨h2.mkr, h2.pre, by have := h2.len; omega, by have := h2.cnt; omega, h2.lt⟩, ?_⟩
        intro env
        rw [h3]
        conv => rhs; unfold tval
        rw [← heq]; simp
      · rw [decide_eq_false heq, cond_false]
        obtain ⟨i1, L1, m1, a1, G1, g1, v1⟩ := put_in hmk (by omega) (show k + 1 < n by omega)
        have l1 := G1.len
        obtain ⟨i2, L2, m2, a2, G2, g2, v2⟩ := put_not G1.mkr (by omega) (show k + 1 < n by omega) g1
        have l2 := G2.len
        obtain ⟨i3, L3, m3, a3, G3, v3⟩ := ih fuel (by omega) (f.take (2 ^ (k + 1))) L2 m2 lo_len (by omega) G2.mkr (by omega)
        have l3 := G3.len
        obtain ⟨i4, L4, m4, a4, G4, v4⟩ := ih fuel (by omega) (f.drop (2 ^ (k + 1))) L3 m3 hi_len (by omega) G3.mkr (by omega)
        have l4 := G4.len
        have q1 := G1.lt
        have q2 := G2.lt
        have q3 := G3.lt
        have q4 := G4.lt
        have w2 := G2.pre.length_le
        have w3 := G3.pre.length_le
        have w4 := G4.pre.length_le
        obtain ⟨i5, L5, m5, a5, G5, g5, v5⟩ := nput G4.mkr (by omega) 3 (i2 : Int) (i3 : Int) ⟨by simp, by simp, fun _ => by simp; omega, fun _ => by simp; omega⟩
        have l5 := G5.len
        have q5 := G5.lt
        have w5 := G5.pre.length_le
        obtain ⟨i6, L6, m6, a6, G6, g6, v6⟩ := nput G5.mkr (by omega) 3 (i1 : Int) (i4 : Int) ⟨by simp, by simp, fun _ => by simp; omega, fun _ => by simp; omega⟩
        have l6 := G6.len
        have q6 := G6.lt
        have w6 := G6.pre.length_le
        obtain ⟨i7, L7, m7, a7, G7, g7, v7⟩ := nput G6.mkr (by omega) 4 (i5 : Int) (i6 : Int) ⟨by simp, by simp, fun _ => by simp; omega, fun _ => by simp; omega⟩
        have G := (((((G1.trans G2).trans G3).trans G4).trans G5).trans G6).trans G7
        have hb : ((((k + 1 + 1 : Nat) : Int)) == (1 : Int)) = false := by simp; omega
        rw [a1, bind_some', hb, cond_false]; simp only []
        rw [a2, bind_some']; simp only []
        rw [a3, bind_some']; simp only []
        rw [a4, bind_some']; simp only []
        rw [a5, bind_some']; simp only []
        rw [a6, bind_some']; simp only []
        rw [a7]
        refine ⟨i7, L7, m7, rfl, ⟨G.mkr, G.pre, by have := G.len; omega, by have := G.cnt; omega, G.lt⟩, ?_⟩
        intro env
        have u1 : ∀ env, (gall env L5).getD i1 false = env (k + 1) := fun env => by
          rw [gall_pre env (((G2.pre.trans G3.pre).trans G4.pre).trans G5.pre) q1, v1]
        have u2 : (gall env L4).getD i2 false = !env (k + 1) := by
          rw [gall_pre env (G3.pre.trans G4.pre) q2, v2, v1]
        have u3 : (gall env L4).getD i3 false = tval (k + 1) (f.take (2 ^ (k + 1))) env := by
          rw [gall_pre env G4.pre q3, v3]
        have u4 : (gall env L5).getD i4 false = tval (k + 1) (f.drop (2 ^ (k + 1))) env := by
          rw [gall_pre env G5.pre q4, v4]
        have u5 : (gall env L6).getD i5 false = (!env (k + 1) && tval (k + 1) (f.take (2 ^ (k + 1))) env) := by
          rw [gall_pre env G6.pre q5, v5, gval_at3 env _ rfl, Int.toNat_natCast, Int.toNat_natCast, u2, u3]
        have u6 : (gall env L6).getD i6 false = (env (k + 1) && tval (k + 1) (f.drop (2 ^ (k + 1))) env) := by
          rw [v6, gval_at3 env _ rfl, Int.toNat_natCast, Int.toNat_natCast, u1, u4]
        rw [v7, gval_at4 env _ rfl, Int.toNat_natCast, Int.toNat_natCast, u5, u6]
        conv => rhs; unfold tval
        cases env (k + 1) <;> simp
    · have hc' : f.any ((!x) == ·) = false := by simpa using hc
      rw [hc', Bool.not_false, cond_true]
      obtain ⟨i, L', m', h1, h2, h3⟩ := put_const (by omega) hmk (by omega) x
      refine ⟨i, L', m', ?_, ⟨h2.mkr, h2.pre, by have := h2.len; omega, by have := h2.cnt; omega, h2.lt⟩, ?_⟩
      · rw [h1]; rfl
      · intro env; rw [h3]
        have := tval_mem (k + 2) f env hlen
        have h4 := List.any_eq_false.1 hc' _ this
        revert h4; cases x <;> cases tval (k + 2) f env <;> simp
theorem nat_ne (a b : Nat) : (((a : Int)) != (b : Int)) = !decide (a = b) := by
  by_cases h : a = b
  · simp [h]
  · have : ¬ ((a : Int) = (b : Int)) := by omega
    simp [h, this]
theorem ok_take {a0 : Int} {L : List Gt} (h : GatesOk a0 L) (n : Nat) : GatesOk a0 (L.take n) := by
  intro j g hj
  rw [List.getElem?_take] at hj
  split at hj
  · exact h j g hj
  · cases hj
theorem fcnt_nil (n : Nat) : fcnt n [] = 0 := by
  unfold fcnt
  rw [List.countP_eq_zero]
  intro t _
  simp [flag]
theorem build_ok {k fuel : Nat} (hfu : 6 ≤ fuel) (hk : k ≤ 4) {f : List Bool} (hf : f.length = 2 ^ (k + 1)) :
    ∃ r : List Gt, gate_Build fuel ((k + 1 : Nat) : Int) f = some (r, 0) ∧ 1 ≤ r.length ∧ r.length ≤ 3 * 2 ^ (k + 1) + 3 * (k + 1) + 3 ∧ GatesOk ((k + 1 : Nat) : Int) r ∧
      ∀ env, (gall env r).getD (r.length - 1) false = tval (k + 1) f env := by
  have hk4 : 2 ^ k ≤ 16 := Nat.pow_le_pow_right (n := 2) (by decide) hk
  have hp1 : 2 ^ (k + 1) = 2 * 2 ^ k := by rw [Nat.pow_succ]; omega
  have hp0 := Nat.two_pow_pos k
  unfold gate_Build
  have hb : ((decide (((k + 1 : Nat) : Int) < (1 : Int))) || (decide (((k + 1 : Nat) : Int) > (5 : Int)))) = false := by
    simp only [Bool.or_eq_false_iff, decide_eq_false_iff_not]; omega
  rw [hb, cond_false]
  have c0 : ck (0 ≤ ((k + 1 : Nat) : Int)) = some () := ck_ok (by omega)
  rw [c0, bind_some', bShl_one (by omega), nat_ne, decide_eq_true hf, Bool.not_true, cond_false]
  obtain ⟨i, L, m, e, G, v⟩ := table_ok (n := k + 1) (by omega) k fuel (by omega) f [] none hf (by omega) ⟨fun j g h => by simp at h, mok_nil⟩ (by simp; omega)
  rw [e, bind_some']
  have hcnt := G.cnt
  rw [fcnt_nil] at hcnt
  have hle := fcnt_le (k + 1) L
  have hlt := G.lt
  simp only [List.length_nil] at hcnt
  have e2 : w64 ((i : Int) + 1) = ((i + 1 : Nat) : Int) := by rw [w64_id (by omega) (by omega)]; omega
  simp only []
  rw [e2]
  have c : ck (0 ≤ (0 : Int) ∧ (0 : Int) ≤ ((i + 1 : Nat) : Int) ∧ ((i + 1 : Nat) : Int) ≤ (List.length L : Int)) = some () := ck_ok (by omega)
  rw [c, bind_some', sub_lo]
  have e4 : slices_Clone_LapiGateapiGate (L.take (i + 1)) = some (L.take (i + 1)) := by
    unfold slices_Clone_LapiGateapiGate
    have : ck ((0 : Int) + (List.length (L.take (i + 1)) : Int) ≤ 4294967296) = some () := ck_ok (by rw [List.length_take]; omega)
    rw [this, bind_some']; rfl
  rw [e4]
  have hL : (L.take (i + 1)).length = i + 1 := by rw [List.length_take]; omega
  refine ⟨L.take (i + 1), rfl, by omega, by omega, ok_take G.mkr.ok _, ?_⟩
  intro env
  rw [hL, show i + 1 - 1 = i by omega, ← gall_take, getD_take (by omega)]
  exact v env

abbrev T5 := Int × List Int × List Int
def five (t : T5) : Prop := t.2.1.length = 5 ∧ t.2.2.length = 5
def ap5 (b : List Int) (v : Int) : Int := b.getD v.toNat 0
theorem ap5_idx {b : List Int} (hb : b.length = 5) {v : Int} (hv : 0 ≤ v ∧ v < 5) : idx b v = some (ap5 b v) := by
  obtain ⟨u, h1, h2⟩ := idx_get (xs := b) hv.1 (by omega)
  unfold ap5
  rw [h1, List.getD_eq_getElem?_getD, h2]; rfl
theorem ap5_mem {b : List Int} (hb : b.length = 5) {v : Int} (hv : 0 ≤ v ∧ v < 5) : ap5 b v ∈ b := by
  obtain ⟨u, h1, h2⟩ := idx_get (xs := b) hv.1 (by omega)
  unfold ap5
  rw [List.getD_eq_getElem?_getD, h2]; exact List.mem_of_getElem? h2
/-- a list filled place by place -/
theorem fill5 {body : Int → List Int → Option (Flow (List Int) (List Int))} {f : Nat → Int} (hb : ∀ (i : Nat) (x : List Int), i < 5 → x.length = 5 → body (i : Int) x = some (.next (x.set i (f i)))) :
    forI (0 : Int) (5 : Int) body (fun x => x) [(0 : Int), 0, 0, 0, 0] = some [f 0, f 1, f 2, f 3, f 4] := by
  unfold forI
  rw [if_pos ⟨by omega, by omega⟩]
  show loopI body (fun x => x) 5 0 [(0 : Int), 0, 0, 0, 0] = _
  have h0 := hb 0 [0, 0, 0, 0, 0] (by omega) rfl
  have h1 := hb 1 [f 0, 0, 0, 0, 0] (by omega) rfl
  have h2 := hb 2 [f 0, f 1, 0, 0, 0] (by omega) rfl
  have h3 := hb 3 [f 0, f 1, f 2, 0, 0] (by omega) rfl
  have h4 := hb 4 [f 0, f 1, f 2, f 3, 0] (by omega) rfl
  simp only [List.set_cons_zero, List.set_cons_succ] at h0 h1 h2 h3 h4
  have i0 : ((0 : Nat) : Int) = 0 := rfl
  have i1 : ((1 : Nat) : Int) = 0 + 1 := rfl
  have i2 : ((2 : Nat) : Int) = 0 + 1 + 1 := rfl
  have i3 : ((3 : Nat) : Int) = 0 + 1 + 1 + 1 := rfl
  have i4 : ((4 : Nat) : Int) = 0 + 1 + 1 + 1 + 1 := rfl
  rw [i0] at h0; rw [i1] at h1; rw [i2] at h2; rw [i3] at h3; rw [i4] at h4
  simp only [loopI, h0, h1, h2, h3, h4]
theorem wr_then {g : Nat → Int} {b : List Int} (hb : b.length = 5) (hg : ∀ i, i < 5 → 0 ≤ g i ∧ g i < 5) : wide_then [g 0, g 1, g 2, g 3, g 4] b = some [ap5 b (g 0), ap5 b (g 1), ap5 b (g 2), ap5 b (g 3), ap5 b (g 4)] := by
  unfold wide_then
  rw [fill5 (f := fun i => ap5 b (g i)) (fun i x hi hx => ?_)]
  · rfl
  have hgi : idx [g 0, g 1, g 2, g 3, g 4] (i : Int) = some (g i) := by
    have : i = 0 ∨ i = 1 ∨ i = 2 ∨ i = 3 ∨ i = 4 := by omega
    rcases this with rfl | rfl | rfl | rfl | rfl <;> rfl
  have hxi : ∃ q, idx x (i : Int) = some q := by rw [idx_nat]; exact ⟨_, List.getElem?_eq_getElem (by omega)⟩
  obtain ⟨q, hq⟩ := hxi
  unfold wide_then_b1
  rw [hgi, bind_some', ck_ok (hg i hi), bind_some', ap5_idx hb (hg i hi), bind_some', ck_ok (show 0 ≤ (i : Int) ∧ (i : Int) < 5 by omega), bind_some', hq, bind_some', Int.toNat_natCast]
/-- one order -/
def st5 (w : Nat) (v : Int) (t : T5) : Int := ap5 (bif w.testBit t.1.toNat then t.2.2 else t.2.1) v

def id5 : List Int := [0, 1, 2, 3, 4]
def V5 (p : List Int) : Prop := p.length = 5 ∧ ∀ v ∈ p, 0 ≤ v ∧ v < 5
def PV (p : List Int) : Prop := V5 p ∧ p.Nodup
def thn (a b : List Int) : List Int := a.map (ap5 b)
def RL : List (List Int) := [[1, 2, 3, 4, 0], [1, 2, 4, 0, 3], [1, 3, 0, 4, 2], [1, 3, 4, 2, 0], [1, 4, 0, 2, 3], [1, 4, 3, 0, 2], [2, 0, 3, 4, 1], [2, 0, 4, 1, 3], [2, 3, 1, 4, 0], [2, 3, 4, 0, 1], [2, 4, 1, 0, 3], [2, 4, 3, 1, 0], [3, 0, 1, 4, 2], [3, 0, 4, 2, 1], [3, 2, 0, 4, 1], [3, 2, 4, 1, 0], [3, 4, 0, 1, 2], [3, 4, 1, 2, 0], [4, 0, 1, 2, 3], [4, 0, 3, 1, 2], [4, 2, 0, 1, 3], [4, 2, 3, 0, 1], [4, 3, 0, 2, 1], [4, 3, 1, 0, 2]]
theorem five_of {p : List Int} (h : p.length = 5) : ∃ a b c d e, p = [a, b, c, d, e] := by
  match p, h with
  | [a, b, c, d, e], _ => exact ⟨a, b, c, d, e, rfl⟩
theorem rl_pv {r : List Int} (h : r ∈ RL) : PV r := by
  have key : (RL.all fun r => decide (r.length = 5) && (r.all fun v => decide (0 ≤ v ∧ v < 5)) && decide r.Nodup) = true := by decide +kernel
  have := List.all_eq_true.1 key r h
  simp only [Bool.and_eq_true, decide_eq_true_eq, List.all_eq_true] at this
  exact ⟨⟨this.1.1, this.1.2⟩, this.2⟩
theorem id5_pv : PV id5 := by
  refine ⟨⟨rfl, ?_⟩, by decide⟩
  intro v hv
  simp only [id5, List.mem_cons, List.not_mem_nil, or_false] at hv
  rcases hv with rfl | rfl | rfl | rfl | rfl <;> omega
theorem ap5_in {b : List Int} (hb : V5 b) {v : Int} (hv : 0 ≤ v ∧ v < 5) : 0 ≤ ap5 b v ∧ ap5 b v < 5 := hb.2 _ (ap5_mem hb.1 hv)
theorem thn_v5 {a b : List Int} (ha : V5 a) (hb : V5 b) : V5 (thn a b) := by
  refine ⟨by unfold thn; rw [List.length_map]; exact ha.1, fun v hv => ?_⟩
  obtain ⟨u, hu, rfl⟩ := List.mem_map.1 hv
  exact ap5_in hb (ha.2 u hu)
theorem thn_pv {a b : List Int} (ha : PV a) (hb : PV b) : PV (thn a b) := by
  refine ⟨thn_v5 ha.1 hb.1, ?_⟩
  unfold thn List.Nodup
  rw [List.pairwise_map]
  refine List.Pairwise.imp_of_mem (fun {x y} hx hy hne e => hne ?_) ha.2
  have h1 := ha.1.2 x hx
  have h2 := ha.1.2 y hy
  have l1 : x.toNat < b.length := by rw [hb.1.1]; omega
  have l2 : y.toNat < b.length := by rw [hb.1.1]; omega
  unfold ap5 at e
  rw [List.getD_eq_getElem?_getD, List.getD_eq_getElem?_getD, List.getElem?_eq_getElem l1, List.getElem?_eq_getElem l2] at e
  have := (List.getElem_inj hb.2).1 e
  omega
theorem thn_idl {s : List Int} (h : s.length = 5) : thn id5 s = s := by
  obtain ⟨a, b, c, d, e, rfl⟩ := five_of h
  rfl
theorem ap5_id {v : Int} (hv : 0 ≤ v ∧ v < 5) : ap5 id5 v = v := by
  have : v = 0 ∨ v = 1 ∨ v = 2 ∨ v = 3 ∨ v = 4 := by omega
  rcases this with rfl | rfl | rfl | rfl | rfl <;> rfl
theorem thn_idr {a : List Int} (h : V5 a) : thn a id5 = a := by
  unfold thn
  have : a.map (ap5 id5) = a.map id := List.map_congr_left (fun v hv => ap5_id (h.2 v hv))
  rw [this, List.map_id]
theorem ap5_thn {b c : List Int} (hb : b.length = 5) {v : Int} (hv : 0 ≤ v ∧ v < 5) : ap5 (thn b c) v = ap5 c (ap5 b v) := by
  have l1 : v.toNat < b.length := by omega
  have e : ap5 b v = b[v.toNat] := by unfold ap5; rw [List.getD_eq_getElem?_getD, List.getElem?_eq_getElem l1]; rfl
  rw [e]
  show (thn b c).getD v.toNat 0 = _
  unfold thn
  rw [List.getD_eq_getElem?_getD, List.getElem?_map, List.getElem?_eq_getElem l1]; rfl
theorem thn_assoc {a b c : List Int} (ha : V5 a) (hb : b.length = 5) : thn (thn a b) c = thn a (thn b c) := by
  unfold thn
  rw [List.map_map]
  refine List.map_congr_left (fun v hv => ?_)
  exact (ap5_thn hb (ha.2 v hv)).symm
def sel (w : Nat) (t : T5) : List Int := bif w.testBit t.1.toNat then t.2.2 else t.2.1
def EE (w : Nat) (B : List T5) : List Int := B.foldl (fun x t => thn x (sel w t)) id5
def good (n : Int) (B : List T5) : Prop := ∀ t ∈ B, (0 ≤ t.1 ∧ t.1 < n) ∧ PV t.2.1 ∧ PV t.2.2
theorem sel_pv {n : Int} {B : List T5} (h : good n B) {t : T5} (ht : t ∈ B) (w : Nat) : PV (sel w t) := by
  unfold sel
  cases w.testBit t.1.toNat
  · exact (h t ht).2.1
  · exact (h t ht).2.2
theorem fold_pv {n : Int} (w : Nat) : ∀ (B : List T5), good n B → ∀ x, PV x → PV (B.foldl (fun x t => thn x (sel w t)) x)
  | [], _, x, hx => hx
  | t :: B, h, x, hx => fold_pv w B (fun t' ht => h t' (by simp [ht])) _ (thn_pv hx (sel_pv h (by simp) w))
theorem ee_pv {n : Int} {B : List T5} (h : good n B) (w : Nat) : PV (EE w B) := fold_pv w B h _ id5_pv
theorem ee_from {n : Int} (w : Nat) : ∀ (B : List T5), good n B → ∀ x, PV x → B.foldl (fun x t => thn x (sel w t)) x = thn x (EE w B)
  | [], _, x, hx => (thn_idr hx.1).symm
  | t :: B, h, x, hx => by
    have hB : good n B := fun t' ht => h t' (by simp [ht])
    have hs := sel_pv h (t := t) (by simp) w
    have e1 := ee_from w B hB (thn x (sel w t)) (thn_pv hx hs)
    have e2 := ee_from w B hB (sel w t) hs
    have e3 : EE w (t :: B) = thn (sel w t) (EE w B) := by
      unfold EE at e2 ⊢
      rw [List.foldl_cons, thn_idl hs.1.1, e2]
    rw [List.foldl_cons, e1, e3, thn_assoc hx.1 hs.1.1]
theorem ee_app {n : Int} {B C : List T5} (hB : good n B) (hC : good n C) (w : Nat) : EE w (B ++ C) = thn (EE w B) (EE w C) := by
  have : EE w (B ++ C) = C.foldl (fun x t => thn x (sel w t)) (EE w B) := by unfold EE; rw [List.foldl_append]
  rw [this, ee_from w C hC _ (ee_pv hB w)]
theorem good_app {n : Int} {B C : List T5} (hB : good n B) (hC : good n C) : good n (B ++ C) := fun t ht => by
  rcases List.mem_append.1 ht with h | h
  · exact hB t h
  · exact hC t h
theorem then_eq {a b : List Int} (ha : V5 a) (hb : b.length = 5) : wide_then a b = some (thn a b) := by
  obtain ⟨a0, a1, a2, a3, a4, rfl⟩ := five_of ha.1
  refine wr_then (g := fun i => [a0, a1, a2, a3, a4].getD i 0) hb (fun i hi => ?_)
  have := ha.2 ([a0, a1, a2, a3, a4].getD i 0) (by
    have : i = 0 ∨ i = 1 ∨ i = 2 ∨ i = 3 ∨ i = 4 := by omega
    rcases this with rfl | rfl | rfl | rfl | rfl <;> simp)
  exact this
/-- a change behind the orders -/
theorem behind_eq {n : Int} {B : List T5} (hB : good n B) (hne : B ≠ []) (hl : B.length ≤ 1000000) {c : List Int} (hc : PV c) : ∃ B', wide_behind_i2 c B = some (B', B') ∧ good n B' ∧ B' ≠ [] ∧ B'.length = B.length ∧ ∀ w, EE w B' = thn (EE w B) c := by
  obtain ⟨D, t, rfl⟩ : ∃ D t, B = D ++ [t] := ⟨B.dropLast, B.getLast hne, (List.dropLast_concat_getLast hne).symm⟩
  have ht := hB t (by simp)
  have hD : good n D := fun x hx => hB x (by simp [hx])
  have hi : w64 (((D ++ [t]).length : Int) - 1) = (D.length : Int) := by
    rw [List.length_append] at *
    simp only [List.length_cons, List.length_nil] at *
    rw [w64_id (by omega) (by omega)]; omega
  have hlen : ∀ x : T5, (D ++ [x]).length = (D ++ [t]).length := fun x => by simp
  have hget : ∀ x : T5, idx (D ++ [x]) (D.length : Int) = some x := fun x => by rw [idx_nat, List.getElem?_append_right (Nat.le_refl _)]; simp
  have hset : ∀ x y : T5, List.set (D ++ [x]) (Int.toNat (D.length : Int)) y = D ++ [y] := fun x y => by rw [Int.toNat_natCast, List.set_append_right _ _ (Nat.le_refl _)]; simp
  refine ⟨D ++ [(t.1, thn t.2.1 c, thn t.2.2 c)], ?_, ?_, by simp, by simp, fun w => ?_⟩
  · unfold wide_behind_i2
    rw [hi, hget, bind_some', then_eq ht.2.1.1 hc.1.1, bind_some', then_eq ht.2.2.1 hc.1.1, bind_some', hset, hget, bind_some', hset]
  · intro x hx
    rcases List.mem_append.1 hx with hx | hx
    · exact hD x hx
    · obtain rfl : x = _ := by simpa using hx
      exact ⟨ht.1, thn_pv ht.2.1 hc, thn_pv ht.2.2 hc⟩
  · have e : ∀ x : T5, EE w (D ++ [x]) = thn (EE w D) (sel w x) := fun x => by unfold EE; rw [List.foldl_append]; rfl
    rw [e, e]
    have es : sel w (t.1, thn t.2.1 c, thn t.2.2 c) = thn (sel w t) c := by
      unfold sel
      cases w.testBit t.1.toNat <;> rfl
    rw [es, thn_assoc (ee_pv hD w).1 (sel_pv hB (t := t) (by simp) w).1.1]
theorem back_eq5 {r : List Int} (h : r ∈ RL) : ∃ b, wide_back r = some b ∧ b ∈ RL ∧ thn b r = id5 ∧ thn r b = id5 := by
  have key : (RL.all fun r => match wide_back r with | some b => RL.contains b && thn b r == id5 && thn r b == id5 | none => false) = true := by decide +kernel
  have := List.all_eq_true.1 key r h
  split at this
  · rename_i b hb
    simp only [Bool.and_eq_true, List.contains_iff_mem, beq_iff_eq] at this
    exact ⟨b, hb, this.1.1, this.1.2, this.2⟩
  · cases this
def rnds (r : List Int) : Option (List Int × List Int × List Int × List Int) :=
  (wide_then [(1 : Int), 2, 3, 4, 0] [(2 : Int), 4, 1, 0, 3]).bind fun r33 => (wide_back [(1 : Int), 2, 3, 4, 0]).bind fun r35 => (wide_back [(2 : Int), 4, 1, 0, 3]).bind fun r37 =>
  (wide_then r35 r37).bind fun r39 => (wide_then r33 r39).bind fun r41 => (wide_between r r41).bind fun r43 => (wide_both_1 [(1 : Int), 2, 3, 4, 0] r43).bind fun r45 => (wide_both_1 [(2 : Int), 4, 1, 0, 3] r43).bind fun r47 =>
  (wide_back r45).bind fun r55 => (wide_back r47).bind fun r60 => some (r45, r47, r55, r60)
theorem rnds_eq {r : List Int} (h : r ∈ RL) : ∃ f s fb sb, rnds r = some (f, s, fb, sb) ∧ (f ∈ RL ∧ s ∈ RL ∧ fb ∈ RL ∧ sb ∈ RL) ∧ thn (thn (thn f s) fb) sb = r ∧ thn f fb = id5 ∧ thn s sb = id5 := by
  have key : (RL.all fun r => match rnds r with | some (f, s, fb, sb) => RL.contains f && RL.contains s && RL.contains fb && RL.contains sb && thn (thn (thn f s) fb) sb == r && thn f fb == id5 && thn s sb == id5 | none => false) = true := by decide +kernel
  have := List.all_eq_true.1 key r h
  split at this
  · rename_i f s fb sb hb
    simp only [Bool.and_eq_true, List.contains_iff_mem, beq_iff_eq] at this
    obtain ⟨⟨⟨⟨⟨⟨h1, h2⟩, h3⟩, h4⟩, h5⟩, h6⟩, h7⟩ := this
    exact ⟨f, s, fb, sb, hb, ⟨h1, h2, h3, h4⟩, h5, h6, h7⟩
  · cases this
/-- orders that make a round, if so, and nothing else -/
structure Orders (n : Int) (k : Nat) (c : Nat → Bool) (r : List Int) (B : List T5) : Prop where
  ok : good n B
  ne : B ≠ []
  len : B.length ≤ k
  val : ∀ w, EE w B = bif c w then r else id5
theorem behind_orders {n : Int} {k : Nat} (hk : k ≤ 1000000) {c : Nat → Bool} {r b : List Int} {B : List T5} (h : Orders n k c b B) (hr : PV r) (hb : thn b r = id5) : ∃ B', wide_behind_i2 r B = some (B', B') ∧ Orders n k (fun w => !c w) r B' := by
  have hl := h.len
  obtain ⟨B', h1, h2, h3, h4, h5⟩ := behind_eq h.ok h.ne (by omega) hr
  refine ⟨B', h1, h2, h3, by omega, fun w => ?_⟩
  rw [h5, h.val]
  cases c w with
  | true => exact hb
  | false => exact thn_idl hr.1.1
theorem side_eq {n : Int} {k : Nat} (hk : k ≤ 1000000) {rf : List (Int × (Int × Int)) → Int → List Int → Option (List T5)} {l : List (Int × (Int × Int))} {i : Int} {c : Nat → Bool} (hrf : ∀ r ∈ RL, ∃ B, rf l i r = some B ∧ Orders n k c r B) {r : List Int} (hr : r ∈ RL) (nt : Bool) :
    ∃ B, wide_side rf l i r nt = some B ∧ Orders n k (fun w => c w != nt) r B := by
  unfold wide_side
  cases nt with
  | false =>
    obtain ⟨B, h1, h2⟩ := hrf r hr
    refine ⟨B, by rw [cond_false, h1]; rfl, h2.ok, h2.ne, h2.len, fun w => ?_⟩
    rw [h2.val]; simp
  | true =>
    obtain ⟨b, b1, b2, b3, b4⟩ := back_eq5 hr
    obtain ⟨B, h1, h2⟩ := hrf b b2
    obtain ⟨B', g1, g2⟩ := behind_orders hk h2 (rl_pv hr) b3
    refine ⟨B', by rw [cond_true, b1, bind_some', h1, bind_some', g1]; rfl, g2.ok, g2.ne, g2.len, fun w => ?_⟩
    rw [g2.val]; simp
theorem both_eq {n : Int} {k : Nat} (hk : k ≤ 1000) {rf : List (Int × (Int × Int)) → Int → List Int → Option (List T5)} {l : List (Int × (Int × Int))} {i j : Int} {c d : Nat → Bool} (h1 : ∀ r ∈ RL, ∃ B, rf l i r = some B ∧ Orders n k c r B) (h2 : ∀ r ∈ RL, ∃ B, rf l j r = some B ∧ Orders n k d r B) {r : List Int} (hr : r ∈ RL) (nt : Bool) :
    ∃ B, wide_both rf l i j r nt = some B ∧ Orders n (4 * k) (fun w => (c w != nt) && (d w != nt)) r B := by
  obtain ⟨f, s, fb, sb, e, ⟨m1, m2, m3, m4⟩, v1, v2, v3⟩ := rnds_eq hr
  unfold rnds at e
  obtain ⟨r33, q1, e⟩ := bind_of e
  obtain ⟨r35, q2, e⟩ := bind_of e
  obtain ⟨r37, q3, e⟩ := bind_of e
  obtain ⟨r39, q4, e⟩ := bind_of e
  obtain ⟨r41, q5, e⟩ := bind_of e
  obtain ⟨r43, q6, e⟩ := bind_of e
  obtain ⟨r45, q7, e⟩ := bind_of e
  obtain ⟨r47, q8, e⟩ := bind_of e
  obtain ⟨r55, q9, e⟩ := bind_of e
  obtain ⟨r60, q10, e⟩ := bind_of e
  simp only [Option.some.injEq, Prod.mk.injEq] at e
  obtain ⟨rfl, rfl, rfl, rfl⟩ := e
  obtain ⟨B1, p1, o1⟩ := side_eq (by omega) h1 m1 nt
  obtain ⟨B2, p2, o2⟩ := side_eq (by omega) h2 m2 nt
  obtain ⟨B3, p3, o3⟩ := side_eq (by omega) h1 m3 nt
  obtain ⟨B4, p4, o4⟩ := side_eq (by omega) h2 m4 nt
  have l1 := o1.len
  have l2 := o2.len
  have l3 := o3.len
  have l4 := o4.len
  refine ⟨((B1 ++ B2) ++ B3) ++ B4, ?_, good_app (good_app (good_app o1.ok o2.ok) o3.ok) o4.ok, fun hn => o1.ne (List.append_eq_nil_iff.1 (List.append_eq_nil_iff.1 (List.append_eq_nil_iff.1 hn).1).1).1, by simp; omega, fun w => ?_⟩
  · unfold wide_both
    rw [q1, bind_some', q2, bind_some', q3, bind_some', q4, bind_some', q5, bind_some', q6, bind_some', q7, bind_some', q8, bind_some', p1, bind_some', ck_ok (by omega), bind_some', p2, bind_some', ck_ok (by omega), bind_some', q9, bind_some', p3, bind_some',
      ck_ok (by rw [List.length_append]; omega), bind_some', q10, bind_some', p4, bind_some', ck_ok (by rw [List.length_append, List.length_append]; omega), bind_some']
  · rw [ee_app (good_app (good_app o1.ok o2.ok) o3.ok) o4.ok, ee_app (good_app o1.ok o2.ok) o3.ok, ee_app o1.ok o2.ok, o1.val, o2.val, o3.val, o4.val]
    have g1 := rl_pv m1
    have g2 := rl_pv m2
    have g3 := rl_pv m3
    have g4 := rl_pv m4
    cases (c w != nt) <;> cases (d w != nt)
    · rfl
    · simp only [cond_true, cond_false, Bool.false_and]
      rw [thn_idl g2.1.1, thn_idr g2.1, v3]
    · simp only [cond_true, cond_false, Bool.and_false]
      rw [thn_idr g1.1, v2]; rfl
    · exact v1
/-- BARRINGTON: the orders of a gate -/
theorem build_eq {n : Int} {l : List (Int × (Int × Int))} (hok : GatesOk n l) {D : List Int} (hD : ∀ (j : Nat) g, l[j]? = some g → D[j]? = some (dval D g)) (hD0 : ∀ (j : Nat) v, D[j]? = some v → 0 ≤ v) :
    ∀ (i : Nat) g (fuel k : Nat), l[i]? = some g → i < fuel → D[i]? = some (k : Int) → k ≤ 4 → ∀ r ∈ RL, ∃ B, wide_build fuel l (i : Int) r = some B ∧ Orders n (4 ^ k) (fun w => (gall w.testBit l).getD i false) r B := by
  intro i
  induction i using Nat.strongRecOn with
  | ind i ih =>
    intro g fuel k hg hf hk hk4 r hr
    obtain ⟨f, rfl⟩ : ∃ f, fuel = f + 1 := ⟨fuel - 1, by omega⟩
    obtain ⟨h1, h2, h3, h4⟩ := hok i g hg
    have hil := (List.getElem?_eq_some_iff.1 hg).1
    have hidx : idx l (i : Int) = some g := by rw [idx_nat, hg]
    have hdv : (k : Int) = dval D g := by
      have := hD i g hg
      rw [hk] at this
      exact Option.some.inj this
    have hval : ∀ w : Nat, (gall w.testBit l).getD i false = gval w.testBit (gall w.testBit l) g := fun w => by rw [List.getD_eq_getElem?_getD, gall_get' hok w.testBit hg]; rfl
    have hDl : ∀ (j : Nat), j < l.length → ∃ v : Nat, D[j]? = some (v : Int) := by
      intro j hj
      have := hD j l[j] (List.getElem?_eq_getElem hj)
      have h0 := hD0 j _ this
      exact ⟨(dval D l[j]).toNat, by rw [this, Int.toNat_of_nonneg h0]⟩
    -- orders of a gate ahead
    have sub1 : ∀ j : Int, 0 ≤ j → j < (i : Int) → ∀ q : Nat, D.getD j.toNat 0 ≤ (q : Int) → q ≤ 4 → ∀ r ∈ RL, ∃ B, wide_build f l j r = some B ∧ Orders n (4 ^ q) (fun w => (gall w.testBit l).getD j.toNat false) r B := by
      intro j j0 j1 q hq hq4 r hr
      obtain ⟨v, hv⟩ := hDl j.toNat (by omega)
      have hvq : v ≤ q := by
        rw [List.getD_eq_getElem?_getD, hv] at hq
        simp only [Option.getD_some] at hq
        omega
      obtain ⟨B, b1, b2⟩ := ih j.toNat (by omega) l[j.toNat] f v (List.getElem?_eq_getElem (by omega)) (by omega) hv (by omega) r hr
      rw [Int.toNat_of_nonneg j0] at b1
      exact ⟨B, b1, b2.ok, b2.ne, Nat.le_trans b2.len (Nat.pow_le_pow_right (by omega) hvq), b2.val⟩
    show ∃ B, wide_build_step (wide_build f) f l (i : Int) r = some B ∧ _
    unfold wide_build_step
    rw [hidx, bind_some']
    have p4 : ∀ q : Nat, q ≤ 4 → 4 ^ q ≤ 256 := fun q hq => by
      have := Nat.pow_le_pow_right (n := 4) (by omega) hq
      simpa using this
    have hk5 : g.1 = 1 ∨ g.1 = 2 ∨ g.1 = 3 ∨ g.1 = 4 := by omega
    rcases hk5 with e | e | e | e
    · have hin := h2 e
      rw [show (g.1 == (1 : Int)) = true by simp [e], cond_true]
      refine ⟨_, rfl, ?_, by simp, Nat.one_le_pow _ _ (by omega), fun w => ?_⟩
      · intro t ht
        obtain rfl : t = (g.2.1, [0, 1, 2, 3, 4], r) := by simpa using ht
        exact ⟨hin, id5_pv, rl_pv hr⟩
      · rw [hval]
        unfold gval
        rw [if_pos e]
        show thn id5 (sel w (g.2.1, [0, 1, 2, 3, 4], r)) = _
        unfold sel
        simp only
        cases w.testBit g.2.1.toNat with
        | true => exact thn_idl (rl_pv hr).1.1
        | false => rfl
    · have hj := h3 (by omega)
      obtain ⟨q, rfl⟩ : ∃ q, k = q + 1 := ⟨k - 1, by
        unfold dval at hdv
        rw [if_neg (by omega), if_pos e] at hdv
        obtain ⟨v, hv⟩ := hDl g.2.1.toNat (by omega)
        rw [List.getD_eq_getElem?_getD, hv] at hdv
        simp only [Option.getD_some] at hdv
        omega⟩
      have hdq : D.getD g.2.1.toNat 0 ≤ (q : Int) := by
        unfold dval at hdv
        rw [if_neg (by omega), if_pos e] at hdv
        omega
      obtain ⟨b, b1, b2, b3, b4⟩ := back_eq5 hr
      obtain ⟨B, g1, g2⟩ := sub1 g.2.1 hj.1 hj.2 q hdq (by omega) b b2
      have := p4 q (by omega)
      obtain ⟨B', q1, q2⟩ := behind_orders (by omega) g2 (rl_pv hr) b3
      rw [show (g.1 == (1 : Int)) = false by simp [e], cond_false, show (g.1 == (2 : Int)) = true by simp [e], cond_true, b1, bind_some', g1, bind_some', q1, bind_some']
      refine ⟨B', rfl, q2.ok, q2.ne, Nat.le_trans q2.len (Nat.pow_le_pow_right (by omega) (by omega)), fun w => ?_⟩
      rw [q2.val, hval]
      unfold gval
      rw [if_neg (by omega), if_pos e]
    · have hj := h3 (by omega)
      have hj2 := h4 (by omega)
      have hdq : ∃ q : Nat, k = q + 1 ∧ D.getD g.2.1.toNat 0 ≤ (q : Int) ∧ D.getD g.2.2.toNat 0 ≤ (q : Int) := by
        unfold dval at hdv
        rw [if_neg (by omega), if_neg (by omega)] at hdv
        obtain ⟨v, hv⟩ := hDl g.2.1.toNat (by omega)
        have e1 : D.getD g.2.1.toNat 0 = (v : Int) := by rw [List.getD_eq_getElem?_getD, hv]; rfl
        unfold imax at hdv
        refine ⟨k - 1, ?_, ?_, ?_⟩
        · split at hdv <;> omega
        · split at hdv <;> omega
        · split at hdv <;> omega
      obtain ⟨q, rfl, d1, d2⟩ := hdq
      have := p4 q (by omega)
      obtain ⟨B, g1, g2⟩ := both_eq (k := 4 ^ q) (by omega) (sub1 g.2.1 hj.1 hj.2 q d1 (by omega)) (sub1 g.2.2 hj2.1 hj2.2 q d2 (by omega)) hr false
      rw [show (g.1 == (1 : Int)) = false by simp [e], cond_false, show (g.1 == (2 : Int)) = false by simp [e], cond_false, show (g.1 == (3 : Int)) = true by simp [e], cond_true, g1, bind_some']
      refine ⟨B, rfl, g2.ok, g2.ne, by rw [Nat.pow_succ, Nat.mul_comm]; exact g2.len, fun w => ?_⟩
      rw [g2.val, hval]
      unfold gval
      rw [if_neg (by omega), if_neg (by omega), if_pos e]
      simp
    · have hj := h3 (by omega)
      have hj2 := h4 (by omega)
      have hdq : ∃ q : Nat, k = q + 1 ∧ D.getD g.2.1.toNat 0 ≤ (q : Int) ∧ D.getD g.2.2.toNat 0 ≤ (q : Int) := by
        unfold dval at hdv
        rw [if_neg (by omega), if_neg (by omega)] at hdv
        obtain ⟨v, hv⟩ := hDl g.2.1.toNat (by omega)
        have e1 : D.getD g.2.1.toNat 0 = (v : Int) := by rw [List.getD_eq_getElem?_getD, hv]; rfl
        unfold imax at hdv
        refine ⟨k - 1, ?_, ?_, ?_⟩
        · split at hdv <;> omega
        · split at hdv <;> omega
        · split at hdv <;> omega
      obtain ⟨q, rfl, d1, d2⟩ := hdq
      have := p4 q (by omega)
      obtain ⟨b, b1, b2, b3, b4⟩ := back_eq5 hr
      obtain ⟨B, g1, g2⟩ := both_eq (k := 4 ^ q) (by omega) (sub1 g.2.1 hj.1 hj.2 q d1 (by omega)) (sub1 g.2.2 hj2.1 hj2.2 q d2 (by omega)) b2 true
      obtain ⟨B', q1, q2⟩ := behind_orders (by omega) g2 (rl_pv hr) b3
      rw [show (g.1 == (1 : Int)) = false by simp [e], cond_false, show (g.1 == (2 : Int)) = false by simp [e], cond_false, show (g.1 == (3 : Int)) = false by simp [e], cond_false, b1, bind_some', g1, bind_some', q1, bind_some']
      refine ⟨B', rfl, q2.ok, q2.ne, by rw [Nat.pow_succ, Nat.mul_comm]; exact q2.len, fun w => ?_⟩
      rw [q2.val, hval]
      unfold gval
      rw [if_neg (by omega), if_neg (by omega), if_neg (by omega)]
      cases (gall w.testBit l).getD g.2.1.toNat false <;> cases (gall w.testBit l).getD g.2.2.toNat false <;> rfl
theorem ee_fold (w : Nat) : ∀ (B : List T5) (x : List Int), B.foldl (fun x t => thn x (sel w t)) x = x.map (fun v => B.foldl (st5 w) v)
  | [], x => by simp
  | t :: B, x => by
    rw [List.foldl_cons, ee_fold w B]
    unfold thn
    rw [List.map_map]
    rfl

theorem bits_eq {n w : Nat} (hn : n ≤ 60) (hw : w < 2 ^ 60) : ref_Bits (n : Int) (w : Int) = some (bitsOf n w) := by
  have hw2 : w < 2 ^ 63 := Nat.lt_trans hw (by decide)
  unfold ref_Bits
  obtain ⟨y, h1, h2⟩ := forI_inv (body := ref_Bits_b1 (w : Int)) (fin := fun x11 => x11) (lo := 0) (hi := (n : Int)) (x := []) (fun i x => x = bitsOf i.toNat w) (fun y => y = bitsOf n w) (by omega) (by omega) rfl
    (by
      rintro i x h0 hi rfl
      obtain ⟨j, rfl⟩ := Int.eq_ofNat_of_zero_le h0
      have hck : ck ((List.length (bitsOf j w) : Int) + 1 ≤ 4294967296) = some () := ck_ok (by rw [bitsOf_len]; omega)
      unfold ref_Bits_b1
      rw [Int.toNat_natCast, bit_eq hw2 (by omega), bind_some', hck, bind_some']
      refine ⟨_, rfl, ?_⟩
      have e : ((j : Int) + 1).toNat = j + 1 := by omega
      rw [e]
      unfold bitsOf
      rw [List.range_succ, List.map_append]; rfl)
    (by
      rintro i x h0 h1 h2 rfl
      have : i.toNat = n := by omega
      rw [this])
  rw [h1, h2]; rfl

theorem tf_is {p : List Int} (h : PV p) : wide_is p = some true := by
  have key : ∀ a b c d e : Fin 5, [(a.val : Int), (b.val : Int), (c.val : Int), (d.val : Int), (e.val : Int)].Nodup → wide_is [(a.val : Int), (b.val : Int), (c.val : Int), (d.val : Int), (e.val : Int)] = some true := by decide +kernel
  obtain ⟨⟨hl, hv⟩, hn⟩ := h
  obtain ⟨a, b, c, d, e, rfl⟩ := five_of hl
  have fin : ∀ v : Int, 0 ≤ v ∧ v < 5 → ∃ q : Fin 5, v = (q.val : Int) := fun v h => ⟨⟨v.toNat, by omega⟩, by simp; omega⟩
  obtain ⟨a, rfl⟩ := fin a (hv a (by simp))
  obtain ⟨b, rfl⟩ := fin b (hv b (by simp))
  obtain ⟨c, rfl⟩ := fin c (hv c (by simp))
  obtain ⟨d, rfl⟩ := fin d (hv d (by simp))
  obtain ⟨e, rfl⟩ := fin e (hv e (by simp))
  exact key a b c d e hn
theorem tf_run {n : Nat} (hn : n ≤ 5) {B : List T5} (hl : B.length ≤ 300) (h : good (n : Int) B) (w : Nat) : wide_Run (n : Int) B (bitsOf n w) = some (EE w B, 0) := by
  unfold wide_Run
  have hb : (((decide ((n : Int) < (0 : Int))) || (decide ((n : Int) > (5 : Int)))) || (decide ((List.length B : Int) > (300 : Int)))) = false := by
    simp only [Bool.or_eq_false_iff, decide_eq_false_iff_not]; omega
  rw [hb, cond_false]
  obtain ⟨y, h1, rfl⟩ := forL_inv (body := wide_Run_b7 (n : Int)) (fin := fun x59 => (Esc.brk () : Esc (List Int × Int) Unit)) (l := B) (x := ()) (fun _ _ => True) (fun y => y = .brk ()) trivial
    (fun k t x ht _ => by
      obtain ⟨g1, g2, g3⟩ := h t (List.mem_of_getElem? ht)
      refine ⟨.next (), ?_, trivial⟩
      unfold wide_Run_b7
      rw [decide_eq_false (by omega : ¬ t.1 < 0), cond_false, decide_eq_false (by omega : ¬ t.1 ≥ (n : Int)), bind_some', cond_false, tf_is g2, bind_some', Bool.not_true, cond_false, tf_is g3]; rfl) (fun _ _ => rfl)
  rw [h1, bind_some']
  simp only
  rw [bitsOf_len, show (((n : Nat) : Int) != (n : Int)) = false by simp, cond_false]
  obtain ⟨y, h2, rfl⟩ := forL_inv (body := wide_Run_b17 (bitsOf n w)) (fin := fun x160 => x160) (l := B) (x := [(0 : Int), 1, 2, 3, 4]) (fun k x => x = (B.take k).foldl (fun x t => thn x (sel w t)) id5 ∧ V5 x) (fun y => y = EE w B) ⟨rfl, id5_pv.1⟩
    (by
      rintro k t x ht ⟨hx, hv⟩
      obtain ⟨g1, g2, g3⟩ := h t (List.mem_of_getElem? ht)
      obtain ⟨m, hm⟩ : ∃ m : Nat, t.1 = (m : Int) := ⟨t.1.toNat, by omega⟩
      have hb : idx (bitsOf n w) t.1 = some (w.testBit m) := by rw [hm, idx_nat, bitsOf_get (by omega)]
      have hs : sel w t = bif w.testBit m then t.2.2 else t.2.1 := by unfold sel; rw [hm, Int.toNat_natCast]
      have htk : (B.take (k + 1)).foldl (fun x t => thn x (sel w t)) id5 = thn x (sel w t) := by
        rw [List.take_add_one, ht, List.foldl_append, ← hx]; rfl
      refine ⟨.next (thn x (sel w t)), ?_, htk.symm, ?_⟩
      · unfold wide_Run_b17 wide_Run_g15
        rw [hb, hs, bind_some']
        cases w.testBit m with
        | true => rw [cond_true, then_eq hv g3.1.1]; rfl
        | false => rw [cond_false, then_eq hv g2.1.1]; rfl
      · rw [hs]
        cases w.testBit m with
        | true => exact thn_v5 hv g3.1
        | false => exact thn_v5 hv g2.1)
    (by
      rintro x ⟨hx, _⟩
      rw [hx, List.take_length]; rfl)
  rw [h2]; rfl
theorem TopFive_true (a0 : Int) (a1 : List Bool) (f0 : Fits (.int .i64) a0) (f1 : Fits (.slice .bool) a1) : ∃ fuel, top_TopFive fuel a0 a1 = some true := by
  obtain ⟨fuel, hf⟩ : ∃ f : Nat, 1000 ≤ f := ⟨1000, Nat.le_refl _⟩
  refine ⟨fuel, ?_⟩
  unfold top_TopFive
  by_cases h1 : 1 ≤ a0 ∧ a0 ≤ 5
  · obtain ⟨k, rfl⟩ : ∃ k : Nat, a0 = ((k + 1 : Nat) : Int) := ⟨(a0 - 1).toNat, by omega⟩
    have hk : k ≤ 4 := by omega
    have hk4 : 2 ^ k ≤ 16 := Nat.pow_le_pow_right (n := 2) (by decide) hk
    have hp1 : 2 ^ (k + 1) = 2 * 2 ^ k := by rw [Nat.pow_succ]; omega
    have hp0 := Nat.two_pow_pos k
    by_cases hfl : a1.length = 2 ^ (k + 1)
    · obtain ⟨r, hr, r1, r2, r3, r4⟩ := build_ok (fuel := fuel) (by omega) hk hfl
      rw [hr, bind_some', show ((0 : Int) != 0) = false from rfl, cond_false]
      simp only
      unfold wide_Build gate_Deep
      rw [gc_check]
      have hgc : gcAll ((k + 1 : Nat) : Int) r = 0 ∨ gcAll ((k + 1 : Nat) : Int) r = 1 := by
        unfold gcAll
        split
        · left
          cases hfo : firstOf (gc ((k + 1 : Nat) : Int)) 0 r with
          | none => rfl
          | some e =>
            obtain ⟨j, v, hj, hv⟩ := firstOf_some hfo
            obtain ⟨q1, q2, q3, q4⟩ := r3 j v hj
            have c1 : (!decide (1 ≤ v.1 ∧ v.1 ≤ 4)) = false := by rw [decide_eq_true q1]; rfl
            have c2 : ((v.1 == 1) && !decide (0 ≤ v.2.1 ∧ v.2.1 < ((k + 1 : Nat) : Int))) = false := by
              simp only [Bool.not_eq_false', Bool.and_eq_false_iff, decide_eq_true_eq, beq_eq_false_iff_ne, ne_eq]; omega
            have c3 : ((!(v.1 == 1) && !decide (0 ≤ v.2.1 ∧ v.2.1 < (j : Int))) || (decide (v.1 ≥ 3) && !decide (0 ≤ v.2.2 ∧ v.2.2 < (j : Int)))) = false := by
              simp only [Bool.not_eq_false', Bool.and_eq_false_iff, Bool.or_eq_false_iff, decide_eq_true_eq, decide_eq_false_iff_not, beq_iff_eq]; omega
            unfold gc at hv
            rw [c1, c2, c3] at hv
            cases hv
        · exact .inr rfl
      rcases hgc with hz | hz
      · obtain ⟨⟨c1, c2, c3⟩, hok⟩ := gc_valid hz
        obtain ⟨D, d1, d2, d4, d5⟩ := deep_prog hok (by omega)
        obtain ⟨m, hm⟩ : ∃ m, r.length = m + 1 := ⟨r.length - 1, by omega⟩
        have ew : w64 ((List.length r : Int) - 1) = (m : Int) := by rw [w64_id (by omega) (by omega)]; omega
        obtain ⟨q, hq⟩ : ∃ q : Nat, D[m]? = some (q : Int) := by
          have h1 : D[m]? = some D[m] := List.getElem?_eq_getElem (by omega)
          have := d4 m _ h1
          exact ⟨D[m].toNat, by rw [h1, Int.toNat_of_nonneg this.1]⟩
        have hDi : idx D (m : Int) = some (q : Int) := by rw [idx_nat, hq]
        rw [hz, bind_some', show ((0 : Int) != 0) = false from rfl, cond_false, d2, bind_some', ew, hDi, bind_some', bind_some']
        simp only [show ((0 : Int) != 0) = false from rfl, cond_false]
        by_cases h4 : (q : Int) > 4
        · rw [decide_eq_true h4]; rfl
        · rw [decide_eq_false h4, cond_false]
          have hrl : [(1 : Int), 2, 3, 4, 0] ∈ RL := by decide
          obtain ⟨B, b1, b2⟩ := build_eq hok d5 (fun j v hj => (d4 j v hj).1) m r[m] fuel q (List.getElem?_eq_getElem (by omega)) (by omega) hq (by omega) _ hrl
          have p4 : 4 ^ q ≤ 256 := by
            have := Nat.pow_le_pow_right (n := 4) (by omega) (show q ≤ 4 by omega)
            simpa using this
          have hlen := b2.len
          have hne : B.length ≠ 0 := fun e => b2.ne (List.length_eq_zero_iff.1 e)
          rw [b1, bind_some', bind_some']
          simp only [show ((0 : Int) != 0) = false from rfl, cond_false]
          have hem : (((List.length a1 : Int) == 0) || ((List.length B : Int) == 0)) = false := by
            simp only [Bool.or_eq_false_iff, beq_eq_false_iff_ne, ne_eq]; omega
          rw [hem, cond_false]
          obtain ⟨y, hy, rfl⟩ := forL_inv (body := top_TopFive_b4 ((k + 1 : Nat) : Int) (B, 0)) (fin := fun x57 => (Esc.brk () : Esc Bool Unit)) (l := a1) (x := ()) (fun _ _ => True) (fun y => y = .brk ()) trivial
            (fun w v x hv _ => by
              have hw := (List.getElem?_eq_some_iff.1 hv).1
              refine ⟨.next (), ?_, trivial⟩
              have hval : (gall w.testBit r).getD m false = v := by
                have := r4 w.testBit
                rw [hm, Nat.add_sub_cancel] at this
                rw [this, tval_at _ _ _ hfl, Nat.mod_eq_of_lt (by omega), List.getD_eq_getElem?_getD, hv]; rfl
              have hsame : ref_Same = some [0, 1, 2, 3, 4] := rfl
              unfold top_TopFive_b4
              rw [bits_eq (by omega) (Nat.lt_of_lt_of_le (by omega : w < 32) (by decide)), bind_some']
              simp only
              rw [tf_run (by omega) (by omega) b2.ok w, bind_some']
              simp only [show ((0 : Int) != 0) = false from rfl, cond_false]
              rw [hsame, bind_some', b2.val, hval]
              cases v <;> rfl) (fun _ _ => rfl)
          rw [hy]; rfl
      · rw [hz]; rfl
    · have hb : gate_Build fuel ((k + 1 : Nat) : Int) a1 = some ([], 3) := by
        unfold gate_Build
        have hb : ((decide (((k + 1 : Nat) : Int) < (1 : Int))) || (decide (((k + 1 : Nat) : Int) > (5 : Int)))) = false := by
          simp only [Bool.or_eq_false_iff, decide_eq_false_iff_not]; omega
        have c0 : ck (0 ≤ ((k + 1 : Nat) : Int)) = some () := ck_ok (by omega)
        rw [hb, cond_false, c0, bind_some', bShl_one (by omega), nat_ne, decide_eq_false hfl]; rfl
      rw [hb]; rfl
  · have hb : gate_Build fuel a0 a1 = some ([], 1) := by
      unfold gate_Build
      have hb : ((decide (a0 < (1 : Int))) || (decide (a0 > (5 : Int)))) = true := by
        simp only [Bool.or_eq_true, decide_eq_true_eq]; omega
      rw [hb]; rfl
    rw [hb]; rfl

end Go.Proofs.Ythjdegeajfhakaa.topFive
namespace Go.Proofs.Ythjdegeajfhakaa.topFive
open Go.ChangeShapes Go.WideShapes Go.ChangeAt Go.RowKit
open Go.ChangeMaps (open_string shut_string)
theorem own : ownKnob Try.prog.godebug = none := by kernel_rfl
theorem laidOut : laidOutB Try.prog = true := by kernel_rfl
theorem lifted (os : Os) (started : os.Started) (H : Type) (enc : TypeId × Value → H) :
    ReturnsInHanded {} Try.checked os 8 .any (Rows.topFiveSpec.pre6 enc Try.prog Try.f8 Rows.topFiveRow.domain false) (Rows.topFiveSpec.post enc Try.prog Try.f8 false true false false) := by
  refine returnsInHanded_of_change (C := Try.checked) own started (by kernel_rfl) Try.func8
    (ChangeSpec.witness6 (enc := enc) (C := Try.checked) false ⟨#[], #[.int .i64 0, .slice none 0 0], []⟩ 8 (by kernel_rfl) (by kernel_rfl) (by kernel_rfl) (by kernel_rfl)) ?_
  intro W base args ds gs before hval0 hW hcnd _
  have hval : ∀ (j : Nat) t v, Try.f8.params[j]? = some t → args[j]? = some v → Value.okWide Try.prog W .any base t v := hval0
  have hW' := hW
  obtain ⟨p, q, hA0, hV, rfl, hfz, hnd⟩ := hW
  have hA : DataW.TrodAll enc Try.prog W 0 (fun _ => true) true Try.f8.params.toList args.toList ds p := hA0
  rw [Try.params8] at hA hval
  obtain ⟨v0, vs0, d0, ds0, p0, q0, hargs, rfl, rfl, h0, r0⟩ := trodAll_cons hA
  obtain ⟨v1, vs1, d1, ds1, p1, q1, rfl, rfl, rfl, h1, r1⟩ := trodAll_cons r0
  obtain ⟨rfl, rfl, rfl⟩ := trodAll_nil r1
  obtain rfl : args = #[v0, v1] := by cases args; simp_all
  obtain ⟨rfl, rfl⟩ := trodVars_none hV
  obtain ⟨x0, f0, k0⟩ := Go.Sl.read_arg (u := (.int .i64)) (by kernel_rfl) (by kernel_rfl) (hval 0 3 v0 rfl rfl) h0
  have lt0 : ∀ x ∈ p0, x.block < W.heap.size := by obtain ⟨m, hm⟩ := h0; exact DataW.trod_lt m _ _ _ hm
  obtain ⟨x1, f1, k1⟩ := Go.Sl.read_arg (u := (.slice .bool)) (by kernel_rfl) (by kernel_rfl) (hval 1 40 v1 rfl rfl) h1
  have lt1 : ∀ x ∈ p1, x.block < W.heap.size := by obtain ⟨m, hm⟩ := h1; exact DataW.trod_lt m _ _ _ hm
  clear hA0 hval0
  obtain ⟨fuel, hm⟩ := TopFive_true x0 x1 f0 f1
  refine (Go.Sl.law_of (vs := [v0, v1]) (top_TopFive_ok hm) rfl (.cons (k0 _ _) (.cons (k1 _ _) .nil))).mono fun e W' ⟨he, bel⟩ => ?_
  subst he
  exact ⟨_, rfl, _, _, _, [], _, [], hW', trodAll_mk1 (shut_bool Try.underlying4 _), (trodAll_cons_mk (Below.trod laidOut (by kernel_rfl) (of_decide_eq_true (by kernel_rfl)) h0 bel lt0) (trodAll_cons_mk (Below.trod laidOut (by kernel_rfl) (of_decide_eq_true (by kernel_rfl)) h1 bel lt1) trodAll_mk0)), rfl, bel.frame _, fun h => by cases h⟩
theorem proved : Rows.TopFiveSaid :=
  OpenClaim.holds_of_wide 8 Try.f8 rfl rfl rfl rfl rfl rfl rfl ⟨rfl, rfl, rfl, rfl, rfl⟩ rfl rfl rfl rfl rfl (by kernel_rfl) Try.func8 (by kernel_rfl)
    (of_decide_eq_true (by kernel_rfl)) (by unfold Func.isWrapper; first | (rw [if_pos (by decide +kernel)]; kernel_rfl) | (rw [if_neg (by decide +kernel)]; exact ⟨rfl, rfl⟩))
    (fun os started H enc _ => lifted os started H enc)
#print axioms proved
end Go.Proofs.Ythjdegeajfhakaa.topFive
