/- For any table ask.Tree returns a correct tree of questions of the specified depth, or the specified error code: AskTrees returns true and changes nothing; no conditions. -/
import Derived.Test.YtnlibkamomlccaaRows
import Derived.WalkKit
import Derived.ProofKit
import Derived.OpenShut
import Derived.ShutString
import Derived.ChangeOld
import Derived.Below
import Derived.Test.YtnlibkamomlccaaAskTreesM
set_option linter.all false
set_option maxRecDepth 100000
namespace Go.Proofs.Ytnlibkamomlccaa.askTrees
open Go Go.Sl

theorem within_eq (a b c : Int) : ref_Within a b c = some (decide (a ≤ b ∧ b ≤ c)) := by
  unfold ref_Within
  rw [Bool.decide_and]

theorem inside1 (n v : Int) : ref_Inside n [v] = some (decide (0 ≤ v ∧ v < n)) := by
  unfold ref_Inside
  rw [forL_ex (p := fun v => decide (v < 0) || decide (v ≥ n)) (y := Esc.ret false) (fun i a _ => by unfold ref_Inside_b1; cases (decide (a < 0) || decide (a ≥ n)) <;> rfl)]
  by_cases h : 0 ≤ v ∧ v < n
  · have : (decide (v < 0) || decide (v ≥ n)) = false := by simp only [Bool.or_eq_false_iff, decide_eq_false_iff_not]; omega
    simp [this, h]
  · have : (decide (v < 0) || decide (v ≥ n)) = true := by simp only [Bool.or_eq_true, decide_eq_true_eq]; omega
    simp [this, h]

def tbc (a0 : Int) (f : List Bool) (x : Int) : Int :=
  if ¬ (0 ≤ a0 ∧ a0 ≤ 4) then 1 else if f.length ≠ 2 ^ a0.toNat then 3 else if ¬ (0 ≤ x ∧ x < f.length) then 4 else 0
theorem tb_shl {k : Nat} (h : k ≤ 4) : bShl .i64 1 (k : Int) = ((2 ^ k : Nat) : Int) := bShl_one (by omega)
theorem tb_len {f : List Bool} {k : Nat} (h : k ≤ 4) : ((f.length : Int) != bShl .i64 1 (k : Int)) = !decide (f.length = 2 ^ k) := by
  rw [tb_shl h, bne_dec, not_dec]
  exact decide_eq_decide.2 (by omega)
theorem tb_ref (a0 : Int) (f : List Bool) (x : Int) : ref_TableCheck a0 f x = some (tbc a0 f x) := by
  unfold ref_TableCheck tbc
  rw [within_eq, inside1]
  by_cases h : 0 ≤ a0 ∧ a0 ≤ 4
  · obtain ⟨k, rfl⟩ := Int.eq_ofNat_of_zero_le h.1
    rw [wrap_u64 (n := (k : Int)) (by omega) (by omega), ck_ok (by omega), tb_len (by omega), decide_eq_true h, if_neg (by omega), Int.toNat_natCast]
    by_cases hl : f.length = 2 ^ k
    · by_cases hx : 0 ≤ x ∧ x < (f.length : Int)
      · rw [if_neg (by omega), if_neg (by omega), decide_eq_true hl, decide_eq_true hx]; rfl
      · rw [if_neg (by omega), if_pos hx]; rw [decide_eq_false hx, decide_eq_true hl]; rfl
    · rw [if_pos hl, decide_eq_false hl]; rfl
  · rw [if_pos h, decide_eq_false h]; rfl
theorem tb_valid {a0 : Int} {f : List Bool} {x : Int} (h : tbc a0 f x = 0) : ∃ k : Nat, k ≤ 4 ∧ a0 = (k : Int) ∧ f.length = 2 ^ k ∧ 0 ≤ x ∧ x < (f.length : Int) := by
  unfold tbc at h
  split at h
  · omega
  · split at h
    · omega
    · split at h
      · omega
      · rename_i h1 h2 h3
        refine ⟨a0.toNat, by omega, by omega, by omega, by omega, by omega⟩
theorem tb_16 {k n : Nat} (h : k ≤ 4) (hn : n < 2 ^ k) : n < 16 := Nat.lt_of_lt_of_le hn (Nat.pow_le_pow_right (by omega) h)

theorem tb_ask (a0 : Int) (f : List Bool) (x : Int) : ask_wrong a0 f x = some (tbc a0 f x) := by
  unfold ask_wrong tbc
  by_cases h : 0 ≤ a0 ∧ a0 ≤ 4
  · have c : ((decide (a0 < (0 : Int))) || (decide (a0 > (4 : Int)))) = false := by simp only [Bool.or_eq_false_iff, decide_eq_false_iff_not]; omega
    obtain ⟨k, rfl⟩ := Int.eq_ofNat_of_zero_le h.1
    rw [c, ck_ok (by omega), tb_len (by omega), tb_shl (by omega), if_neg (by omega), Int.toNat_natCast]
    by_cases hl : f.length = 2 ^ k
    · rw [if_neg (by omega), decide_eq_true hl]
      by_cases hx : 0 ≤ x ∧ x < (f.length : Int)
      · rw [if_neg (by omega), decide_eq_false (by omega), decide_eq_false (by omega)]; rfl
      · rw [if_pos hx]
        by_cases h0 : x < 0
        · rw [decide_eq_true h0]; rfl
        · rw [decide_eq_false h0, decide_eq_true (by omega)]; rfl
    · rw [if_pos hl, decide_eq_false hl]; rfl
  · have c : ((decide (a0 < (0 : Int))) || (decide (a0 > (4 : Int)))) = true := by simp only [Bool.or_eq_true, decide_eq_true_eq]; omega
    rw [c, if_pos h]; rfl

theorem bit_eq {w i : Nat} (hw : w < 2 ^ 63) (hi : i < 63) : ref_Bit (w : Int) (i : Int) = some (w.testBit i) := by
  unfold ref_Bit
  have c : (decide ((i : Int) ≥ 0) && decide ((i : Int) < 63)) = true := by simp; omega
  have e : IntKind.wrap .u64 (i : Int) = (i : Int) := wrap_u64 (by omega) (by omega)
  rw [c, e, ck_ok (by omega)]
  simp only [cond_true, Option.bind_some, bit_mask hw hi]

theorem ap_mask : ∀ x : Nat, x < 16 → ∀ y : Nat, y < 16 → ∀ m : Nat, m < 16 → x ^^^ y < 16 ∧ (x ^^^ y) &&& m < 16 ∧ ((x ^^^ y) &&& m == 0) = (y &&& m == x &&& m) := by
  decide +kernel
/-- does a table say one thing? -/
def apOne (f : List Bool) (m x : Nat) : Bool := (List.range f.length).all fun y => !((y &&& m == x &&& m) && !(f.getD y false == f.getD x false))
theorem ap_search {f : List Bool} {body : Int → Bool → Unit → Option (Flow Unit (Esc Bool Unit))} {m x : Nat} (hb : ∀ (y : Nat) c, f[y]? = some c → body (y : Int) c () = some (bif (y &&& m == x &&& m) && !(f.getD y false == f.getD x false) then .done (.ret false) else .next ())) :
    (forL body (fun _ => (.brk () : Esc Bool Unit)) f 0 ()).bind (fun v => match v with | .ret r => some r | .brk _ => some true) = some (apOne f m x) := by
  rw [forL_findI (f := fun y _ => bif (y &&& m == x &&& m) && !(f.getD y false == f.getD x false) then some false else none) (g := Esc.ret) (fun y c hc => by
    rw [hb y c hc]
    cases ((y &&& m == x &&& m) && !(f.getD y false == f.getD x false)) <;> rfl)]
  unfold apOne
  cases hf : firstOf (fun y (_ : Bool) => bif (y &&& m == x &&& m) && !(f.getD y false == f.getD x false) then some false else none) 0 f with
  | none =>
    have : ((List.range f.length).all fun y => !((y &&& m == x &&& m) && !(f.getD y false == f.getD x false))) = true := by
      rw [List.all_eq_true]
      intro y hy
      have hy2 : y < f.length := by simpa using hy
      have := firstOf_none hf (List.getElem?_eq_getElem hy2)
      cases hc : ((y &&& m == x &&& m) && !(f.getD y false == f.getD x false)) with
      | false => rfl
      | true => rw [hc] at this; cases this
    rw [this]; rfl
  | some e =>
    obtain ⟨y, c, hy, he⟩ := firstOf_some hf
    have hy2 := (List.getElem?_eq_some_iff.1 hy).1
    have : ((List.range f.length).all fun y => !((y &&& m == x &&& m) && !(f.getD y false == f.getD x false))) = false := by
      rw [List.all_eq_false]
      refine ⟨y, by simpa using hy2, ?_⟩
      cases hc : ((y &&& m == x &&& m) && !(f.getD y false == f.getD x false)) with
      | false => rw [hc] at he; cases he
      | true => simp
    have he2 : e = false := by
      cases hc : ((y &&& m == x &&& m) && !(f.getD y false == f.getD x false)) with
      | false => rw [hc] at he; cases he
      | true => rw [hc] at he; cases he; rfl
    rw [this, he2]; rfl
theorem ap_same {f : List Bool} {m x : Nat} (hl : f.length ≤ 16) (hm : m < 16) (hx : x < f.length) : ask_same f (m : Int) (x : Int) = some (apOne f m x) := by
  unfold ask_same
  refine ap_search (fun y c hc => ?_)
  have hy := (List.getElem?_eq_some_iff.1 hc).1
  obtain ⟨k1, k2, k3⟩ := ap_mask x (by omega) y (by omega) m hm
  have hfx : idx f (x : Int) = some (f.getD x false) := by rw [idx_nat, List.getD_eq_getElem?_getD, List.getElem?_eq_getElem hx]; rfl
  have hfc : f.getD y false = c := by rw [List.getD_eq_getElem?_getD, hc]; rfl
  have e : ((((x ^^^ y) &&& m : Nat) : Int) == 0) = (y &&& m == x &&& m) := by
    rw [← k3, beq_dec, beq_dec]; exact decide_eq_decide.2 (by omega)
  unfold ask_same_b4
  rw [bXor_nat (by omega) (by omega), bAnd_nat (by omega) (by omega), hfx, e, hfc]
  simp only [Option.bind_some]
  cases (y &&& m == x &&& m) <;> cases (c == f.getD x false) <;> rfl
theorem ap_one {f : List Bool} {m x : Nat} (hl : f.length ≤ 16) (hm : m < 16) (hx : x < f.length) : ref_One f (m : Int) (x : Int) = some (apOne f m x) := by
  unfold ref_One
  refine ap_search (fun y c hc => ?_)
  have hy := (List.getElem?_eq_some_iff.1 hc).1
  have hfx : idx f (x : Int) = some (f.getD x false) := by rw [idx_nat, List.getD_eq_getElem?_getD, List.getElem?_eq_getElem hx]; rfl
  have hfc : f.getD y false = c := by rw [List.getD_eq_getElem?_getD, hc]; rfl
  have e : (((y &&& m : Nat) : Int) == ((x &&& m : Nat) : Int)) = (y &&& m == x &&& m) := by
    rw [beq_dec, beq_dec]; exact decide_eq_decide.2 (by omega)
  unfold ref_One_b4
  rw [bAnd_nat (by omega) (by omega), bAnd_nat (by omega) (by omega), hfx, e, hfc]
  simp only [Option.bind_some]
  cases (y &&& m == x &&& m) <;> cases (c == f.getD x false) <;> rfl

theorem al_bits : ∀ m : Nat, m < 16 → ∀ i : Nat, i < 4 → m.testBit i = false → pc (m ||| 2 ^ i) = pc m + 1 ∧ m < m ||| 2 ^ i ∧ m + 2 ^ i = m ||| 2 ^ i ∧ (m ||| 2 ^ i) < 16 := by
  decide +kernel
theorem al_mask : ∀ m : Nat, m < 16 → ∀ i : Nat, i < 4 → (m &&& 2 ^ i = 0 ↔ m.testBit i = false) ∧ 2 ^ i < 16 ∧ (m ||| 2 ^ i) < 16 := by
  decide +kernel
theorem al_clr : ∀ x : Nat, x < 16 → ∀ i : Nat, i < 4 → bClr .i64 (x : Int) ((2 ^ i : Nat) : Int) = ((x - (x &&& 2 ^ i) : Nat) : Int) := by
  decide +kernel
theorem al_full : ∀ k : Nat, k ≤ 4 → ∀ m : Nat, m < 2 ^ k → (∀ i : Nat, i < k → m.testBit i = true) → m = 2 ^ k - 1 := by
  decide +kernel
theorem al_low : ∀ k : Nat, k ≤ 4 → ∀ y : Nat, y < 2 ^ k → y &&& (2 ^ k - 1) = y := by
  decide +kernel
theorem al_pc : ∀ k : Nat, k ≤ 4 → ∀ m : Nat, m < 2 ^ k → pc m ≤ k := by
  decide +kernel
theorem al_or (k : Nat) {m i : Nat} (hm : m < 2 ^ k) (hi : i < k) : m ||| 2 ^ i < 2 ^ k := Nat.or_lt_two_pow hm (Nat.pow_lt_pow_right (by omega) hi)
/-- with all known, a table says one thing -/
theorem al_one {k : Nat} (hk : k ≤ 4) {f : List Bool} (hl : f.length = 2 ^ k) {m x : Nat} (hm : m < 2 ^ k) (hx : x < 2 ^ k) (ha : ∀ i, i < k → m.testBit i = true) : apOne f m x = true := by
  have e := al_full k hk m hm ha
  subst e
  unfold apOne
  rw [List.all_eq_true]
  intro y hy
  have hy2 : y < 2 ^ k := by simpa [hl] using hy
  rw [al_low k hk y hy2, al_low k hk x hx]
  by_cases h : y = x
  · subst h; simp
  · simp [h]
theorem al_main {k : Nat} (hk : k ≤ 4) {f : List Bool} (hl : f.length = 2 ^ k) : ∀ (d m : Nat), 2 ^ k - m ≤ d → m < 2 ^ k → ∀ x : Nat, x < 2 ^ k → ∃ v w : Int, 0 ≤ v ∧ v ≤ k - pc m ∧
    (∀ fuel, d < fuel → ask_least fuel (k : Int) f (m : Int) (x : Int) = some (v, w)) ∧ (∀ (left : Int) fuel, 0 ≤ left → left ≤ 1000 → d < fuel → ref_Asks fuel (k : Int) f (m : Int) (x : Int) left = some (decide (v ≤ left))) ∧
    ((apOne f m x = true ∧ v = 0 ∧ w = -1) ∨ (apOne f m x = false ∧ ∃ i : Nat, i < k ∧ m.testBit i = false ∧ w = (i : Int) ∧ ∀ g, d ≤ g → ∃ r1 r2 : Int × Int, ask_least g (k : Int) f ((m ||| 2 ^ i : Nat) : Int) ((x - (x &&& 2 ^ i) : Nat) : Int) = some r1 ∧ ask_least g (k : Int) f ((m ||| 2 ^ i : Nat) : Int) ((x ||| 2 ^ i : Nat) : Int) = some r2 ∧ v = 1 + imax r1.1 r2.1))
  | 0, m, hd, hm, x, hx => by omega
  | d + 1, m, hd, hm, x, hx => by
    have h16 : 2 ^ k ≤ 16 := Nat.pow_le_pow_right (n := 2) (by omega) hk
    have hpc := al_pc k hk m hm
    cases hone : apOne f m x with
    | true =>
      refine ⟨0, -1, by omega, by omega, ?_, ?_, .inl ⟨rfl, rfl, rfl⟩⟩
      · intro fuel hf
        obtain ⟨g, rfl⟩ : ∃ g, fuel = g + 1 := ⟨fuel - 1, by omega⟩
        show ask_least_step (ask_least g) g k f m x = _
        unfold ask_least_step
        rw [ap_same (by omega) (by omega) (by omega), hone]; rfl
      · intro left fuel h0 h1 hf
        obtain ⟨g, rfl⟩ : ∃ g, fuel = g + 1 := ⟨fuel - 1, by omega⟩
        show ref_Asks_step (ref_Asks g) g k f m x left = _
        unfold ref_Asks_step
        rw [ap_one (by omega) (by omega) (by omega), hone, decide_eq_true h0]; rfl
    | false =>
      -- each question
      have each : ∀ i : Nat, i < k → m.testBit i = false → ∃ b : Int, 1 ≤ b ∧ b ≤ k - pc m ∧ (∀ g, d < g → ∃ r1 r2 : Int × Int, ask_least g (k : Int) f ((m ||| 2 ^ i : Nat) : Int) ((x - (x &&& 2 ^ i) : Nat) : Int) = some r1 ∧ ask_least g (k : Int) f ((m ||| 2 ^ i : Nat) : Int) ((x ||| 2 ^ i : Nat) : Int) = some r2 ∧ b = 1 + imax r1.1 r2.1) ∧
          (∀ (left : Int) g, 1 ≤ left → left ≤ 1000 → d < g → ∃ b1 b2 : Bool, ref_Asks g (k : Int) f ((m ||| 2 ^ i : Nat) : Int) ((x - (x &&& 2 ^ i) : Nat) : Int) (left - 1) = some b1 ∧ ref_Asks g (k : Int) f ((m ||| 2 ^ i : Nat) : Int) ((x ||| 2 ^ i : Nat) : Int) (left - 1) = some b2 ∧ (b1 && b2) = decide (b ≤ left)) := by
        intro i hi hb
        obtain ⟨p1, p2, p3, p4⟩ := al_bits m (by omega) i (by omega) hb
        have hor := al_or k hm hi
        have hox := al_or k hx hi
        have hlt : x - (x &&& 2 ^ i) < 2 ^ k := by omega
        obtain ⟨v1, w1, a1, a2, a3, a4, _⟩ := al_main hk hl d (m ||| 2 ^ i) (by omega) hor (x - (x &&& 2 ^ i)) hlt
        obtain ⟨v2, w2, b1, b2, b3, b4, _⟩ := al_main hk hl d (m ||| 2 ^ i) (by omega) hor (x ||| 2 ^ i) hox
        refine ⟨1 + imax v1 v2, by unfold imax; split <;> omega, by unfold imax; split <;> omega, ?_, ?_⟩
        · intro g hg
          exact ⟨_, _, a3 g hg, b3 g hg, rfl⟩
        · intro left g h0 h1 hg
          refine ⟨_, _, a4 (left - 1) g (by omega) (by omega) hg, b4 (left - 1) g (by omega) (by omega) hg, ?_⟩
          rw [and_dec]
          refine decide_eq_decide.2 ?_
          unfold imax
          split <;> omega
      obtain ⟨b, hb⟩ : ∃ b : Nat → Int, ∀ i : Nat, i < k → m.testBit i = false → 1 ≤ b i ∧ b i ≤ k - pc m ∧ (∀ g, d < g → ∃ r1 r2 : Int × Int, ask_least g (k : Int) f ((m ||| 2 ^ i : Nat) : Int) ((x - (x &&& 2 ^ i) : Nat) : Int) = some r1 ∧ ask_least g (k : Int) f ((m ||| 2 ^ i : Nat) : Int) ((x ||| 2 ^ i : Nat) : Int) = some r2 ∧ b i = 1 + imax r1.1 r2.1) ∧
          (∀ (left : Int) g, 1 ≤ left → left ≤ 1000 → d < g → ∃ b1 b2 : Bool, ref_Asks g (k : Int) f ((m ||| 2 ^ i : Nat) : Int) ((x - (x &&& 2 ^ i) : Nat) : Int) (left - 1) = some b1 ∧ ref_Asks g (k : Int) f ((m ||| 2 ^ i : Nat) : Int) ((x ||| 2 ^ i : Nat) : Int) (left - 1) = some b2 ∧ (b1 && b2) = decide (b i ≤ left)) := by
        refine ⟨fun i => if h : i < k ∧ m.testBit i = false then (each i h.1 h.2).choose else 0, fun i hi hbi => ?_⟩
        simp only [hi, hbi, and_self, dite_true]
        exact (each i hi hbi).choose_spec
      -- some bit is not known
      have some_ : ∃ i, i < k ∧ m.testBit i = false := by
        refine Classical.byContradiction fun hno => ?_
        have : ∀ i, i < k → m.testBit i = true := by
          intro i hi
          cases hbi : m.testBit i with
          | true => rfl
          | false => exact (hno ⟨i, hi, hbi⟩).elim
        rw [al_one hk hl hm hx this] at hone
        cases hone
      -- the program's loop
      have prog : ∀ g, d < g → ∃ y, forI 0 (k : Int) (ask_least_b7 (k : Int) f (m : Int) (x : Int) (ask_least g)) (fun x52 => (x52.1, x52.2)) ((k : Int) + 1, -1) = some y ∧ (1 ≤ y.1 ∧ y.1 ≤ k + 1) ∧ (y.1 ≤ k → ∃ j : Nat, j < k ∧ m.testBit j = false ∧ y.2 = (j : Int) ∧ b j = y.1) ∧ ∀ z : Int, z ≤ k → (y.1 ≤ z ↔ ∃ j, j < k ∧ m.testBit j = false ∧ b j ≤ z) := by
        intro g hg
        refine forI_inv (fun i (q : Int × Int) => 0 ≤ i ∧ (1 ≤ q.1 ∧ q.1 ≤ k + 1) ∧ (q.1 ≤ k → ∃ j : Nat, (j : Int) < i ∧ m.testBit j = false ∧ q.2 = (j : Int) ∧ b j = q.1) ∧ ∀ z : Int, z ≤ k → (q.1 ≤ z ↔ ∃ j : Nat, (j : Int) < i ∧ m.testBit j = false ∧ b j ≤ z)) (fun (y : Int × Int) => (1 ≤ y.1 ∧ y.1 ≤ k + 1) ∧ (y.1 ≤ k → ∃ j : Nat, j < k ∧ m.testBit j = false ∧ y.2 = (j : Int) ∧ b j = y.1) ∧ ∀ z : Int, z ≤ k → (y.1 ≤ z ↔ ∃ j, j < k ∧ m.testBit j = false ∧ b j ≤ z)) (by omega) (by omega)
          ⟨by omega, by dsimp only; omega, fun h => by dsimp only at h; omega, fun z hz => ⟨fun h => by dsimp only at h; omega, fun ⟨j, h, _⟩ => by omega⟩⟩ ?_ ?_
        · rintro i q h0 h1 ⟨_, hq, hw, hz⟩
          obtain ⟨i, rfl⟩ := Int.eq_ofNat_of_zero_le h0
          obtain ⟨m1, m2, m3⟩ := al_mask m (by omega) i (by omega)
          have hand : bAnd .i64 (m : Int) ((2 ^ i : Nat) : Int) = ((m &&& 2 ^ i : Nat) : Int) := bAnd_nat (by omega) (by omega)
          cases hbi : m.testBit i with
          | true =>
            have : (((m &&& 2 ^ i : Nat) : Int) != 0) = true := by
              rw [bne_dec, decide_eq_true_eq]
              intro e
              have := m1.1 (by omega)
              rw [hbi] at this; cases this
            refine ⟨.next q, ?_, by omega, hq, fun hle => by obtain ⟨j, a, c, e⟩ := hw hle; exact ⟨j, by omega, c, e⟩, fun z hzk => ?_⟩
            · unfold ask_least_b7 ask_least_g5
              rw [ck_ok (by omega), bShl_one (by omega), hand, this]; rfl
            · rw [hz z hzk]
              constructor
              · rintro ⟨j, a, c, e⟩; exact ⟨j, by omega, c, e⟩
              · rintro ⟨j, a, c, e⟩
                have : j ≠ i := by rintro rfl; rw [hbi] at c; cases c
                exact ⟨j, by omega, c, e⟩
          | false =>
            have hne : (((m &&& 2 ^ i : Nat) : Int) != 0) = false := by
              rw [m1.2 hbi]; rfl
            obtain ⟨c1, c2, c3, _⟩ := hb i (by omega) hbi
            obtain ⟨r1, r2, e1, e2, e3⟩ := c3 g hg
            have ew : w64 (1 + imax r1.1 r2.1) = b i := by rw [← e3]; exact w64_id (by omega) (by omega)
            have step : ask_least_b7 (k : Int) f (m : Int) (x : Int) (ask_least g) (i : Int) q = some (.next (if b i < q.1 then (b i, (i : Int)) else q)) := by
              unfold ask_least_b7 ask_least_g5
              rw [ck_ok (by omega), bShl_one (by omega), hand, hne, bOr_nat (by omega) (by omega), bOr_nat (by omega) (by omega), al_clr x (by omega) i (by omega), e1, e2]
              simp only [Option.bind_some, cond_false, ew]
              by_cases hlt : b i < q.1
              · rw [decide_eq_true hlt, if_pos hlt]; rfl
              · rw [decide_eq_false hlt, if_neg hlt]; rfl
            refine ⟨_, step, by omega, ?_, ?_, fun z hzk => ?_⟩
            · split <;> (try dsimp only) <;> omega
            · intro hle
              by_cases hlt : b i < q.1
              · rw [if_pos hlt]
                exact ⟨i, by omega, hbi, rfl, rfl⟩
              · rw [if_neg hlt] at hle ⊢
                obtain ⟨j, a, c, e⟩ := hw hle
                exact ⟨j, by omega, c, e⟩
            · have e : (if b i < q.1 then (b i, (i : Int)) else q).1 ≤ z ↔ (q.1 ≤ z ∨ b i ≤ z) := by split <;> (try dsimp only) <;> omega
              rw [e, hz z hzk]
              clear e
              constructor
              · rintro (⟨j, a, c, e⟩ | h)
                · exact ⟨j, by omega, c, e⟩
                · exact ⟨i, by omega, hbi, h⟩
              · rintro ⟨j, a, c, e⟩
                by_cases hji : j = i
                · subst hji; exact .inr e
                · exact .inl ⟨j, by omega, c, e⟩
        · rintro i q h0 h1 hh ⟨_, hq, hw, hz⟩
          refine ⟨hq, fun hle => by obtain ⟨j, a, c, e⟩ := hw hle; exact ⟨j, by omega, c, e⟩, fun z hzk => ?_⟩
          show q.1 ≤ z ↔ _
          rw [hz z hzk]
          exact ⟨fun ⟨j, a, c, e⟩ => ⟨j, by omega, c, e⟩, fun ⟨j, a, c, e⟩ => ⟨j, by omega, c, e⟩⟩
      -- the document's loop
      have refl_ : ∀ (left : Int) g, 1 ≤ left → left ≤ 1000 → d < g → ∃ y, forI 0 (k : Int) (ref_Asks_b27 (k : Int) f (m : Int) (x : Int) left (ref_Asks g)) (fun _ => (.brk () : Esc Bool Unit)) () = some y ∧ ((y = .ret true ∧ ∃ j, j < k ∧ m.testBit j = false ∧ b j ≤ left) ∨ (y = .brk () ∧ ¬ ∃ j, j < k ∧ m.testBit j = false ∧ b j ≤ left)) := by
        intro left g h0 h1 hg
        refine forI_inv (fun i _ => 0 ≤ i ∧ ¬ ∃ j : Nat, (j : Int) < i ∧ m.testBit j = false ∧ b j ≤ left) _ (by omega) (by omega) ⟨by omega, by rintro ⟨j, h, _⟩; omega⟩ ?_ ?_
        · rintro i q hi0 hi1 ⟨_, hq⟩
          obtain ⟨i, rfl⟩ := Int.eq_ofNat_of_zero_le hi0
          have hw : IntKind.wrap .u64 (i : Int) = (i : Int) := wrap_u64 (by omega) (by omega)
          obtain ⟨m1, m2, m3⟩ := al_mask m (by omega) i (by omega)
          cases hbi : m.testBit i with
          | true =>
            refine ⟨.next (), ?_, by omega, ?_⟩
            · unfold ref_Asks_b27 ref_Asks_g24
              rw [hw, ck_ok (by omega), bit_eq (by omega) (by omega), hbi]; rfl
            · rintro ⟨j, a, c, e⟩
              have : j ≠ i := by rintro rfl; rw [hbi] at c; cases c
              exact hq ⟨j, by omega, c, e⟩
          | false =>
            obtain ⟨c1, c2, _, c4⟩ := hb i (by omega) hbi
            obtain ⟨b1, b2, e1, e2, e3⟩ := c4 left g h0 h1 hg
            obtain ⟨p1, p2, p3, p4⟩ := al_bits m (by omega) i (by omega) hbi
            have ew : w64 ((m : Int) + ((2 ^ i : Nat) : Int)) = ((m ||| 2 ^ i : Nat) : Int) := by rw [w64_id (by omega) (by omega)]; omega
            have el : w64 (left - 1) = left - 1 := w64_id (by omega) (by omega)
            have step : ref_Asks_g24 (k : Int) f (m : Int) (x : Int) left (ref_Asks g) (i : Int) = some (if b i ≤ left then .ret true else .brk ()) := by
              unfold ref_Asks_g24 ref_Asks_g22
              rw [hw, ck_ok (by omega), bit_eq (by omega) (by omega), hbi, bShl_one (by omega), ew, el, bOr_nat (by omega) (by omega), al_clr x (by omega) i (by omega), e1, e2]
              simp only [Option.bind_some, cond_false]
              by_cases hle : b i ≤ left
              · rw [decide_eq_true hle] at e3
                simp only [Bool.and_eq_true] at e3
                rw [if_pos hle, e3.1, e3.2]; rfl
              · rw [decide_eq_false hle] at e3
                rw [if_neg hle]
                cases b1 <;> cases b2 <;> first | rfl | cases e3
            by_cases hle : b i ≤ left
            · refine ⟨.done (.ret true), ?_, .inl ⟨rfl, i, by omega, hbi, hle⟩⟩
              unfold ref_Asks_b27
              rw [step, if_pos hle]; rfl
            · refine ⟨.next (), ?_, by omega, ?_⟩
              · unfold ref_Asks_b27
                rw [step, if_neg hle]; rfl
              · rintro ⟨j, a, c, e⟩
                by_cases hji : j = i
                · subst hji; exact hle e
                · exact hq ⟨j, by omega, c, e⟩
        · rintro i q h0 h1 hh ⟨_, hq⟩
          exact .inr ⟨rfl, fun ⟨j, a, c, e⟩ => hq ⟨j, by omega, c, e⟩⟩
      obtain ⟨y, hy, hyb, hyw, hyz⟩ := prog (d + 1) (by omega)
      obtain ⟨i0, hi0, hb0⟩ := some_
      have hb0' := hb i0 hi0 hb0
      have yle : y.1 ≤ k - pc m := (hyz _ (by omega)).2 ⟨i0, hi0, hb0, hb0'.2.1⟩
      -- which one is asked for first does not matter here, but it is one and the same
      have same_ : ∀ g, d < g → forI 0 (k : Int) (ask_least_b7 (k : Int) f (m : Int) (x : Int) (ask_least g)) (fun x52 => (x52.1, x52.2)) ((k : Int) + 1, -1) = some y := by
        clear hyw
        intro g hg
        rw [← hy]
        refine forI_congr (fun i q h0 h1 => ?_)
        obtain ⟨i, rfl⟩ := Int.eq_ofNat_of_zero_le h0
        obtain ⟨m1, m2, m3⟩ := al_mask m (by omega) i (by omega)
        unfold ask_least_b7 ask_least_g5
        rw [ck_ok (by omega), bShl_one (by omega), bAnd_nat (by omega) (by omega)]
        cases hbi : m.testBit i with
        | true =>
          have : (((m &&& 2 ^ i : Nat) : Int) != 0) = true := by
            rw [bne_dec, decide_eq_true_eq]
            intro e
            have := m1.1 (by omega)
            rw [hbi] at this; cases this
          rw [this]; rfl
        | false =>
          have hor := al_or k hm (show i < k by omega)
          have hox := al_or k hx (show i < k by omega)
          obtain ⟨p1, p2, p3, p4⟩ := al_bits m (by omega) i (by omega) hbi
          obtain ⟨v1, w1, _, _, a3, _, _⟩ := al_main hk hl d (m ||| 2 ^ i) (by omega) hor (x - (x &&& 2 ^ i)) (by omega)
          obtain ⟨v2, w2, _, _, b3, _, _⟩ := al_main hk hl d (m ||| 2 ^ i) (by omega) hor (x ||| 2 ^ i) hox
          rw [bOr_nat (by omega) (by omega), bOr_nat (by omega) (by omega), al_clr x (by omega) i (by omega), a3 g hg, a3 (d + 1) (by omega), b3 g hg, b3 (d + 1) (by omega)]
      have last : ∃ i : Nat, i < k ∧ m.testBit i = false ∧ y.2 = (i : Int) ∧ ∀ g, d + 1 ≤ g → ∃ r1 r2 : Int × Int, ask_least g (k : Int) f ((m ||| 2 ^ i : Nat) : Int) ((x - (x &&& 2 ^ i) : Nat) : Int) = some r1 ∧ ask_least g (k : Int) f ((m ||| 2 ^ i : Nat) : Int) ((x ||| 2 ^ i : Nat) : Int) = some r2 ∧ y.1 = 1 + imax r1.1 r2.1 := by
        obtain ⟨j, a, c, e1, e2⟩ := hyw (by omega)
        refine ⟨j, a, c, e1, fun g hg => ?_⟩
        obtain ⟨r1, r2, q1, q2, q3⟩ := (hb j a c).2.2.1 g (by omega)
        exact ⟨r1, r2, q1, q2, by omega⟩
      refine ⟨y.1, y.2, by omega, yle, ?_, ?_, .inr ⟨rfl, last⟩⟩
      · intro fuel hf
        obtain ⟨g, rfl⟩ : ∃ g, fuel = g + 1 := ⟨fuel - 1, by omega⟩
        show ask_least_step (ask_least g) g k f m x = _
        have ew : w64 ((k : Int) + 1) = (k : Int) + 1 := w64_id (by omega) (by omega)
        unfold ask_least_step
        rw [ap_same (by omega) (by omega) (by omega), hone, ew, same_ g (by omega)]; rfl
      · intro left fuel h0 h1 hf
        obtain ⟨g, rfl⟩ : ∃ g, fuel = g + 1 := ⟨fuel - 1, by omega⟩
        show ref_Asks_step (ref_Asks g) g k f m x left = _
        unfold ref_Asks_step
        rw [ap_one (by omega) (by omega) (by omega), hone]
        by_cases hl0 : left = 0
        · subst hl0
          rw [decide_eq_false (by omega)]; rfl
        · have : (left == 0) = false := by simp [hl0]
          rw [this]
          obtain ⟨y', hy', hc⟩ := refl_ left g (by omega) h1 (by omega)
          simp only [Option.bind_some, cond_false, hy']
          have key : (∃ j, j < k ∧ m.testBit j = false ∧ b j ≤ left) ↔ y.1 ≤ left := by
            by_cases hlk : left ≤ k
            · exact (hyz left hlk).symm
            · exact ⟨fun _ => by omega, fun _ => ⟨i0, hi0, hb0, by omega⟩⟩
          rcases hc with ⟨rfl, h⟩ | ⟨rfl, h⟩
          · rw [decide_eq_true (key.1 h)]
          · rw [decide_eq_false (fun e => h (key.2 e))]
theorem al_leastasks {k : Nat} {f : List Bool} {v : Int} (v0 : 0 ≤ v) (v1 : v ≤ 20) (q : ∀ (left : Int) fuel, 0 ≤ left → left ≤ 1000 → 16 < fuel → ref_Asks fuel (k : Int) f ((0 : Nat) : Int) ((0 : Nat) : Int) left = some (decide (v ≤ left))) : ref_LeastAsks 100 (k : Int) f = some v := by
  obtain ⟨y, hy, rfl⟩ := iter_inv (f := ref_LeastAsks_b1 (k : Int) f 100) (fun x => 0 ≤ x ∧ x ≤ v) (fun x => (v - x).toNat) (fun y => y = v) (by
    rintro x ⟨h0, h1⟩
    have e := q x 100 h0 (by omega) (by omega)
    simp only [Int.natCast_zero] at e
    have ew : w64 (x + 1) = x + 1 := w64_id (by omega) (by omega)
    unfold ref_LeastAsks_b1
    rw [e]
    by_cases h : v ≤ x
    · rw [decide_eq_true h]
      exact ⟨_, rfl, by omega⟩
    · rw [decide_eq_false h]
      refine ⟨_, rfl, ?_, ?_⟩ <;> simp only [ew] <;> omega) 100 0 (by omega) ⟨by omega, by omega⟩
  unfold ref_LeastAsks
  rw [hy]; rfl

def awF (a0 : Int) (n : Nat) (v : Int × Int × Int) : Option Int :=
  bif !decide (0 ≤ v.1 ∧ v.1 < a0) then some 4 else bif (!decide (-2 ≤ v.2.1 ∧ v.2.1 ≤ (n : Int) - 1)) || (!decide (-2 ≤ v.2.2 ∧ v.2.2 ≤ (n : Int) - 1)) then some 2 else none
theorem aw_ref (a0 : Int) (n : Nat) (hn : n ≤ 1000) (v : Int × Int × Int) : ref_AsksCheck_b6 a0 n v () = some (said Esc.ret (awF a0 n v)) := by
  have ew : w64 ((n : Int) - 1) = (n : Int) - 1 := w64_id (by omega) (by omega)
  unfold ref_AsksCheck_b6 ref_AsksCheck_g4 awF
  rw [inside1, ew, within_eq, within_eq]
  generalize decide (0 ≤ v.1 ∧ v.1 < a0) = c1
  generalize decide (-2 ≤ v.2.1 ∧ v.2.1 ≤ (n : Int) - 1) = c2
  generalize decide (-2 ≤ v.2.2 ∧ v.2.2 ≤ (n : Int) - 1) = c3
  cases c1 <;> cases c2 <;> cases c3 <;> rfl
theorem aw_ok {a0 : Int} {l : List (Int × Int × Int)} (h : firstOf (awF a0) 0 l = none) : ∀ (j : Nat) v, l[j]? = some v → (0 ≤ v.1 ∧ v.1 < a0) ∧ (-2 ≤ v.2.1 ∧ v.2.1 < j) ∧ (-2 ≤ v.2.2 ∧ v.2.2 < j) := by
  intro j v hv
  obtain ⟨h1, h2⟩ := bif_none (firstOf_none h hv)
  obtain ⟨h2, _⟩ := bif_none h2
  simp only [Bool.not_eq_false', Bool.or_eq_false_iff, decide_eq_true_eq] at h1 h2
  omega

theorem at_none {α R : Type} {f : Nat → α → Option R} {l : List α} (h : ∀ (j : Nat) a, l[j]? = some a → f j a = none) : firstOf f 0 l = none := by
  cases hf : firstOf f 0 l with
  | none => rfl
  | some e =>
    obtain ⟨j, a, h1, h2⟩ := firstOf_some hf
    rw [h j a h1] at h2; cases h2
theorem at_tab : ((List.range 16).all fun m => (List.range 4).all fun i => (List.range 16).all fun x => (List.range 16).all fun w => !(w &&& m == x &&& m) ||
    (if w.testBit i then w &&& (m ||| 2 ^ i) == (x ||| 2 ^ i) &&& (m ||| 2 ^ i) else w &&& (m ||| 2 ^ i) == (x - (x &&& 2 ^ i)) &&& (m ||| 2 ^ i))) = true := by decide +kernel
theorem at_both {m i x w : Nat} (hm : m < 16) (hi : i < 4) (hx : x < 16) (hw : w < 16) (h : w &&& m = x &&& m) : (if w.testBit i then w &&& (m ||| 2 ^ i) == (x ||| 2 ^ i) &&& (m ||| 2 ^ i) else w &&& (m ||| 2 ^ i) == (x - (x &&& 2 ^ i)) &&& (m ||| 2 ^ i)) = true := by
  have h1 := List.all_eq_true.1 at_tab m (List.mem_range.2 hm)
  have h2 := List.all_eq_true.1 h1 i (List.mem_range.2 hi)
  have h3 := List.all_eq_true.1 h2 x (List.mem_range.2 hx)
  have h4 := List.all_eq_true.1 h3 w (List.mem_range.2 hw)
  have e : (w &&& m == x &&& m) = true := by rw [h]; simp
  rw [e] at h4
  exact h4
theorem at_yes {m : Nat} (hm : m < 16) {i : Nat} (hi : i < 4) {x : Nat} (hx : x < 16) {w : Nat} (hw : w < 16) (h : w &&& m = x &&& m ∧ w.testBit i = true) : w &&& (m ||| 2 ^ i) = (x ||| 2 ^ i) &&& (m ||| 2 ^ i) := by
  have := at_both hm hi hx hw h.1
  rw [if_pos h.2] at this
  exact beq_iff_eq.1 this
theorem at_no {m : Nat} (hm : m < 16) {i : Nat} (hi : i < 4) {x : Nat} (hx : x < 16) {w : Nat} (hw : w < 16) (h : w &&& m = x &&& m ∧ w.testBit i = false) : w &&& (m ||| 2 ^ i) = (x - (x &&& 2 ^ i)) &&& (m ||| 2 ^ i) := by
  have := at_both hm hi hx hw h.1
  rw [if_neg (by rw [h.2]; simp)] at this
  exact beq_iff_eq.1 this
theorem at_one {f : List Bool} {m x : Nat} (h : apOne f m x = true) {w : Nat} (hw : w < f.length) (hm : w &&& m = x &&& m) : f.getD w false = f.getD x false := by
  unfold apOne at h
  have := List.all_eq_true.1 h w (by simpa using hw)
  rw [hm] at this
  simpa using this
theorem at_oneOf {f : List Bool} {m x : Nat} (h : ∀ w, w < f.length → w &&& m = x &&& m → f.getD w false = f.getD x false) : apOne f m x = true := by
  unfold apOne
  rw [List.all_eq_true]
  intro w hw
  have hw2 : w < f.length := by simpa using hw
  by_cases hm : w &&& m = x &&& m
  · rw [h w hw2 hm]; simp
  · have : (w &&& m == x &&& m) = false := by simpa using hm
    rw [this]; rfl
/-- a list of questions that may be -/
def AtOk (k : Nat) (l : List (Int × Int × Int)) : Prop := ∀ (j : Nat) v, l[j]? = some v → (0 ≤ v.1 ∧ v.1 < (k : Int)) ∧ (-2 ≤ v.2.1 ∧ v.2.1 < j) ∧ (-2 ≤ v.2.2 ∧ v.2.2 < j)
theorem at_leaf (l : List (Int × Int × Int)) (w : Nat) (b : Bool) : ∀ more fuel, 0 < fuel → ref_Walked fuel (l ++ more) (bif b then -2 else -1) (w : Int) = some (b, 0) := by
  intro more fuel hf
  obtain ⟨g, rfl⟩ : ∃ g, fuel = g + 1 := ⟨fuel - 1, by omega⟩
  show ref_Walked_step (ref_Walked g) g (l ++ more) _ w = _
  unfold ref_Walked_step
  cases b <;> rfl
theorem at_node {k : Nat} (hk : k ≤ 4) {l : List (Int × Int × Int)} {i : Nat} (hi : i < k) {n y : Int} {w : Nat} (hw : w < 16) {b : Bool} {s : Int} (hs : 0 ≤ s ∧ s ≤ 90) (d : Nat)
    (h : ∀ more fuel, d < fuel → ref_Walked fuel (l ++ more) (bif w.testBit i then y else n) (w : Int) = some (b, s)) :
    ∀ more fuel, d + 1 < fuel → ref_Walked fuel ((l ++ [((i : Int), n, y)]) ++ more) (l.length : Int) (w : Int) = some (b, s + 1) := by
  intro more fuel hf
  obtain ⟨g, rfl⟩ : ∃ g, fuel = g + 1 := ⟨fuel - 1, by omega⟩
  show ref_Walked_step (ref_Walked g) g _ (l.length : Int) w = _
  have h1 : idx ((l ++ [((i : Int), n, y)]) ++ more) (l.length : Int) = some ((i : Int), n, y) := by
    rw [idx_nat, List.append_assoc, List.getElem?_append_right (by omega)]; simp
  have hsel : (bif w.testBit i then (some y) else (some n) : Option Int) = some (bif w.testBit i then y else n) := by cases w.testBit i <;> rfl
  have ew : w64 (s + 1) = s + 1 := w64_id (by omega) (by omega)
  unfold ref_Walked_step
  rw [decide_eq_false (by omega), h1]
  simp only [cond_false, Option.bind_some, bit_eq (w := w) (i := i) (by omega) (by omega), hsel]
  have := h ([((i : Int), n, y)] ++ more) g (by omega)
  rw [List.append_assoc, this]
  simp only [Option.bind_some, ew]
theorem at_okmono {k : Nat} {l : List (Int × Int × Int)} {v : Int × Int × Int} (h : AtOk k l) (h1 : 0 ≤ v.1 ∧ v.1 < (k : Int)) (h2 : -2 ≤ v.2.1 ∧ v.2.1 < (l.length : Int)) (h3 : -2 ≤ v.2.2 ∧ v.2.2 < (l.length : Int)) : AtOk k (l ++ [v]) := by
  intro j u hu
  rcases Nat.lt_or_ge j l.length with hj | hj
  · rw [List.getElem?_append_left hj] at hu
    exact h j u hu
  · have hlt := (List.getElem?_eq_some_iff.1 hu).1
    simp only [List.length_append, List.length_singleton] at hlt
    have : j = l.length := by omega
    subst this
    rw [List.getElem?_append_right (by omega)] at hu
    simp at hu
    subst hu
    exact ⟨h1, by omega, by omega⟩
/-- what 'put' does with a set of known bits: a list that goes on, and what is said from its place -/
def AtPut (k : Nat) (f : List Bool) (d m x : Nat) (l : List (Int × Int × Int)) (c : Int) : Prop :=
  ∃ (at_ : Int) (l' : List (Int × Int × Int)), (∀ fuel, d + 20 < fuel → ask_maker_put_i3 fuel (m : Int) (x : Int) (k : Int) f l = some (at_, (k : Int), f, l')) ∧ l <+: l' ∧ l'.length + 1 ≤ l.length + 2 ^ (k - pc m) ∧ AtOk k l' ∧ -2 ≤ at_ ∧ at_ < (l'.length : Int) ∧
      ∀ w : Nat, w < 2 ^ k → w &&& m = x &&& m → ∃ s : Int, 0 ≤ s ∧ s ≤ c ∧ ∀ more fuel, d < fuel → ref_Walked fuel (l' ++ more) at_ (w : Int) = some (f.getD w false, s)
theorem at_join {k : Nat} (hk : k ≤ 4) {f : List Bool} {d m x i : Nat} (hi : i < k) (hm : m < 2 ^ k) (hb : m.testBit i = false) (hx : x < 2 ^ k) {l : List (Int × Int × Int)} (hlen : l.length + 2 ^ (k - pc m) ≤ 200) {v w : Int}
    (hp : ∀ fuel, d + 1 < fuel → ask_least fuel (k : Int) f (m : Int) (x : Int) = some (v, w)) (hw : imax w 0 = (i : Int)) (hg : (decide (w < 0) && decide ((m : Int) > 0)) = false) {c : Int} (hc : c ≤ 80)
    (no : AtPut k f d (m ||| 2 ^ i) (x - (x &&& 2 ^ i)) l c) (yes : ∀ l1, l <+: l1 → l1.length + 1 ≤ l.length + 2 ^ (k - pc (m ||| 2 ^ i)) → AtOk k l1 → AtPut k f d (m ||| 2 ^ i) (x ||| 2 ^ i) l1 c) :
    AtPut k f (d + 1) m x l (c + 1) ∧ ∃ l', (∀ fuel, d + 1 + 20 < fuel → ∃ a, ask_maker_put_i3 fuel (m : Int) (x : Int) (k : Int) f l = some (a, (k : Int), f, l') ∧ a + 1 = (l'.length : Int) ∧ 0 ≤ a) := by
  have h16 : 2 ^ k ≤ 16 := Nat.pow_le_pow_right (n := 2) (by omega) hk
  obtain ⟨p1, p2, p3, p4⟩ := al_bits m (by omega) i (by omega) hb
  have hor := al_or k hm hi
  have hpc := al_pc k hk _ hor
  have hpow : 2 ^ (k - pc m) = 2 * 2 ^ (k - pc (m ||| 2 ^ i)) := by
    have : k - pc m = (k - pc (m ||| 2 ^ i)) + 1 := by omega
    rw [this, Nat.pow_succ]; omega
  obtain ⟨n, l1, e1, pre1, len1, ok1, n0, n1, w1⟩ := no
  obtain ⟨y, l2, e2, pre2, len2, ok2, y0, y1, w2⟩ := yes l1 pre1 len1 ok1
  have ll := pre1.length_le
  have ll2 := pre2.length_le
  have hck : ∀ n : Nat, n ≤ 200 → ck ((n : Int) + 1 ≤ 4294967296) = some () := fun n hn => ck_ok (by omega)
  have hl2 : l2.length ≤ 200 := by omega
  have hput : ∀ fuel, d + 1 + 20 < fuel → ask_maker_put_i3 fuel (m : Int) (x : Int) (k : Int) f l = some ((l2.length : Int), (k : Int), f, l2 ++ [((i : Int), n, y)]) := by
    intro fuel hf
    obtain ⟨g, rfl⟩ : ∃ g, fuel = g + 1 := ⟨fuel - 1, by omega⟩
    show ask_maker_put_i3_step (ask_maker_put_i3 g) g m x k f l = _
    have ew : w64 ((List.length (l2 ++ [((i : Int), n, y)]) : Int) - 1) = (l2.length : Int) := by
      rw [List.length_append, List.length_singleton, w64_id (by omega) (by omega)]; omega
    unfold ask_maker_put_i3_step
    rw [hp g (by omega)]
    simp only [Option.bind_some, hg, cond_false, hw]
    rw [ck_ok (by omega), bShl_one (by omega), bOr_nat (by omega) (by omega), bOr_nat (by omega) (by omega), al_clr x (by omega) i (by omega), e1 g (by omega)]
    rw [bind_some', bind_some', e2 g (by omega), bind_some', hck _ hl2, bind_some']
    simp only [ew]
  refine ⟨⟨(l2.length : Int), l2 ++ [((i : Int), n, y)], hput, ?_, ?_, ?_, by omega, by simp; omega, ?_⟩, l2 ++ [((i : Int), n, y)], fun fuel hf => ⟨_, hput fuel hf, by rw [List.length_append, List.length_singleton]; omega, by omega⟩⟩
  · exact (pre1.trans pre2).trans (List.prefix_append _ _)
  · rw [List.length_append, List.length_singleton]; omega
  · exact at_okmono ok2 ⟨by simp, by simp; omega⟩ ⟨n0, by dsimp only; omega⟩ ⟨y0, y1⟩
  · intro w hw hwm
    cases hbw : w.testBit i with
    | true =>
      obtain ⟨s, s0, s1, hs⟩ := w2 w hw (at_yes (by omega) (by omega) (by omega) (by omega) ⟨hwm, hbw⟩)
      exact ⟨s + 1, by omega, by omega, at_node hk hi (by omega) ⟨s0, by omega⟩ d (by rw [hbw]; exact hs)⟩
    | false =>
      obtain ⟨s, s0, s1, hs⟩ := w1 w hw (at_no (by omega) (by omega) (by omega) (by omega) ⟨hwm, hbw⟩)
      refine ⟨s + 1, by omega, by omega, at_node hk hi (by omega) ⟨s0, by omega⟩ d ?_⟩
      rw [hbw]
      intro more fuel hf
      obtain ⟨t, ht⟩ := pre2
      have := hs (t ++ more) fuel hf
      rw [← List.append_assoc, ht] at this
      exact this
theorem at_mono {k : Nat} {f : List Bool} {d m x : Nat} {l : List (Int × Int × Int)} {c c' : Int} (h : AtPut k f d m x l c) (hc : c ≤ c') : AtPut k f d m x l c' := by
  obtain ⟨a, l', e1, e2, e3, e4, e5, e6, e7⟩ := h
  refine ⟨a, l', e1, e2, e3, e4, e5, e6, fun w hw hwm => ?_⟩
  obtain ⟨s, s0, s1, hs⟩ := e7 w hw hwm
  exact ⟨s, s0, by omega, hs⟩
theorem at_put {k : Nat} (hk : k ≤ 4) {f : List Bool} (hl : f.length = 2 ^ k) : ∀ (d m : Nat), 2 ^ k - m ≤ d → m < 2 ^ k → 0 < m → d ≤ 16 → ∀ x : Nat, x < 2 ^ k → ∀ l : List (Int × Int × Int), AtOk k l → l.length + 2 ^ (k - pc m) ≤ 200 →
    ∀ v w, (∃ fuel, d < fuel ∧ ask_least fuel (k : Int) f (m : Int) (x : Int) = some (v, w)) → AtPut k f d m x l v
  | 0, m, hd, hm, h0, hd16, x, hx, l, hok, hlen, v, w, hv => by omega
  | d + 1, m, hd, hm, h0, hd16, x, hx, l, hok, hlen, v', w', hv => by
    have h16 : 2 ^ k ≤ 16 := Nat.pow_le_pow_right (n := 2) (by omega) hk
    obtain ⟨v, w, v0, v1, p, _, q⟩ := al_main hk hl (d + 1) m hd hm x hx
    obtain ⟨fu, hfu, hv⟩ := hv
    rw [p fu hfu] at hv
    simp only [Option.some.injEq, Prod.mk.injEq] at hv
    obtain ⟨rfl, rfl⟩ := hv
    have hfx : idx f (x : Int) = some (f.getD x false) := by rw [idx_nat, List.getD_eq_getElem?_getD, List.getElem?_eq_getElem (by omega)]; rfl
    rcases q with ⟨hone, rfl, rfl⟩ | ⟨hone, i, hi, hb, rfl, hc⟩
    · refine ⟨bif f.getD x false then -2 else -1, l, ?_, List.prefix_refl l, ?_, hok, by cases f.getD x false <;> simp, by cases f.getD x false <;> simp <;> omega, ?_⟩
      · intro fuel hf
        obtain ⟨g, rfl⟩ : ∃ g, fuel = g + 1 := ⟨fuel - 1, by omega⟩
        show ask_maker_put_i3_step (ask_maker_put_i3 g) g m x k f l = _
        have c : (decide ((-1 : Int) < 0) && decide ((m : Int) > 0)) = true := by simp; omega
        unfold ask_maker_put_i3_step
        rw [p g (by omega)]
        simp only [Option.bind_some, c, cond_true, hfx]
        cases f.getD x false <;> rfl
      · have : 0 < 2 ^ (k - pc m) := Nat.pow_pos (by omega)
        omega
      · intro w hw hwm
        have e := at_one hone (w := w) (by omega) hwm
        refine ⟨0, by omega, by omega, fun more fuel hf => ?_⟩
        rw [← e]
        exact at_leaf l w (f.getD w false) more fuel (by omega)
    · obtain ⟨p1, p2, p3, p4⟩ := al_bits m (by omega) i (by omega) hb
      have hor := al_or k hm hi
      have hox := al_or k hx hi
      have hpc := al_pc k hk _ hor
      have hlt : x - (x &&& 2 ^ i) < 2 ^ k := by omega
      have hpow : 2 ^ (k - pc m) = 2 * 2 ^ (k - pc (m ||| 2 ^ i)) := by
        have : k - pc m = (k - pc (m ||| 2 ^ i)) + 1 := by omega
        rw [this, Nat.pow_succ]; omega
      obtain ⟨r1, r2, c1, c2, c3⟩ := hc (d + 1) (by omega)
      have no := at_put hk hl d (m ||| 2 ^ i) (by omega) hor (by omega) (by omega) (x - (x &&& 2 ^ i)) hlt l hok (by omega) r1.1 r1.2 ⟨d + 1, by omega, c1⟩
      have hv2 : v = (v - 1) + 1 := by omega
      rw [hv2]
      have i1 : r1.1 ≤ imax r1.1 r2.1 ∧ r2.1 ≤ imax r1.1 r2.1 := by unfold imax; split <;> omega
      refine (at_join hk hi hm hb hx hlen p (by unfold imax; rw [if_neg (by omega)]) (by rw [decide_eq_false (by omega)]; rfl) (by omega) (at_mono no (by omega)) fun l1 pre1 len1 ok1 => ?_).1
      exact at_mono (at_put hk hl d (m ||| 2 ^ i) (by omega) hor (by omega) (by omega) (x ||| 2 ^ i) hox l1 ok1 (by omega) r2.1 r2.2 ⟨d + 1, by omega, c2⟩) (by omega)
/-- from the beginning on -/
theorem at_root {k : Nat} (hk : k ≤ 4) (h1 : 1 ≤ k) {f : List Bool} (hl : f.length = 2 ^ k) {v w : Int} (hv : ∀ fuel, 17 < fuel → ask_least fuel (k : Int) f 0 0 = some (v, w)) :
    ∃ l' : List (Int × Int × Int), (∃ a, ask_maker_put_i3 100 0 0 (k : Int) f [] = some (a, (k : Int), f, l') ∧ a + 1 = (l'.length : Int)) ∧ 1 ≤ l'.length ∧ l'.length ≤ 16 ∧ AtOk k l' ∧
      ∀ w : Nat, w < 2 ^ k → ∃ s : Int, 0 ≤ s ∧ s ≤ (if v = 0 then 1 else v) ∧ ref_Walked 100 l' ((l'.length : Int) - 1) (w : Int) = some (f.getD w false, s) := by
  have h16 : 2 ^ k ≤ 16 := Nat.pow_le_pow_right (n := 2) (by omega) hk
  have hp0 : 0 < 2 ^ k := Nat.pow_pos (by omega)
  have pc0 : pc 0 = 0 := by decide +kernel
  have fin : ∀ c : Int, c + 1 ≤ (if v = 0 then 1 else v) → (AtPut k f 17 0 0 [] (c + 1) ∧ ∃ l', (∀ fuel, 17 + 20 < fuel → ∃ a, ask_maker_put_i3 fuel ((0 : Nat) : Int) ((0 : Nat) : Int) (k : Int) f [] = some (a, (k : Int), f, l') ∧ a + 1 = (l'.length : Int) ∧ 0 ≤ a)) → ∃ l' : List (Int × Int × Int), (∃ a, ask_maker_put_i3 100 0 0 (k : Int) f [] = some (a, (k : Int), f, l') ∧ a + 1 = (l'.length : Int)) ∧ 1 ≤ l'.length ∧ l'.length ≤ 16 ∧ AtOk k l' ∧
      ∀ w : Nat, w < 2 ^ k → ∃ s : Int, 0 ≤ s ∧ s ≤ (if v = 0 then 1 else v) ∧ ref_Walked 100 l' ((l'.length : Int) - 1) (w : Int) = some (f.getD w false, s) := by
    rintro c hc ⟨⟨a, l', e1, e2, e3, e4, e5, e6, e7⟩, l2, h2⟩
    obtain ⟨a2, q1, q2, q3⟩ := h2 100 (by omega)
    have q0 := e1 100 (by omega)
    rw [q0] at q1
    simp only [Option.some.injEq, Prod.mk.injEq, true_and] at q1
    obtain ⟨rfl, rfl⟩ := q1
    rw [pc0] at e3
    simp only [List.length_nil, Nat.sub_zero] at e3
    refine ⟨l', ⟨a, q0, q2⟩, by omega, by omega, e4, ?_⟩
    · intro w hw
      obtain ⟨s, s0, s1, hs⟩ := e7 w hw (by simp)
      refine ⟨s, s0, by omega, ?_⟩
      have := hs [] 100 (by omega)
      rw [List.append_nil] at this
      have ha : (l'.length : Int) - 1 = a := by omega
      rw [ha]; exact this
  obtain ⟨v', w', v0, v1, p, _, q⟩ := al_main hk hl 16 0 (by omega) hp0 0 hp0
  have hvv := hv 18 (by omega)
  have hpp := p 18 (by omega)
  simp only [Int.natCast_zero] at hpp
  rw [hpp] at hvv
  simp only [Option.some.injEq, Prod.mk.injEq] at hvv
  obtain ⟨rfl, rfl⟩ := hvv
  have okn : AtOk k [] := fun j u hu => by simp at hu
  have plen : ([] : List (Int × Int × Int)).length + 2 ^ (k - pc 0) ≤ 200 := by rw [pc0]; simp; omega
  rcases q with ⟨hone, hv0, hw0⟩ | ⟨hone, i, hi, hb, hw0, hc⟩
  · -- one and the same of all words: a question all the same
    have hb : (0 : Nat).testBit 0 = false := by simp
    obtain ⟨p1, p2, p3, p4⟩ := al_bits 0 (by omega) 0 (by omega) hb
    have hor := al_or k hp0 (show 0 < k by omega)
    have hchild : ∀ x, x < 2 ^ k → apOne f (0 ||| 2 ^ 0) x = true := by
      intro x hx
      refine at_oneOf fun w hw _ => ?_
      rw [at_one hone (w := w) hw (by simp), at_one hone (w := x) (by omega) (by simp)]
    have hch : ∀ x, x < 2 ^ k → ∀ l, AtOk k l → l.length + 2 ^ (k - pc (0 ||| 2 ^ 0)) ≤ 200 → AtPut k f 16 (0 ||| 2 ^ 0) x l 0 := by
      intro x hx l hok hlen
      obtain ⟨v2, w2, _, _, b3, _, q⟩ := al_main hk hl 16 (0 ||| 2 ^ 0) (by omega) hor x hx
      rcases q with ⟨_, e, _⟩ | ⟨e, _⟩
      · rw [← e]
        exact at_put hk hl 16 (0 ||| 2 ^ 0) (by omega) hor (by omega) (by omega) x hx l hok hlen v2 w2 ⟨17, by omega, b3 17 (by omega)⟩
      · rw [hchild x hx] at e; cases e
    have hpow : 2 ^ (k - pc (0 ||| 2 ^ 0)) ≤ 16 := Nat.le_trans (Nat.pow_le_pow_right (by omega) (Nat.sub_le _ _)) h16
    refine fin 0 (by rw [if_pos hv0]; omega) ?_
    exact at_join hk (i := 0) (by omega) hp0 hb hp0 plen (fun fuel hf => by simpa using p fuel (by omega)) (by rw [hw0]; rfl) (by simp) (by omega)
      (hch _ (by omega) [] okn (by simp only [List.length_nil]; omega)) fun l1 pre1 len1 ok1 => hch _ hor l1 ok1 (by simp only [List.length_nil] at len1; omega)
  · obtain ⟨p1, p2, p3, p4⟩ := al_bits 0 (by omega) i (by omega) hb
    have hor := al_or k hp0 hi
    have hpow : 2 ^ (k - pc (0 ||| 2 ^ i)) ≤ 16 := Nat.le_trans (Nat.pow_le_pow_right (by omega) (Nat.sub_le _ _)) h16
    obtain ⟨r1, r2, c1, c2, c3⟩ := hc 17 (by omega)
    have i1 : r1.1 ≤ imax r1.1 r2.1 ∧ r2.1 ≤ imax r1.1 r2.1 := by unfold imax; split <;> omega
    obtain ⟨v2, w2, b0, _, b3, _, _⟩ := al_main hk hl 16 (0 ||| 2 ^ i) (by omega) hor (0 - (0 &&& 2 ^ i)) (by omega)
    have hr1 := b3 17 (by omega)
    rw [c1] at hr1
    have hr1' : r1 = (v2, w2) := Option.some.inj hr1
    have hvne : ¬ v' = 0 := by rw [c3]; have : r1.1 = v2 := by rw [hr1']
                               omega
    refine fin (v' - 1) (by rw [if_neg hvne]; omega) ?_
    exact at_join hk hi hp0 hb hp0 plen (fun fuel hf => by simpa using p fuel (by omega)) (by rw [hw0]; unfold imax; rw [if_neg (by omega)]) (by simp) (by omega)
      (at_mono (at_put hk hl 16 (0 ||| 2 ^ i) (by omega) hor (by omega) (by omega) (0 - (0 &&& 2 ^ i)) (by omega) [] okn (by simp only [List.length_nil]; omega) r1.1 r1.2 ⟨17, by omega, c1⟩) (by omega))
      fun l1 pre1 len1 ok1 => at_mono (at_put hk hl 16 (0 ||| 2 ^ i) (by omega) hor (by omega) (by omega) (0 ||| 2 ^ i) (by omega) l1 ok1 (by simp only [List.length_nil] at len1; omega) r2.1 r2.2 ⟨17, by omega, c2⟩) (by omega)
theorem AskTrees_true (a0 : Int) (a1 : List Bool) (f0 : Fits (.int .i64) a0) (f1 : Fits (.slice .bool) a1) : ∃ fuel, law_AskTrees fuel a0 a1 = some true := by
  refine ⟨100, ?_⟩
  unfold law_AskTrees ask_Tree ask_Tree_g1
  rw [tb_ref, tb_ask]
  simp only [Option.bind_some]
  by_cases hz : tbc a0 a1 0 = 0
  · obtain ⟨k, hk, rfl, hl, _, _⟩ := tb_valid hz
    have h16 : 2 ^ k ≤ 16 := Nat.pow_le_pow_right (n := 2) (by omega) hk
    have hp0 : 0 < 2 ^ k := Nat.pow_pos (by omega)
    have chk : ∀ l : List (Int × Int × Int), l.length ≤ 16 → AtOk k l → ref_AsksCheck (k : Int) l 0 = some 0 := by
      intro l hlen hok
      have e2 := forL_findI (body := ref_AsksCheck_b6 (k : Int)) (fin := fun _ => (Esc.brk () : Esc Int Unit)) (f := awF (k : Int)) (g := Esc.ret) (l := l) (fun n v hv => aw_ref (k : Int) n (by have := (List.getElem?_eq_some_iff.1 hv).1; omega) v)
      have hn : firstOf (awF (k : Int)) 0 l = none := at_none fun j v hv => by
        obtain ⟨q1, q2, q3⟩ := hok j v hv
        unfold awF
        rw [decide_eq_true q1, decide_eq_true (p := -2 ≤ v.2.1 ∧ v.2.1 ≤ (j : Int) - 1) (by omega), decide_eq_true (p := -2 ≤ v.2.2 ∧ v.2.2 ≤ (j : Int) - 1) (by omega)]; rfl
      unfold ref_AsksCheck
      rw [within_eq, inside1, e2, hn, wrap_u64 (by omega) (by omega), ck_ok (by omega), bShl_one (by omega), decide_eq_true (p := 0 ≤ (k : Int) ∧ (k : Int) ≤ 4) (by omega), decide_eq_true (p := (0 : Int) ≤ 0 ∧ (0 : Int) < ((2 ^ k : Nat) : Int)) (by omega), Option.bind_some, decide_eq_false (by omega)]
      rfl
    rw [hz]
    by_cases hk0 : k = 0
    · subst hk0
      have := chk [] (by simp) (fun j u hu => by simp at hu)
      unfold law_AskTrees_g1
      simp only [Int.natCast_zero] at this ⊢
      simp [this]
    · obtain ⟨v, w, v0, v1, p, q, _⟩ := al_main hk hl 16 0 (by omega) hp0 0 hp0
      obtain ⟨l', ⟨a, ha, _⟩, len1, len16, ok, walk⟩ := at_root hk (by omega) hl (v := v) (w := w) (fun fuel hf => by simpa using p fuel (by omega))
      have hleast := al_leastasks (k := k) (f := a1) v0 (by omega) q
      have hlast : w64 ((l'.length : Int) - 1) = (l'.length : Int) - 1 := w64_id (by omega) (by omega)
      have hkpos : decide ((k : Int) > 0) = true := by simp; omega
      have hkne : ((k : Int) == 0) = false := by simp; omega
      have hne : ((l'.length : Int) == 0) = false := by rw [beq_dec]; exact decide_eq_false (by omega)
      have hmost : ((bif v == 0 then (some 1) else (some v)) : Option Int) = some (if v = 0 then 1 else v) := by
        by_cases h : v = 0
        · simp [h]
        · have : (v == 0) = false := by simp [h]
          rw [this, if_neg h]; rfl
      have hloop : forL (law_AskTrees_b2 100 (l', 0) (if v = 0 then 1 else v)) (fun _ => (Esc.brk () : Esc Bool Unit)) a1 0 () = some (.brk ()) := by
        obtain ⟨z, hz, rfl⟩ := forL_inv (body := law_AskTrees_b2 100 (l', 0) (if v = 0 then 1 else v)) (fin := fun _ => (.brk () : Esc Bool Unit)) (l := a1) (x := ()) (fun _ _ => True) (fun y => y = .brk ()) trivial
          (by
            intro n b x hb _
            have hn := (List.getElem?_eq_some_iff.1 hb).1
            obtain ⟨s, s0, s1, hs⟩ := walk n (by omega)
            have hfb : a1.getD n false = b := by rw [List.getD_eq_getElem?_getD, hb]; rfl
            refine ⟨.next (), ?_, trivial⟩
            unfold law_AskTrees_b2
            rw [hlast, hs, hfb]
            have : decide (s > if v = 0 then 1 else v) = false := decide_eq_false (by omega)
            simp [this])
          (fun _ _ => rfl)
        exact hz
      unfold law_AskTrees_g1
      have hch := chk l' len16 ok
      simp only [ha, hkpos, cond_true, Option.bind_some, bne_self_eq_false, cond_false, hch, hne, hkne, hleast, hmost, hloop, Bool.and_false, Bool.or_false]
  · have e0 : (tbc a0 a1 0 != 0) = true := by simp [hz]
    simp [e0]

end Go.Proofs.Ytnlibkamomlccaa.askTrees
namespace Go.Proofs.Ytnlibkamomlccaa.askTrees
open Go.ChangeShapes Go.WideShapes Go.ChangeAt Go.RowKit
open Go.ChangeMaps (open_string shut_string)
theorem own : ownKnob Try.prog.godebug = none := by kernel_rfl
theorem laidOut : laidOutB Try.prog = true := by kernel_rfl
theorem lifted (os : Os) (started : os.Started) (H : Type) (enc : TypeId × Value → H) :
    ReturnsInHanded {} Try.checked os 7 .any (Rows.askTreesSpec.pre6 enc Try.prog Try.f7 Rows.askTreesRow.domain false) (Rows.askTreesSpec.post enc Try.prog Try.f7 false true false false) := by
  refine returnsInHanded_of_change (C := Try.checked) own started (by kernel_rfl) Try.func7
    (ChangeSpec.witness6 (enc := enc) (C := Try.checked) false ⟨#[], #[.int .i64 0, .slice none 0 0], []⟩ 8 (by kernel_rfl) (by kernel_rfl) (by kernel_rfl) (by kernel_rfl)) ?_
  intro W base args ds gs before hval0 hW hcnd _
  have hval : ∀ (j : Nat) t v, Try.f7.params[j]? = some t → args[j]? = some v → Value.okWide Try.prog W .any base t v := hval0
  have hW' := hW
  obtain ⟨p, q, hA0, hV, rfl, hfz, hnd⟩ := hW
  have hA : DataW.TrodAll enc Try.prog W 0 (fun _ => true) true Try.f7.params.toList args.toList ds p := hA0
  rw [Try.params7] at hA hval
  obtain ⟨v0, vs0, d0, ds0, p0, q0, hargs, rfl, rfl, h0, r0⟩ := trodAll_cons hA
  obtain ⟨v1, vs1, d1, ds1, p1, q1, rfl, rfl, rfl, h1, r1⟩ := trodAll_cons r0
  obtain ⟨rfl, rfl, rfl⟩ := trodAll_nil r1
  obtain rfl : args = #[v0, v1] := by cases args; simp_all
  obtain ⟨rfl, rfl⟩ := trodVars_none hV
  obtain ⟨x0, f0, k0⟩ := Go.Sl.read_arg (u := (.int .i64)) (by kernel_rfl) (by kernel_rfl) (hval 0 3 v0 rfl rfl) h0
  have lt0 : ∀ x ∈ p0, x.block < W.heap.size := by obtain ⟨m, hm⟩ := h0; exact DataW.trod_lt m _ _ _ hm
  obtain ⟨x1, f1, k1⟩ := Go.Sl.read_arg (u := (.slice .bool)) (by kernel_rfl) (by kernel_rfl) (hval 1 30 v1 rfl rfl) h1
  have lt1 : ∀ x ∈ p1, x.block < W.heap.size := by obtain ⟨m, hm⟩ := h1; exact DataW.trod_lt m _ _ _ hm
  clear hA0 hval0
  obtain ⟨fuel, hm⟩ := AskTrees_true x0 x1 f0 f1
  refine (Go.Sl.law_of (vs := [v0, v1]) (law_AskTrees_ok hm) rfl (.cons (k0 _ _) (.cons (k1 _ _) .nil))).mono fun e W' ⟨he, bel⟩ => ?_
  subst he
  exact ⟨_, rfl, _, _, _, [], _, [], hW', trodAll_mk1 (shut_bool Try.underlying4 _), (trodAll_cons_mk (Below.trod laidOut (by kernel_rfl) (of_decide_eq_true (by kernel_rfl)) h0 bel lt0) (trodAll_cons_mk (Below.trod laidOut (by kernel_rfl) (of_decide_eq_true (by kernel_rfl)) h1 bel lt1) trodAll_mk0)), rfl, bel.frame _, fun h => by cases h⟩
theorem proved : Rows.AskTreesSaid :=
  OpenClaim.holds_of_wide 7 Try.f7 rfl rfl rfl rfl rfl rfl rfl ⟨rfl, rfl, rfl, rfl, rfl⟩ rfl rfl rfl rfl rfl (by kernel_rfl) Try.func7 (by kernel_rfl)
    (of_decide_eq_true (by kernel_rfl)) (by unfold Func.isWrapper; first | (rw [if_pos (by decide +kernel)]; kernel_rfl) | (rw [if_neg (by decide +kernel)]; exact ⟨rfl, rfl⟩))
    (fun os started H enc _ => lifted os started H enc)
#print axioms proved
end Go.Proofs.Ytnlibkamomlccaa.askTrees
