/- For any question that is true all.Plan returns a plan that wins, and else the specified error code: AllPlans returns true and changes nothing; no conditions. -/
import Derived.Test.YtcallckeeohoaaaRows
import Derived.WalkKit
import Derived.ProofKit
import Derived.OpenShut
import Derived.ShutString
import Derived.ChangeOld
import Derived.Below
import Derived.Test.YtcallckeeohoaaaAllPlansM
set_option linter.all false
set_option maxRecDepth 100000
namespace Go.Proofs.Ytcallckeeohoaaa.allPlans
open Go Go.Sl

theorem within_eq (a b c : Int) : ref_Within a b c = some (decide (a ≤ b ∧ b ≤ c)) := by
  unfold ref_Within
  rw [Bool.decide_and]

theorem nm_idx {x : List Bool} {i : Int} (h0 : 0 ≤ i) (h : i < (x.length : Int)) : idx x i = some (x.getD i.toNat false) := by
  obtain ⟨b, h1, h2⟩ := idx_get h0 h
  rw [h1, List.getD_eq_getElem?_getD, h2]; rfl
def clT (b : List Bool) (v : List Int × List Int) : Bool := v.1.any (fun x => b.getD x.toNat false) || v.2.any (fun x => !b.getD x.toNat false)

theorem nm_clause {v : List Int × List Int} {b : List Bool} (h : (∀ x ∈ v.1, 0 ≤ x ∧ x < (b.length : Int)) ∧ (∀ x ∈ v.2, 0 ≤ x ∧ x < (b.length : Int))) : ref_ClauseTrue v b = some (clT b v) := by
  unfold ref_ClauseTrue clT
  rw [forL_ex (p := fun x => b.getD x.toNat false) (y := Esc.ret true) (fun i a ha => by
    unfold ref_ClauseTrue_b1; rw [nm_idx (h.1 a ha).1 (h.1 a ha).2]; simp only [Option.bind_some]; cases b.getD a.toNat false <;> rfl)]
  rw [forL_ex (p := fun x => !b.getD x.toNat false) (y := Esc.ret true) (fun i a ha => by
    unfold ref_ClauseTrue_b5; rw [nm_idx (h.2 a ha).1 (h.2 a ha).2]; simp only [Option.bind_some]; cases b.getD a.toNat false <;> rfl)]
  cases (v.1.any fun x => b.getD x.toNat false) <;> cases (v.2.any fun x => !b.getD x.toNat false) <;> rfl
theorem nm_true {l : List (List Int × List Int)} {b : List Bool} (h : ∀ v ∈ l, (∀ x ∈ v.1, 0 ≤ x ∧ x < (b.length : Int)) ∧ (∀ x ∈ v.2, 0 ≤ x ∧ x < (b.length : Int))) : ref_True l b = some (!l.any fun v => !clT b v) := by
  unfold ref_True
  rw [forL_ex (p := fun v => !clT b v) (y := Esc.ret false) (fun i a ha => by
    unfold ref_True_b1
    rw [nm_clause (h a ha)]
    simp only [Option.bind_some]
    cases clT b a <;> rfl)]
  cases (l.any fun v => !clT b v) <;> rfl

def badv (n : Int) (v : Int) : Bool := decide (v < 0) || decide (v ≥ n)
theorem nm_inside (n : Int) (l : List Int) : ref_Inside n l = some (!l.any (badv n)) := by
  unfold ref_Inside
  rw [forL_ex (p := badv n) (y := Esc.ret false) (fun i a _ => by unfold ref_Inside_b1 badv; cases (decide (a < 0) || decide (a ≥ n)) <;> rfl)]
  cases (l.any (badv n)) <;> rfl
theorem nm_bad (l : List Int) (n : Int) : slices_ContainsFunc_Lintint_with_name_wrong_1 l n = some (l.any (badv n)) := by
  unfold slices_ContainsFunc_Lintint_with_name_wrong_1 slices_IndexFunc_Lintint_with_name_wrong_1
  rcases forL_at (body := slices_IndexFunc_Lintint_with_name_wrong_1_b1 n) (fin := fun _ => (Esc.brk () : Esc Int Unit)) (p := badv n) (g := fun j => Esc.ret j) (l := l)
    (fun i a _ => by unfold slices_IndexFunc_Lintint_with_name_wrong_1_b1 name_wrong_1 badv; cases (decide (a < 0) || decide (a ≥ n)) <;> rfl) (i := 0) with ⟨h1, h2⟩ | ⟨h1, j, h2, h3, h4⟩
  · rw [h2, h1]; rfl
  · rw [h4, h1]
    simp [h2]
def ncl (n : Int) (v : List Int × List Int) : Option Int :=
  bif decide ((v.1.length : Int) > 8) || decide ((v.2.length : Int) > 8) then some 1 else bif v.1.any (badv n) || v.2.any (badv n) then some 2 else none
def ncAll (n m : Int) (l : List (List Int × List Int)) : Int :=
  bif !decide (0 ≤ n ∧ n ≤ m) || decide ((l.length : Int) > 200) then 1 else (l.findSome? (ncl n)).getD 0
theorem nm_body (n i : Int) (v : List Int × List Int) : name_wrong_b10 n i v () = some (said Esc.ret (ncl n v)) := by
  unfold name_wrong_b10 name_wrong_g7 ncl
  rw [nm_bad, nm_bad]
  cases decide ((v.1.length : Int) > 8) <;> cases decide ((v.2.length : Int) > 8) <;> cases v.1.any (badv n) <;> cases v.2.any (badv n) <;> rfl
theorem nm_rbody (n i : Int) (v : List Int × List Int) : ref_ClausesCheck_b7 n i v () = some (said Esc.ret (ncl n v)) := by
  unfold ref_ClausesCheck_b7 ncl
  rw [nm_inside, nm_inside]
  cases decide ((v.1.length : Int) > 8) <;> cases decide ((v.2.length : Int) > 8) <;> cases v.1.any (badv n) <;> cases v.2.any (badv n) <;> rfl
theorem nm_check (n m : Int) (l : List (List Int × List Int)) : ref_ClausesCheck n m l = some (ncAll n m l) := by
  unfold ref_ClausesCheck ncAll
  rw [within_eq]
  simp only [Option.bind_some]
  rw [forL_find (f := ncl n) (g := Esc.ret) (fun i a _ => nm_rbody n i a)]
  cases (!decide (0 ≤ n ∧ n ≤ m)) || decide ((l.length : Int) > 200)
  · cases l.findSome? (ncl n) <;> rfl
  · rfl
theorem nm_wrong (n m : Int) (l : List (List Int × List Int)) : name_wrong n m l = some (ncAll n m l) := by
  unfold name_wrong ncAll
  rw [forL_find (f := ncl n) (g := Esc.ret) (fun i a _ => nm_body n i a)]
  have : ((decide (n < (0 : Int))) || (decide (n > m))) = !decide (0 ≤ n ∧ n ≤ m) := by
    rw [or_dec, not_dec]; exact decide_eq_decide.2 (by omega)
  rw [this]
  cases (!decide (0 ≤ n ∧ n ≤ m)) || decide ((l.length : Int) > 200)
  · cases l.findSome? (ncl n) <;> rfl
  · rfl
theorem nm_ok {n m : Int} {l : List (List Int × List Int)} (h : ncAll n m l = 0) : (0 ≤ n ∧ n ≤ m) ∧ l.length ≤ 200 ∧ ∀ v ∈ l, (∀ x ∈ v.1, 0 ≤ x ∧ x < n) ∧ (∀ x ∈ v.2, 0 ≤ x ∧ x < n) := by
  unfold ncAll at h
  cases hc : (!decide (0 ≤ n ∧ n ≤ m)) || decide ((l.length : Int) > 200) with
  | true => rw [hc] at h; cases h
  | false =>
    rw [hc] at h
    simp only [Bool.or_eq_false_iff, Bool.not_eq_false', decide_eq_true_eq, decide_eq_false_iff_not] at hc
    have hn : l.findSome? (ncl n) = none := by
      cases hf : l.findSome? (ncl n) with
      | none => rfl
      | some e =>
        rw [hf] at h
        obtain ⟨v, _, hv⟩ := List.exists_of_findSome?_eq_some hf
        unfold ncl at hv
        have : e = 0 := h
        subst this
        cases hb : (decide ((v.1.length : Int) > 8) || decide ((v.2.length : Int) > 8)) <;> rw [hb] at hv
        · cases hb2 : (v.1.any (badv n) || v.2.any (badv n)) <;> rw [hb2] at hv <;> simp at hv
        · simp at hv
    have good : ∀ k : List Int, k.any (badv n) = false → ∀ x ∈ k, 0 ≤ x ∧ x < n := by
      intro k hk x hx
      have := List.any_eq_false.1 hk x hx
      unfold badv at this
      simp only [Bool.or_eq_true, decide_eq_true_eq, not_or] at this
      omega
    refine ⟨hc.1, by omega, fun v hv => ?_⟩
    have := List.findSome?_eq_none_iff.1 hn v hv
    unfold ncl at this
    obtain ⟨_, h2⟩ := bif_none this
    obtain ⟨h2, _⟩ := bif_none h2
    rw [Bool.or_eq_false_iff] at h2
    exact ⟨good _ h2.1, good _ h2.2⟩
theorem nm_is1 {l : List Int} {b : List Bool} (h : ∀ x ∈ l, 0 ≤ x ∧ x < (b.length : Int)) : slices_ContainsFunc_Lintint_with_name_is_1 l b = some (l.any fun x => b.getD x.toNat false) := by
  unfold slices_ContainsFunc_Lintint_with_name_is_1 slices_IndexFunc_Lintint_with_name_is_1
  rcases forL_at (body := slices_IndexFunc_Lintint_with_name_is_1_b1 b) (fin := fun _ => (Esc.brk () : Esc Int Unit)) (p := fun x => b.getD x.toNat false) (g := fun j => Esc.ret j) (l := l)
    (fun i a ha => by unfold slices_IndexFunc_Lintint_with_name_is_1_b1 name_is_1; rw [nm_idx (h a ha).1 (h a ha).2]; simp only [Option.bind_some]; cases b.getD a.toNat false <;> rfl) (i := 0) with ⟨h1, h2⟩ | ⟨h1, j, h2, h3, h4⟩
  · rw [h2, h1]; rfl
  · rw [h4, h1]
    simp [h2]
theorem nm_is2 {l : List Int} {b : List Bool} (h : ∀ x ∈ l, 0 ≤ x ∧ x < (b.length : Int)) : slices_ContainsFunc_Lintint_with_name_is_2 l b = some (l.any fun x => !b.getD x.toNat false) := by
  unfold slices_ContainsFunc_Lintint_with_name_is_2 slices_IndexFunc_Lintint_with_name_is_2
  rcases forL_at (body := slices_IndexFunc_Lintint_with_name_is_2_b1 b) (fin := fun _ => (Esc.brk () : Esc Int Unit)) (p := fun x => !b.getD x.toNat false) (g := fun j => Esc.ret j) (l := l)
    (fun i a ha => by unfold slices_IndexFunc_Lintint_with_name_is_2_b1 name_is_2; rw [nm_idx (h a ha).1 (h a ha).2]; simp only [Option.bind_some]; cases b.getD a.toNat false <;> rfl) (i := 0) with ⟨h1, h2⟩ | ⟨h1, j, h2, h3, h4⟩
  · rw [h2, h1]; rfl
  · rw [h4, h1]
    simp [h2]
theorem nm_istrue {l : List (List Int × List Int)} {b : List Bool} (h : ∀ v ∈ l, (∀ x ∈ v.1, 0 ≤ x ∧ x < (b.length : Int)) ∧ (∀ x ∈ v.2, 0 ≤ x ∧ x < (b.length : Int))) : name_is l b = some (!l.any fun v => !clT b v) := by
  unfold name_is
  rw [forL_ex (p := fun v => !clT b v) (y := Esc.ret false) (fun i a ha => by
    unfold name_is_b1 clT
    rw [nm_is1 (h a ha).1, nm_is2 (h a ha).2]
    simp only [Option.bind_some]
    cases (a.1.any fun x => b.getD x.toNat false) <;> cases (a.2.any fun x => !b.getD x.toNat false) <;> rfl)]
  cases (l.any fun v => !clT b v) <;> rfl

def alAll (k : List Bool) (l : List (List Int × List Int)) : Int :=
  bif decide ((k.length : Int) > 8) || decide ((l.length : Int) > 12) then 1 else ncAll (k.length : Int) 8 l
theorem al_nc {n : Int} (h0 : 0 ≤ n) (h : n ≤ 8) (l : List (List Int × List Int)) : ncAll n 200 l = ncAll n 8 l := by
  unfold ncAll
  rw [decide_eq_true (show 0 ≤ n ∧ n ≤ 200 by omega), decide_eq_true (show 0 ≤ n ∧ n ≤ 8 by omega)]
theorem al_true {k h : List Bool} {l : List (List Int × List Int)} (hk : alAll k l = 0) (hl : h.length = k.length) :
    name_True (h.length : Int) l h = some (!l.any fun v => !clT h v, 0) ∧ ref_True l h = some (!l.any fun v => !clT h v) := by
  unfold alAll at hk
  cases hc : (decide ((k.length : Int) > 8) || decide ((l.length : Int) > 12)) with
  | true => rw [hc] at hk; cases hk
  | false =>
    rw [hc] at hk
    simp only [Bool.or_eq_false_iff, decide_eq_false_iff_not] at hc
    simp only [cond_false] at hk
    have h8 : ncAll (h.length : Int) 200 l = 0 := by rw [hl, al_nc (by omega) (by omega)]; exact hk
    obtain ⟨_, _, h3⟩ := nm_ok h8
    refine ⟨?_, nm_true h3⟩
    unfold name_True
    rw [nm_wrong, h8, nm_istrue h3]
    simp
theorem al_check (k : List Bool) (l : List (List Int × List Int)) : ref_AllCheck k l = some (alAll k l) := by
  unfold ref_AllCheck alAll
  rw [nm_check]
  cases (decide ((k.length : Int) > 8) || decide ((l.length : Int) > 12)) <;> rfl
theorem al_wrong (k : List Bool) (l : List (List Int × List Int)) : all_wrong k l = some (alAll k l) := by
  unfold all_wrong
  cases hc : (decide ((k.length : Int) > 8) || decide ((l.length : Int) > 12)) with
  | true => unfold alAll; rw [hc]; rfl
  | false =>
    have hh := hc
    simp only [Bool.or_eq_false_iff, decide_eq_false_iff_not] at hh
    rw [ck_ok (by omega)]
    simp only [cond_false, bind_some', Int.toNat_natCast]
    by_cases hz : alAll k l = 0
    · have := (al_true hz (h := List.replicate k.length false) (by simp)).1
      rw [List.length_replicate] at this
      rw [this, hz]; rfl
    · have e : alAll k l = ncAll (k.length : Int) 8 l := by unfold alAll; rw [hc]; rfl
      have h8 : ncAll (k.length : Int) 200 l = alAll k l := by rw [al_nc (by omega) (by omega), e]
      unfold name_True
      rw [nm_wrong, h8]
      have e1 : (alAll k l != 0) = true := by simp [hz]
      simp only [bind_some', e1, cond_true]
theorem al_small {k : List Bool} {l : List (List Int × List Int)} (hk : alAll k l = 0) : k.length ≤ 8 := by
  unfold alAll at hk
  cases hc : (decide ((k.length : Int) > 8) || decide ((l.length : Int) > 12)) with
  | true => rw [hc] at hk; cases hk
  | false => simp only [Bool.or_eq_false_iff, decide_eq_false_iff_not] at hc; omega

/-- who wins, with d values still to be given -/
def gw (k : List Bool) (l : List (List Int × List Int)) : Nat → List Bool → Bool
  | 0, h => !l.any fun v => !clT h v
  | d + 1, h => bif k.getD h.length false then gw k l d (h ++ [false]) || gw k l d (h ++ [true]) else gw k l d (h ++ [false]) && gw k l d (h ++ [true])
theorem al_wins {k : List Bool} {l : List (List Int × List Int)} (hk : alAll k l = 0) : ∀ (d fuel : Nat) (h : List Bool), h.length + d = k.length → d < fuel → all_game_wins fuel (k, l) h = some (gw k l d h)
  | d, 0, h, _, hf => by omega
  | 0, fuel + 1, h, hd, _ => by
    have h8 := al_small hk
    show all_game_wins_step (all_game_wins fuel) fuel (k, l) h = _
    unfold all_game_wins_step
    have e : ((List.length h : Int) == (List.length (k, l).1 : Int)) = true := by simp; omega
    rw [e, (al_true hk (h := h) (by omega)).1]
    rfl
  | d + 1, fuel + 1, h, hd, hf => by
    have h8 := al_small hk
    show all_game_wins_step (all_game_wins fuel) fuel (k, l) h = _
    unfold all_game_wins_step
    have e : ((List.length h : Int) == (List.length (k, l).1 : Int)) = false := by simp; omega
    have hi : idx (k, l).1 (List.length h : Int) = some (k.getD h.length false) := by
      rw [idx_nat, List.getD_eq_getElem?_getD, List.getElem?_eq_getElem (by show h.length < k.length; omega)]; rfl
    have hs : sub h (0 : Int) (List.length h : Int) = h := by unfold sub; simp
    have hb : ∀ (i : Int) (b : Bool), idx [false, true] i = some b → all_game_wins_b1 (k, l) h (k.getD h.length false) (all_game_wins fuel) i () = some (bif gw k l d (h ++ [b]) == k.getD h.length false then .done (.ret (k.getD h.length false)) else .next ()) := by
      intro i b hib
      unfold all_game_wins_b1
      rw [hib, bind_some', ck_ok (by omega), bind_some', hs, ck_ok (by omega), bind_some', al_wins hk d fuel (h ++ [b]) (by simp; omega) (by omega), bind_some']
      cases (gw k l d (h ++ [b]) == k.getD h.length false) <;> rfl
    rw [e, hi]
    simp only [cond_false, bind_some']
    unfold forI
    rw [if_pos ⟨by omega, by omega⟩]
    show (loopI (all_game_wins_b1 (k, l) h (k.getD h.length false) (all_game_wins fuel)) _ 2 0 ()).bind _ = _
    have hb0 := hb 0 false rfl
    have hb1 := hb (0 + 1) true rfl
    have hg : gw k l (d + 1) h = bif k.getD h.length false then gw k l d (h ++ [false]) || gw k l d (h ++ [true]) else gw k l d (h ++ [false]) && gw k l d (h ++ [true]) := rfl
    rw [hg]
    clear hb hg
    generalize gw k l d (h ++ [false]) = p at *
    generalize gw k l d (h ++ [true]) = q at *
    generalize k.getD h.length false = v at *
    simp only [loopI, hb0]
    cases v <;> cases p <;> first | rfl | (simp only [beq_true, beq_false, Bool.not_true, Bool.not_false, cond_false, hb1]; cases q <;> rfl)
theorem al_rwins {k : List Bool} {l : List (List Int × List Int)} (hk : alAll k l = 0) : ∀ (d fuel : Nat) (h : List Bool), h.length + d = k.length → d < fuel → ref_Wins fuel k l h = some (gw k l d h)
  | d, 0, h, _, hf => by omega
  | 0, fuel + 1, h, hd, _ => by
    have h8 := al_small hk
    show ref_Wins_step (ref_Wins fuel) fuel k l h = _
    unfold ref_Wins_step
    have e : ((List.length h : Int) == (List.length k : Int)) = true := by simp; omega
    rw [e, (al_true hk (h := h) (by omega)).2]
    rfl
  | d + 1, fuel + 1, h, hd, hf => by
    have h8 := al_small hk
    show ref_Wins_step (ref_Wins fuel) fuel k l h = _
    unfold ref_Wins_step
    have e : ((List.length h : Int) == (List.length k : Int)) = false := by simp; omega
    have hi : idx k (List.length h : Int) = some (k.getD h.length false) := by
      rw [idx_nat, List.getD_eq_getElem?_getD, List.getElem?_eq_getElem (by omega)]; rfl
    rw [e]
    simp only [cond_false]
    rw [ck_ok (by omega), bind_some', List.nil_append, ck_ok (by omega), bind_some', al_rwins hk d fuel (h ++ [false]) (by simp; omega) (by omega), bind_some', al_rwins hk d fuel (h ++ [true]) (by simp; omega) (by omega), bind_some', hi, bind_some']
    rw [show gw k l (d + 1) h = bif k.getD h.length false then gw k l d (h ++ [false]) || gw k l d (h ++ [true]) else gw k l d (h ++ [false]) && gw k l d (h ++ [true]) from rfl]
    cases k.getD h.length false <;> rfl

theorem bit_eq {w i : Nat} (hw : w < 2 ^ 63) (hi : i < 63) : ref_Bit (w : Int) (i : Int) = some (w.testBit i) := by
  unfold ref_Bit
  have c : (decide ((i : Int) ≥ 0) && decide ((i : Int) < 63)) = true := by simp; omega
  have e : IntKind.wrap .u64 (i : Int) = (i : Int) := wrap_u64 (by omega) (by omega)
  rw [c, e, ck_ok (by omega)]
  simp only [cond_true, Option.bind_some, bit_mask hw hi]

theorem word_loop : ∀ (l : List Bool) (i : Nat) (x : Nat), i + l.length ≤ 60 → x < 2 ^ i → forL ref_Word_b5 (fun x => x) l (i : Int) (x : Int) = some ((x + 2 ^ i * wd l : Nat) : Int)
  | [], i, x, hi, hx => by simp [forL, wd]
  | b :: l, i, x, hi, hx => by
    simp only [List.length_cons] at hi
    have hp : 2 ^ i ≤ 2 ^ 60 := Nat.pow_le_pow_right (by omega) (by omega)
    have hs : ref_Word_b5 (i : Int) b (x : Int) = some (.next ((x + 2 ^ i * b.toNat : Nat) : Int)) := by
      unfold ref_Word_b5
      have e : IntKind.wrap .u64 (i : Int) = (i : Int) := wrap_u64 (by omega) (by omega)
      rw [e, ck_ok (by omega), bShl_one (by omega)]
      cases b with
      | true =>
        have : w64 ((x : Int) + ((2 ^ i : Nat) : Int)) = ((x + 2 ^ i * 1 : Nat) : Int) := by
          generalize 2 ^ i = p at *
          rw [w64_id (by omega) (by omega)]; omega
        simp only [cond_true, Option.bind_some, this]; rfl
      | false => simp
    have hb : b.toNat ≤ 1 := Bool.toNat_le b
    have hlt : x + 2 ^ i * b.toNat < 2 ^ (i + 1) := by
      have : 2 ^ i * b.toNat ≤ 2 ^ i * 1 := Nat.mul_le_mul_left _ hb
      rw [Nat.pow_succ]; omega
    simp only [forL, hs]
    have := word_loop l (i + 1) (x + 2 ^ i * b.toNat) (by omega) hlt
    rw [Int.natCast_add, Int.natCast_one] at this
    rw [this]
    congr 2
    simp only [wd]
    rw [Nat.mul_add, Nat.pow_succ, Nat.mul_assoc]
    omega
theorem word_eq (l : List Bool) (h : l.length ≤ 60) : ref_Word l = some ((wd l : Nat) : Int) := by
  unfold ref_Word
  have := word_loop l 0 0 (by omega) (by simp)
  simp only [Int.natCast_zero, Nat.pow_zero, Nat.one_mul, Nat.zero_add] at this
  rw [this]; rfl

theorem ap_i2 (l : List Bool) : ref_Word_i2 l = ref_Word l := rfl
theorem wd_snoc : ∀ (l : List Bool) (b : Bool), wd (l ++ [b]) = wd l + 2 ^ l.length * b.toNat
  | [], b => by cases b <;> rfl
  | a :: l, b => by
    simp only [List.cons_append, wd, wd_snoc l b, List.length_cons]
    rw [Nat.mul_add, Nat.pow_succ, Nat.mul_comm (2 ^ l.length) 2, Nat.mul_assoc]; omega
theorem ap_pow {n : Nat} (h : n ≤ 8) : 2 ^ n ≤ 256 := by
  have := Nat.pow_le_pow_right (n := 2) (by omega) h
  simpa using this
/-- how much of the plan, and of the other one's values, the first kinds take -/
def apP (k : List Bool) (n : Nat) : Nat := wd (k.take n)
def apO (k : List Bool) (n : Nat) : Nat := (k.take n).countP (!·)
theorem ap_take {k : List Bool} {n : Nat} {v : Bool} (h : k[n]? = some v) : k.take (n + 1) = k.take n ++ [v] := by rw [List.take_add_one, h]; rfl
theorem apP_succ {k : List Bool} {n : Nat} {v : Bool} (h : k[n]? = some v) : apP k (n + 1) = apP k n + 2 ^ n * v.toNat := by
  have := (List.getElem?_eq_some_iff.1 h).1
  unfold apP
  rw [ap_take h, wd_snoc, List.length_take, Nat.min_eq_left (by omega)]
theorem apO_succ {k : List Bool} {n : Nat} {v : Bool} (h : k[n]? = some v) : apO k (n + 1) = apO k n + (!v).toNat := by
  unfold apO
  rw [ap_take h, List.countP_append]
  cases v <;> rfl
theorem apP_mono {k : List Bool} : ∀ {n m : Nat}, n ≤ m → m ≤ k.length → apP k n ≤ apP k m := by
  intro n m h hm
  induction m with
  | zero => have : n = 0 := by omega
            rw [this]; exact Nat.le_refl _
  | succ m ih =>
    by_cases he : n = m + 1
    · rw [he]; exact Nat.le_refl _
    · have := ih (by omega) (by omega)
      rw [apP_succ (List.getElem?_eq_getElem (show m < k.length by omega))]; omega
theorem apO_mono {k : List Bool} : ∀ {n m : Nat}, n ≤ m → m ≤ k.length → apO k n ≤ apO k m := by
  intro n m h hm
  induction m with
  | zero => have : n = 0 := by omega
            rw [this]; exact Nat.le_refl _
  | succ m ih =>
    by_cases he : n = m + 1
    · rw [he]; exact Nat.le_refl _
    · have := ih (by omega) (by omega)
      rw [apO_succ (List.getElem?_eq_getElem (show m < k.length by omega))]; omega
theorem apP_lt (k : List Bool) (n : Nat) (h : n ≤ k.length) (h8 : k.length ≤ 8) : apP k n < 256 := by
  have := wd_lt (k.take n)
  have h2 := ap_pow (n := (k.take n).length) (by simp; omega)
  unfold apP; omega
theorem apO_le (k : List Bool) (n : Nat) (h8 : k.length ≤ 8) : apO k n ≤ 8 := by
  unfold apO
  have := List.countP_le_length (p := (!·)) (l := k.take n)
  simp at this; omega
theorem ap_rcount {k : List Bool} (h8 : k.length ≤ 8) : ref_Plans k = some (((apP k k.length : Nat) : Int), ((apO k k.length : Nat) : Int)) := by
  obtain ⟨y, h1, h2⟩ := forL_inv (body := ref_Plans_b6) (fin := fun x34 => (x34.1, x34.2)) (l := k) (x := ((0 : Int), (0 : Int))) (Inv := fun n x => x = (((apP k n : Nat) : Int), ((apO k n : Nat) : Int))) (Post := fun y => y = (((apP k k.length : Nat) : Int), ((apO k k.length : Nat) : Int)))
    (by simp [apP, apO, wd]) (by
      rintro n v x hv rfl
      have hn := (List.getElem?_eq_some_iff.1 hv).1
      have hp := ap_pow (n := n) (by omega)
      have hP := apP_lt k n (by omega) h8
      have hO := apO_le k n h8
      have ew : IntKind.wrap .u64 (n : Int) = (n : Int) := wrap_u64 (by omega) (by omega)
      unfold ref_Plans_b6 ref_Plans_g4
      rw [ew, ck_ok (by omega), bShl_one (by omega)]
      cases v with
      | true =>
        have e : w64 (((apP k n : Nat) : Int) + ((2 ^ n : Nat) : Int)) = ((apP k (n + 1) : Nat) : Int) := by
          rw [apP_succ hv]
          generalize 2 ^ n = p at *
          rw [w64_id (by omega) (by omega)]; simp
        simp only [cond_true, bind_some', e]
        exact ⟨_, rfl, by rw [apO_succ hv]; simp⟩
      | false =>
        have e : w64 (((apO k n : Nat) : Int) + 1) = ((apO k (n + 1) : Nat) : Int) := by
          rw [apO_succ hv, w64_id (by omega) (by omega)]; simp
        simp only [cond_false, bind_some', e]
        exact ⟨_, rfl, by rw [apP_succ hv]; simp⟩) (by rintro x rfl; rfl)
  unfold ref_Plans
  rw [h1, h2]; rfl

theorem bits_eq {n w : Nat} (hn : n ≤ 60) (hw : w < 2 ^ 60) : ref_Bits (n : Int) (w : Int) = some (bitsOf n w) := by
  have hw2 : w < 2 ^ 63 := Nat.lt_trans hw (by decide)
  unfold ref_Bits
  obtain ⟨y, h1, h2⟩ := forI_inv (body := ref_Bits_b1 (w : Int)) (fin := fun x11 => x11) (lo := 0) (hi := (n : Int)) (x := []) (fun i x => x = bitsOf i.toNat w) (fun y => y = bitsOf n w) (by omega) (by omega) rfl
    (by
      rintro i x h0 hi rfl
      obtain ⟨j, rfl⟩ := Int.eq_ofNat_of_zero_le h0
      have hck : ck ((List.length (bitsOf j w) : Int) + 1 ≤ 4294967296) = some () := ck_ok (by rw [bitsOf_len]; omega)
      unfold ref_Bits_b1
      rw [Int.toNat_natCast, bit_eq hw2 (by omega), bind_some', hck, bind_some']
      refine ⟨_, rfl, ?_⟩
      have e : ((j : Int) + 1).toNat = j + 1 := by omega
      rw [e]
      unfold bitsOf
      rw [List.range_succ, List.map_append]; rfl)
    (by
      rintro i x h0 h1 h2 rfl
      have : i.toNat = n := by omega
      rw [this])
  rw [h1, h2]; rfl
theorem bits_wd (h : List Bool) : bitsOf h.length (wd h) = h := by
  apply List.ext_getElem?
  intro i
  by_cases hi : i < h.length
  · rw [bitsOf_get hi, wd_bit, List.getD_eq_getElem?_getD, List.getElem?_eq_getElem hi]; rfl
  · rw [List.getElem?_eq_none (by simp; omega), List.getElem?_eq_none (by omega)]
abbrev Cl : Type := List (List Int × List Int)
def plB (k : List Bool) (l : Cl) (v : Nat) : List Bool := if k.getD v false = true then (List.range (2 ^ v)).map (fun (s : Nat) => gw k l (k.length - (v + 1)) (bitsOf v s ++ [true])) else []
def plL (k : List Bool) (l : Cl) : Nat → List Bool
  | 0 => []
  | n + 1 => plL k l n ++ plB k l n
theorem plL_len {k : List Bool} {l : Cl} : ∀ n, n ≤ k.length → (plL k l n).length = apP k n
  | 0, _ => by simp [plL, apP, wd]
  | n + 1, h => by
    have hv : k[n]? = some k[n] := List.getElem?_eq_getElem (by omega)
    rw [plL, List.length_append, plL_len n (by omega), apP_succ hv]
    unfold plB
    rw [List.getD_eq_getElem?_getD, hv]
    cases k[n] <;> simp
theorem plL_get {k : List Bool} {l : Cl} {n s : Nat} (hv : k[n]? = some true) (hs : s < 2 ^ n) : ∀ m, n + 1 ≤ m → m ≤ k.length → (plL k l m)[apP k n + s]? = some (gw k l (k.length - (n + 1)) (bitsOf n s ++ [true]))
  | 0, h, _ => by omega
  | m + 1, h, hm => by
    have hn := (List.getElem?_eq_some_iff.1 hv).1
    by_cases e : m = n
    · subst e
      rw [plL, List.getElem?_append_right (by rw [plL_len m (by omega)]; omega), plL_len m (by omega), Nat.add_sub_cancel_left]
      unfold plB
      rw [List.getD_eq_getElem?_getD, hv, Option.getD_some, if_pos rfl, List.getElem?_map, List.getElem?_range hs]; rfl
    · have ih := plL_get (l := l) hv hs m (by omega) (by omega)
      rw [plL, List.getElem?_append_left (List.getElem?_eq_some_iff.1 ih).1, ih]
theorem plan_bits {v s : Nat} (hv : v ≤ 8) (hs : s < 256) : forI (0 : Int) (v : Int) (all_Plan_b134 (s : Int)) (fun x734 => x734) [] = some (bitsOf v s) := by
  obtain ⟨y, h1, h2⟩ := forI_inv (body := all_Plan_b134 (s : Int)) (fin := fun x11 => x11) (lo := 0) (hi := (v : Int)) (x := []) (fun i x => x = bitsOf i.toNat s) (fun y => y = bitsOf v s) (by omega) (by omega) rfl
    (by
      rintro i x h0 hi rfl
      obtain ⟨j, rfl⟩ := Int.eq_ofNat_of_zero_le h0
      have hck : ck ((List.length (bitsOf j s) : Int) + 1 ≤ 4294967296) = some () := ck_ok (by rw [bitsOf_len]; omega)
      have hck0 : ck (0 ≤ (j : Int)) = some () := ck_ok (by omega)
      unfold all_Plan_b134
      rw [Int.toNat_natCast, hck0, bind_some', hck, bind_some', bit_shift (by omega) (by omega)]
      refine ⟨_, rfl, ?_⟩
      have e : ((j : Int) + 1).toNat = j + 1 := by omega
      rw [e]
      unfold bitsOf
      rw [List.range_succ, List.map_append]; rfl)
    (by
      rintro i x h0 h1 h2 rfl
      have : i.toNat = v := by omega
      rw [this])
  rw [h1, h2]
theorem plan_row {k : List Bool} {l : Cl} (hk : alAll k l = 0) {v fuel : Nat} (hv : k[v]? = some true) (hf : k.length < fuel) {x0 : List Bool} (hx : x0.length ≤ 300) :
    forI (0 : Int) (bShl .i64 (1 : Int) (v : Int)) (all_Plan_b137 k l fuel (v : Int)) (fun x724 => x724) x0 = some (x0 ++ (List.range (2 ^ v)).map (fun (s : Nat) => gw k l (k.length - (v + 1)) (bitsOf v s ++ [true]))) := by
  have h8 := al_small hk
  have hvl := (List.getElem?_eq_some_iff.1 hv).1
  have hp := ap_pow (n := v) (by omega)
  rw [bShl_one (by omega)]
  obtain ⟨y, h1, h2⟩ := forI_inv (body := all_Plan_b137 k l fuel (v : Int)) (fin := fun x => x) (lo := 0) (hi := ((2 ^ v : Nat) : Int)) (x := x0) (fun i x => x = x0 ++ (List.range i.toNat).map (fun (s : Nat) => gw k l (k.length - (v + 1)) (bitsOf v s ++ [true]))) (fun y => y = x0 ++ (List.range (2 ^ v)).map (fun (s : Nat) => gw k l (k.length - (v + 1)) (bitsOf v s ++ [true]))) (by omega) (by generalize 2 ^ v = q at *; omega) (by simp)
    (by
      rintro i x h0 hi rfl
      obtain ⟨j, rfl⟩ := Int.eq_ofNat_of_zero_le h0
      have hj : j < 2 ^ v := by omega
      generalize 2 ^ v = q at *
      have hck1 : ck ((List.length (bitsOf v j) : Int) + 1 ≤ 4294967296) = some () := ck_ok (by rw [bitsOf_len]; omega)
      have hck2 : ck ((List.length (x0 ++ (List.range j).map (fun (s : Nat) => gw k l (k.length - (v + 1)) (bitsOf v s ++ [true]))) : Int) + 1 ≤ 4294967296) = some () := ck_ok (by rw [List.length_append, List.length_map, List.length_range]; omega)
      have hw := al_wins hk (k.length - (v + 1)) fuel (bitsOf v j ++ [true]) (by rw [List.length_append, bitsOf_len]; simp; omega) (by omega)
      unfold all_Plan_b137
      rw [Int.toNat_natCast, plan_bits (by omega) (by omega), bind_some', hck1, bind_some', hw, bind_some', hck2, bind_some']
      refine ⟨_, rfl, ?_⟩
      have e : ((j : Int) + 1).toNat = j + 1 := by omega
      rw [e, List.range_succ, List.map_append, List.append_assoc]; rfl)
    (by
      rintro i x h0 h1 h2 rfl
      have hpos : 0 < 2 ^ v := Nat.pow_pos (by omega)
      have : i.toNat = 2 ^ v := by
        generalize 2 ^ v = q at *
        omega
      rw [this])
  rw [h1, h2]
theorem plan_all {k : List Bool} {l : Cl} (hk : alAll k l = 0) {fuel : Nat} (hf : k.length < fuel) : forL (all_Plan_b142 k l fuel) (fun x514 => x514) k 0 [] = some (plL k l k.length) := by
  have h8 := al_small hk
  obtain ⟨y, h1, h2⟩ := forL_inv (body := all_Plan_b142 k l fuel) (fin := fun x => x) (l := k) (x := []) (fun n x => x = plL k l n) (fun y => y = plL k l k.length) rfl
    (by
      rintro n v x hv rfl
      have hn := (List.getElem?_eq_some_iff.1 hv).1
      refine ⟨.next (plL k l (n + 1)), ?_, rfl⟩
      unfold all_Plan_b142 all_Plan_g140
      cases v with
      | false =>
        have : plL k l (n + 1) = plL k l n := by
          rw [plL]
          unfold plB
          rw [List.getD_eq_getElem?_getD, hv]; simp
        rw [this]; rfl
      | true =>
        have hlen := plL_len (k := k) (l := l) n (by omega)
        have hlt := apP_lt k n (by omega) h8
        rw [Bool.not_true, cond_false, ck_ok (by omega), bind_some', plan_row hk hv hf (by omega), bind_some', bind_some']
        congr 2
        rw [plL]
        unfold plB
        rw [List.getD_eq_getElem?_getD, hv, Option.getD_some, if_pos rfl])
    (by rintro x rfl; rfl)
  rw [h1, h2]
theorem plan_wins {k : List Bool} {l : Cl} (hk : alAll k l = 0) (hw : gw k l k.length [] = true) {o : List Bool} (ho : o.length = apO k k.length) :
    ∃ y, ref_Played k (plL k l k.length) o = some y ∧ y.length = k.length ∧ gw k l 0 y = true := by
  have h8 := al_small hk
  have hplen := plL_len (k := k) (l := l) k.length (Nat.le_refl _)
  obtain ⟨y, h1, h2⟩ := forL_inv (body := ref_Played_b7 (plL k l k.length) o) (fin := fun x73 => x73.2.2) (l := k) (x := ((0 : Int), (0 : Int), []))
    (fun n x => ∃ h : List Bool, h.length = n ∧ x = (((apP k n : Nat) : Int), ((apO k n : Nat) : Int), h) ∧ gw k l (k.length - n) h = true) (fun y => y.length = k.length ∧ gw k l 0 y = true) ⟨[], rfl, rfl, hw⟩
    (by
      rintro n v x hv ⟨h, hl, rfl, hg⟩
      have hn := (List.getElem?_eq_some_iff.1 hv).1
      have hpw := ap_pow (n := n) (by omega)
      have hP := apP_lt k n (by omega) h8
      have hO := apO_le k n h8
      have hPm := apP_mono (k := k) (show n + 1 ≤ k.length by omega) (Nat.le_refl _)
      have hOm := apO_mono (k := k) (show n + 1 ≤ k.length by omega) (Nat.le_refl _)
      have hPs := apP_succ hv
      have hOs := apO_succ hv
      have hwl := wd_lt h
      rw [hl] at hwl
      have ew : IntKind.wrap .u64 (n : Int) = (n : Int) := wrap_u64 (by omega) (by omega)
      have hck : ck ((List.length h : Int) + 1 ≤ 4294967296) = some () := ck_ok (by omega)
      obtain ⟨d, hd⟩ : ∃ d, k.length - n = d + 1 := ⟨k.length - n - 1, by omega⟩
      rw [hd, gw, hl, List.getD_eq_getElem?_getD, hv, Option.getD_some] at hg
      have hd2 : k.length - (n + 1) = d := by omega
      unfold ref_Played_b7 ref_Played_g5
      simp only [ew]
      cases v with
      | true =>
        simp only [Bool.toNat_true, Nat.mul_one] at hPs
        simp only [Bool.not_true, Bool.toNat_false, Nat.add_zero] at hOs
        rw [cond_true] at hg
        have hget := plL_get (l := l) hv hwl k.length (by omega) (Nat.le_refl _)
        have hb : bitsOf n (wd h) = h := by rw [← hl]; exact bits_wd h
        rw [hb, hd2] at hget
        have e2 : idx (plL k l k.length) (w64 (((apP k n : Nat) : Int) + ((wd h : Nat) : Int))) = some (gw k l d (h ++ [true])) := by
          rw [w64_id (by omega) (by omega), ← Int.natCast_add, idx_nat, hget]
        have e3 : w64 (((apP k n : Nat) : Int) + ((2 ^ n : Nat) : Int)) = ((apP k (n + 1) : Nat) : Int) := by
          rw [hPs]
          generalize 2 ^ n = q at *
          rw [w64_id (by omega) (by omega)]; simp
        rw [cond_true, ap_i2, word_eq h (by omega), bind_some', e2, bind_some', hck, bind_some', ck_ok (by omega), bind_some', bShl_one (by omega), e3, bind_some']
        refine ⟨_, rfl, h ++ [gw k l d (h ++ [true])], by simp [hl], by rw [hOs], ?_⟩
        rw [hd2]
        cases hq : gw k l d (h ++ [true]) with
        | true => exact hq
        | false => rw [hq, Bool.or_false] at hg; exact hg
      | false =>
        simp only [Bool.toNat_false, Nat.mul_zero, Nat.add_zero] at hPs
        simp only [Bool.not_false, Bool.toNat_true] at hOs
        rw [cond_false, Bool.and_eq_true] at hg
        have hlt : apO k n < o.length := by omega
        have e2 : idx o ((apO k n : Nat) : Int) = some o[apO k n] := by rw [idx_nat, List.getElem?_eq_getElem hlt]
        have e3 : w64 (((apO k n : Nat) : Int) + 1) = ((apO k (n + 1) : Nat) : Int) := by
          rw [hOs, w64_id (by omega) (by omega)]; simp
        rw [cond_false, e2, bind_some', hck, bind_some', e3, bind_some']
        refine ⟨_, rfl, h ++ [o[apO k n]], by simp [hl], by rw [hPs], ?_⟩
        rw [hd2]
        cases o[apO k n] with
        | true => exact hg.2
        | false => exact hg.1)
    (by
      rintro x ⟨h, hl, rfl, hg⟩
      rw [Nat.sub_self] at hg
      exact ⟨hl, hg⟩)
  exact ⟨y, by unfold ref_Played; rw [h1]; rfl, h2⟩
theorem AllPlans_true (a0 : List Bool) (a1 : Cl) (f0 : Fits (.slice .bool) a0) (f1 : Fits (.slice (.pair (.slice (.int .i64)) (.slice (.int .i64)))) a1) : ∃ fuel, law_AllPlans fuel a0 a1 = some true := by
  obtain ⟨fuel, hf⟩ : ∃ f : Nat, a0.length + 1000 ≤ f := ⟨a0.length + 1000, Nat.le_refl _⟩
  refine ⟨fuel, ?_⟩
  unfold law_AllPlans all_Plan
  rw [al_wrong, al_check]
  simp only [bind_some']
  by_cases hz : alAll a0 a1 = 0
  · have h8 := al_small hz
    rw [hz, al_wins hz a0.length _ [] (by simp) (by omega), al_rwins hz a0.length _ [] (by simp) (by omega)]
    simp only [show ((0 : Int) != 0) = false from rfl, show ((0 : Int) == 0) = true from rfl, cond_false, cond_true, bind_some']
    cases hw : gw a0 a1 a0.length [] with
    | false => rfl
    | true =>
      simp only [Bool.not_true, cond_false]
      rw [plan_all hz (by omega), ap_rcount h8]
      simp only [bind_some', show ((0 : Int) != 0) = false from rfl, cond_false]
      have hlen := plL_len (k := a0) (l := a1) a0.length (Nat.le_refl _)
      have hO := apO_le a0 a0.length h8
      rw [hlen, show (((apP a0 a0.length : Nat) : Int) != ((apP a0 a0.length : Nat) : Int)) = false by simp]
      simp only [Bool.or_false, cond_false]
      have hp := ap_pow hO
      obtain ⟨y, h1, rfl⟩ := iter_inv (f := law_AllPlans_b4 a0 a1 (plL a0 a1 a0.length, 0) (((apP a0 a0.length : Nat) : Int), ((apO a0 a0.length : Nat) : Int))) (Inv := fun i => ∃ n : Nat, i = (n : Int) ∧ n ≤ 2 ^ apO a0 a0.length) (m := fun i => (256 - i).toNat) (Post := fun y => y = .brk ())
        (by
          rintro _ ⟨n, rfl, hn⟩
          have ew : IntKind.wrap .u64 ((apO a0 a0.length : Nat) : Int) = ((apO a0 a0.length : Nat) : Int) := wrap_u64 (by omega) (by omega)
          unfold law_AllPlans_b4
          simp only
          rw [ew, ck_ok (by omega), bind_some', bShl_one (by omega)]
          generalize 2 ^ apO a0 a0.length = q at *
          by_cases c : n < q
          · rw [decide_eq_true (by omega), cond_true, bits_eq (by omega) (by omega), bind_some']
            obtain ⟨y, g1, g2, g3⟩ := plan_wins hz hw (o := bitsOf (apO a0 a0.length) n) (by simp)
            have ht := (al_true hz g2).2
            have hg : (!a1.any fun v => !clT y v) = true := g3
            rw [g1, bind_some', ht, bind_some', hg, Bool.not_true, cond_false]
            have e : w64 ((n : Int) + 1) = ((n + 1 : Nat) : Int) := by rw [w64_id (by omega) (by omega)]; omega
            exact ⟨_, rfl, ⟨n + 1, e, c⟩, by rw [e]; omega⟩
          · rw [decide_eq_false (by omega), cond_false]
            exact ⟨_, rfl, rfl⟩) fuel 0 (by show (256 - (0 : Int)).toNat < fuel; omega) ⟨0, rfl, Nat.zero_le _⟩
      rw [h1]; rfl
  · have e : (alAll a0 a1 != 0) = true := by simp [hz]
    have e2 : (alAll a0 a1 == 0) = false := by simp [hz]
    rw [e, e2]
    simp only [cond_true, cond_false, bind_some', e]
    simp

end Go.Proofs.Ytcallckeeohoaaa.allPlans
namespace Go.Proofs.Ytcallckeeohoaaa.allPlans
open Go.ChangeShapes Go.WideShapes Go.ChangeAt Go.RowKit
open Go.ChangeMaps (open_string shut_string)
theorem own : ownKnob Try.prog.godebug = none := by kernel_rfl
theorem laidOut : laidOutB Try.prog = true := by kernel_rfl
theorem lifted (os : Os) (started : os.Started) (H : Type) (enc : TypeId × Value → H) :
    ReturnsInHanded {} Try.checked os 6 .any (Rows.allPlansSpec.pre6 enc Try.prog Try.f6 Rows.allPlansRow.domain false) (Rows.allPlansSpec.post enc Try.prog Try.f6 false true false false) := by
  refine returnsInHanded_of_change (C := Try.checked) own started (by kernel_rfl) Try.func6
    (ChangeSpec.witness6 (enc := enc) (C := Try.checked) false ⟨#[], #[.slice none 0 0, .slice none 0 0], []⟩ 8 (by kernel_rfl) (by kernel_rfl) (by kernel_rfl) (by kernel_rfl)) ?_
  intro W base args ds gs before hval0 hW hcnd _
  have hval : ∀ (j : Nat) t v, Try.f6.params[j]? = some t → args[j]? = some v → Value.okWide Try.prog W .any base t v := hval0
  have hW' := hW
  obtain ⟨p, q, hA0, hV, rfl, hfz, hnd⟩ := hW
  have hA : DataW.TrodAll enc Try.prog W 0 (fun _ => true) true Try.f6.params.toList args.toList ds p := hA0
  rw [Try.params6] at hA hval
  obtain ⟨v0, vs0, d0, ds0, p0, q0, hargs, rfl, rfl, h0, r0⟩ := trodAll_cons hA
  obtain ⟨v1, vs1, d1, ds1, p1, q1, rfl, rfl, rfl, h1, r1⟩ := trodAll_cons r0
  obtain ⟨rfl, rfl, rfl⟩ := trodAll_nil r1
  obtain rfl : args = #[v0, v1] := by cases args; simp_all
  obtain ⟨rfl, rfl⟩ := trodVars_none hV
  obtain ⟨x0, f0, k0⟩ := Go.Sl.read_arg (u := (.slice .bool)) (by kernel_rfl) (by kernel_rfl) (hval 0 34 v0 rfl rfl) h0
  have lt0 : ∀ x ∈ p0, x.block < W.heap.size := by obtain ⟨m, hm⟩ := h0; exact DataW.trod_lt m _ _ _ hm
  obtain ⟨x1, f1, k1⟩ := Go.Sl.read_arg (u := (.slice (.pair (.slice (.int .i64)) (.slice (.int .i64))))) (by kernel_rfl) (by kernel_rfl) (hval 1 23 v1 rfl rfl) h1
  have lt1 : ∀ x ∈ p1, x.block < W.heap.size := by obtain ⟨m, hm⟩ := h1; exact DataW.trod_lt m _ _ _ hm
  clear hA0 hval0
  obtain ⟨fuel, hm⟩ := AllPlans_true x0 x1 f0 f1
  refine (Go.Sl.law_of (vs := [v0, v1]) (law_AllPlans_ok hm) rfl (.cons (k0 _ _) (.cons (k1 _ _) .nil))).mono fun e W' ⟨he, bel⟩ => ?_
  subst he
  exact ⟨_, rfl, _, _, _, [], _, [], hW', trodAll_mk1 (shut_bool Try.underlying4 _), (trodAll_cons_mk (Below.trod laidOut (by kernel_rfl) (of_decide_eq_true (by kernel_rfl)) h0 bel lt0) (trodAll_cons_mk (Below.trod laidOut (by kernel_rfl) (of_decide_eq_true (by kernel_rfl)) h1 bel lt1) trodAll_mk0)), rfl, bel.frame _, fun h => by cases h⟩
theorem proved : Rows.AllPlansSaid :=
  OpenClaim.holds_of_wide 6 Try.f6 rfl rfl rfl rfl rfl rfl rfl ⟨rfl, rfl, rfl, rfl, rfl⟩ rfl rfl rfl rfl rfl (by kernel_rfl) Try.func6 (by kernel_rfl)
    (of_decide_eq_true (by kernel_rfl)) (by unfold Func.isWrapper; first | (rw [if_pos (by decide +kernel)]; kernel_rfl) | (rw [if_neg (by decide +kernel)]; exact ⟨rfl, rfl⟩))
    (fun os started H enc _ => lifted os started H enc)
#print axioms proved
end Go.Proofs.Ytcallckeeohoaaa.allPlans
