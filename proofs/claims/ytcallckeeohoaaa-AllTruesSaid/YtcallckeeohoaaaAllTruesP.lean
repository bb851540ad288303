/- For any question all.True returns the specified results: AllTrues returns true and changes nothing; no conditions. -/
import Derived.Test.YtcallckeeohoaaaRows
import Derived.WalkKit
import Derived.ProofKit
import Derived.OpenShut
import Derived.ShutString
import Derived.ChangeOld
import Derived.Below
import Derived.Test.YtcallckeeohoaaaAllTruesM
set_option linter.all false
set_option maxRecDepth 100000
namespace Go.Proofs.Ytcallckeeohoaaa.allTrues
open Go Go.Sl

theorem within_eq (a b c : Int) : ref_Within a b c = some (decide (a ≤ b ∧ b ≤ c)) := by
  unfold ref_Within
  rw [Bool.decide_and]

def badv (n : Int) (v : Int) : Bool := decide (v < 0) || decide (v ≥ n)
theorem nm_inside (n : Int) (l : List Int) : ref_Inside n l = some (!l.any (badv n)) := by
  unfold ref_Inside
  rw [forL_ex (p := badv n) (y := Esc.ret false) (fun i a _ => by unfold ref_Inside_b1 badv; cases (decide (a < 0) || decide (a ≥ n)) <;> rfl)]
  cases (l.any (badv n)) <;> rfl
theorem nm_bad (l : List Int) (n : Int) : slices_ContainsFunc_Lintint_with_name_wrong_1 l n = some (l.any (badv n)) := by
  unfold slices_ContainsFunc_Lintint_with_name_wrong_1 slices_IndexFunc_Lintint_with_name_wrong_1
  rcases forL_at (body := slices_IndexFunc_Lintint_with_name_wrong_1_b1 n) (fin := fun _ => (Esc.brk () : Esc Int Unit)) (p := badv n) (g := fun j => Esc.ret j) (l := l)
    (fun i a _ => by unfold slices_IndexFunc_Lintint_with_name_wrong_1_b1 name_wrong_1 badv; cases (decide (a < 0) || decide (a ≥ n)) <;> rfl) (i := 0) with ⟨h1, h2⟩ | ⟨h1, j, h2, h3, h4⟩
  · rw [h2, h1]; rfl
  · rw [h4, h1]
    simp [h2]
def ncl (n : Int) (v : List Int × List Int) : Option Int :=
  bif decide ((v.1.length : Int) > 8) || decide ((v.2.length : Int) > 8) then some 1 else bif v.1.any (badv n) || v.2.any (badv n) then some 2 else none
def ncAll (n m : Int) (l : List (List Int × List Int)) : Int :=
  bif !decide (0 ≤ n ∧ n ≤ m) || decide ((l.length : Int) > 200) then 1 else (l.findSome? (ncl n)).getD 0
theorem nm_body (n i : Int) (v : List Int × List Int) : name_wrong_b10 n i v () = some (said Esc.ret (ncl n v)) := by
  unfold name_wrong_b10 name_wrong_g7 ncl
  rw [nm_bad, nm_bad]
  cases decide ((v.1.length : Int) > 8) <;> cases decide ((v.2.length : Int) > 8) <;> cases v.1.any (badv n) <;> cases v.2.any (badv n) <;> rfl
theorem nm_rbody (n i : Int) (v : List Int × List Int) : ref_ClausesCheck_b7 n i v () = some (said Esc.ret (ncl n v)) := by
  unfold ref_ClausesCheck_b7 ncl
  rw [nm_inside, nm_inside]
  cases decide ((v.1.length : Int) > 8) <;> cases decide ((v.2.length : Int) > 8) <;> cases v.1.any (badv n) <;> cases v.2.any (badv n) <;> rfl
theorem nm_check (n m : Int) (l : List (List Int × List Int)) : ref_ClausesCheck n m l = some (ncAll n m l) := by
  unfold ref_ClausesCheck ncAll
  rw [within_eq]
  simp only [Option.bind_some]
  rw [forL_find (f := ncl n) (g := Esc.ret) (fun i a _ => nm_rbody n i a)]
  cases (!decide (0 ≤ n ∧ n ≤ m)) || decide ((l.length : Int) > 200)
  · cases l.findSome? (ncl n) <;> rfl
  · rfl
theorem nm_wrong (n m : Int) (l : List (List Int × List Int)) : name_wrong n m l = some (ncAll n m l) := by
  unfold name_wrong ncAll
  rw [forL_find (f := ncl n) (g := Esc.ret) (fun i a _ => nm_body n i a)]
  have : ((decide (n < (0 : Int))) || (decide (n > m))) = !decide (0 ≤ n ∧ n ≤ m) := by
    rw [or_dec, not_dec]; exact decide_eq_decide.2 (by omega)
  rw [this]
  cases (!decide (0 ≤ n ∧ n ≤ m)) || decide ((l.length : Int) > 200)
  · cases l.findSome? (ncl n) <;> rfl
  · rfl
theorem nm_ok {n m : Int} {l : List (List Int × List Int)} (h : ncAll n m l = 0) : (0 ≤ n ∧ n ≤ m) ∧ l.length ≤ 200 ∧ ∀ v ∈ l, (∀ x ∈ v.1, 0 ≤ x ∧ x < n) ∧ (∀ x ∈ v.2, 0 ≤ x ∧ x < n) := by
  unfold ncAll at h
  cases hc : (!decide (0 ≤ n ∧ n ≤ m)) || decide ((l.length : Int) > 200) with
  | true => rw [hc] at h; cases h
  | false =>
    rw [hc] at h
    simp only [Bool.or_eq_false_iff, Bool.not_eq_false', decide_eq_true_eq, decide_eq_false_iff_not] at hc
    have hn : l.findSome? (ncl n) = none := by
      cases hf : l.findSome? (ncl n) with
      | none => rfl
      | some e =>
        rw [hf] at h
        obtain ⟨v, _, hv⟩ := List.exists_of_findSome?_eq_some hf
        unfold ncl at hv
        have : e = 0 := h
        subst this
        cases hb : (decide ((v.1.length : Int) > 8) || decide ((v.2.length : Int) > 8)) <;> rw [hb] at hv
        · cases hb2 : (v.1.any (badv n) || v.2.any (badv n)) <;> rw [hb2] at hv <;> simp at hv
        · simp at hv
    have good : ∀ k : List Int, k.any (badv n) = false → ∀ x ∈ k, 0 ≤ x ∧ x < n := by
      intro k hk x hx
      have := List.any_eq_false.1 hk x hx
      unfold badv at this
      simp only [Bool.or_eq_true, decide_eq_true_eq, not_or] at this
      omega
    refine ⟨hc.1, by omega, fun v hv => ?_⟩
    have := List.findSome?_eq_none_iff.1 hn v hv
    unfold ncl at this
    obtain ⟨_, h2⟩ := bif_none this
    obtain ⟨h2, _⟩ := bif_none h2
    rw [Bool.or_eq_false_iff] at h2
    exact ⟨good _ h2.1, good _ h2.2⟩
theorem nm_idx {x : List Bool} {i : Int} (h0 : 0 ≤ i) (h : i < (x.length : Int)) : idx x i = some (x.getD i.toNat false) := by
  obtain ⟨b, h1, h2⟩ := idx_get h0 h
  rw [h1, List.getD_eq_getElem?_getD, h2]; rfl
def clT (b : List Bool) (v : List Int × List Int) : Bool := v.1.any (fun x => b.getD x.toNat false) || v.2.any (fun x => !b.getD x.toNat false)
theorem nm_is1 {l : List Int} {b : List Bool} (h : ∀ x ∈ l, 0 ≤ x ∧ x < (b.length : Int)) : slices_ContainsFunc_Lintint_with_name_is_1 l b = some (l.any fun x => b.getD x.toNat false) := by
  unfold slices_ContainsFunc_Lintint_with_name_is_1 slices_IndexFunc_Lintint_with_name_is_1
  rcases forL_at (body := slices_IndexFunc_Lintint_with_name_is_1_b1 b) (fin := fun _ => (Esc.brk () : Esc Int Unit)) (p := fun x => b.getD x.toNat false) (g := fun j => Esc.ret j) (l := l)
    (fun i a ha => by unfold slices_IndexFunc_Lintint_with_name_is_1_b1 name_is_1; rw [nm_idx (h a ha).1 (h a ha).2]; simp only [Option.bind_some]; cases b.getD a.toNat false <;> rfl) (i := 0) with ⟨h1, h2⟩ | ⟨h1, j, h2, h3, h4⟩
  · rw [h2, h1]; rfl
  · rw [h4, h1]
    simp [h2]
theorem nm_is2 {l : List Int} {b : List Bool} (h : ∀ x ∈ l, 0 ≤ x ∧ x < (b.length : Int)) : slices_ContainsFunc_Lintint_with_name_is_2 l b = some (l.any fun x => !b.getD x.toNat false) := by
  unfold slices_ContainsFunc_Lintint_with_name_is_2 slices_IndexFunc_Lintint_with_name_is_2
  rcases forL_at (body := slices_IndexFunc_Lintint_with_name_is_2_b1 b) (fin := fun _ => (Esc.brk () : Esc Int Unit)) (p := fun x => !b.getD x.toNat false) (g := fun j => Esc.ret j) (l := l)
    (fun i a ha => by unfold slices_IndexFunc_Lintint_with_name_is_2_b1 name_is_2; rw [nm_idx (h a ha).1 (h a ha).2]; simp only [Option.bind_some]; cases b.getD a.toNat false <;> rfl) (i := 0) with ⟨h1, h2⟩ | ⟨h1, j, h2, h3, h4⟩
  · rw [h2, h1]; rfl
  · rw [h4, h1]
    simp [h2]
theorem nm_istrue {l : List (List Int × List Int)} {b : List Bool} (h : ∀ v ∈ l, (∀ x ∈ v.1, 0 ≤ x ∧ x < (b.length : Int)) ∧ (∀ x ∈ v.2, 0 ≤ x ∧ x < (b.length : Int))) : name_is l b = some (!l.any fun v => !clT b v) := by
  unfold name_is
  rw [forL_ex (p := fun v => !clT b v) (y := Esc.ret false) (fun i a ha => by
    unfold name_is_b1 clT
    rw [nm_is1 (h a ha).1, nm_is2 (h a ha).2]
    simp only [Option.bind_some]
    cases (a.1.any fun x => b.getD x.toNat false) <;> cases (a.2.any fun x => !b.getD x.toNat false) <;> rfl)]
  cases (l.any fun v => !clT b v) <;> rfl
theorem nm_clause {v : List Int × List Int} {b : List Bool} (h : (∀ x ∈ v.1, 0 ≤ x ∧ x < (b.length : Int)) ∧ (∀ x ∈ v.2, 0 ≤ x ∧ x < (b.length : Int))) : ref_ClauseTrue v b = some (clT b v) := by
  unfold ref_ClauseTrue clT
  rw [forL_ex (p := fun x => b.getD x.toNat false) (y := Esc.ret true) (fun i a ha => by
    unfold ref_ClauseTrue_b1; rw [nm_idx (h.1 a ha).1 (h.1 a ha).2]; simp only [Option.bind_some]; cases b.getD a.toNat false <;> rfl)]
  rw [forL_ex (p := fun x => !b.getD x.toNat false) (y := Esc.ret true) (fun i a ha => by
    unfold ref_ClauseTrue_b5; rw [nm_idx (h.2 a ha).1 (h.2 a ha).2]; simp only [Option.bind_some]; cases b.getD a.toNat false <;> rfl)]
  cases (v.1.any fun x => b.getD x.toNat false) <;> cases (v.2.any fun x => !b.getD x.toNat false) <;> rfl
theorem nm_true {l : List (List Int × List Int)} {b : List Bool} (h : ∀ v ∈ l, (∀ x ∈ v.1, 0 ≤ x ∧ x < (b.length : Int)) ∧ (∀ x ∈ v.2, 0 ≤ x ∧ x < (b.length : Int))) : ref_True l b = some (!l.any fun v => !clT b v) := by
  unfold ref_True
  rw [forL_ex (p := fun v => !clT b v) (y := Esc.ret false) (fun i a ha => by
    unfold ref_True_b1
    rw [nm_clause (h a ha)]
    simp only [Option.bind_some]
    cases clT b a <;> rfl)]
  cases (l.any fun v => !clT b v) <;> rfl

def alAll (k : List Bool) (l : List (List Int × List Int)) : Int :=
  bif decide ((k.length : Int) > 8) || decide ((l.length : Int) > 12) then 1 else ncAll (k.length : Int) 8 l
theorem al_nc {n : Int} (h0 : 0 ≤ n) (h : n ≤ 8) (l : List (List Int × List Int)) : ncAll n 200 l = ncAll n 8 l := by
  unfold ncAll
  rw [decide_eq_true (show 0 ≤ n ∧ n ≤ 200 by omega), decide_eq_true (show 0 ≤ n ∧ n ≤ 8 by omega)]
theorem al_true {k h : List Bool} {l : List (List Int × List Int)} (hk : alAll k l = 0) (hl : h.length = k.length) :
    name_True (h.length : Int) l h = some (!l.any fun v => !clT h v, 0) ∧ ref_True l h = some (!l.any fun v => !clT h v) := by
  unfold alAll at hk
  cases hc : (decide ((k.length : Int) > 8) || decide ((l.length : Int) > 12)) with
  | true => rw [hc] at hk; cases hk
  | false =>
    rw [hc] at hk
    simp only [Bool.or_eq_false_iff, decide_eq_false_iff_not] at hc
    simp only [cond_false] at hk
    have h8 : ncAll (h.length : Int) 200 l = 0 := by rw [hl, al_nc (by omega) (by omega)]; exact hk
    obtain ⟨_, _, h3⟩ := nm_ok h8
    refine ⟨?_, nm_true h3⟩
    unfold name_True
    rw [nm_wrong, h8, nm_istrue h3]
    simp
theorem al_check (k : List Bool) (l : List (List Int × List Int)) : ref_AllCheck k l = some (alAll k l) := by
  unfold ref_AllCheck alAll
  rw [nm_check]
  cases (decide ((k.length : Int) > 8) || decide ((l.length : Int) > 12)) <;> rfl
theorem al_wrong (k : List Bool) (l : List (List Int × List Int)) : all_wrong k l = some (alAll k l) := by
  unfold all_wrong
  cases hc : (decide ((k.length : Int) > 8) || decide ((l.length : Int) > 12)) with
  | true => unfold alAll; rw [hc]; rfl
  | false =>
    have hh := hc
    simp only [Bool.or_eq_false_iff, decide_eq_false_iff_not] at hh
    rw [ck_ok (by omega)]
    simp only [cond_false, bind_some', Int.toNat_natCast]
    by_cases hz : alAll k l = 0
    · have := (al_true hz (h := List.replicate k.length false) (by simp)).1
      rw [List.length_replicate] at this
      rw [this, hz]; rfl
    · have e : alAll k l = ncAll (k.length : Int) 8 l := by unfold alAll; rw [hc]; rfl
      have h8 : ncAll (k.length : Int) 200 l = alAll k l := by rw [al_nc (by omega) (by omega), e]
      unfold name_True
      rw [nm_wrong, h8]
      have e1 : (alAll k l != 0) = true := by simp [hz]
      simp only [bind_some', e1, cond_true]
theorem al_small {k : List Bool} {l : List (List Int × List Int)} (hk : alAll k l = 0) : k.length ≤ 8 := by
  unfold alAll at hk
  cases hc : (decide ((k.length : Int) > 8) || decide ((l.length : Int) > 12)) with
  | true => rw [hc] at hk; cases hk
  | false => simp only [Bool.or_eq_false_iff, decide_eq_false_iff_not] at hc; omega

/-- who wins, with d values still to be given -/
def gw (k : List Bool) (l : List (List Int × List Int)) : Nat → List Bool → Bool
  | 0, h => !l.any fun v => !clT h v
  | d + 1, h => bif k.getD h.length false then gw k l d (h ++ [false]) || gw k l d (h ++ [true]) else gw k l d (h ++ [false]) && gw k l d (h ++ [true])
theorem al_wins {k : List Bool} {l : List (List Int × List Int)} (hk : alAll k l = 0) : ∀ (d fuel : Nat) (h : List Bool), h.length + d = k.length → d < fuel → all_game_wins fuel (k, l) h = some (gw k l d h)
  | d, 0, h, _, hf => by omega
  | 0, fuel + 1, h, hd, _ => by
    have h8 := al_small hk
    show all_game_wins_step (all_game_wins fuel) fuel (k, l) h = _
    unfold all_game_wins_step
    have e : ((List.length h : Int) == (List.length (k, l).1 : Int)) = true := by simp; omega
    rw [e, (al_true hk (h := h) (by omega)).1]
    rfl
  | d + 1, fuel + 1, h, hd, hf => by
    have h8 := al_small hk
    show all_game_wins_step (all_game_wins fuel) fuel (k, l) h = _
    unfold all_game_wins_step
    have e : ((List.length h : Int) == (List.length (k, l).1 : Int)) = false := by simp; omega
    have hi : idx (k, l).1 (List.length h : Int) = some (k.getD h.length false) := by
      rw [idx_nat, List.getD_eq_getElem?_getD, List.getElem?_eq_getElem (by show h.length < k.length; omega)]; rfl
    have hs : sub h (0 : Int) (List.length h : Int) = h := by unfold sub; simp
    have hb : ∀ (i : Int) (b : Bool), idx [false, true] i = some b → all_game_wins_b1 (k, l) h (k.getD h.length false) (all_game_wins fuel) i () = some (bif gw k l d (h ++ [b]) == k.getD h.length false then .done (.ret (k.getD h.length false)) else .next ()) := by
      intro i b hib
      unfold all_game_wins_b1
      rw [hib, bind_some', ck_ok (by omega), bind_some', hs, ck_ok (by omega), bind_some', al_wins hk d fuel (h ++ [b]) (by simp; omega) (by omega), bind_some']
      cases (gw k l d (h ++ [b]) == k.getD h.length false) <;> rfl
    rw [e, hi]
    simp only [cond_false, bind_some']
    unfold forI
    rw [if_pos ⟨by omega, by omega⟩]
    show (loopI (all_game_wins_b1 (k, l) h (k.getD h.length false) (all_game_wins fuel)) _ 2 0 ()).bind _ = _
    have hb0 := hb 0 false rfl
    have hb1 := hb (0 + 1) true rfl
    have hg : gw k l (d + 1) h = bif k.getD h.length false then gw k l d (h ++ [false]) || gw k l d (h ++ [true]) else gw k l d (h ++ [false]) && gw k l d (h ++ [true]) := rfl
    rw [hg]
    clear hb hg
    generalize gw k l d (h ++ [false]) = p at *
    generalize gw k l d (h ++ [true]) = q at *
    generalize k.getD h.length false = v at *
    simp only [loopI, hb0]
    cases v <;> cases p <;> first | rfl | (simp only [beq_true, beq_false, Bool.not_true, Bool.not_false, cond_false, hb1]; cases q <;> rfl)
theorem al_rwins {k : List Bool} {l : List (List Int × List Int)} (hk : alAll k l = 0) : ∀ (d fuel : Nat) (h : List Bool), h.length + d = k.length → d < fuel → ref_Wins fuel k l h = some (gw k l d h)
  | d, 0, h, _, hf => by omega
  | 0, fuel + 1, h, hd, _ => by
    have h8 := al_small hk
    show ref_Wins_step (ref_Wins fuel) fuel k l h = _
    unfold ref_Wins_step
    have e : ((List.length h : Int) == (List.length k : Int)) = true := by simp; omega
    rw [e, (al_true hk (h := h) (by omega)).2]
    rfl
  | d + 1, fuel + 1, h, hd, hf => by
    have h8 := al_small hk
    show ref_Wins_step (ref_Wins fuel) fuel k l h = _
    unfold ref_Wins_step
    have e : ((List.length h : Int) == (List.length k : Int)) = false := by simp; omega
    have hi : idx k (List.length h : Int) = some (k.getD h.length false) := by
      rw [idx_nat, List.getD_eq_getElem?_getD, List.getElem?_eq_getElem (by omega)]; rfl
    rw [e]
    simp only [cond_false]
    rw [ck_ok (by omega), bind_some', List.nil_append, ck_ok (by omega), bind_some', al_rwins hk d fuel (h ++ [false]) (by simp; omega) (by omega), bind_some', al_rwins hk d fuel (h ++ [true]) (by simp; omega) (by omega), bind_some', hi, bind_some']
    rw [show gw k l (d + 1) h = bif k.getD h.length false then gw k l d (h ++ [false]) || gw k l d (h ++ [true]) else gw k l d (h ++ [false]) && gw k l d (h ++ [true]) from rfl]
    cases k.getD h.length false <;> rfl

theorem AllTrues_true (a0 : List Bool) (a1 : List (List Int × List Int)) (f0 : Fits (.slice .bool) a0) (f1 : Fits (.slice (.pair (.slice (.int .i64)) (.slice (.int .i64)))) a1) : ∃ fuel, law_AllTrues fuel a0 a1 = some true := by
  refine ⟨a0.length + 1, ?_⟩
  unfold law_AllTrues all_True
  rw [al_wrong, al_check]
  simp only [bind_some']
  by_cases hz : alAll a0 a1 = 0
  · rw [hz, al_wins hz a0.length _ [] (by simp) (by omega), al_rwins hz a0.length _ [] (by simp) (by omega)]
    simp
  · have e : (alAll a0 a1 != 0) = true := by simp [hz]
    rw [e]
    simp [e]

end Go.Proofs.Ytcallckeeohoaaa.allTrues
namespace Go.Proofs.Ytcallckeeohoaaa.allTrues
open Go.ChangeShapes Go.WideShapes Go.ChangeAt Go.RowKit
open Go.ChangeMaps (open_string shut_string)
theorem own : ownKnob Try.prog.godebug = none := by kernel_rfl
theorem laidOut : laidOutB Try.prog = true := by kernel_rfl
theorem lifted (os : Os) (started : os.Started) (H : Type) (enc : TypeId × Value → H) :
    ReturnsInHanded {} Try.checked os 4 .any (Rows.allTruesSpec.pre6 enc Try.prog Try.f4 Rows.allTruesRow.domain false) (Rows.allTruesSpec.post enc Try.prog Try.f4 false true false false) := by
  refine returnsInHanded_of_change (C := Try.checked) own started (by kernel_rfl) Try.func4
    (ChangeSpec.witness6 (enc := enc) (C := Try.checked) false ⟨#[], #[.slice none 0 0, .slice none 0 0], []⟩ 8 (by kernel_rfl) (by kernel_rfl) (by kernel_rfl) (by kernel_rfl)) ?_
  intro W base args ds gs before hval0 hW hcnd _
  have hval : ∀ (j : Nat) t v, Try.f4.params[j]? = some t → args[j]? = some v → Value.okWide Try.prog W .any base t v := hval0
  have hW' := hW
  obtain ⟨p, q, hA0, hV, rfl, hfz, hnd⟩ := hW
  have hA : DataW.TrodAll enc Try.prog W 0 (fun _ => true) true Try.f4.params.toList args.toList ds p := hA0
  rw [Try.params4] at hA hval
  obtain ⟨v0, vs0, d0, ds0, p0, q0, hargs, rfl, rfl, h0, r0⟩ := trodAll_cons hA
  obtain ⟨v1, vs1, d1, ds1, p1, q1, rfl, rfl, rfl, h1, r1⟩ := trodAll_cons r0
  obtain ⟨rfl, rfl, rfl⟩ := trodAll_nil r1
  obtain rfl : args = #[v0, v1] := by cases args; simp_all
  obtain ⟨rfl, rfl⟩ := trodVars_none hV
  obtain ⟨x0, f0, k0⟩ := Go.Sl.read_arg (u := (.slice .bool)) (by kernel_rfl) (by kernel_rfl) (hval 0 34 v0 rfl rfl) h0
  have lt0 : ∀ x ∈ p0, x.block < W.heap.size := by obtain ⟨m, hm⟩ := h0; exact DataW.trod_lt m _ _ _ hm
  obtain ⟨x1, f1, k1⟩ := Go.Sl.read_arg (u := (.slice (.pair (.slice (.int .i64)) (.slice (.int .i64))))) (by kernel_rfl) (by kernel_rfl) (hval 1 23 v1 rfl rfl) h1
  have lt1 : ∀ x ∈ p1, x.block < W.heap.size := by obtain ⟨m, hm⟩ := h1; exact DataW.trod_lt m _ _ _ hm
  clear hA0 hval0
  obtain ⟨fuel, hm⟩ := AllTrues_true x0 x1 f0 f1
  refine (Go.Sl.law_of (vs := [v0, v1]) (law_AllTrues_ok hm) rfl (.cons (k0 _ _) (.cons (k1 _ _) .nil))).mono fun e W' ⟨he, bel⟩ => ?_
  subst he
  exact ⟨_, rfl, _, _, _, [], _, [], hW', trodAll_mk1 (shut_bool Try.underlying4 _), (trodAll_cons_mk (Below.trod laidOut (by kernel_rfl) (of_decide_eq_true (by kernel_rfl)) h0 bel lt0) (trodAll_cons_mk (Below.trod laidOut (by kernel_rfl) (of_decide_eq_true (by kernel_rfl)) h1 bel lt1) trodAll_mk0)), rfl, bel.frame _, fun h => by cases h⟩
theorem proved : Rows.AllTruesSaid :=
  OpenClaim.holds_of_wide 4 Try.f4 rfl rfl rfl rfl rfl rfl rfl ⟨rfl, rfl, rfl, rfl, rfl⟩ rfl rfl rfl rfl rfl (by kernel_rfl) Try.func4 (by kernel_rfl)
    (of_decide_eq_true (by kernel_rfl)) (by unfold Func.isWrapper; first | (rw [if_pos (by decide +kernel)]; kernel_rfl) | (rw [if_neg (by decide +kernel)]; exact ⟨rfl, rfl⟩))
    (fun os started H enc _ => lifted os started H enc)
#print axioms proved
end Go.Proofs.Ytcallckeeohoaaa.allTrues
