/- For any table ask.Groups returns the specified results: AskGroups returns true and changes nothing; no conditions. -/
import Derived.Test.YtnlibkamomlccaaRows
import Derived.WalkKit
import Derived.ProofKit
import Derived.OpenShut
import Derived.ShutString
import Derived.ChangeOld
import Derived.Below
import Derived.Test.YtnlibkamomlccaaAskGroupsM
set_option linter.all false
set_option maxRecDepth 100000
namespace Go.Proofs.Ytnlibkamomlccaa.askGroups
open Go Go.Sl

theorem within_eq (a b c : Int) : ref_Within a b c = some (decide (a ≤ b ∧ b ≤ c)) := by
  unfold ref_Within
  rw [Bool.decide_and]

theorem inside1 (n v : Int) : ref_Inside n [v] = some (decide (0 ≤ v ∧ v < n)) := by
  unfold ref_Inside
  rw [forL_ex (p := fun v => decide (v < 0) || decide (v ≥ n)) (y := Esc.ret false) (fun i a _ => by unfold ref_Inside_b1; cases (decide (a < 0) || decide (a ≥ n)) <;> rfl)]
  by_cases h : 0 ≤ v ∧ v < n
  · have : (decide (v < 0) || decide (v ≥ n)) = false := by simp only [Bool.or_eq_false_iff, decide_eq_false_iff_not]; omega
    simp [this, h]
  · have : (decide (v < 0) || decide (v ≥ n)) = true := by simp only [Bool.or_eq_true, decide_eq_true_eq]; omega
    simp [this, h]

def tbc (a0 : Int) (f : List Bool) (x : Int) : Int :=
  if ¬ (0 ≤ a0 ∧ a0 ≤ 4) then 1 else if f.length ≠ 2 ^ a0.toNat then 3 else if ¬ (0 ≤ x ∧ x < f.length) then 4 else 0
theorem tb_shl {k : Nat} (h : k ≤ 4) : bShl .i64 1 (k : Int) = ((2 ^ k : Nat) : Int) := bShl_one (by omega)
theorem tb_len {f : List Bool} {k : Nat} (h : k ≤ 4) : ((f.length : Int) != bShl .i64 1 (k : Int)) = !decide (f.length = 2 ^ k) := by
  rw [tb_shl h, bne_dec, not_dec]
  exact decide_eq_decide.2 (by omega)
theorem tb_ref (a0 : Int) (f : List Bool) (x : Int) : ref_TableCheck a0 f x = some (tbc a0 f x) := by
  unfold ref_TableCheck tbc
  rw [within_eq, inside1]
  by_cases h : 0 ≤ a0 ∧ a0 ≤ 4
  · obtain ⟨k, rfl⟩ := Int.eq_ofNat_of_zero_le h.1
    rw [wrap_u64 (n := (k : Int)) (by omega) (by omega), ck_ok (by omega), tb_len (by omega), decide_eq_true h, if_neg (by omega), Int.toNat_natCast]
    by_cases hl : f.length = 2 ^ k
    · by_cases hx : 0 ≤ x ∧ x < (f.length : Int)
      · rw [if_neg (by omega), if_neg (by omega), decide_eq_true hl, decide_eq_true hx]; rfl
      · rw [if_neg (by omega), if_pos hx]; rw [decide_eq_false hx, decide_eq_true hl]; rfl
    · rw [if_pos hl, decide_eq_false hl]; rfl
  · rw [if_pos h, decide_eq_false h]; rfl
theorem tb_valid {a0 : Int} {f : List Bool} {x : Int} (h : tbc a0 f x = 0) : ∃ k : Nat, k ≤ 4 ∧ a0 = (k : Int) ∧ f.length = 2 ^ k ∧ 0 ≤ x ∧ x < (f.length : Int) := by
  unfold tbc at h
  split at h
  · omega
  · split at h
    · omega
    · split at h
      · omega
      · rename_i h1 h2 h3
        refine ⟨a0.toNat, by omega, by omega, by omega, by omega, by omega⟩
theorem tb_16 {k n : Nat} (h : k ≤ 4) (hn : n < 2 ^ k) : n < 16 := Nat.lt_of_lt_of_le hn (Nat.pow_le_pow_right (by omega) h)

theorem tb_ask (a0 : Int) (f : List Bool) (x : Int) : ask_wrong a0 f x = some (tbc a0 f x) := by
  unfold ask_wrong tbc
  by_cases h : 0 ≤ a0 ∧ a0 ≤ 4
  · have c : ((decide (a0 < (0 : Int))) || (decide (a0 > (4 : Int)))) = false := by simp only [Bool.or_eq_false_iff, decide_eq_false_iff_not]; omega
    obtain ⟨k, rfl⟩ := Int.eq_ofNat_of_zero_le h.1
    rw [c, ck_ok (by omega), tb_len (by omega), tb_shl (by omega), if_neg (by omega), Int.toNat_natCast]
    by_cases hl : f.length = 2 ^ k
    · rw [if_neg (by omega), decide_eq_true hl]
      by_cases hx : 0 ≤ x ∧ x < (f.length : Int)
      · rw [if_neg (by omega), decide_eq_false (by omega), decide_eq_false (by omega)]; rfl
      · rw [if_pos hx]
        by_cases h0 : x < 0
        · rw [decide_eq_true h0]; rfl
        · rw [decide_eq_false h0, decide_eq_true (by omega)]; rfl
    · rw [if_pos hl, decide_eq_false hl]; rfl
  · have c : ((decide (a0 < (0 : Int))) || (decide (a0 > (4 : Int)))) = true := by simp only [Bool.or_eq_true, decide_eq_true_eq]; omega
    rw [c, if_pos h]; rfl

theorem ag_sub : ∀ l : Nat, l < 16 → ∀ s : Nat, s < 16 → (l &&& s ≤ l) ∧ (s &&& l = s → l - s < 16 ∧ ((s ||| l) = l)) ∧ ((s ||| l) = l → s &&& l = s) ∧ s ^^^ l < 16 ∧ (s ||| l) < 16 := by
  decide +kernel
theorem ag_next1 : ∀ l : Nat, l < 16 → ∀ s : Nat, s < 16 → 0 < s → ((s - 1) &&& l < s) ∧ (((s - 1) &&& l) &&& l = (s - 1) &&& l) := by
  decide +kernel
theorem ag_next2 : ∀ l : Nat, l < 16 → ∀ s : Nat, s < 16 → ∀ t : Nat, t < 16 → (s &&& l = s ∧ t &&& l = t ∧ t < s) → t ≤ (s - 1) &&& l := by
  decide +kernel
theorem ag_clr : ∀ l : Nat, l < 16 → ∀ s : Nat, s < 16 → s &&& l = s → bClr .i64 (l : Int) (s : Int) = ((l - s : Nat) : Int) := by
  decide +kernel
theorem ag_xor2 : ∀ w : Nat, w < 16 → ∀ v : Nat, v < 16 → w ^^^ v < 16 := by
  decide +kernel
theorem ag_xork : ∀ k : Nat, k ≤ 4 → ∀ w : Nat, w < 2 ^ k → ∀ v : Nat, v < 2 ^ k → w ^^^ v < 2 ^ k := by
  intro k hk w hw v hv
  exact Nat.xor_lt_two_pow hw hv
theorem ag_getD {f : List Bool} {i : Nat} (h : i < f.length) : idx f (i : Int) = some (f.getD i false) := by
  rw [idx_nat, List.getD_eq_getElem?_getD, List.getElem?_eq_getElem h]; rfl
theorem ag_both {k : Nat} (hk : k ≤ 4) {f : List Bool} (hf : f.length = 2 ^ k) {x : Nat} (hx : x < 2 ^ k) : ∀ (n left : Nat), left < n → left < 2 ^ k → ∃ g : Int, 0 ≤ g ∧ g ≤ left ∧ ∀ fuel, left + 40 < fuel → ask_groups fuel f x left = some g ∧ ref_Groups fuel f x left = some g
  | 0, left, hn, hl => by omega
  | n + 1, left, hn, hl => by
    have h16 : 2 ^ k ≤ 16 := Nat.pow_le_pow_right (n := 2) (by omega) hk
    -- what is below
    obtain ⟨h, hh⟩ : ∃ h : Nat → Int, ∀ m, m < left → 0 ≤ h m ∧ h m ≤ m ∧ ∀ fuel, m + 40 < fuel → ask_groups fuel f x m = some (h m) ∧ ref_Groups fuel f x m = some (h m) := by
      refine ⟨fun m => if hm : m < left then (ag_both hk hf hx n m (by omega) (by omega)).choose else 0, fun m hm => ?_⟩
      simp only [hm, dite_true]
      exact (ag_both hk hf hx n m (by omega) (by omega)).choose_spec
    let c : Nat → Int := fun s => if f.getD (x ^^^ s) false = f.getD x false then 0 else 1 + h (left - s)
    have cb : ∀ s, 1 ≤ s → s ≤ left → 0 ≤ c s ∧ c s ≤ left := by
      intro s h1 h2
      show 0 ≤ (if f.getD (x ^^^ s) false = f.getD x false then (0 : Int) else 1 + h (left - s)) ∧ (if f.getD (x ^^^ s) false = f.getD x false then (0 : Int) else 1 + h (left - s)) ≤ left
      have := hh (left - s) (by omega)
      split <;> omega
    -- the program's loop
    have prog : ∀ fuel, left + 39 < fuel → ∃ m, iter (ask_groups_b7 f x left (ask_groups fuel)) fuel (0, (left : Int)) = some m ∧ ∀ z : Int, m ≤ z ↔ 0 ≤ z ∧ ∀ t : Nat, 1 ≤ t → t ≤ left → t &&& left = t → c t ≤ z := by
      intro fuel hfu
      refine iter_inv (Inv := fun (q : Int × Int) => ∃ s : Nat, q.2 = (s : Int) ∧ s ≤ left ∧ s &&& left = s ∧ 0 ≤ q.1 ∧ q.1 ≤ (left : Int) ∧ ∀ z : Int, q.1 ≤ z ↔ 0 ≤ z ∧ ∀ t : Nat, s < t → t ≤ left → t &&& left = t → c t ≤ z) (m := fun (q : Int × Int) => q.2.toNat) _ ?_ fuel (0, (left : Int)) (by simp only [Int.toNat_natCast]; omega)
        ⟨left, rfl, by omega, Nat.and_self left, by simp, by simp, fun z => ⟨fun h => ⟨h, fun t h1 h2 => by omega⟩, fun h => h.1⟩⟩
      rintro ⟨m, _⟩ ⟨s, rfl, hs, hss, hm0, hm1, hm⟩
      simp only at hm0 hm1 hm
      by_cases h0 : 0 < s
      · have hpos : decide ((s : Int) > 0) = true := by simp only [decide_eq_true_eq]; omega
        obtain ⟨n1, n2⟩ := ag_next1 left (by omega) s (by omega) h0
        have hx1 := ag_xork k hk x hx s (by omega)
        have b1 := cb s h0 hs
        have step : ask_groups_g5 f x left (ask_groups fuel) (m, (s : Int)) = some (imax m (c s)) := by
          unfold ask_groups_g5
          rw [bXor_nat (by omega) (by omega), ag_getD (by omega), ag_getD (by omega)]
          simp only [Option.bind_some]
          show _ = some (imax m (if f.getD (x ^^^ s) false = f.getD x false then (0 : Int) else 1 + h (left - s)))
          have hl := hh (left - s) (by omega)
          by_cases he : f.getD (x ^^^ s) false = f.getD x false
          · have : (!(f.getD (x ^^^ s) false == f.getD x false)) = false := by rw [he]; simp
            rw [this, if_pos he]
            unfold imax
            rw [if_neg (by omega)]; rfl
          · have : (!(f.getD (x ^^^ s) false == f.getD x false)) = true := by simp only [Bool.not_eq_true', beq_eq_false_iff_ne, ne_eq]; exact he
            have ew : w64 (1 + h (left - s)) = 1 + h (left - s) := w64_id (by omega) (by omega)
            rw [this, if_neg he, ag_clr left (by omega) s (by omega) hss, (hl.2.2 fuel (by omega)).1]
            simp only [cond_true, Option.bind_some, ew]
        have ew : w64 ((s : Int) - 1) = ((s - 1 : Nat) : Int) := by rw [w64_id (by omega) (by omega)]; omega
        refine ⟨.next (imax m (c s), (((s - 1) &&& left : Nat) : Int)), ?_, ⟨(s - 1) &&& left, rfl, by omega, n2, ?_, ?_, ?_⟩, ?_⟩
        · unfold ask_groups_b7
          rw [hpos, step]
          simp only [cond_true, Option.bind_some, ew]
          rw [bAnd_nat (by omega) (by omega)]
        · show 0 ≤ imax m (c s); unfold imax; split <;> omega
        · show imax m (c s) ≤ left; unfold imax; split <;> omega
        · intro z
          have e1 : imax m (c s) ≤ z ↔ m ≤ z ∧ c s ≤ z := by unfold imax; split <;> omega
          rw [e1, hm]
          constructor
          · rintro ⟨⟨a, b⟩, d⟩
            refine ⟨a, fun t h1 h2 h3 => ?_⟩
            rcases Nat.lt_trichotomy t s with h4 | h4 | h4
            · have := ag_next2 left (by omega) s (by omega) t (by omega) ⟨hss, h3, h4⟩; omega
            · subst h4; exact d
            · exact b t h4 h2 h3
          · rintro ⟨a, b⟩
            exact ⟨⟨a, fun t h1 h2 h3 => b t (by omega) h2 h3⟩, b s n1 hs hss⟩
        · simp only [Int.toNat_natCast]; omega
      · have hs0 : s = 0 := by omega
        subst hs0
        refine ⟨.done m, ?_, ?_⟩
        · unfold ask_groups_b7; rfl
        · intro z
          rw [hm]
          exact ⟨fun h => ⟨h.1, fun t h1 h2 h3 => h.2 t (by omega) h2 h3⟩, fun h => ⟨h.1, fun t h1 h2 h3 => h.2 t (by omega) h2 h3⟩⟩
    have refl_ : ∀ fuel, left + 39 < fuel → ∃ m, iter (ref_Groups_b16 f x left (ref_Groups fuel)) fuel (0, 1) = some m ∧ ∀ z : Int, m ≤ z ↔ 0 ≤ z ∧ ∀ t : Nat, 1 ≤ t → t ≤ left → t &&& left = t → c t ≤ z := by
      intro fuel hfu
      refine iter_inv (Inv := fun (q : Int × Int) => ∃ s : Nat, q.2 = (s : Int) ∧ 1 ≤ s ∧ s ≤ left + 1 ∧ 0 ≤ q.1 ∧ q.1 ≤ (left : Int) ∧ ∀ z : Int, q.1 ≤ z ↔ 0 ≤ z ∧ ∀ t : Nat, 1 ≤ t → t < s → t &&& left = t → c t ≤ z) (m := fun (q : Int × Int) => left + 1 - q.2.toNat) _ ?_ fuel (0, 1) (by show left + 1 - (1 : Int).toNat < fuel; omega)
        ⟨1, rfl, by omega, by omega, by simp, by simp, fun z => ⟨fun h => ⟨h, fun t h1 h2 => by omega⟩, fun h => h.1⟩⟩
      rintro ⟨m, _⟩ ⟨s, rfl, hs1, hs2, hm0, hm1, hm⟩
      simp only at hm0 hm1 hm
      by_cases h0 : s ≤ left
      · have hle : decide ((s : Int) ≤ (left : Int)) = true := by simp only [decide_eq_true_eq]; omega
        obtain ⟨a1, a2, a3, a4, a5⟩ := ag_sub left (by omega) s (by omega)
        have hx1 := ag_xork k hk x hx s (by omega)
        have b1 := cb s hs1 h0
        have ew : w64 ((s : Int) + 1) = ((s + 1 : Nat) : Int) := by rw [w64_id (by omega) (by omega)]; omega
        by_cases hss : s &&& left = s
        · have hl := hh (left - s) (by omega)
          have step : ref_Groups_g14 f x left (ref_Groups fuel) (m, (s : Int)) = some (imax m (c s)) := by
            unfold ref_Groups_g14
            have hor : ((((s ||| left : Nat)) : Int) != (left : Int)) = false := by rw [(a2 hss).2]; simp
            rw [bOr_nat (by omega) (by omega), hor, bXor_nat (by omega) (by omega), ag_getD (i := x) (by omega), ag_getD (by omega)]
            simp only [cond_false, Option.bind_some]
            show _ = some (imax m (if f.getD (x ^^^ s) false = f.getD x false then (0 : Int) else 1 + h (left - s)))
            by_cases he : f.getD (x ^^^ s) false = f.getD x false
            · have : (f.getD x false == f.getD (x ^^^ s) false) = true := by rw [he]; simp
              rw [this, if_pos he]
              unfold imax
              rw [if_neg (by omega)]; rfl
            · have : (f.getD x false == f.getD (x ^^^ s) false) = false := by simp only [beq_eq_false_iff_ne, ne_eq]; exact fun e => he e.symm
              have e1 : w64 ((left : Int) - (s : Int)) = ((left - s : Nat) : Int) := by rw [w64_id (by omega) (by omega)]; omega
              have e2 : w64 (1 + h (left - s)) = 1 + h (left - s) := w64_id (by omega) (by omega)
              rw [this, if_neg he, e1, (hl.2.2 fuel (by omega)).2]
              simp only [cond_false, Option.bind_some, e2]
              unfold imax
              rw [bif_ite]
              split <;> rfl
          refine ⟨.next (imax m (c s), ((s + 1 : Nat) : Int)), ?_, ⟨s + 1, rfl, by omega, by omega, ?_, ?_, ?_⟩, ?_⟩
          · unfold ref_Groups_b16
            rw [hle, step]
            simp only [cond_true, Option.bind_some, ew]
          · show 0 ≤ imax m (c s); unfold imax; split <;> omega
          · show imax m (c s) ≤ left; unfold imax; split <;> omega
          · intro z
            have e1 : imax m (c s) ≤ z ↔ m ≤ z ∧ c s ≤ z := by unfold imax; split <;> omega
            rw [e1, hm]
            constructor
            · rintro ⟨⟨a, b⟩, d⟩
              refine ⟨a, fun t h1 h2 h3 => ?_⟩
              rcases Nat.lt_or_ge t s with h4 | h4
              · exact b t h1 h4 h3
              · have : t = s := by omega
                subst this; exact d
            · rintro ⟨a, b⟩
              exact ⟨⟨a, fun t h1 h2 h3 => b t h1 (by omega) h3⟩, b s hs1 (by omega) hss⟩
          · simp only [Int.toNat_natCast]; omega
        · have step : ref_Groups_g14 f x left (ref_Groups fuel) (m, (s : Int)) = some m := by
            unfold ref_Groups_g14
            have hor : ((((s ||| left : Nat)) : Int) != (left : Int)) = true := by
              rw [bne_dec, decide_eq_true_eq]
              intro e
              exact hss (a3 (by omega))
            rw [bOr_nat (by omega) (by omega), hor]; rfl
          refine ⟨.next (m, ((s + 1 : Nat) : Int)), ?_, ⟨s + 1, rfl, by omega, by omega, hm0, hm1, ?_⟩, ?_⟩
          · unfold ref_Groups_b16
            rw [hle, step]
            simp only [cond_true, Option.bind_some, ew]
          · intro z
            simp only
            rw [hm]
            constructor
            · rintro ⟨a, b⟩
              refine ⟨a, fun t h1 h2 h3 => ?_⟩
              rcases Nat.lt_or_ge t s with h4 | h4
              · exact b t h1 h4 h3
              · have : t = s := by omega
                subst this; exact (hss h3).elim
            · rintro ⟨a, b⟩
              exact ⟨a, fun t h1 h2 h3 => b t h1 (by omega) h3⟩
          · simp only [Int.toNat_natCast]; omega
      · have hle : decide ((s : Int) ≤ (left : Int)) = false := by simp only [decide_eq_false_iff_not]; omega
        refine ⟨.done m, ?_, ?_⟩
        · unfold ref_Groups_b16; rw [hle]; rfl
        · intro z
          rw [hm]
          exact ⟨fun h => ⟨h.1, fun t h1 h2 h3 => h.2 t h1 (by omega) h3⟩, fun h => ⟨h.1, fun t h1 h2 h3 => h.2 t h1 (by omega) h3⟩⟩
    obtain ⟨g, hg, hgz⟩ := prog (left + 41) (by omega)
    have uniq : ∀ m : Int, (∀ z : Int, m ≤ z ↔ 0 ≤ z ∧ ∀ t : Nat, 1 ≤ t → t ≤ left → t &&& left = t → c t ≤ z) → m = g := by
      intro m hm
      have h1 : m ≤ g := (hm g).2 ((hgz g).1 (Int.le_refl g))
      have h2 : g ≤ m := (hgz m).2 ((hm m).1 (Int.le_refl m))
      omega
    refine ⟨g, ((hgz g).1 (Int.le_refl g)).1, (hgz left).2 ⟨by omega, fun t h1 h2 _ => (cb t h1 h2).2⟩, ?_⟩
    intro fuel hfu
    obtain ⟨q, rfl⟩ : ∃ q, fuel = q + 1 := ⟨fuel - 1, by omega⟩
    obtain ⟨m1, e1, u1⟩ := prog q (by omega)
    obtain ⟨m2, e2, u2⟩ := refl_ q (by omega)
    obtain rfl := uniq m1 u1
    obtain rfl := uniq m2 u2
    constructor
    · show ask_groups_step (ask_groups q) q f x left = _
      unfold ask_groups_step
      rw [e1]; rfl
    · show ref_Groups_step (ref_Groups q) q f x left = _
      unfold ref_Groups_step
      rw [e2]; rfl
theorem AskGroups_true (a0 : Int) (a1 : List Bool) (f0 : Fits (.int .i64) a0) (f1 : Fits (.slice .bool) a1) : ∃ fuel, law_AskGroups fuel a0 a1 = some true := by
  refine ⟨100, ?_⟩
  unfold law_AskGroups ask_Groups
  rw [tb_ref, tb_ask]
  simp only [Option.bind_some]
  by_cases hz : tbc a0 a1 0 = 0
  · obtain ⟨k, hk, rfl, hl, _, _⟩ := tb_valid hz
    have h16 : 2 ^ k ≤ 16 := Nat.pow_le_pow_right (n := 2) (by omega) hk
    have hp : 0 < 2 ^ k := Nat.pow_pos (by omega)
    rw [hz]
    have ew : w64 ((a1.length : Int) - 1) = ((2 ^ k - 1 : Nat) : Int) := by rw [w64_id (by omega) (by omega)]; omega
    obtain ⟨y, h1, h2, _⟩ := forL_eq (body := ask_Groups_b1 a1 100) (body' := law_AskGroups_b4 a1 100) (fin := fun x => x) (l := a1) (x := 0) (fun _ _ => True) (fun _ => True) trivial
      (by
        intro w b m hw _
        have hwl := (List.getElem?_eq_some_iff.1 hw).1
        obtain ⟨g, g0, g1, g2⟩ := ag_both hk hl (x := w) (by omega) (2 ^ k) (2 ^ k - 1) (by omega) (by omega)
        obtain ⟨e1, e2⟩ := g2 100 (by omega)
        refine ⟨.next (imax m g), ?_, ?_, trivial⟩
        · unfold ask_Groups_b1
          rw [ew, e1]; rfl
        · unfold law_AskGroups_b4
          rw [ew, e2]
          simp only [Option.bind_some]
          unfold imax
          rw [bif_ite]
          split <;> rfl)
      (fun _ _ => trivial)
    simp [h1, h2]
  · have e0 : (tbc a0 a1 0 != 0) = true := by simp [hz]
    simp [e0]

end Go.Proofs.Ytnlibkamomlccaa.askGroups
namespace Go.Proofs.Ytnlibkamomlccaa.askGroups
open Go.ChangeShapes Go.WideShapes Go.ChangeAt Go.RowKit
open Go.ChangeMaps (open_string shut_string)
theorem own : ownKnob Try.prog.godebug = none := by kernel_rfl
theorem laidOut : laidOutB Try.prog = true := by kernel_rfl
theorem lifted (os : Os) (started : os.Started) (H : Type) (enc : TypeId × Value → H) :
    ReturnsInHanded {} Try.checked os 5 .any (Rows.askGroupsSpec.pre6 enc Try.prog Try.f5 Rows.askGroupsRow.domain false) (Rows.askGroupsSpec.post enc Try.prog Try.f5 false true false false) := by
  refine returnsInHanded_of_change (C := Try.checked) own started (by kernel_rfl) Try.func5
    (ChangeSpec.witness6 (enc := enc) (C := Try.checked) false ⟨#[], #[.int .i64 0, .slice none 0 0], []⟩ 8 (by kernel_rfl) (by kernel_rfl) (by kernel_rfl) (by kernel_rfl)) ?_
  intro W base args ds gs before hval0 hW hcnd _
  have hval : ∀ (j : Nat) t v, Try.f5.params[j]? = some t → args[j]? = some v → Value.okWide Try.prog W .any base t v := hval0
  have hW' := hW
  obtain ⟨p, q, hA0, hV, rfl, hfz, hnd⟩ := hW
  have hA : DataW.TrodAll enc Try.prog W 0 (fun _ => true) true Try.f5.params.toList args.toList ds p := hA0
  rw [Try.params5] at hA hval
  obtain ⟨v0, vs0, d0, ds0, p0, q0, hargs, rfl, rfl, h0, r0⟩ := trodAll_cons hA
  obtain ⟨v1, vs1, d1, ds1, p1, q1, rfl, rfl, rfl, h1, r1⟩ := trodAll_cons r0
  obtain ⟨rfl, rfl, rfl⟩ := trodAll_nil r1
  obtain rfl : args = #[v0, v1] := by cases args; simp_all
  obtain ⟨rfl, rfl⟩ := trodVars_none hV
  obtain ⟨x0, f0, k0⟩ := Go.Sl.read_arg (u := (.int .i64)) (by kernel_rfl) (by kernel_rfl) (hval 0 3 v0 rfl rfl) h0
  have lt0 : ∀ x ∈ p0, x.block < W.heap.size := by obtain ⟨m, hm⟩ := h0; exact DataW.trod_lt m _ _ _ hm
  obtain ⟨x1, f1, k1⟩ := Go.Sl.read_arg (u := (.slice .bool)) (by kernel_rfl) (by kernel_rfl) (hval 1 30 v1 rfl rfl) h1
  have lt1 : ∀ x ∈ p1, x.block < W.heap.size := by obtain ⟨m, hm⟩ := h1; exact DataW.trod_lt m _ _ _ hm
  clear hA0 hval0
  obtain ⟨fuel, hm⟩ := AskGroups_true x0 x1 f0 f1
  refine (Go.Sl.law_of (vs := [v0, v1]) (law_AskGroups_ok hm) rfl (.cons (k0 _ _) (.cons (k1 _ _) .nil))).mono fun e W' ⟨he, bel⟩ => ?_
  subst he
  exact ⟨_, rfl, _, _, _, [], _, [], hW', trodAll_mk1 (shut_bool Try.underlying4 _), (trodAll_cons_mk (Below.trod laidOut (by kernel_rfl) (of_decide_eq_true (by kernel_rfl)) h0 bel lt0) (trodAll_cons_mk (Below.trod laidOut (by kernel_rfl) (of_decide_eq_true (by kernel_rfl)) h1 bel lt1) trodAll_mk0)), rfl, bel.frame _, fun h => by cases h⟩
theorem proved : Rows.AskGroupsSaid :=
  OpenClaim.holds_of_wide 5 Try.f5 rfl rfl rfl rfl rfl rfl rfl ⟨rfl, rfl, rfl, rfl, rfl⟩ rfl rfl rfl rfl rfl (by kernel_rfl) Try.func5 (by kernel_rfl)
    (of_decide_eq_true (by kernel_rfl)) (by unfold Func.isWrapper; first | (rw [if_pos (by decide +kernel)]; kernel_rfl) | (rw [if_neg (by decide +kernel)]; exact ⟨rfl, rfl⟩))
    (fun os started H enc _ => lifted os started H enc)
#print axioms proved
end Go.Proofs.Ytnlibkamomlccaa.askGroups
