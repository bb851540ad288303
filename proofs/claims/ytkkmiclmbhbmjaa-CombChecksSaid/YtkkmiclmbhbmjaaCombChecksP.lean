/- For any term comb.Check returns the specified results: CombChecks returns true and changes nothing; no conditions. -/
import Derived.Test.YtkkmiclmbhbmjaaRows
import Derived.WalkKit
import Derived.ProofKit
import Derived.OpenShut
import Derived.ShutString
import Derived.ChangeOld
import Derived.Below
import Derived.Test.YtkkmiclmbhbmjaaCombChecksM
set_option linter.all false
set_option maxRecDepth 100000
namespace Go.Proofs.Ytkkmiclmbhbmjaa.combChecks
open Go Go.Sl

theorem within_eq (a b c : Int) : ref_Within a b c = some (decide (a ≤ b ∧ b ≤ c)) := by
  unfold ref_Within
  rw [Bool.decide_and]

def cbf (n : Nat) (v : Int × Int × Int × Int) : Option Int :=
  bif !decide (1 ≤ v.1 ∧ v.1 ≤ 4) then some 6 else bif (v.1 == 3) && !decide (0 ≤ v.2.2.2 ∧ v.2.2.2 ≤ 1000) then some 4 else
    bif (v.1 == 4) && !decide ((0 ≤ v.2.1 ∧ v.2.1 < (n : Int)) ∧ (0 ≤ v.2.2.1 ∧ v.2.2.1 < (n : Int))) then some 2 else none
theorem cb_inside2 (n a b : Int) : ref_Inside n [a, b] = some (decide ((0 ≤ a ∧ a < n) ∧ (0 ≤ b ∧ b < n))) := by
  unfold ref_Inside
  rw [forL_ex (p := fun v => decide (v < 0) || decide (v ≥ n)) (y := Esc.ret false) (fun i a _ => by unfold ref_Inside_b1; cases (decide (a < 0) || decide (a ≥ n)) <;> rfl)]
  have e : ∀ v : Int, (decide (v < 0) || decide (v ≥ n)) = !decide (0 ≤ v ∧ v < n) := fun v => by rw [or_dec, not_dec]; exact decide_eq_decide.2 (by omega)
  simp only [List.any_cons, List.any_nil, Bool.or_false, e]
  by_cases h1 : 0 ≤ a ∧ a < n <;> by_cases h2 : 0 ≤ b ∧ b < n <;> simp [h1, h2]
theorem cb_body (n : Nat) (v : Int × Int × Int × Int) : comb_Check_b13 (n : Int) v () = some (said Esc.ret (cbf n v)) := by
  unfold comb_Check_b13 comb_Check_g9 cbf
  have e1 : (bif decide (v.1 < (1 : Int)) then (some true) else (some (decide (v.1 > (4 : Int))))) = some (!decide (1 ≤ v.1 ∧ v.1 ≤ 4)) := by
    rw [bif_some]; congr 1
    by_cases h : v.1 < 1
    · have : ¬ (1 ≤ v.1 ∧ v.1 ≤ 4) := by omega
      simp [h, this]
    · rw [decide_eq_false h, cond_false, not_dec]; exact decide_eq_decide.2 (by omega)
  have e2 : (bif decide (v.2.2.2 < (0 : Int)) then (some true) else (some (decide (v.2.2.2 > (1000 : Int))))) = some (!decide (0 ≤ v.2.2.2 ∧ v.2.2.2 ≤ 1000)) := by
    rw [bif_some]; congr 1
    by_cases h : v.2.2.2 < 0
    · have : ¬ (0 ≤ v.2.2.2 ∧ v.2.2.2 ≤ 1000) := by omega
      simp [h, this]
    · rw [decide_eq_false h, cond_false, not_dec]; exact decide_eq_decide.2 (by omega)
  have e3 : (bif decide ((imin v.2.1 v.2.2.1) < (0 : Int)) then (some true) else (some (decide ((imax v.2.1 v.2.2.1) ≥ (n : Int))))) = some (!decide ((0 ≤ v.2.1 ∧ v.2.1 < (n : Int)) ∧ (0 ≤ v.2.2.1 ∧ v.2.2.1 < (n : Int)))) := by
    rw [bif_some]; congr 1
    by_cases h : imin v.2.1 v.2.2.1 < 0
    · have : ¬ ((0 ≤ v.2.1 ∧ v.2.1 < (n : Int)) ∧ (0 ≤ v.2.2.1 ∧ v.2.2.1 < (n : Int))) := by
        unfold imin at h; split at h <;> omega
      rw [decide_eq_true h, decide_eq_false this]; rfl
    · rw [decide_eq_false h, cond_false, not_dec]
      refine decide_eq_decide.2 ?_
      unfold imin at h; unfold imax
      split at h <;> split <;> omega
  rw [e1, e2, e3]
  cases decide (1 ≤ v.1 ∧ v.1 ≤ 4) <;> cases (v.1 == 3) <;> cases decide (0 ≤ v.2.2.2 ∧ v.2.2.2 ≤ 1000) <;> cases (v.1 == 4) <;> cases decide ((0 ≤ v.2.1 ∧ v.2.1 < (n : Int)) ∧ (0 ≤ v.2.2.1 ∧ v.2.2.1 < (n : Int))) <;> rfl
theorem cb_rbody (n : Nat) (v : Int × Int × Int × Int) : ref_CombCheck_b7 (n : Int) v () = some (said Esc.ret (cbf n v)) := by
  unfold ref_CombCheck_b7 cbf
  rw [within_eq, within_eq, cb_inside2]
  cases decide (1 ≤ v.1 ∧ v.1 ≤ 4) <;> cases (v.1 == 3) <;> cases decide (0 ≤ v.2.2.2 ∧ v.2.2.2 ≤ 1000) <;> cases (v.1 == 4) <;> cases decide ((0 ≤ v.2.1 ∧ v.2.1 < (n : Int)) ∧ (0 ≤ v.2.2.1 ∧ v.2.2.1 < (n : Int))) <;> rfl
/-- the sizes, one by one -/
theorem cb_sizes {l : List (Int × Int × Int × Int)} (hl : l.length ≤ 40) (hok : firstOf cbf 0 l = none) :
    ∃ y y', forL comb_sizes_b9 (fun x54 => x54) l 0 ([] : List Int) = some y ∧ forL ref_CombCheck_b35 (fun x297 => x297) l 0 (List.replicate l.length (0 : Int)) = some y' ∧ (y = y' ∧ y.length = l.length) := by
  refine forL_rel (R := fun n (x x' : List Int) => x.length = n ∧ x' = x ++ List.replicate (l.length - n) 0 ∧ ∀ v ∈ x, 0 ≤ v ∧ v ≤ 301) (S := fun (y y' : List Int) => y = y' ∧ y.length = l.length) rfl ⟨rfl, by simp, by simp⟩ ?_ ?_
  · rintro n a a' x _ ha ha' ⟨hx, rfl, hb⟩
    obtain rfl := Option.some.inj (ha.symm.trans ha')
    have hn : n < l.length := (List.getElem?_eq_some_iff.1 ha).1
    have hok := firstOf_none hok ha
    have hrep : List.replicate (l.length - n) (0 : Int) = 0 :: List.replicate (l.length - (n + 1)) 0 := by
      rw [show l.length - n = (l.length - (n + 1)) + 1 by omega]; rfl
    have hset : ∀ (q v : Int), List.set (x ++ q :: List.replicate (l.length - (n + 1)) 0) n v = x ++ v :: List.replicate (l.length - (n + 1)) 0 := by
      intro q v
      rw [List.set_append_right _ _ (by omega), hx, Nat.sub_self]; rfl
    have hidx : ∀ (q : Int), idx (x ++ q :: List.replicate (l.length - (n + 1)) 0) (n : Int) = some q := by
      intro q
      rw [idx_nat, List.getElem?_append_right (by omega), hx, Nat.sub_self]; rfl
    have hlow : ∀ (q i : Int), 0 ≤ i ∧ i < (n : Int) → ∃ v, idx x i = some v ∧ idx (x ++ q :: List.replicate (l.length - (n + 1)) 0) i = some v ∧ 0 ≤ v ∧ v ≤ 301 := by
      intro q i hi
      obtain ⟨v, h1, h2⟩ := idx_get (xs := x) hi.1 (by omega)
      refine ⟨v, h1, ?_, hb v (List.mem_of_getElem? h2)⟩
      unfold idx
      rw [if_pos hi.1, List.getElem?_append_left (by omega)]; exact h2
    have hck : ck ((List.length x : Int) + 1 ≤ 4294967296) = some () := ck_ok (by omega)
    unfold comb_sizes_b9 comb_sizes_g7 ref_CombCheck_b35 ref_CombCheck_g33 ref_CombCheck_g31
    rw [hck, hrep, hidx]
    simp only [Int.toNat_natCast, hset, bind_some']
    cases h4 : (a.1 == 4) with
    | true =>
      have hr : (0 ≤ a.2.1 ∧ a.2.1 < (n : Int)) ∧ (0 ≤ a.2.2.1 ∧ a.2.2.1 < (n : Int)) := by
        unfold cbf at hok
        cases h5 : !decide (1 ≤ a.1 ∧ a.1 ≤ 4) with
        | true => rw [h5] at hok; cases hok
        | false =>
          rw [h5] at hok
          cases h6 : ((a.1 == 3) && !decide (0 ≤ a.2.2.2 ∧ a.2.2.2 ≤ 1000)) with
          | true => rw [h6] at hok; cases hok
          | false =>
            rw [h6, h4] at hok
            by_cases h7 : (0 ≤ a.2.1 ∧ a.2.1 < (n : Int)) ∧ (0 ≤ a.2.2.1 ∧ a.2.2.1 < (n : Int))
            · exact h7
            · simp [decide_eq_false h7] at hok
      obtain ⟨p, p1, p2, p3, p4⟩ := hlow 1 _ hr.1
      obtain ⟨q, q1, q2, q3, q4⟩ := hlow 1 _ hr.2
      simp only [cond_true, p1, p2, q1, q2, bind_some', hidx, hset]
      have e1 : w64 (1 + p) = 1 + p := w64_id (by omega) (by omega)
      have e2 : w64 (1 + p + q) = 1 + p + q := w64_id (by omega) (by omega)
      rw [e1, e2]
      have hmin : imin (1 + p + q) 301 = if 1 + p + q > 300 then 301 else 1 + p + q := by
        unfold imin; split <;> split <;> omega
      rw [hmin]
      by_cases h8 : 1 + p + q > 300
      · simp only [h8, decide_true, cond_true, if_true, bind_some', hidx, hset]
        exact ⟨_, _, rfl, rfl, by simp [hx], by simp, by intro v hv; simp at hv; rcases hv with hv | rfl; exact hb v hv; omega⟩
      · simp only [h8, decide_false, cond_false, if_false, bind_some']
        exact ⟨_, _, rfl, rfl, by simp [hx], by simp, by intro v hv; simp at hv; rcases hv with hv | rfl; exact hb v hv; omega⟩
    | false =>
      simp only [cond_false, bind_some', hidx]
      have : decide ((1 : Int) > 300) = false := by decide
      rw [this]
      exact ⟨_, _, rfl, rfl, by simp [hx], by simp, by intro v hv; simp at hv; rcases hv with hv | rfl; exact hb v hv; omega⟩
  · rintro x _ ⟨hx, rfl, _⟩
    exact ⟨by simp, hx⟩
theorem CombChecks_true (a0 : List (Int × (Int × (Int × Int)))) (f0 : Fits (.slice (.pair (.int .i64) (.pair (.int .i64) (.pair (.int .i64) (.int .i64))))) a0) : law_CombChecks a0 = some true := by
  have h0 : comb_Check [] = some 1 := rfl
  have key : ∃ z, comb_Check a0 = some z ∧ ref_CombCheck a0 = some z := by
    unfold comb_Check ref_CombCheck
    rw [within_eq, bind_some', forL_findI (f := cbf) (g := Esc.ret) (fun n a _ => cb_body n a), forL_findI (f := cbf) (g := Esc.ret) (fun n a _ => cb_rbody n a)]
    have e : ((decide ((List.length a0 : Int) < (1 : Int))) || (decide ((List.length a0 : Int) > (40 : Int)))) = !decide (1 ≤ (a0.length : Int) ∧ (a0.length : Int) ≤ 40) := by
      rw [or_dec, not_dec]; exact decide_eq_decide.2 (by omega)
    rw [e]
    by_cases h : 1 ≤ (a0.length : Int) ∧ (a0.length : Int) ≤ 40
    · simp only [h, and_self, decide_true, Bool.not_true, cond_false]
      cases hf : firstOf cbf 0 a0 with
      | some z => exact ⟨z, rfl, rfl⟩
      | none =>
        obtain ⟨y, y', h1, h2, rfl, h3⟩ := cb_sizes (by omega) hf
        unfold comb_sizes
        simp only [Option.elim, bind_some', h1, Int.toNat_natCast, h2]
        rw [ck_ok (by refine ⟨by omega, by trivial, by omega⟩), bind_some']
        have e2 : w64 ((a0.length : Int) - 1) = ((a0.length - 1 : Nat) : Int) := by rw [w64_id (by omega) (by omega)]; omega
        rw [e2]
        obtain ⟨v, hv⟩ : ∃ v, idx y ((a0.length - 1 : Nat) : Int) = some v := by
          rw [idx_nat]; exact ⟨_, List.getElem?_eq_getElem (show a0.length - 1 < y.length by omega)⟩
        rw [hv]
        simp only [bind_some']
        cases decide (v > 300) <;> exact ⟨_, rfl, rfl⟩
    · rw [decide_eq_false h]; exact ⟨1, rfl, rfl⟩
  obtain ⟨z, h1, h2⟩ := key
  unfold law_CombChecks law_CombChecks_g1
  rw [h1, h2, h0]
  simp

end Go.Proofs.Ytkkmiclmbhbmjaa.combChecks
namespace Go.Proofs.Ytkkmiclmbhbmjaa.combChecks
open Go.ChangeShapes Go.WideShapes Go.ChangeAt Go.RowKit
open Go.ChangeMaps (open_string shut_string)
theorem own : ownKnob Try.prog.godebug = none := by kernel_rfl
theorem laidOut : laidOutB Try.prog = true := by kernel_rfl
theorem lifted (os : Os) (started : os.Started) (H : Type) (enc : TypeId × Value → H) :
    ReturnsInHanded {} Try.checked os 7 .any (Rows.combChecksSpec.pre6 enc Try.prog Try.f7 Rows.combChecksRow.domain false) (Rows.combChecksSpec.post enc Try.prog Try.f7 false true false false) := by
  refine returnsInHanded_of_change (C := Try.checked) own started (by kernel_rfl) Try.func7
    (ChangeSpec.witness6 (enc := enc) (C := Try.checked) false ⟨#[], #[.slice none 0 0], []⟩ 8 (by kernel_rfl) (by kernel_rfl) (by kernel_rfl) (by kernel_rfl)) ?_
  intro W base args ds gs before hval0 hW hcnd _
  have hval : ∀ (j : Nat) t v, Try.f7.params[j]? = some t → args[j]? = some v → Value.okWide Try.prog W .any base t v := hval0
  have hW' := hW
  obtain ⟨p, q, hA0, hV, rfl, hfz, hnd⟩ := hW
  have hA : DataW.TrodAll enc Try.prog W 0 (fun _ => true) true Try.f7.params.toList args.toList ds p := hA0
  rw [Try.params7] at hA hval
  obtain ⟨v0, vs0, d0, ds0, p0, q0, hargs, rfl, rfl, h0, r0⟩ := trodAll_cons hA
  obtain ⟨rfl, rfl, rfl⟩ := trodAll_nil r0
  obtain rfl : args = #[v0] := by cases args; simp_all
  obtain ⟨rfl, rfl⟩ := trodVars_none hV
  obtain ⟨x0, f0, k0⟩ := Go.Sl.read_arg (u := (.slice (.pair (.int .i64) (.pair (.int .i64) (.pair (.int .i64) (.int .i64)))))) (by kernel_rfl) (by kernel_rfl) (hval 0 44 v0 rfl rfl) h0
  have lt0 : ∀ x ∈ p0, x.block < W.heap.size := by obtain ⟨m, hm⟩ := h0; exact DataW.trod_lt m _ _ _ hm
  clear hA0 hval0
  have hm := CombChecks_true x0 f0
  refine (Go.Sl.law_of (vs := [v0]) (law_CombChecks_ok hm) rfl (.cons (k0 _ _) .nil)).mono fun e W' ⟨he, bel⟩ => ?_
  subst he
  exact ⟨_, rfl, _, _, _, [], _, [], hW', trodAll_mk1 (shut_bool Try.underlying4 _), (trodAll_cons_mk (Below.trod laidOut (by kernel_rfl) (of_decide_eq_true (by kernel_rfl)) h0 bel lt0) trodAll_mk0), rfl, bel.frame _, fun h => by cases h⟩
theorem proved : Rows.CombChecksSaid :=
  OpenClaim.holds_of_wide 7 Try.f7 rfl rfl rfl rfl rfl rfl rfl ⟨rfl, rfl, rfl, rfl, rfl⟩ rfl rfl rfl rfl rfl (by kernel_rfl) Try.func7 (by kernel_rfl)
    (of_decide_eq_true (by kernel_rfl)) (by unfold Func.isWrapper; first | (rw [if_pos (by decide +kernel)]; kernel_rfl) | (rw [if_neg (by decide +kernel)]; exact ⟨rfl, rfl⟩))
    (fun os started H enc _ => lifted os started H enc)
#print axioms proved
end Go.Proofs.Ytkkmiclmbhbmjaa.combChecks
