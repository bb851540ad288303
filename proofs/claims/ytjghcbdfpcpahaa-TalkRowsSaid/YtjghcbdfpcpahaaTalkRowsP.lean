/- For any table talk.Rows returns the specified results: TalkRows returns true and changes nothing; no conditions. -/
import Derived.Test.YtjghcbdfpcpahaaRows
import Derived.WalkKit
import Derived.ProofKit
import Derived.OpenShut
import Derived.ShutString
import Derived.ChangeOld
import Derived.Below
import Derived.Test.YtjghcbdfpcpahaaTalkRowsM
set_option linter.all false
set_option maxRecDepth 100000
namespace Go.Proofs.Ytjghcbdfpcpahaa.talkRows
open Go Go.Sl

theorem within_eq (a b c : Int) : ref_Within a b c = some (decide (a ≤ b ∧ b ≤ c)) := by
  unfold ref_Within
  rw [Bool.decide_and]

def tkLen (t : List (List Bool)) (l : List Bool) : Bool := (l.length : Int) != (((t[0]?).getD []).length : Int)
def tkAll (t : List (List Bool)) : Int :=
  bif !decide (1 ≤ (t.length : Int) ∧ (t.length : Int) ≤ 4) then 1 else bif !decide (1 ≤ (((t[0]?).getD []).length : Int) ∧ (((t[0]?).getD []).length : Int) ≤ 4) then 1 else bif t.any (tkLen t) then 3 else 0
theorem tk_head {t : List (List Bool)} (h : 1 ≤ t.length) : idx t 0 = some ((t[0]?).getD []) := by
  cases t with
  | nil => simp at h
  | cons a t => rfl
theorem tk_wrong (t : List (List Bool)) : talk_wrong t = some (tkAll t) := by
  unfold talk_wrong talk_wrong_g1 tkAll
  have e : ((decide ((List.length t : Int) < (1 : Int))) || (decide ((List.length t : Int) > (4 : Int)))) = !decide (1 ≤ (t.length : Int) ∧ (t.length : Int) ≤ 4) := by
    rw [or_dec, not_dec]; exact decide_eq_decide.2 (by omega)
  rw [e]
  by_cases h : 1 ≤ (t.length : Int) ∧ (t.length : Int) ≤ 4
  · rw [tk_head (by omega)]
    generalize hd : (t[0]?).getD [] = d
    have e2 : (bif decide ((List.length d : Int) < (1 : Int)) then (some true) else (some (decide ((List.length d : Int) > (4 : Int))))) = some (!decide (1 ≤ (d.length : Int) ∧ (d.length : Int) ≤ 4)) := by
      rw [bif_some]; congr 1
      by_cases h : (d.length : Int) < 1
      · have : ¬ (1 ≤ (d.length : Int) ∧ (d.length : Int) ≤ 4) := by omega
        simp only [h, decide_true, cond_true, this, decide_false, Bool.not_false]
      · rw [decide_eq_false h, cond_false, not_dec]; exact decide_eq_decide.2 (by omega)
    simp only [h, and_self, decide_true, Bool.not_true, cond_false, bind_some', e2]
    have e3 : slices_ContainsFunc_LLboolLbool_with_talk_wrong_1 t t = some (t.any (tkLen t)) := by
      unfold slices_ContainsFunc_LLboolLbool_with_talk_wrong_1 slices_IndexFunc_LLboolLbool_with_talk_wrong_1
      rcases forL_at (body := slices_IndexFunc_LLboolLbool_with_talk_wrong_1_b1 t) (fin := fun _ => (Esc.brk () : Esc Int Unit)) (p := tkLen t) (g := fun j => Esc.ret j) (l := t)
        (fun i a _ => by unfold slices_IndexFunc_LLboolLbool_with_talk_wrong_1_b1 talk_wrong_1 tkLen; rw [tk_head (by omega)]; simp only [bind_some']; cases ((List.length a : Int) != (List.length ((t[0]?).getD []) : Int)) <;> rfl) (i := 0) with ⟨h1, h2⟩ | ⟨h1, j, h2, h3, h4⟩
      · rw [h2, h1]; rfl
      · rw [h4, h1]; simp [h2]
    rw [e3]
    cases decide (1 ≤ (d.length : Int) ∧ (d.length : Int) ≤ 4) <;> cases t.any (tkLen t) <;> rfl
  · rw [decide_eq_false h]; rfl
theorem tk_check (t : List (List Bool)) : ref_TalkCheck t = some (tkAll t) := by
  unfold ref_TalkCheck ref_TalkCheck_g1 tkAll
  rw [within_eq, bind_some']
  by_cases h : 1 ≤ (t.length : Int) ∧ (t.length : Int) ≤ 4
  · rw [tk_head (by omega), bind_some', within_eq, bind_some']
    rw [forL_ex (p := tkLen t) (y := Esc.ret 3) (fun i a _ => by unfold ref_TalkCheck_b2 tkLen; rw [tk_head (by omega)]; simp only [bind_some']; cases ((List.length a : Int) != (List.length ((t[0]?).getD []) : Int)) <;> rfl)]
    simp only [h, and_self, decide_true, Bool.not_true, cond_false, bind_some']
    cases decide (1 ≤ (((t[0]?).getD []).length : Int) ∧ (((t[0]?).getD []).length : Int) ≤ 4) <;> cases t.any (tkLen t) <;> rfl
  · rw [decide_eq_false h]; rfl
theorem tk_ok {t : List (List Bool)} (h : tkAll t = 0) : 1 ≤ t.length ∧ t.length ≤ 4 ∧ ∃ n, 1 ≤ n ∧ n ≤ 4 ∧ ∀ r ∈ t, r.length = n := by
  unfold tkAll at h
  by_cases h1 : 1 ≤ (t.length : Int) ∧ (t.length : Int) ≤ 4
  · rw [decide_eq_true h1] at h
    by_cases h2 : 1 ≤ (((t[0]?).getD []).length : Int) ∧ (((t[0]?).getD []).length : Int) ≤ 4
    · rw [decide_eq_true h2] at h
      cases h3 : t.any (tkLen t) with
      | true => rw [h3] at h; cases h
      | false =>
        refine ⟨by omega, by omega, ((t[0]?).getD []).length, by omega, by omega, fun r hr => ?_⟩
        have := List.any_eq_false.1 h3 r hr
        unfold tkLen at this
        simp at this
        omega
    · rw [decide_eq_false h2] at h; cases h
  · rw [decide_eq_false h1] at h; cases h

theorem tr_eqs (a b : List Bool) : slices_Equal_Lboolbool a b = some (decide (a = b)) := by
  unfold slices_Equal_Lboolbool
  rw [len_ne]
  by_cases h : a.length = b.length
  · rw [forL_eqs (q := b) (fun n x c hc => by
      unfold slices_Equal_Lboolbool_b1
      rw [idx_nat, hc, bind_some']
      by_cases hx : x = c
      · subst hx; simp
      · have : (x == c) = false := by simpa using hx
        simp [hx, this]) h]
    by_cases hab : a = b <;> simp [h, hab]
  · have : a ≠ b := fun e => h (by rw [e])
    simp [h, this]
theorem tr_bools (a b : List Bool) : ref_Bools a b = some (decide (a = b)) := by
  unfold ref_Bools
  rw [len_ne]
  by_cases h : a.length = b.length
  · rw [forL_eqs (q := b) (fun n x c hc => by
      unfold ref_Bools_b1
      rw [idx_nat, hc, bind_some']
      by_cases hx : x = c
      · subst hx; simp
      · have : (x == c) = false := by simpa using hx
        simp [hx, this]) h]
    by_cases hab : a = b <;> simp [h, hab]
  · have : a ≠ b := fun e => h (by rw [e])
    simp [h, this]
theorem tr_has (l : List (List Bool)) (r : List Bool) : slices_ContainsFunc_LLboolLbool_with_talk_Rows_1 l r = some (l.any fun o => decide (o = r)) := by
  unfold slices_ContainsFunc_LLboolLbool_with_talk_Rows_1 slices_IndexFunc_LLboolLbool_with_talk_Rows_1
  rcases forL_at (body := slices_IndexFunc_LLboolLbool_with_talk_Rows_1_b1 r) (fin := fun _ => (Esc.brk () : Esc Int Unit)) (p := fun o => decide (o = r)) (g := fun j => Esc.ret j) (l := l)
    (fun i a _ => by unfold slices_IndexFunc_LLboolLbool_with_talk_Rows_1_b1 talk_Rows_1; rw [tr_eqs]; simp only [bind_some']; cases (decide (a = r)) <;> rfl) (i := 0) with ⟨h1, h2⟩ | ⟨h1, j, h2, h3, h4⟩
  · rw [h2, h1]; rfl
  · rw [h4, h1]; simp [h2]
theorem tr_all {t : List (List Bool)} {r : List Bool} (n : Nat) (hn : n ≤ t.length) (hb : n ≤ 9223372036854775807) : forI (0 : Int) (n : Int) (law_TalkRows_b23 t r) (fun x206 => x206) true = some (!(t.take n).any fun o => decide (o = r)) := by
  obtain ⟨y, h1, h2⟩ := forI_inv (body := law_TalkRows_b23 t r) (fin := fun x => x) (lo := 0) (hi := (n : Int)) (x := true) (Inv := fun i x => 0 ≤ i ∧ x = !(t.take i.toNat).any fun o => decide (o = r)) (Post := fun y => y = !(t.take n).any fun o => decide (o = r))
    (by omega) (by omega) ⟨by omega, by simp⟩ (by
      rintro i x hi0 hi ⟨_, rfl⟩
      obtain ⟨o, h1, h2⟩ := idx_get (xs := t) hi0 (by omega)
      have htk : t.take (i + 1).toNat = t.take i.toNat ++ [o] := by
        rw [show (i + 1).toNat = i.toNat + 1 by omega, List.take_add_one, h2]; rfl
      unfold law_TalkRows_b23
      rw [h1, htk]
      simp only [bind_some', tr_bools, List.any_append, List.any_cons, List.any_nil, Bool.or_false]
      have hor : decide (r = o) = decide (o = r) := decide_eq_decide.2 ⟨Eq.symm, Eq.symm⟩
      rw [hor]
      cases (t.take i.toNat).any fun o => decide (o = r)
      · exact ⟨_, rfl, by omega, by simp⟩
      · exact ⟨_, rfl, by omega, by simp⟩) (by
      rintro i x hi0 hi hh ⟨_, rfl⟩
      have : i.toNat = n := by omega
      rw [this])
  rw [h1, h2]
theorem TalkRows_true (a0 : List (List Bool)) (f0 : Fits (.slice (.slice .bool)) a0) : ∃ fuel, law_TalkRows fuel a0 = some true := by
  refine ⟨0, ?_⟩
  unfold law_TalkRows talk_Rows
  rw [tk_wrong, tk_check]
  simp only [bind_some']
  by_cases hz : tkAll a0 = 0
  · obtain ⟨h1, h2, _⟩ := tk_ok hz
    rw [hz]
    have e : forL (talk_Rows_b7 a0) (fun x49 => x49) a0 0 (0 : Int) = forL (law_TalkRows_b27 a0) (fun x131 => x131) a0 0 (0 : Int) := by
      obtain ⟨y, e1, e2, _⟩ := forL_eq (body := talk_Rows_b7 a0) (body' := law_TalkRows_b27 a0) (fin := fun x => x) (l := a0) (x := (0 : Int)) (Inv := fun _ _ => True) (Post := fun _ => True) trivial (by
        intro n r x hr _
        have hn : n < a0.length := (List.getElem?_eq_some_iff.1 hr).1
        unfold talk_Rows_b7 talk_Rows_g5 law_TalkRows_b27
        rw [ck_ok (by omega), tr_all n (by omega) (by omega)]
        simp only [bind_some', tr_has]
        have : sub a0 0 (n : Int) = a0.take n := by unfold sub; simp
        rw [this]
        cases (a0.take n).any fun o => decide (o = r) <;> exact ⟨_, rfl, rfl, trivial⟩) (fun _ _ => trivial)
      rw [e1, e2]
    rw [e]
    obtain ⟨y, e1, _⟩ := forL_inv (body := law_TalkRows_b27 a0) (fin := fun x => x) (l := a0) (x := (0 : Int)) (Inv := fun _ _ => True) (Post := fun _ => True) trivial (by
      intro n r x hr _
      have hn : n < a0.length := (List.getElem?_eq_some_iff.1 hr).1
      unfold law_TalkRows_b27
      rw [tr_all n (by omega) (by omega)]
      simp only [bind_some']
      cases (a0.take n).any fun o => decide (o = r) <;> exact ⟨_, rfl, trivial⟩) (fun _ _ => trivial)
    rw [e1]
    simp
  · have e : (tkAll a0 != 0) = true := by simp [hz]
    rw [e]
    simp [e]

end Go.Proofs.Ytjghcbdfpcpahaa.talkRows
namespace Go.Proofs.Ytjghcbdfpcpahaa.talkRows
open Go.ChangeShapes Go.WideShapes Go.ChangeAt Go.RowKit
open Go.ChangeMaps (open_string shut_string)
theorem own : ownKnob Try.prog.godebug = none := by kernel_rfl
theorem laidOut : laidOutB Try.prog = true := by kernel_rfl
theorem lifted (os : Os) (started : os.Started) (H : Type) (enc : TypeId × Value → H) :
    ReturnsInHanded {} Try.checked os 3 .any (Rows.talkRowsSpec.pre6 enc Try.prog Try.f3 Rows.talkRowsRow.domain false) (Rows.talkRowsSpec.post enc Try.prog Try.f3 false true false false) := by
  refine returnsInHanded_of_change (C := Try.checked) own started (by kernel_rfl) Try.func3
    (ChangeSpec.witness6 (enc := enc) (C := Try.checked) false ⟨#[], #[.slice none 0 0], []⟩ 8 (by kernel_rfl) (by kernel_rfl) (by kernel_rfl) (by kernel_rfl)) ?_
  intro W base args ds gs before hval0 hW hcnd _
  have hval : ∀ (j : Nat) t v, Try.f3.params[j]? = some t → args[j]? = some v → Value.okWide Try.prog W .any base t v := hval0
  have hW' := hW
  obtain ⟨p, q, hA0, hV, rfl, hfz, hnd⟩ := hW
  have hA : DataW.TrodAll enc Try.prog W 0 (fun _ => true) true Try.f3.params.toList args.toList ds p := hA0
  rw [Try.params3] at hA hval
  obtain ⟨v0, vs0, d0, ds0, p0, q0, hargs, rfl, rfl, h0, r0⟩ := trodAll_cons hA
  obtain ⟨rfl, rfl, rfl⟩ := trodAll_nil r0
  obtain rfl : args = #[v0] := by cases args; simp_all
  obtain ⟨rfl, rfl⟩ := trodVars_none hV
  obtain ⟨x0, f0, k0⟩ := Go.Sl.read_arg (u := (.slice (.slice .bool))) (by kernel_rfl) (by kernel_rfl) (hval 0 22 v0 rfl rfl) h0
  have lt0 : ∀ x ∈ p0, x.block < W.heap.size := by obtain ⟨m, hm⟩ := h0; exact DataW.trod_lt m _ _ _ hm
  clear hA0 hval0
  obtain ⟨fuel, hm⟩ := TalkRows_true x0 f0
  refine (Go.Sl.law_of (vs := [v0]) (law_TalkRows_ok hm) rfl (.cons (k0 _ _) .nil)).mono fun e W' ⟨he, bel⟩ => ?_
  subst he
  exact ⟨_, rfl, _, _, _, [], _, [], hW', trodAll_mk1 (shut_bool Try.underlying4 _), (trodAll_cons_mk (Below.trod laidOut (by kernel_rfl) (of_decide_eq_true (by kernel_rfl)) h0 bel lt0) trodAll_mk0), rfl, bel.frame _, fun h => by cases h⟩
theorem proved : Rows.TalkRowsSaid :=
  OpenClaim.holds_of_wide 3 Try.f3 rfl rfl rfl rfl rfl rfl rfl ⟨rfl, rfl, rfl, rfl, rfl⟩ rfl rfl rfl rfl rfl (by kernel_rfl) Try.func3 (by kernel_rfl)
    (of_decide_eq_true (by kernel_rfl)) (by unfold Func.isWrapper; first | (rw [if_pos (by decide +kernel)]; kernel_rfl) | (rw [if_neg (by decide +kernel)]; exact ⟨rfl, rfl⟩))
    (fun os started H enc _ => lifted os started H enc)
#print axioms proved
end Go.Proofs.Ytjghcbdfpcpahaa.talkRows
