/- For any counters two.Pack returns the specified product or error code: TwoPacks returns true and changes nothing; no conditions. -/
import Derived.Test.YtmongadolmofnaaRows
import Derived.WalkKit
import Derived.ProofKit
import Derived.OpenShut
import Derived.ShutString
import Derived.ChangeOld
import Derived.Below
import Derived.Test.YtmongadolmofnaaTwoPacksM
set_option linter.all false
set_option maxRecDepth 100000
namespace Go.Proofs.Ytmongadolmofnaa.twoPacks
open Go Go.Sl

theorem tp_b7 (i : Int) : two_Pack_b7 i = ref_Packed_b7 i := by
  funext j x
  unfold two_Pack_b7 ref_Packed_b7 two_prime
  cases idx [(2 : Int), 3, 5, 7] i <;> rfl
theorem tp_ex (i v x : Int) (h0 : 0 ≤ i) (h1 : i < 4) (hv : v ≤ 4) : ∃ y, forI (0 : Int) v (ref_Packed_b7 i) (fun x56 => x56) x = some y := by
  obtain ⟨p, hp, _⟩ := idx_get (xs := [(2 : Int), 3, 5, 7]) h0 (by simpa using h1)
  obtain ⟨y, hy, _⟩ := forI_inv (lo := 0) (hi := v) (body := ref_Packed_b7 i) (fin := fun x56 => x56) (x := x) (fun _ _ => True) (fun _ => True) (by omega) (by omega) trivial
    (fun j z _ _ _ => ⟨.next (w64 (z * p)), by unfold ref_Packed_b7; rw [hp]; rfl, trivial⟩) (fun _ _ _ _ _ _ => trivial)
  exact ⟨y, hy⟩
theorem tp_g14 (x v : Int) : law_TwoPacks_g14 x v = some (if x = 0 ∧ ¬ (0 ≤ v ∧ v ≤ 4) then 4 else x) := by
  unfold law_TwoPacks_g14 ref_Within
  by_cases hx : x = 0
  · subst hx
    by_cases hv : 0 ≤ v ∧ v ≤ 4
    · simp [hv.1, hv.2]
    · have : (decide (0 ≤ v) && decide (v ≤ 4)) = false := by
        cases hc : (decide (0 ≤ v) && decide (v ≤ 4)) with
        | false => rfl
        | true => simp only [Bool.and_eq_true, decide_eq_true_eq] at hc; exact absurd hc hv
      simp [this, hv]
  · have : (x == (0 : Int)) = false := by simp [hx]
    simp [this, hx]
theorem tp_stay (l : List Int) : ∀ (i x : Int), x ≠ 0 → forL law_TwoPacks_b16 (fun x107 => x107) l i x = some x := by
  induction l with
  | nil => intro i x _; rfl
  | cons v l ih =>
    intro i x hx
    have : law_TwoPacks_b16 i v x = some (.next x) := by unfold law_TwoPacks_b16; rw [tp_g14]; simp [hx]
    simp only [forL, this]
    exact ih _ x hx
theorem tp_main (l : List Int) : ∀ (i x : Int), 0 ≤ i → i + l.length ≤ 4 →
    (forL law_TwoPacks_b16 (fun x107 => x107) l i 0 = some 4 ∧ forL two_Pack_b10 (fun x51 => Esc.brk x51) l i x = some (.ret (0, 4))) ∨
    (forL law_TwoPacks_b16 (fun x107 => x107) l i 0 = some 0 ∧ ∃ y, forL two_Pack_b10 (fun x51 => Esc.brk x51) l i x = some (.brk y) ∧ forL ref_Packed_b10 (fun x42 => x42) l i x = some y) := by
  induction l with
  | nil => intro i x _ _; exact .inr ⟨rfl, x, rfl, rfl⟩
  | cons v l ih =>
    intro i x h0 h1
    simp only [List.length_cons] at h1
    by_cases hv : 0 ≤ v ∧ v ≤ 4
    · obtain ⟨y, hy⟩ := tp_ex i v x h0 (by omega) hv.2
      have e1 : law_TwoPacks_b16 i v 0 = some (.next 0) := by unfold law_TwoPacks_b16; rw [tp_g14]; simp [hv]
      have e2 : two_Pack_b10 i v x = some (.next y) := by
        unfold two_Pack_b10
        rw [bif_f (by simp only [Bool.or_eq_false_iff, decide_eq_false_iff_not]; omega), tp_b7, hy]; rfl
      have e3 : ref_Packed_b10 i v x = some (.next y) := by unfold ref_Packed_b10; rw [hy]; rfl
      simp only [forL, e1, e2, e3]
      exact ih (i + 1) y (by omega) (by omega)
    · left
      have e1 : law_TwoPacks_b16 i v 0 = some (.next 4) := by unfold law_TwoPacks_b16; rw [tp_g14]; simp [hv]
      have e2 : two_Pack_b10 i v x = some (.done (.ret (0, 4))) := by
        unfold two_Pack_b10
        rw [bif_t (by simp only [Bool.or_eq_true, decide_eq_true_eq]; omega)]
      simp only [forL, e1, e2]
      exact ⟨tp_stay l _ 4 (by omega), trivial⟩
theorem TwoPacks_true (a0 : List Int) (f0 : Fits (.slice (.int .i64)) a0) : law_TwoPacks a0 = some true := by
  by_cases h : 1 ≤ (a0.length : Int) ∧ (a0.length : Int) ≤ 4
  · have hw : ref_Within 1 (a0.length : Int) 4 = some true := by simp [ref_Within, h.1, h.2]
    have hb : ((decide ((List.length a0 : Int) < (1 : Int))) || (decide ((List.length a0 : Int) > (4 : Int)))) = false := by
      simp only [Bool.or_eq_false_iff, decide_eq_false_iff_not]; omega
    rcases tp_main a0 0 1 (by omega) (by omega) with ⟨e1, e2⟩ | ⟨e1, y, e2, e3⟩
    · have hp : two_Pack a0 = some (0, 4) := by unfold two_Pack; rw [bif_f hb, e2]; rfl
      unfold law_TwoPacks
      rw [hp, hw]
      simp [e1]
    · have hp : two_Pack a0 = some (y, 0) := by unfold two_Pack; rw [bif_f hb, e2]; rfl
      have hq : ref_Packed a0 = some y := by unfold ref_Packed; rw [e3]; rfl
      unfold law_TwoPacks
      rw [hp, hw]
      simp [e1, hq]
  · have hw : ref_Within 1 (a0.length : Int) 4 = some false := by
      unfold ref_Within
      cases hc : (decide (1 ≤ (a0.length : Int)) && decide ((a0.length : Int) ≤ 4)) with
      | false => rfl
      | true => simp only [Bool.and_eq_true, decide_eq_true_eq] at hc; exact absurd hc h
    have hb : ((decide ((List.length a0 : Int) < (1 : Int))) || (decide ((List.length a0 : Int) > (4 : Int)))) = true := by
      simp only [Bool.or_eq_true, decide_eq_true_eq]; omega
    have hp : two_Pack a0 = some (0, 1) := by unfold two_Pack; rw [bif_t hb]
    unfold law_TwoPacks
    rw [hp, hw]
    simp [tp_stay]

end Go.Proofs.Ytmongadolmofnaa.twoPacks
namespace Go.Proofs.Ytmongadolmofnaa.twoPacks
open Go.ChangeShapes Go.WideShapes Go.ChangeAt Go.RowKit
open Go.ChangeMaps (open_string shut_string)
theorem own : ownKnob Try.prog.godebug = none := by kernel_rfl
theorem laidOut : laidOutB Try.prog = true := by kernel_rfl
theorem lifted (os : Os) (started : os.Started) (H : Type) (enc : TypeId × Value → H) :
    ReturnsInHanded {} Try.checked os 7 .any (Rows.twoPacksSpec.pre6 enc Try.prog Try.f7 Rows.twoPacksRow.domain false) (Rows.twoPacksSpec.post enc Try.prog Try.f7 false true false false) := by
  refine returnsInHanded_of_change (C := Try.checked) own started (by kernel_rfl) Try.func7
    (ChangeSpec.witness6 (enc := enc) (C := Try.checked) false ⟨#[], #[.slice none 0 0], []⟩ 8 (by kernel_rfl) (by kernel_rfl) (by kernel_rfl) (by kernel_rfl)) ?_
  intro W base args ds gs before hval0 hW hcnd _
  have hval : ∀ (j : Nat) t v, Try.f7.params[j]? = some t → args[j]? = some v → Value.okWide Try.prog W .any base t v := hval0
  have hW' := hW
  obtain ⟨p, q, hA0, hV, rfl, hfz, hnd⟩ := hW
  have hA : DataW.TrodAll enc Try.prog W 0 (fun _ => true) true Try.f7.params.toList args.toList ds p := hA0
  rw [Try.params7] at hA hval
  obtain ⟨v0, vs0, d0, ds0, p0, q0, hargs, rfl, rfl, h0, r0⟩ := trodAll_cons hA
  obtain ⟨rfl, rfl, rfl⟩ := trodAll_nil r0
  obtain rfl : args = #[v0] := by cases args; simp_all
  obtain ⟨rfl, rfl⟩ := trodVars_none hV
  obtain ⟨x0, f0, k0⟩ := Go.Sl.read_arg (u := (.slice (.int .i64))) (by kernel_rfl) (by kernel_rfl) (hval 0 32 v0 rfl rfl) h0
  have lt0 : ∀ x ∈ p0, x.block < W.heap.size := by obtain ⟨m, hm⟩ := h0; exact DataW.trod_lt m _ _ _ hm
  clear hA0 hval0
  have hm := TwoPacks_true x0 f0
  refine (Go.Sl.law_of (vs := [v0]) (law_TwoPacks_ok hm) rfl (.cons (k0 _ _) .nil)).mono fun e W' ⟨he, bel⟩ => ?_
  subst he
  exact ⟨_, rfl, _, _, _, [], _, [], hW', trodAll_mk1 (shut_bool Try.underlying4 _), (trodAll_cons_mk (Below.trod laidOut (by kernel_rfl) (of_decide_eq_true (by kernel_rfl)) h0 bel lt0) trodAll_mk0), rfl, bel.frame _, fun h => by cases h⟩
theorem proved : Rows.TwoPacksSaid :=
  OpenClaim.holds_of_wide 7 Try.f7 rfl rfl rfl rfl rfl rfl rfl ⟨rfl, rfl, rfl, rfl, rfl⟩ rfl rfl rfl rfl rfl (by kernel_rfl) Try.func7 (by kernel_rfl)
    (of_decide_eq_true (by kernel_rfl)) (by unfold Func.isWrapper; first | (rw [if_pos (by decide +kernel)]; kernel_rfl) | (rw [if_neg (by decide +kernel)]; exact ⟨rfl, rfl⟩))
    (fun os started H enc _ => lifted os started H enc)
#print axioms proved
end Go.Proofs.Ytmongadolmofnaa.twoPacks
