/- For any questions and word ask.Walk returns the specified results: AskWalks returns true and changes nothing; no conditions. -/
import Derived.Test.YtnlibkamomlccaaRows
import Derived.WalkKit
import Derived.ProofKit
import Derived.OpenShut
import Derived.ShutString
import Derived.ChangeOld
import Derived.Below
import Derived.Test.YtnlibkamomlccaaAskWalksM
set_option linter.all false
set_option maxRecDepth 100000
namespace Go.Proofs.Ytnlibkamomlccaa.askWalks
open Go Go.Sl

theorem within_eq (a b c : Int) : ref_Within a b c = some (decide (a ≤ b ∧ b ≤ c)) := by
  unfold ref_Within
  rw [Bool.decide_and]

theorem inside1 (n v : Int) : ref_Inside n [v] = some (decide (0 ≤ v ∧ v < n)) := by
  unfold ref_Inside
  rw [forL_ex (p := fun v => decide (v < 0) || decide (v ≥ n)) (y := Esc.ret false) (fun i a _ => by unfold ref_Inside_b1; cases (decide (a < 0) || decide (a ≥ n)) <;> rfl)]
  by_cases h : 0 ≤ v ∧ v < n
  · have : (decide (v < 0) || decide (v ≥ n)) = false := by simp only [Bool.or_eq_false_iff, decide_eq_false_iff_not]; omega
    simp [this, h]
  · have : (decide (v < 0) || decide (v ≥ n)) = true := by simp only [Bool.or_eq_true, decide_eq_true_eq]; omega
    simp [this, h]

theorem bit_eq {w i : Nat} (hw : w < 2 ^ 63) (hi : i < 63) : ref_Bit (w : Int) (i : Int) = some (w.testBit i) := by
  unfold ref_Bit
  have c : (decide ((i : Int) ≥ 0) && decide ((i : Int) < 63)) = true := by simp; omega
  have e : IntKind.wrap .u64 (i : Int) = (i : Int) := wrap_u64 (by omega) (by omega)
  rw [c, e, ck_ok (by omega)]
  simp only [cond_true, Option.bind_some, bit_mask hw hi]

def awF (a0 : Int) (n : Nat) (v : Int × Int × Int) : Option Int :=
  bif !decide (0 ≤ v.1 ∧ v.1 < a0) then some 4 else bif (!decide (-2 ≤ v.2.1 ∧ v.2.1 ≤ (n : Int) - 1)) || (!decide (-2 ≤ v.2.2 ∧ v.2.2 ≤ (n : Int) - 1)) then some 2 else none
theorem aw_ref (a0 : Int) (n : Nat) (hn : n ≤ 1000) (v : Int × Int × Int) : ref_AsksCheck_b6 a0 n v () = some (said Esc.ret (awF a0 n v)) := by
  have ew : w64 ((n : Int) - 1) = (n : Int) - 1 := w64_id (by omega) (by omega)
  unfold ref_AsksCheck_b6 ref_AsksCheck_g4 awF
  rw [inside1, ew, within_eq, within_eq]
  generalize decide (0 ≤ v.1 ∧ v.1 < a0) = c1
  generalize decide (-2 ≤ v.2.1 ∧ v.2.1 ≤ (n : Int) - 1) = c2
  generalize decide (-2 ≤ v.2.2 ∧ v.2.2 ≤ (n : Int) - 1) = c3
  cases c1 <;> cases c2 <;> cases c3 <;> rfl
theorem aw_prog (a0 : Int) (n : Nat) (v : Int × Int × Int) : ask_Walk_b7 a0 n v () = some (said (fun e => Esc.ret (false, 0, e)) (awF a0 n v)) := by
  have e1 : (bif decide (v.1 < (0 : Int)) then (some true) else (some (decide (v.1 ≥ a0)))) = some (!decide (0 ≤ v.1 ∧ v.1 < a0)) := by
    by_cases h1 : v.1 < 0
    · rw [decide_eq_true h1, decide_eq_false (p := 0 ≤ v.1 ∧ v.1 < a0) (by omega)]; rfl
    · by_cases h2 : v.1 < a0
      · rw [decide_eq_false h1, decide_eq_true (p := 0 ≤ v.1 ∧ v.1 < a0) (by omega), decide_eq_false (by omega)]; rfl
      · rw [decide_eq_false h1, decide_eq_false (p := 0 ≤ v.1 ∧ v.1 < a0) (by omega), decide_eq_true (by omega)]; rfl
  have e2 : (bif decide ((imin v.2.1 v.2.2) < (-2 : Int)) then (some true) else (some (decide ((imax v.2.1 v.2.2) ≥ (n : Int))))) = some ((!decide (-2 ≤ v.2.1 ∧ v.2.1 ≤ (n : Int) - 1)) || (!decide (-2 ≤ v.2.2 ∧ v.2.2 ≤ (n : Int) - 1))) := by
    have m1 : (imin v.2.1 v.2.2 < -2) ↔ (v.2.1 < -2 ∨ v.2.2 < -2) := by unfold imin; split <;> omega
    have m2 : (imax v.2.1 v.2.2 ≥ (n : Int)) ↔ (v.2.1 ≥ n ∨ v.2.2 ≥ n) := by unfold imax; split <;> omega
    have m1' : decide (imin v.2.1 v.2.2 < -2) = decide (v.2.1 < -2 ∨ v.2.2 < -2) := decide_eq_decide.2 m1
    have m2' : decide (imax v.2.1 v.2.2 ≥ (n : Int)) = decide (v.2.1 ≥ n ∨ v.2.2 ≥ n) := decide_eq_decide.2 m2
    rw [m1', m2', not_dec, not_dec, or_dec, bif_ite]
    by_cases h1 : v.2.1 < -2 ∨ v.2.2 < -2
    · rw [if_pos h1, decide_eq_true (by omega)]
    · rw [if_neg h1]
      congr 1
      exact decide_eq_decide.2 (by omega)
  unfold ask_Walk_b7 awF
  rw [e1, e2]
  generalize (!decide (0 ≤ v.1 ∧ v.1 < a0)) = c1
  generalize ((!decide (-2 ≤ v.2.1 ∧ v.2.1 ≤ (n : Int) - 1)) || (!decide (-2 ≤ v.2.2 ∧ v.2.2 ≤ (n : Int) - 1))) = c2
  cases c1 <;> cases c2 <;> rfl
theorem aw_ok {a0 : Int} {l : List (Int × Int × Int)} (h : firstOf (awF a0) 0 l = none) : ∀ (j : Nat) v, l[j]? = some v → (0 ≤ v.1 ∧ v.1 < a0) ∧ (-2 ≤ v.2.1 ∧ v.2.1 < j) ∧ (-2 ≤ v.2.2 ∧ v.2.2 < j) := by
  intro j v hv
  obtain ⟨h1, h2⟩ := bif_none (firstOf_none h hv)
  obtain ⟨h2, _⟩ := bif_none h2
  simp only [Bool.not_eq_false', Bool.or_eq_false_iff, decide_eq_true_eq] at h1 h2
  omega
theorem aw_walk {a0 : Int} (ha : a0 ≤ 4) {l : List (Int × Int × Int)} (hl : l.length ≤ 256) (hok : ∀ (j : Nat) v, l[j]? = some v → (0 ≤ v.1 ∧ v.1 < a0) ∧ (-2 ≤ v.2.1 ∧ v.2.1 < j) ∧ (-2 ≤ v.2.2 ∧ v.2.2 < j)) (x : Nat) (hx : x < 16) :
    ∀ (d : Nat) (at_ : Int), at_ + 1 ≤ d → -2 ≤ at_ → at_ < (l.length : Int) → d ≤ 300 → ∃ (k e : Int), 0 ≤ k ∧ k ≤ d ∧ (∀ fuel, d < fuel → ref_Walked fuel l at_ x = some (e == -2, k)) ∧ (∀ fuel (m : Int), d < fuel → 0 ≤ m → m + d ≤ 1000 → iter (ask_Walk_b17 l x) fuel (at_, m) = some (e, m + k))
  | d, at_, h1, h2, h3, h4 => by
    by_cases hneg : at_ < 0
    · refine ⟨0, at_, by omega, by omega, ?_, ?_⟩
      · intro fuel hf
        obtain ⟨g, rfl⟩ : ∃ g, fuel = g + 1 := ⟨fuel - 1, by omega⟩
        show ref_Walked_step (ref_Walked g) g l at_ x = _
        unfold ref_Walked_step
        rw [decide_eq_true hneg]; rfl
      · intro fuel m hf hm0 hm
        obtain ⟨g, rfl⟩ : ∃ g, fuel = g + 1 := ⟨fuel - 1, by omega⟩
        have : ask_Walk_b17 l x (at_, m) = some (.done (at_, m)) := by
          unfold ask_Walk_b17
          rw [decide_eq_false (by dsimp only; omega)]; rfl
        simp only [iter, this, Int.add_zero]
    · match d, h1, h4 with
      | 0, h1, _ => exact absurd h1 (by omega)
      | d + 1, h1, h4 =>
        obtain ⟨v, hv, hv2⟩ := idx_get (xs := l) (i := at_) (by omega) h3
        obtain ⟨⟨b1, b2⟩, n1, n2⟩ := hok _ v hv2
        obtain ⟨i, hi⟩ := Int.eq_ofNat_of_zero_le b1
        have hb : ref_Bit (x : Int) v.1 = some (x.testBit i) := by rw [hi]; exact bit_eq (by omega) (by omega)
        have hs : (bAnd .i64 (bShr .i64 (x : Int) v.1) 1 == 1) = x.testBit i := by rw [hi]; exact bit_shift (by omega) (by omega)
        let to : Int := bif x.testBit i then v.2.2 else v.2.1
        have hto : -2 ≤ to ∧ to < at_ := by
          show -2 ≤ (bif x.testBit i then v.2.2 else v.2.1) ∧ (bif x.testBit i then v.2.2 else v.2.1) < at_
          cases x.testBit i <;> simp only [cond_true, cond_false] <;> omega
        obtain ⟨k, e, k0, k1, r1, r2⟩ := aw_walk ha hl hok x hx d to (by omega) hto.1 (by omega) (by omega)
        refine ⟨k + 1, e, by omega, by omega, ?_, ?_⟩
        · intro fuel hf
          obtain ⟨g, rfl⟩ : ∃ g, fuel = g + 1 := ⟨fuel - 1, by omega⟩
          show ref_Walked_step (ref_Walked g) g l at_ x = _
          have ew : w64 (k + 1) = k + 1 := w64_id (by omega) (by omega)
          have hsel : ((bif x.testBit i then (some v.2.2) else (some v.2.1)) : Option Int) = some to := by
            show _ = some (bif x.testBit i then v.2.2 else v.2.1)
            cases x.testBit i <;> rfl
          unfold ref_Walked_step
          rw [decide_eq_false hneg, hv]
          simp only [cond_false, Option.bind_some, hb, hsel, r1 g (by omega), ew]
        · intro fuel m hf hm0 hm
          obtain ⟨g, rfl⟩ : ∃ g, fuel = g + 1 := ⟨fuel - 1, by omega⟩
          have ew : w64 (m + 1) = m + 1 := w64_id (by omega) (by omega)
          have hsel : ((bif x.testBit i then (some v.2.2) else (some v.2.1)) : Option Int) = some to := by
            show _ = some (bif x.testBit i then v.2.2 else v.2.1)
            cases x.testBit i <;> rfl
          have : ask_Walk_b17 l x (at_, m) = some (.next (to, m + 1)) := by
            unfold ask_Walk_b17 ask_Walk_g15
            rw [decide_eq_true (by dsimp only; omega)]
            simp only [cond_true, hv, Option.bind_some, hs]
            rw [ck_ok b1]
            simp only [Option.bind_some, hsel, ew]
          simp only [iter, this]
          rw [r2 g (m + 1) (by omega) (by omega) (by omega)]
          congr 2; omega
theorem AskWalks_true (a0 : Int) (a1 : List (Int × (Int × Int))) (a2 : Int) (f0 : Fits (.int .i64) a0) (f1 : Fits (.slice (.pair (.int .i64) (.pair (.int .i64) (.int .i64)))) a1) (f2 : Fits (.int .i64) a2) : ∃ fuel, law_AskWalks fuel a0 a1 a2 = some true := by
  refine ⟨1000, ?_⟩
  unfold law_AskWalks ask_Walk ref_AsksCheck
  rw [within_eq, inside1]
  by_cases h : (0 ≤ a0 ∧ a0 ≤ 4) ∧ (a1.length : Int) ≤ 256
  · have c1 : (((decide (a0 < (0 : Int))) || (decide (a0 > (4 : Int)))) || (decide ((List.length a1 : Int) > (256 : Int)))) = false := by simp only [Bool.or_eq_false_iff, decide_eq_false_iff_not]; omega
    have c2 : ((!decide (0 ≤ a0 ∧ a0 ≤ 4)) || decide ((a1.length : Int) > 256)) = false := by simp only [Bool.or_eq_false_iff, decide_eq_false_iff_not, Bool.not_eq_false', decide_eq_true_eq]; omega
    obtain ⟨k, rfl⟩ := Int.eq_ofNat_of_zero_le h.1.1
    have hk : k ≤ 4 := by omega
    have h16 : 2 ^ k ≤ 16 := Nat.pow_le_pow_right (n := 2) (by omega) hk
    have hw : IntKind.wrap .u64 (k : Int) = (k : Int) := wrap_u64 (by omega) (by omega)
    have hs : bShl .i64 1 (k : Int) = ((2 ^ k : Nat) : Int) := bShl_one (by omega)
    have e1 := forL_findI (body := ask_Walk_b7 (k : Int)) (fin := fun _ => (Esc.brk () : Esc (Bool × Int × Int) Unit)) (f := awF (k : Int)) (g := fun e => Esc.ret (false, 0, e)) (l := a1) (fun n v _ => aw_prog (k : Int) n v)
    have e2 := forL_findI (body := ref_AsksCheck_b6 (k : Int)) (fin := fun _ => (Esc.brk () : Esc Int Unit)) (f := awF (k : Int)) (g := Esc.ret) (l := a1) (fun n v hv => aw_ref (k : Int) n (by have := (List.getElem?_eq_some_iff.1 hv).1; omega) v)
    rw [hw, hs, ck_ok (p := 0 ≤ (k : Int)) (by omega)]
    simp only [c1, c2, e1, e2, cond_false, Option.bind_some]
    cases hf : firstOf (awF (k : Int)) 0 a1 with
    | some e =>
      have he : (e != 0) = true := by
        obtain ⟨j, v, _, hv⟩ := firstOf_some hf
        unfold awF at hv
        revert hv
        generalize (!decide (0 ≤ v.1 ∧ v.1 < (k : Int))) = c1
        generalize ((!decide (-2 ≤ v.2.1 ∧ v.2.1 ≤ (j : Int) - 1)) || (!decide (-2 ≤ v.2.2 ∧ v.2.2 ≤ (j : Int) - 1))) = c2
        cases c1 <;> cases c2 <;> simp <;> rintro rfl <;> decide
      simp [he]
    | none =>
      simp only [Option.elim_none, Option.bind_some]
      by_cases hx : 0 ≤ a2 ∧ a2 < ((2 ^ k : Nat) : Int)
      · obtain ⟨x, rfl⟩ := Int.eq_ofNat_of_zero_le hx.1
        have d1 : decide ((x : Int) < 0) = false := by simp
        have d2 : decide ((x : Int) ≥ ((2 ^ k : Nat) : Int)) = false := by simp only [decide_eq_false_iff_not]; omega
        have hlast : w64 ((a1.length : Int) - 1) = (a1.length : Int) - 1 := w64_id (by omega) (by omega)
        obtain ⟨q, e, q0, q1, r1, r2⟩ := aw_walk (a0 := (k : Int)) (by omega) (by omega) (aw_ok hf) x (by omega) 257 ((a1.length : Int) - 1) (by omega) (by omega) (by omega) (by omega)
        have r2' := r2 1000 0 (by omega) (by omega) (by omega)
        rw [d1, d2, decide_eq_true hx, hlast, r1 1000 (by omega), r2']
        simp
      · rw [decide_eq_false hx]
        by_cases h0 : a2 < 0
        · rw [decide_eq_true h0]; rfl
        · rw [decide_eq_false h0, decide_eq_true (p := a2 ≥ ((2 ^ k : Nat) : Int)) (by omega)]; rfl
  · have c1 : (((decide (a0 < (0 : Int))) || (decide (a0 > (4 : Int)))) || (decide ((List.length a1 : Int) > (256 : Int)))) = true := by simp only [Bool.or_eq_true, decide_eq_true_eq]; omega
    have c2 : ((!decide (0 ≤ a0 ∧ a0 ≤ 4)) || decide ((a1.length : Int) > 256)) = true := by simp only [Bool.or_eq_true, Bool.not_eq_true', decide_eq_true_eq, decide_eq_false_iff_not]; omega
    simp only [c1, c2, cond_true, Option.bind_some]; rfl

end Go.Proofs.Ytnlibkamomlccaa.askWalks
namespace Go.Proofs.Ytnlibkamomlccaa.askWalks
open Go.ChangeShapes Go.WideShapes Go.ChangeAt Go.RowKit
open Go.ChangeMaps (open_string shut_string)
theorem own : ownKnob Try.prog.godebug = none := by kernel_rfl
theorem laidOut : laidOutB Try.prog = true := by kernel_rfl
theorem lifted (os : Os) (started : os.Started) (H : Type) (enc : TypeId × Value → H) :
    ReturnsInHanded {} Try.checked os 3 .any (Rows.askWalksSpec.pre6 enc Try.prog Try.f3 Rows.askWalksRow.domain false) (Rows.askWalksSpec.post enc Try.prog Try.f3 false true false false) := by
  refine returnsInHanded_of_change (C := Try.checked) own started (by kernel_rfl) Try.func3
    (ChangeSpec.witness6 (enc := enc) (C := Try.checked) false ⟨#[], #[.int .i64 0, .slice none 0 0, .int .i64 0], []⟩ 8 (by kernel_rfl) (by kernel_rfl) (by kernel_rfl) (by kernel_rfl)) ?_
  intro W base args ds gs before hval0 hW hcnd _
  have hval : ∀ (j : Nat) t v, Try.f3.params[j]? = some t → args[j]? = some v → Value.okWide Try.prog W .any base t v := hval0
  have hW' := hW
  obtain ⟨p, q, hA0, hV, rfl, hfz, hnd⟩ := hW
  have hA : DataW.TrodAll enc Try.prog W 0 (fun _ => true) true Try.f3.params.toList args.toList ds p := hA0
  rw [Try.params3] at hA hval
  obtain ⟨v0, vs0, d0, ds0, p0, q0, hargs, rfl, rfl, h0, r0⟩ := trodAll_cons hA
  obtain ⟨v1, vs1, d1, ds1, p1, q1, rfl, rfl, rfl, h1, r1⟩ := trodAll_cons r0
  obtain ⟨v2, vs2, d2, ds2, p2, q2, rfl, rfl, rfl, h2, r2⟩ := trodAll_cons r1
  obtain ⟨rfl, rfl, rfl⟩ := trodAll_nil r2
  obtain rfl : args = #[v0, v1, v2] := by cases args; simp_all
  obtain ⟨rfl, rfl⟩ := trodVars_none hV
  obtain ⟨x0, f0, k0⟩ := Go.Sl.read_arg (u := (.int .i64)) (by kernel_rfl) (by kernel_rfl) (hval 0 3 v0 rfl rfl) h0
  have lt0 : ∀ x ∈ p0, x.block < W.heap.size := by obtain ⟨m, hm⟩ := h0; exact DataW.trod_lt m _ _ _ hm
  obtain ⟨x1, f1, k1⟩ := Go.Sl.read_arg (u := (.slice (.pair (.int .i64) (.pair (.int .i64) (.int .i64))))) (by kernel_rfl) (by kernel_rfl) (hval 1 22 v1 rfl rfl) h1
  have lt1 : ∀ x ∈ p1, x.block < W.heap.size := by obtain ⟨m, hm⟩ := h1; exact DataW.trod_lt m _ _ _ hm
  obtain ⟨x2, f2, k2⟩ := Go.Sl.read_arg (u := (.int .i64)) (by kernel_rfl) (by kernel_rfl) (hval 2 3 v2 rfl rfl) h2
  have lt2 : ∀ x ∈ p2, x.block < W.heap.size := by obtain ⟨m, hm⟩ := h2; exact DataW.trod_lt m _ _ _ hm
  clear hA0 hval0
  obtain ⟨fuel, hm⟩ := AskWalks_true x0 x1 x2 f0 f1 f2
  refine (Go.Sl.law_of (vs := [v0, v1, v2]) (law_AskWalks_ok hm) rfl (.cons (k0 _ _) (.cons (k1 _ _) (.cons (k2 _ _) .nil)))).mono fun e W' ⟨he, bel⟩ => ?_
  subst he
  exact ⟨_, rfl, _, _, _, [], _, [], hW', trodAll_mk1 (shut_bool Try.underlying4 _), (trodAll_cons_mk (Below.trod laidOut (by kernel_rfl) (of_decide_eq_true (by kernel_rfl)) h0 bel lt0) (trodAll_cons_mk (Below.trod laidOut (by kernel_rfl) (of_decide_eq_true (by kernel_rfl)) h1 bel lt1) (trodAll_cons_mk (Below.trod laidOut (by kernel_rfl) (of_decide_eq_true (by kernel_rfl)) h2 bel lt2) trodAll_mk0))), rfl, bel.frame _, fun h => by cases h⟩
theorem proved : Rows.AskWalksSaid :=
  OpenClaim.holds_of_wide 3 Try.f3 rfl rfl rfl rfl rfl rfl rfl ⟨rfl, rfl, rfl, rfl, rfl⟩ rfl rfl rfl rfl rfl (by kernel_rfl) Try.func3 (by kernel_rfl)
    (of_decide_eq_true (by kernel_rfl)) (by unfold Func.isWrapper; first | (rw [if_pos (by decide +kernel)]; kernel_rfl) | (rw [if_neg (by decide +kernel)]; exact ⟨rfl, rfl⟩))
    (fun os started H enc _ => lifted os started H enc)
#print axioms proved
end Go.Proofs.Ytnlibkamomlccaa.askWalks
