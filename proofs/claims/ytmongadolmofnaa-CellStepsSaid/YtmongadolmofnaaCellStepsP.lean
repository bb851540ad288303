/- For any rule and ring cell.Step returns the specified results: CellSteps returns true and changes nothing; no conditions. -/
import Derived.Test.YtmongadolmofnaaRows
import Derived.WalkKit
import Derived.ProofKit
import Derived.OpenShut
import Derived.ShutString
import Derived.ChangeOld
import Derived.Below
import Derived.Test.YtmongadolmofnaaCellStepsM
set_option linter.all false
set_option maxRecDepth 100000
namespace Go.Proofs.Ytmongadolmofnaa.cellSteps
open Go Go.Sl

theorem bit_eq {w i : Nat} (hw : w < 2 ^ 63) (hi : i < 63) : ref_Bit (w : Int) (i : Int) = some (w.testBit i) := by
  unfold ref_Bit
  have c : (decide ((i : Int) ≥ 0) && decide ((i : Int) < 63)) = true := by simp; omega
  have e : IntKind.wrap .u64 (i : Int) = (i : Int) := wrap_u64 (by omega) (by omega)
  rw [c, e, ck_ok (by omega)]
  simp only [cond_true, Option.bind_some, bit_mask hw hi]

theorem within_eq (a b c : Int) : ref_Within a b c = some (decide (a ≤ b ∧ b ≤ c)) := by
  unfold ref_Within
  rw [Bool.decide_and]

def csNum (a b c : Bool) : Nat := 4 * a.toNat + 2 * b.toNat + c.toNat
theorem cs_truth {r : Nat} (hr : r ≤ 255) (a b c : Bool) : ref_Truth (r : Int) a b c = some (r.testBit (csNum a b c)) := by
  have key : ∀ k : Nat, k < 8 → ref_Bit (r : Int) (k : Int) = some (r.testBit k) := fun k hk => bit_eq (by omega) (by omega)
  have k0 := key 0 (by omega)
  have k1 := key 1 (by omega)
  have k2 := key 2 (by omega)
  have k3 := key 3 (by omega)
  have k4 := key 4 (by omega)
  have k5 := key 5 (by omega)
  have k6 := key 6 (by omega)
  have k7 := key 7 (by omega)
  have w1 : w64 (4 + 2) = 6 := by decide
  have w2 : w64 (0 + 2) = 2 := by decide
  have w3 : w64 (6 + 1) = 7 := by decide
  have w4 : w64 (4 + 1) = 5 := by decide
  have w5 : w64 (2 + 1) = 3 := by decide
  have w6 : w64 (0 + 1) = 1 := by decide
  simp only [Int.natCast_zero, Int.natCast_one, Int.cast_ofNat_Int] at k0 k1 k2 k3 k4 k5 k6 k7
  unfold ref_Truth
  cases a <;> cases b <;> cases c <;> simp only [cond_true, cond_false, Option.bind_some, w1, w2, w3, w4, w5, w6, k0, k1, k2, k3, k4, k5, k6, k7] <;> rfl
theorem cs_bit (b : Bool) : cell_bit b = some ((b.toNat : Nat) : Int) := by cases b <;> rfl
theorem cs_num (a b c : Bool) : w64 (w64 (w64 (4 * ((a.toNat : Nat) : Int)) + w64 (2 * ((b.toNat : Nat) : Int))) + ((c.toNat : Nat) : Int)) = ((csNum a b c : Nat) : Int) := by
  cases a <;> cases b <;> cases c <;> decide
theorem cs_idx (l : List Bool) (n : Nat) (hl : l.length = n) (h12 : n ≤ 12) (i : Nat) (hi : i < n) : ∃ a c, idx l (Int.tmod (w64 ((w64 ((i : Int) + (l.length : Int))) - 1)) (l.length : Int)) = some a ∧ idx l (Int.tmod (w64 ((i : Int) + 1)) (l.length : Int)) = some c := by
  have e1 : w64 ((i : Int) + (l.length : Int)) = (i : Int) + (l.length : Int) := w64_id (by omega) (by omega)
  have e2 : w64 ((i : Int) + (l.length : Int) - 1) = ((i + n - 1 : Nat) : Int) := by rw [w64_id (by omega) (by omega)]; omega
  have e3 : w64 ((i : Int) + 1) = ((i + 1 : Nat) : Int) := by rw [w64_id (by omega) (by omega)]; omega
  have e4 : (l.length : Int) = (n : Int) := by omega
  rw [e1, e2, e3, e4, ← Int.ofNat_tmod, ← Int.ofNat_tmod]
  have b1 := Nat.mod_lt (i + n - 1) (show 0 < n by omega)
  have b2 := Nat.mod_lt (i + 1) (show 0 < n by omega)
  obtain ⟨a, ha, _⟩ := idx_get (xs := l) (i := (((i + n - 1) % n : Nat) : Int)) (by omega) (by omega)
  obtain ⟨c, hc, _⟩ := idx_get (xs := l) (i := (((i + 1) % n : Nat) : Int)) (by omega) (by omega)
  exact ⟨a, c, ha, hc⟩
theorem CellSteps_true (a0 : Int) (a1 : List Bool) (f0 : Fits (.int .i64) a0) (f1 : Fits (.slice .bool) a1) : law_CellSteps a0 a1 = some true := by
  unfold law_CellSteps cell_Step law_ruleCode law_CellSteps_g4 cell_wrong
  rw [within_eq, within_eq]
  by_cases h : 0 ≤ a0 ∧ a0 ≤ 255
  · have c1 : ((decide (a0 < (0 : Int))) || (decide (a0 > (255 : Int)))) = false := by simp only [Bool.or_eq_false_iff, decide_eq_false_iff_not]; omega
    obtain ⟨r, rfl⟩ := Int.eq_ofNat_of_zero_le h.1
    have hr : r ≤ 255 := by omega
    rw [c1, decide_eq_true h]
    by_cases hn : 1 ≤ (a1.length : Int) ∧ (a1.length : Int) ≤ 12
    · have c2 : ((decide ((List.length a1 : Int) < (1 : Int))) || (decide ((List.length a1 : Int) > (12 : Int)))) = false := by simp only [Bool.or_eq_false_iff, decide_eq_false_iff_not]; omega
      rw [c2, decide_eq_true hn]
      have hck : ck ((a1.length : Int) ≠ 0) = some () := ck_ok (by omega)
      -- what stands at a place
      let val : Nat → Option Bool := fun i => do
        let a ← idx a1 (Int.tmod (w64 ((w64 ((i : Int) + (a1.length : Int))) - 1)) (a1.length : Int))
        let b ← a1[i]?
        let c ← idx a1 (Int.tmod (w64 ((i : Int) + 1)) (a1.length : Int))
        pure (r.testBit (csNum a b c))
      obtain ⟨out, ho, hlen, hval⟩ := forL_inv (body := cell_Step_b1 (r : Int) a1) (fin := fun x => x) (l := a1) (x := []) (fun n x => x.length = n ∧ ∀ j, j < n → x[j]? = val j) (fun x => x.length = a1.length ∧ ∀ j, j < a1.length → x[j]? = val j) ⟨rfl, fun j hj => by omega⟩
        (by
          rintro n b x hb ⟨hx, hv⟩
          have hnl := (List.getElem?_eq_some_iff.1 hb).1
          obtain ⟨a, c, ha, hc⟩ := cs_idx a1 a1.length rfl (by omega) n hnl
          have hck2 : ck (0 ≤ ((csNum a b c : Nat) : Int)) = some () := ck_ok (by omega)
          have hck3 : ck ((x.length : Int) + 1 ≤ 4294967296) = some () := ck_ok (by omega)
          have h8 : csNum a b c < 64 := by cases a <;> cases b <;> cases c <;> decide
          refine ⟨.next (x ++ [r.testBit (csNum a b c)]), ?_, ?_, ?_⟩
          · unfold cell_Step_b1
            rw [hck, ha, hc]
            simp only [Option.bind_some, cs_bit, cs_num, hck2, hck3, bit_shift (w := r) (i := csNum a b c) (by omega) h8]
          · simp [hx]
          · intro j hj
            rcases Nat.lt_or_ge j n with h1 | h1
            · rw [List.getElem?_append_left (by omega)]; exact hv j h1
            · have : j = n := by omega
              subst this
              rw [List.getElem?_append_right (by omega)]
              simp only [val, ha, hb, hc, hx]
              simp)
        (by rintro x ⟨hx, hv⟩; exact ⟨hx, hv⟩)
      have h2 : forL (law_CellSteps_b5 (r : Int) a1 (out, 0)) (fun x74 => (.brk ())) a1 0 () = some (.brk () : Esc Bool Unit) := by
        obtain ⟨y, hy, rfl⟩ := forL_inv (body := law_CellSteps_b5 (r : Int) a1 (out, 0)) (fin := fun _ => (.brk () : Esc Bool Unit)) (l := a1) (x := ()) (fun _ _ => True) (fun y => y = .brk ()) trivial
          (by
            rintro n b x hb _
            have hnl := (List.getElem?_eq_some_iff.1 hb).1
            obtain ⟨a, c, ha, hc⟩ := cs_idx a1 a1.length rfl (by omega) n hnl
            refine ⟨.next (), ?_, trivial⟩
            unfold law_CellSteps_b5
            have : idx out (n : Int) = some (r.testBit (csNum a b c)) := by
              rw [idx_nat, hval n hnl]
              simp only [val, ha, hb, hc]
              simp
            rw [this, hck, ha, hc]
            simp only [Option.bind_some, cs_truth hr]
            simp)
          (fun _ _ => rfl)
        exact hy
      simp [ho, h2, hlen]
    · have c2 : ((decide ((List.length a1 : Int) < (1 : Int))) || (decide ((List.length a1 : Int) > (12 : Int)))) = true := by simp only [Bool.or_eq_true, decide_eq_true_eq]; omega
      rw [c2, decide_eq_false hn]
      rfl
  · have c1 : ((decide (a0 < (0 : Int))) || (decide (a0 > (255 : Int)))) = true := by simp only [Bool.or_eq_true, decide_eq_true_eq]; omega
    rw [c1, decide_eq_false h]
    rfl

end Go.Proofs.Ytmongadolmofnaa.cellSteps
namespace Go.Proofs.Ytmongadolmofnaa.cellSteps
open Go.ChangeShapes Go.WideShapes Go.ChangeAt Go.RowKit
open Go.ChangeMaps (open_string shut_string)
theorem own : ownKnob Try.prog.godebug = none := by kernel_rfl
theorem laidOut : laidOutB Try.prog = true := by kernel_rfl
theorem lifted (os : Os) (started : os.Started) (H : Type) (enc : TypeId × Value → H) :
    ReturnsInHanded {} Try.checked os 12 .any (Rows.cellStepsSpec.pre6 enc Try.prog Try.f12 Rows.cellStepsRow.domain false) (Rows.cellStepsSpec.post enc Try.prog Try.f12 false true false false) := by
  refine returnsInHanded_of_change (C := Try.checked) own started (by kernel_rfl) Try.func12
    (ChangeSpec.witness6 (enc := enc) (C := Try.checked) false ⟨#[], #[.int .i64 0, .slice none 0 0], []⟩ 8 (by kernel_rfl) (by kernel_rfl) (by kernel_rfl) (by kernel_rfl)) ?_
  intro W base args ds gs before hval0 hW hcnd _
  have hval : ∀ (j : Nat) t v, Try.f12.params[j]? = some t → args[j]? = some v → Value.okWide Try.prog W .any base t v := hval0
  have hW' := hW
  obtain ⟨p, q, hA0, hV, rfl, hfz, hnd⟩ := hW
  have hA : DataW.TrodAll enc Try.prog W 0 (fun _ => true) true Try.f12.params.toList args.toList ds p := hA0
  rw [Try.params12] at hA hval
  obtain ⟨v0, vs0, d0, ds0, p0, q0, hargs, rfl, rfl, h0, r0⟩ := trodAll_cons hA
  obtain ⟨v1, vs1, d1, ds1, p1, q1, rfl, rfl, rfl, h1, r1⟩ := trodAll_cons r0
  obtain ⟨rfl, rfl, rfl⟩ := trodAll_nil r1
  obtain rfl : args = #[v0, v1] := by cases args; simp_all
  obtain ⟨rfl, rfl⟩ := trodVars_none hV
  obtain ⟨x0, f0, k0⟩ := Go.Sl.read_arg (u := (.int .i64)) (by kernel_rfl) (by kernel_rfl) (hval 0 3 v0 rfl rfl) h0
  have lt0 : ∀ x ∈ p0, x.block < W.heap.size := by obtain ⟨m, hm⟩ := h0; exact DataW.trod_lt m _ _ _ hm
  obtain ⟨x1, f1, k1⟩ := Go.Sl.read_arg (u := (.slice .bool)) (by kernel_rfl) (by kernel_rfl) (hval 1 55 v1 rfl rfl) h1
  have lt1 : ∀ x ∈ p1, x.block < W.heap.size := by obtain ⟨m, hm⟩ := h1; exact DataW.trod_lt m _ _ _ hm
  clear hA0 hval0
  have hm := CellSteps_true x0 x1 f0 f1
  refine (Go.Sl.law_of (vs := [v0, v1]) (law_CellSteps_ok hm) rfl (.cons (k0 _ _) (.cons (k1 _ _) .nil))).mono fun e W' ⟨he, bel⟩ => ?_
  subst he
  exact ⟨_, rfl, _, _, _, [], _, [], hW', trodAll_mk1 (shut_bool Try.underlying4 _), (trodAll_cons_mk (Below.trod laidOut (by kernel_rfl) (of_decide_eq_true (by kernel_rfl)) h0 bel lt0) (trodAll_cons_mk (Below.trod laidOut (by kernel_rfl) (of_decide_eq_true (by kernel_rfl)) h1 bel lt1) trodAll_mk0)), rfl, bel.frame _, fun h => by cases h⟩
theorem proved : Rows.CellStepsSaid :=
  OpenClaim.holds_of_wide 12 Try.f12 rfl rfl rfl rfl rfl rfl rfl ⟨rfl, rfl, rfl, rfl, rfl⟩ rfl rfl rfl rfl rfl (by kernel_rfl) Try.func12 (by kernel_rfl)
    (of_decide_eq_true (by kernel_rfl)) (by unfold Func.isWrapper; first | (rw [if_pos (by decide +kernel)]; kernel_rfl) | (rw [if_neg (by decide +kernel)]; exact ⟨rfl, rfl⟩))
    (fun os started H enc _ => lifted os started H enc)
#print axioms proved
end Go.Proofs.Ytmongadolmofnaa.cellSteps
