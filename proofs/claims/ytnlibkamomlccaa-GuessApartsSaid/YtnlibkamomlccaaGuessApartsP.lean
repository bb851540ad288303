/- For any table guess.Apart returns the specified results: GuessAparts returns true and changes nothing; no conditions. -/
import Derived.Test.YtnlibkamomlccaaRows
import Derived.WalkKit
import Derived.ProofKit
import Derived.OpenShut
import Derived.ShutString
import Derived.ChangeOld
import Derived.Below
import Derived.Test.YtnlibkamomlccaaGuessApartsM
set_option linter.all false
set_option maxRecDepth 100000
namespace Go.Proofs.Ytnlibkamomlccaa.guessAparts
open Go Go.Sl

theorem within_eq (a b c : Int) : ref_Within a b c = some (decide (a ≤ b ∧ b ≤ c)) := by
  unfold ref_Within
  rw [Bool.decide_and]

theorem inside1 (n v : Int) : ref_Inside n [v] = some (decide (0 ≤ v ∧ v < n)) := by
  unfold ref_Inside
  rw [forL_ex (p := fun v => decide (v < 0) || decide (v ≥ n)) (y := Esc.ret false) (fun i a _ => by unfold ref_Inside_b1; cases (decide (a < 0) || decide (a ≥ n)) <;> rfl)]
  by_cases h : 0 ≤ v ∧ v < n
  · have : (decide (v < 0) || decide (v ≥ n)) = false := by simp only [Bool.or_eq_false_iff, decide_eq_false_iff_not]; omega
    simp [this, h]
  · have : (decide (v < 0) || decide (v ≥ n)) = true := by simp only [Bool.or_eq_true, decide_eq_true_eq]; omega
    simp [this, h]

def tbc (a0 : Int) (f : List Bool) (x : Int) : Int :=
  if ¬ (0 ≤ a0 ∧ a0 ≤ 4) then 1 else if f.length ≠ 2 ^ a0.toNat then 3 else if ¬ (0 ≤ x ∧ x < f.length) then 4 else 0
theorem tb_shl {k : Nat} (h : k ≤ 4) : bShl .i64 1 (k : Int) = ((2 ^ k : Nat) : Int) := bShl_one (by omega)
theorem tb_len {f : List Bool} {k : Nat} (h : k ≤ 4) : ((f.length : Int) != bShl .i64 1 (k : Int)) = !decide (f.length = 2 ^ k) := by
  rw [tb_shl h, bne_dec, not_dec]
  exact decide_eq_decide.2 (by omega)
theorem tb_ref (a0 : Int) (f : List Bool) (x : Int) : ref_TableCheck a0 f x = some (tbc a0 f x) := by
  unfold ref_TableCheck tbc
  rw [within_eq, inside1]
  by_cases h : 0 ≤ a0 ∧ a0 ≤ 4
  · obtain ⟨k, rfl⟩ := Int.eq_ofNat_of_zero_le h.1
    rw [wrap_u64 (n := (k : Int)) (by omega) (by omega), ck_ok (by omega), tb_len (by omega), decide_eq_true h, if_neg (by omega), Int.toNat_natCast]
    by_cases hl : f.length = 2 ^ k
    · by_cases hx : 0 ≤ x ∧ x < (f.length : Int)
      · rw [if_neg (by omega), if_neg (by omega), decide_eq_true hl, decide_eq_true hx]; rfl
      · rw [if_neg (by omega), if_pos hx]; rw [decide_eq_false hx, decide_eq_true hl]; rfl
    · rw [if_pos hl, decide_eq_false hl]; rfl
  · rw [if_pos h, decide_eq_false h]; rfl
theorem tb_valid {a0 : Int} {f : List Bool} {x : Int} (h : tbc a0 f x = 0) : ∃ k : Nat, k ≤ 4 ∧ a0 = (k : Int) ∧ f.length = 2 ^ k ∧ 0 ≤ x ∧ x < (f.length : Int) := by
  unfold tbc at h
  split at h
  · omega
  · split at h
    · omega
    · split at h
      · omega
      · rename_i h1 h2 h3
        refine ⟨a0.toNat, by omega, by omega, by omega, by omega, by omega⟩
theorem tb_16 {k n : Nat} (h : k ≤ 4) (hn : n < 2 ^ k) : n < 16 := Nat.lt_of_lt_of_le hn (Nat.pow_le_pow_right (by omega) h)

theorem tb_guess (a0 : Int) (f : List Bool) : guess_table a0 f = some (tbc a0 f 0) := by
  unfold guess_table tbc
  by_cases h : 0 ≤ a0 ∧ a0 ≤ 4
  · have c : ((decide (a0 < (0 : Int))) || (decide (a0 > (4 : Int)))) = false := by simp only [Bool.or_eq_false_iff, decide_eq_false_iff_not]; omega
    obtain ⟨k, rfl⟩ := Int.eq_ofNat_of_zero_le h.1
    have hp : 0 < 2 ^ k := Nat.pow_pos (by omega)
    rw [c, ck_ok (by omega), tb_len (by omega), if_neg (by omega), Int.toNat_natCast]
    by_cases hl : f.length = 2 ^ k
    · rw [if_neg (by omega), decide_eq_true hl, if_neg (by omega)]; rfl
    · rw [if_pos hl, decide_eq_false hl]; rfl
  · have c : ((decide (a0 < (0 : Int))) || (decide (a0 > (4 : Int)))) = true := by simp only [Bool.or_eq_true, decide_eq_true_eq]; omega
    rw [c, if_pos h]; rfl

theorem bit_eq {w i : Nat} (hw : w < 2 ^ 63) (hi : i < 63) : ref_Bit (w : Int) (i : Int) = some (w.testBit i) := by
  unfold ref_Bit
  have c : (decide ((i : Int) ≥ 0) && decide ((i : Int) < 63)) = true := by simp; omega
  have e : IntKind.wrap .u64 (i : Int) = (i : Int) := wrap_u64 (by omega) (by omega)
  rw [c, e, ck_ok (by omega)]
  simp only [cond_true, Option.bind_some, bit_mask hw hi]

theorem size_eq {w : Nat} (hw : w < 2 ^ 63) : ref_Size (w : Int) = some ((pc w : Nat) : Int) := by
  unfold ref_Size
  have := forI_count (body := ref_Size_b4 (w : Int)) (fin := fun x => x) (p := w.testBit) (n := 63) (by omega) (by
    intro j x hj
    unfold ref_Size_b4
    rw [bit_eq hw hj]
    cases w.testBit j <;> rfl)
  simp only [Int.cast_ofNat_Int] at this
  rw [this]; rfl

theorem ones_eq : ∀ w : Nat, w < 64 → math_bits_OnesCount (w : Int) = some ((pc w : Nat) : Int) := by
  decide +kernel

theorem ga_and : ∀ s : Nat, s < 16 → ∀ w : Nat, w < 16 → w &&& s < 64 ∧ s &&& w = w &&& s := by
  decide +kernel
theorem GuessAparts_true (a0 : Int) (a1 : List Bool) (f0 : Fits (.int .i64) a0) (f1 : Fits (.slice .bool) a1) : law_GuessAparts a0 a1 = some true := by
  unfold law_GuessAparts guess_Apart
  rw [tb_ref, tb_guess]
  simp only [Option.bind_some]
  by_cases hz : tbc a0 a1 0 = 0
  · obtain ⟨k, hk, rfl, hl, _, _⟩ := tb_valid hz
    have h16 : 2 ^ k ≤ 16 := Nat.pow_le_pow_right (n := 2) (by omega) hk
    rw [hz]
    obtain ⟨y, h1, h2, _⟩ := forL_eq (body := guess_Apart_b117 a1) (body' := law_GuessAparts_b81 a1) (fin := fun x => (x.1, x.2)) (l := a1) (x := (w64 ((a1.length : Int) + 1), 0)) (fun _ _ => True) (fun _ => True) trivial
      (by
        intro s b x hs _
        have hsl := (List.getElem?_eq_some_iff.1 hs).1
        have key : ∀ (w : Nat) (c : Bool) (z : Int), a1[w]? = some c → guess_Apart_b112 (s : Int) (w : Int) c z = some (.next (bif !(c == ((pc (w &&& s)) % 2 == 1)) then w64 (z + 1) else z)) ∧ law_GuessAparts_b76 (s : Int) (w : Int) c z = some (.next (bif !(c == ((pc (w &&& s)) % 2 == 1)) then w64 (z + 1) else z)) := by
          intro w c z hw
          have hwl := (List.getElem?_eq_some_iff.1 hw).1
          obtain ⟨b1, b2⟩ := ga_and s (by omega) w (by omega)
          have hm : (Int.tmod ((pc (w &&& s) : Nat) : Int) 2 == 1) = ((pc (w &&& s)) % 2 == 1) := by
            rw [show (2 : Int) = ((2 : Nat) : Int) from rfl, ← Int.ofNat_tmod, beq_dec, beq_dec]; exact decide_eq_decide.2 (by omega)
          constructor
          · unfold guess_Apart_b112 guess_Apart_g110
            rw [bAnd_nat (by omega) (by omega), wrap_u64 (by omega) (by omega), ones_eq _ b1]
            simp only [Option.bind_some, hm]
            cases (c == ((pc (w &&& s)) % 2 == 1)) <;> rfl
          · unfold law_GuessAparts_b76 ref_Odd
            rw [bAnd_nat (by omega) (by omega), b2, size_eq (by omega)]
            simp only [Option.bind_some, hm]
            cases (c == ((pc (w &&& s)) % 2 == 1)) <;> rfl
        obtain ⟨z, z1, z2, _⟩ := forL_eq (body := guess_Apart_b112 (s : Int)) (body' := law_GuessAparts_b76 (s : Int)) (fin := fun x => x) (l := a1) (x := 0) (fun _ _ => True) (fun _ => True) trivial
          (fun w c z hw _ => ⟨_, (key w c z hw).1, (key w c z hw).2, trivial⟩) (fun _ _ => trivial)
        refine ⟨.next (bif decide (z < x.1) then (z, (s : Int)) else x), ?_, ?_, trivial⟩
        · unfold guess_Apart_b117 guess_Apart_g115
          rw [z1]
          simp only [Option.bind_some]
          cases decide (z < x.1) <;> rfl
        · unfold law_GuessAparts_b81 law_GuessAparts_g79
          rw [z2]
          simp only [Option.bind_some]
          cases decide (z < x.1) <;> rfl)
      (fun _ _ => trivial)
    simp [h1, h2]
  · have e0 : (tbc a0 a1 0 != 0) = true := by simp [hz]
    simp [e0]

end Go.Proofs.Ytnlibkamomlccaa.guessAparts
namespace Go.Proofs.Ytnlibkamomlccaa.guessAparts
open Go.ChangeShapes Go.WideShapes Go.ChangeAt Go.RowKit
open Go.ChangeMaps (open_string shut_string)
theorem own : ownKnob Try.prog.godebug = none := by kernel_rfl
theorem laidOut : laidOutB Try.prog = true := by kernel_rfl
theorem lifted (os : Os) (started : os.Started) (H : Type) (enc : TypeId × Value → H) :
    ReturnsInHanded {} Try.checked os 12 .any (Rows.guessApartsSpec.pre6 enc Try.prog Try.f12 Rows.guessApartsRow.domain false) (Rows.guessApartsSpec.post enc Try.prog Try.f12 false true false false) := by
  refine returnsInHanded_of_change (C := Try.checked) own started (by kernel_rfl) Try.func12
    (ChangeSpec.witness6 (enc := enc) (C := Try.checked) false ⟨#[], #[.int .i64 0, .slice none 0 0], []⟩ 8 (by kernel_rfl) (by kernel_rfl) (by kernel_rfl) (by kernel_rfl)) ?_
  intro W base args ds gs before hval0 hW hcnd _
  have hval : ∀ (j : Nat) t v, Try.f12.params[j]? = some t → args[j]? = some v → Value.okWide Try.prog W .any base t v := hval0
  have hW' := hW
  obtain ⟨p, q, hA0, hV, rfl, hfz, hnd⟩ := hW
  have hA : DataW.TrodAll enc Try.prog W 0 (fun _ => true) true Try.f12.params.toList args.toList ds p := hA0
  rw [Try.params12] at hA hval
  obtain ⟨v0, vs0, d0, ds0, p0, q0, hargs, rfl, rfl, h0, r0⟩ := trodAll_cons hA
  obtain ⟨v1, vs1, d1, ds1, p1, q1, rfl, rfl, rfl, h1, r1⟩ := trodAll_cons r0
  obtain ⟨rfl, rfl, rfl⟩ := trodAll_nil r1
  obtain rfl : args = #[v0, v1] := by cases args; simp_all
  obtain ⟨rfl, rfl⟩ := trodVars_none hV
  obtain ⟨x0, f0, k0⟩ := Go.Sl.read_arg (u := (.int .i64)) (by kernel_rfl) (by kernel_rfl) (hval 0 3 v0 rfl rfl) h0
  have lt0 : ∀ x ∈ p0, x.block < W.heap.size := by obtain ⟨m, hm⟩ := h0; exact DataW.trod_lt m _ _ _ hm
  obtain ⟨x1, f1, k1⟩ := Go.Sl.read_arg (u := (.slice .bool)) (by kernel_rfl) (by kernel_rfl) (hval 1 30 v1 rfl rfl) h1
  have lt1 : ∀ x ∈ p1, x.block < W.heap.size := by obtain ⟨m, hm⟩ := h1; exact DataW.trod_lt m _ _ _ hm
  clear hA0 hval0
  have hm := GuessAparts_true x0 x1 f0 f1
  refine (Go.Sl.law_of (vs := [v0, v1]) (law_GuessAparts_ok hm) rfl (.cons (k0 _ _) (.cons (k1 _ _) .nil))).mono fun e W' ⟨he, bel⟩ => ?_
  subst he
  exact ⟨_, rfl, _, _, _, [], _, [], hW', trodAll_mk1 (shut_bool Try.underlying4 _), (trodAll_cons_mk (Below.trod laidOut (by kernel_rfl) (of_decide_eq_true (by kernel_rfl)) h0 bel lt0) (trodAll_cons_mk (Below.trod laidOut (by kernel_rfl) (of_decide_eq_true (by kernel_rfl)) h1 bel lt1) trodAll_mk0)), rfl, bel.frame _, fun h => by cases h⟩
theorem proved : Rows.GuessApartsSaid :=
  OpenClaim.holds_of_wide 12 Try.f12 rfl rfl rfl rfl rfl rfl rfl ⟨rfl, rfl, rfl, rfl, rfl⟩ rfl rfl rfl rfl rfl (by kernel_rfl) Try.func12 (by kernel_rfl)
    (of_decide_eq_true (by kernel_rfl)) (by unfold Func.isWrapper; first | (rw [if_pos (by decide +kernel)]; kernel_rfl) | (rw [if_neg (by decide +kernel)]; exact ⟨rfl, rfl⟩))
    (fun os started H enc _ => lifted os started H enc)
#print axioms proved
end Go.Proofs.Ytnlibkamomlccaa.guessAparts
