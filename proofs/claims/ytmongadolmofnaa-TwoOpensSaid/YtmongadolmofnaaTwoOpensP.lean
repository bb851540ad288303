/- For any number two.Open returns the specified results: TwoOpens returns true and changes nothing; no conditions. -/
import Derived.Test.YtmongadolmofnaaRows
import Derived.WalkKit
import Derived.ProofKit
import Derived.OpenShut
import Derived.ShutString
import Derived.ChangeOld
import Derived.Below
import Derived.Test.YtmongadolmofnaaTwoOpensM
set_option linter.all false
set_option maxRecDepth 100000
namespace Go.Proofs.Ytmongadolmofnaa.twoOpens
open Go Go.Sl

theorem within_eq (a b c : Int) : ref_Within a b c = some (decide (a ≤ b ∧ b ≤ c)) := by
  unfold ref_Within
  rw [Bool.decide_and]

theorem to_strip (p : Int) (hp : 2 ≤ p) (i : Int) (hi : 0 ≤ i) : ∀ (n : Nat) (cur : Int), cur.toNat < n → 1 ≤ cur → cur ≤ 9223372036854775807 →
    ∃ (k : Nat) (c : Int), cur = c * p ^ k ∧ 1 ≤ c ∧ c ≤ cur ∧ (2 : Int) ^ k ≤ cur ∧ (∀ fuel, k < fuel → iter (law_TwoOpens_b7 p) fuel cur = some c) ∧
      (∀ fuel (out : List Int) (v : Int), k < fuel → out[i.toNat]? = some v → 0 ≤ v → v + k ≤ 1000 → iter (two_Open_b7 i p) fuel (cur, out) = some (c, out.set i.toNat (v + k)))
  | 0, cur, hn, h1, h2 => by omega
  | n + 1, cur, hn, h1, h2 => by
    have hck : ck (p ≠ 0) = some () := ck_ok (by omega)
    have hm0 : 0 ≤ cur.tmod p := Int.tmod_nonneg _ (by omega)
    have hdm : cur.tdiv p * p + cur.tmod p = cur := Int.tdiv_mul_add_tmod _ _
    by_cases hz : cur.tmod p = 0
    · have hq : cur.tdiv p * p = cur := by omega
      have hd0 : 0 ≤ cur.tdiv p := Int.tdiv_nonneg (by omega) (by omega)
      have hd1 : 1 ≤ cur.tdiv p := by
        rcases Int.lt_or_le (cur.tdiv p) 1 with h | h
        · have : cur.tdiv p = 0 := by omega
          rw [this] at hq; omega
        · exact h
      have hd2 : cur.tdiv p * 2 ≤ cur := by
        have : cur.tdiv p * 2 ≤ cur.tdiv p * p := Int.mul_le_mul_of_nonneg_left hp hd0
        omega
      have ew : w64 (cur.tdiv p) = cur.tdiv p := w64_id (by omega) (by omega)
      have bT : (cur.tmod p == 0) = true := by simp [hz]
      obtain ⟨k, c, e, c1, c2, c3, f1, f2⟩ := to_strip p hp i hi n (cur.tdiv p) (by omega) hd1 (by omega)
      refine ⟨k + 1, c, ?_, c1, by omega, by rw [Int.pow_succ]; omega, ?_, ?_⟩
      · rw [Int.pow_succ, ← Int.mul_assoc, ← e, hq]
      · intro fuel hf
        obtain ⟨f, rfl⟩ : ∃ f, fuel = f + 1 := ⟨fuel - 1, by omega⟩
        have : law_TwoOpens_b7 p cur = some (.next (cur.tdiv p)) := by
          unfold law_TwoOpens_b7
          rw [hck, bT, ew]; rfl
        simp only [iter, this]
        exact f1 f (by omega)
      · intro fuel out v hf hv hv0 hk
        obtain ⟨f, rfl⟩ : ∃ f, fuel = f + 1 := ⟨fuel - 1, by omega⟩
        have hx : idx out i = some v := by unfold idx; rw [if_pos hi]; exact hv
        have ev : w64 (v + 1) = v + 1 := w64_id (by omega) (by omega)
        have : two_Open_b7 i p (cur, out) = some (.next (cur.tdiv p, out.set i.toNat (v + 1))) := by
          unfold two_Open_b7
          simp only [hck, bT, ew, hx, ev, Option.bind_some, cond_true]
        have hlt : i.toNat < out.length := (List.getElem?_eq_some_iff.1 hv).1
        simp only [iter, this]
        rw [f2 f _ (v + 1) (by omega) (by simp [hlt]) (by omega) (by omega), List.set_set]
        congr 3
        omega
    · have bF : (cur.tmod p == 0) = false := by simp [hz]
      refine ⟨0, cur, by simp, h1, by omega, by simpa using h1, ?_, ?_⟩
      · intro fuel hf
        obtain ⟨f, rfl⟩ : ∃ f, fuel = f + 1 := ⟨fuel - 1, by omega⟩
        have : law_TwoOpens_b7 p cur = some (.done cur) := by
          unfold law_TwoOpens_b7
          rw [hck, bF]; rfl
        simp only [iter, this]
      · intro fuel out v hf hv hv0 hk
        obtain ⟨f, rfl⟩ : ∃ f, fuel = f + 1 := ⟨fuel - 1, by omega⟩
        have : two_Open_b7 i p (cur, out) = some (.done (cur, out)) := by
          unfold two_Open_b7
          simp only [hck, bF, Option.bind_some, cond_false]
        have hlt : i.toNat < out.length := (List.getElem?_eq_some_iff.1 hv).1
        have hs : out.set i.toNat (v + (0 : Nat)) = out := by
          have : out[i.toNat] = v := (List.getElem?_eq_some_iff.1 hv).2
          rw [Int.natCast_zero, Int.add_zero, ← this, List.set_getElem_self]
        simp only [iter, this, hs]
theorem to_small {k : Nat} {c : Int} (h : (2 : Int) ^ k ≤ c) (hc : c ≤ 9223372036854775807) : k < 63 := by
  rcases Nat.lt_or_ge k 63 with h1 | h1
  · exact h1
  · have : (2 : Int) ^ 63 ≤ 2 ^ k := by
      have := Nat.pow_le_pow_right (n := 2) (by omega) h1
      have e : ∀ j, ((2 : Int) ^ j) = ((2 ^ j : Nat) : Int) := fun j => by simp
      rw [e, e]; omega
    omega
/-- one prime: what both loops do -/
theorem to_one (j : Nat) (p : Int) (hj : idx [(2 : Int), 3, 5, 7] (j : Int) = some p) (hp : 2 ≤ p) (cur : Int) (h1 : 1 ≤ cur) (h2 : cur ≤ 9223372036854775807) :
    ∃ (k : Nat) (c : Int), cur = c * p ^ k ∧ 1 ≤ c ∧ c ≤ cur ∧ k < 63 ∧ law_TwoOpens_b10 100 (j : Int) cur = some (.next c) ∧
      (∀ (out : List Int) (a : Int), out[j]? = some 0 → two_Open_b10 100 (j : Int) a (cur, out) = some (.next (c, out.set j (k : Int)))) ∧
      (∀ a : Int, 0 ≤ a → a * p ^ k ≤ 9223372036854775807 → ref_Packed_b10 (j : Int) (k : Int) a = some (.next (a * p ^ k))) := by
  obtain ⟨k, c, e, c1, c2, c3, f1, f2⟩ := to_strip p hp (j : Int) (by omega) (cur.toNat + 1) cur (by omega) h1 h2
  have hk := to_small c3 h2
  refine ⟨k, c, e, c1, c2, hk, ?_, ?_, ?_⟩
  · unfold law_TwoOpens_b10
    rw [hj]
    simp only [Option.bind_some, f1 100 (by omega)]
  · intro out a ho
    have := f2 100 out 0 (by omega) (by simpa using ho) (by omega) (by omega)
    unfold two_Open_b10 two_prime
    rw [hj]
    simp only [Option.bind_some, this]
    simp
  · intro a ha hb
    have hpow : ∀ m : Nat, 1 ≤ p ^ m := fun m => by
      have : 0 < p ^ m := Int.pow_pos (by omega)
      omega
    obtain ⟨y, hy, hy2⟩ := forI_inv (lo := 0) (hi := (k : Int)) (body := ref_Packed_b7 (j : Int)) (fin := fun x => x) (x := a) (fun m x => x = a * p ^ m.toNat ∧ 0 ≤ m ∧ m ≤ k) (fun y => y = a * p ^ k) (by omega) (by omega) ⟨by simp, by omega, by omega⟩
      (by
        rintro m x h0 hm ⟨rfl, _, _⟩
        have e1 : (m + 1).toNat = m.toNat + 1 := by omega
        have e2 : a * p ^ m.toNat * p = a * p ^ (m.toNat + 1) := by rw [Int.pow_succ, Int.mul_assoc]
        have b1 : a * p ^ (m.toNat + 1) ≤ a * p ^ k := by
          refine Int.mul_le_mul_of_nonneg_left ?_ ha
          have ek : p ^ k = p ^ (m.toNat + 1) * p ^ (k - (m.toNat + 1)) := by rw [← Int.pow_add]; congr 1; omega
          rw [ek]
          have := hpow (k - (m.toNat + 1))
          have h3 := hpow (m.toNat + 1)
          have := Int.mul_le_mul_of_nonneg_left this (show 0 ≤ p ^ (m.toNat + 1) by omega)
          omega
        have b0 : 0 ≤ a * p ^ (m.toNat + 1) := Int.mul_nonneg ha (by have := hpow (m.toNat + 1); omega)
        refine ⟨.next (a * p ^ (m.toNat + 1)), ?_, ?_⟩
        · unfold ref_Packed_b7
          rw [hj]
          simp only [Option.bind_some, e2]
          rw [w64_id (by omega) (by omega)]
        · exact ⟨by rw [e1], by omega, by omega⟩)
      (by
        rintro m x h0 hm hh ⟨rfl, _, _⟩
        have : m.toNat = k := by omega
        rw [this])
    subst hy2
    unfold ref_Packed_b10
    rw [hy]; rfl
theorem to_mulle {c d b : Int} (hc : 1 ≤ c) (hd : 0 ≤ d) (h : c * d ≤ b) : d ≤ b := by
  have := Int.mul_le_mul_of_nonneg_right hc hd
  omega
theorem TwoOpens_true (a0 a1 : Int) (f0 : Fits (.int .i64) a0) (f1 : Fits (.int .i64) a1) : ∃ fuel, law_TwoOpens fuel a0 a1 = some true := by
  refine ⟨100, ?_⟩
  have f1 := f1.i64
  unfold law_TwoOpens two_Open
  rw [within_eq]
  by_cases h : 1 ≤ a0 ∧ a0 ≤ 4
  · have c1 : ((decide (a0 < (1 : Int))) || (decide (a0 > (4 : Int)))) = false := by simp only [Bool.or_eq_false_iff, decide_eq_false_iff_not]; omega
    rw [c1, decide_eq_true h]
    by_cases h1 : a1 < 1
    · simp [h1]
    · rw [decide_eq_false h1]
      have hck : ck (0 ≤ a0 ∧ a0 = a0 ∧ a0 ≤ 4294967296) = some () := ck_ok (by omega)
      simp only [hck, cond_false, Option.bind_some, Bool.not_true]
      obtain ⟨k0, d0, e0, p0, q0, s0, u0, v0, w0⟩ := to_one 0 2 rfl (by omega) a1 (by omega) (by omega)
      obtain ⟨k1, d1, e1, p1, q1, s1, u1, v1, w1⟩ := to_one 1 3 rfl (by omega) d0 (by omega) (by omega)
      obtain ⟨k2, d2, e2, p2, q2, s2, u2, v2, w2⟩ := to_one 2 5 rfl (by omega) d1 (by omega) (by omega)
      obtain ⟨k3, d3, e3, p3, q3, s3, u3, v3, w3⟩ := to_one 3 7 rfl (by omega) d2 (by omega) (by omega)
      have pw : ∀ (b : Int) (m : Nat), 0 < b → 0 < b ^ m := fun b m h => Int.pow_pos h
      have z0 := pw 2 k0 (by omega)
      have z1 := pw 3 k1 (by omega)
      have z2 := pw 5 k2 (by omega)
      have z3 := pw 7 k3 (by omega)
      generalize hP0 : (2 : Int) ^ k0 = P0 at *
      generalize hP1 : (3 : Int) ^ k1 = P1 at *
      generalize hP2 : (5 : Int) ^ k2 = P2 at *
      generalize hP3 : (7 : Int) ^ k3 = P3 at *
      have g1 : a1 = d1 * (P0 * P1) := by rw [e0, e1]; rw [Int.mul_assoc, Int.mul_comm P1 P0]
      have g2 : a1 = d2 * (P0 * P1 * P2) := by rw [g1, e2, Int.mul_assoc, Int.mul_comm P2 (P0 * P1)]
      have g3 : a1 = d3 * (P0 * P1 * P2 * P3) := by rw [g2, e3, Int.mul_assoc, Int.mul_comm P3 (P0 * P1 * P2)]
      have y1 : 0 ≤ P0 * P1 := Int.mul_nonneg (by omega) (by omega)
      have y2 : 0 ≤ P0 * P1 * P2 := Int.mul_nonneg y1 (by omega)
      have y3 : 0 ≤ P0 * P1 * P2 * P3 := Int.mul_nonneg y2 (by omega)
      have b0 : P0 ≤ 9223372036854775807 := Int.le_trans (to_mulle p0 (by omega) (Int.le_of_eq e0.symm)) f1.2
      have b1 : P0 * P1 ≤ 9223372036854775807 := Int.le_trans (to_mulle p1 y1 (Int.le_of_eq g1.symm)) f1.2
      have b2 : P0 * P1 * P2 ≤ 9223372036854775807 := Int.le_trans (to_mulle p2 y2 (Int.le_of_eq g2.symm)) f1.2
      have b3 : P0 * P1 * P2 * P3 ≤ 9223372036854775807 := Int.le_trans (to_mulle p3 y3 (Int.le_of_eq g3.symm)) f1.2
      have w0' := w0 1 (by omega) (by omega)
      have w1' := w1 P0 (by omega) b1
      have w2' := w2 (P0 * P1) y1 b2
      have w3' := w3 (P0 * P1 * P2) y2 b3
      rw [Int.one_mul] at w0'
      have t0 : d0 = 1 → P0 = a1 := fun h => by rw [e0, h, Int.one_mul]
      have t1 : d1 = 1 → P0 * P1 = a1 := fun h => by rw [g1, h, Int.one_mul]
      have t2 : d2 = 1 → P0 * P1 * P2 = a1 := fun h => by rw [g2, h, Int.one_mul]
      have t3 : d3 = 1 → P0 * P1 * P2 * P3 = a1 := fun h => by rw [g3, h, Int.one_mul]
      clear e0 e1 e2 e3 g1 g2 g3
      simp only [Int.natCast_zero, Int.natCast_one, Int.cast_ofNat_Int] at u0 u1 u2 u3 v0 v1 v2 v3 w0' w1' w2' w3'
      have : a0 = 1 ∨ a0 = 2 ∨ a0 = 3 ∨ a0 = 4 := by omega
      rcases this with rfl | rfl | rfl | rfl
      · have r : ref_Packed [(k0 : Int)] = some P0 := by simp [ref_Packed, forL, w0']
        have x1 : forL (two_Open_b10 100) (fun x49 => (x49.1, x49.2)) (List.replicate (Int.toNat 1) (0 : Int)) 0 (a1, List.replicate (Int.toNat 1) (0 : Int)) = some (d0, [(k0 : Int)]) := by
          simp [forL, v0]
        have x2 : forI (0 : Int) 1 (law_TwoOpens_b10 100) (fun x35 => x35) a1 = some d0 := by
          simp [forI, loopI, u0]
        rw [x1, x2]
        by_cases hc : d0 = 1
        · have := t0 hc; simp [hc, r, this]
        · have : (d0 != 1) = true := by simp [hc]
          simp [this]
      · have r : ref_Packed [(k0 : Int), (k1 : Int)] = some (P0 * P1) := by simp [ref_Packed, forL, w0', w1']
        have x1 : forL (two_Open_b10 100) (fun x49 => (x49.1, x49.2)) (List.replicate (Int.toNat 2) (0 : Int)) 0 (a1, List.replicate (Int.toNat 2) (0 : Int)) = some (d1, [(k0 : Int), (k1 : Int)]) := by
          simp [forL, v0, v1]
        have x2 : forI (0 : Int) 2 (law_TwoOpens_b10 100) (fun x35 => x35) a1 = some d1 := by
          simp [forI, loopI, u0, u1]
        rw [x1, x2]
        by_cases hc : d1 = 1
        · have := t1 hc; simp [hc, r, this]
        · have : (d1 != 1) = true := by simp [hc]
          simp [this]
      · have r : ref_Packed [(k0 : Int), (k1 : Int), (k2 : Int)] = some (P0 * P1 * P2) := by simp [ref_Packed, forL, w0', w1', w2']
        have x1 : forL (two_Open_b10 100) (fun x49 => (x49.1, x49.2)) (List.replicate (Int.toNat 3) (0 : Int)) 0 (a1, List.replicate (Int.toNat 3) (0 : Int)) = some (d2, [(k0 : Int), (k1 : Int), (k2 : Int)]) := by
          simp [forL, v0, v1, v2]
        have x2 : forI (0 : Int) 3 (law_TwoOpens_b10 100) (fun x35 => x35) a1 = some d2 := by
          simp [forI, loopI, u0, u1, u2]
        rw [x1, x2]
        by_cases hc : d2 = 1
        · have := t2 hc; simp [hc, r, this]
        · have : (d2 != 1) = true := by simp [hc]
          simp [this]
      · have r : ref_Packed [(k0 : Int), (k1 : Int), (k2 : Int), (k3 : Int)] = some (P0 * P1 * P2 * P3) := by simp [ref_Packed, forL, w0', w1', w2', w3']
        have x1 : forL (two_Open_b10 100) (fun x49 => (x49.1, x49.2)) (List.replicate (Int.toNat 4) (0 : Int)) 0 (a1, List.replicate (Int.toNat 4) (0 : Int)) = some (d3, [(k0 : Int), (k1 : Int), (k2 : Int), (k3 : Int)]) := by
          simp [forL, v0, v1, v2, v3]
        have x2 : forI (0 : Int) 4 (law_TwoOpens_b10 100) (fun x35 => x35) a1 = some d3 := by
          simp [forI, loopI, u0, u1, u2, u3]
        rw [x1, x2]
        by_cases hc : d3 = 1
        · have := t3 hc; simp [hc, r, this]
        · have : (d3 != 1) = true := by simp [hc]
          simp [this]
  · have c1 : ((decide (a0 < (1 : Int))) || (decide (a0 > (4 : Int)))) = true := by simp only [Bool.or_eq_true, decide_eq_true_eq]; omega
    rw [c1, decide_eq_false h]; rfl

end Go.Proofs.Ytmongadolmofnaa.twoOpens
namespace Go.Proofs.Ytmongadolmofnaa.twoOpens
open Go.ChangeShapes Go.WideShapes Go.ChangeAt Go.RowKit
open Go.ChangeMaps (open_string shut_string)
theorem own : ownKnob Try.prog.godebug = none := by kernel_rfl
theorem laidOut : laidOutB Try.prog = true := by kernel_rfl
theorem lifted (os : Os) (started : os.Started) (H : Type) (enc : TypeId × Value → H) :
    ReturnsInHanded {} Try.checked os 8 .any (Rows.twoOpensSpec.pre6 enc Try.prog Try.f8 Rows.twoOpensRow.domain false) (Rows.twoOpensSpec.post enc Try.prog Try.f8 false true false false) := by
  refine returnsInHanded_of_change (C := Try.checked) own started (by kernel_rfl) Try.func8
    (ChangeSpec.witness6 (enc := enc) (C := Try.checked) false ⟨#[], #[.int .i64 0, .int .i64 0], []⟩ 8 (by kernel_rfl) (by kernel_rfl) (by kernel_rfl) (by kernel_rfl)) ?_
  intro W base args ds gs before hval0 hW hcnd _
  have hval : ∀ (j : Nat) t v, Try.f8.params[j]? = some t → args[j]? = some v → Value.okWide Try.prog W .any base t v := hval0
  have hW' := hW
  obtain ⟨p, q, hA0, hV, rfl, hfz, hnd⟩ := hW
  have hA : DataW.TrodAll enc Try.prog W 0 (fun _ => true) true Try.f8.params.toList args.toList ds p := hA0
  rw [Try.params8] at hA hval
  obtain ⟨v0, vs0, d0, ds0, p0, q0, hargs, rfl, rfl, h0, r0⟩ := trodAll_cons hA
  obtain ⟨v1, vs1, d1, ds1, p1, q1, rfl, rfl, rfl, h1, r1⟩ := trodAll_cons r0
  obtain ⟨rfl, rfl, rfl⟩ := trodAll_nil r1
  obtain rfl : args = #[v0, v1] := by cases args; simp_all
  obtain ⟨rfl, rfl⟩ := trodVars_none hV
  obtain ⟨x0, f0, k0⟩ := Go.Sl.read_arg (u := (.int .i64)) (by kernel_rfl) (by kernel_rfl) (hval 0 3 v0 rfl rfl) h0
  have lt0 : ∀ x ∈ p0, x.block < W.heap.size := by obtain ⟨m, hm⟩ := h0; exact DataW.trod_lt m _ _ _ hm
  obtain ⟨x1, f1, k1⟩ := Go.Sl.read_arg (u := (.int .i64)) (by kernel_rfl) (by kernel_rfl) (hval 1 2 v1 rfl rfl) h1
  have lt1 : ∀ x ∈ p1, x.block < W.heap.size := by obtain ⟨m, hm⟩ := h1; exact DataW.trod_lt m _ _ _ hm
  clear hA0 hval0
  obtain ⟨fuel, hm⟩ := TwoOpens_true x0 x1 f0 f1
  refine (Go.Sl.law_of (vs := [v0, v1]) (law_TwoOpens_ok hm) rfl (.cons (k0 _ _) (.cons (k1 _ _) .nil))).mono fun e W' ⟨he, bel⟩ => ?_
  subst he
  exact ⟨_, rfl, _, _, _, [], _, [], hW', trodAll_mk1 (shut_bool Try.underlying4 _), (trodAll_cons_mk (Below.trod laidOut (by kernel_rfl) (of_decide_eq_true (by kernel_rfl)) h0 bel lt0) (trodAll_cons_mk (Below.trod laidOut (by kernel_rfl) (of_decide_eq_true (by kernel_rfl)) h1 bel lt1) trodAll_mk0)), rfl, bel.frame _, fun h => by cases h⟩
theorem proved : Rows.TwoOpensSaid :=
  OpenClaim.holds_of_wide 8 Try.f8 rfl rfl rfl rfl rfl rfl rfl ⟨rfl, rfl, rfl, rfl, rfl⟩ rfl rfl rfl rfl rfl (by kernel_rfl) Try.func8 (by kernel_rfl)
    (of_decide_eq_true (by kernel_rfl)) (by unfold Func.isWrapper; first | (rw [if_pos (by decide +kernel)]; kernel_rfl) | (rw [if_neg (by decide +kernel)]; exact ⟨rfl, rfl⟩))
    (fun os started H enc _ => lifted os started H enc)
#print axioms proved
end Go.Proofs.Ytmongadolmofnaa.twoOpens
