/- For any list pair.Find returns two numbers that tell the list, or the specified error code: PairFinds returns true and changes nothing; no conditions. -/
import Derived.Test.YtmongadolmofnaaRows
import Derived.WalkKit
import Derived.ProofKit
import Derived.OpenShut
import Derived.ShutString
import Derived.ChangeOld
import Derived.Below
import Derived.Test.YtmongadolmofnaaPairFindsM
set_option linter.all false
set_option maxRecDepth 100000
namespace Go.Proofs.Ytmongadolmofnaa.pairFinds
open Go Go.Sl

theorem within_eq (a b c : Int) : ref_Within a b c = some (decide (a ≤ b ∧ b ≤ c)) := by
  unfold ref_Within
  rw [Bool.decide_and]

def pfm (n : Nat) : Nat := 25 + 24 * n
def pfp : Nat → Nat
  | 0 => 1
  | n + 1 => pfp n * pfm n
theorem pf_inv (n : Nat) (hn : n < 5) : ∃ v, pfp n * v % pfm n = 1 := by
  have : n = 0 ∨ n = 1 ∨ n = 2 ∨ n = 3 ∨ n = 4 := by omega
  rcases this with rfl | rfl | rfl | rfl | rfl
  · exact ⟨1, by decide⟩
  · exact ⟨2, by decide⟩
  · exact ⟨41, by decide⟩
  · exact ⟨43, by decide⟩
  · exact ⟨21, by decide⟩
theorem pf_dvd : ∀ n j : Nat, j < n → pfm j ∣ pfp n
  | 0, j, h => by omega
  | n + 1, j, h => by
    rcases Nat.lt_or_ge j n with h1 | h1
    · exact Nat.dvd_trans (pf_dvd n j h1) (Nat.dvd_mul_right _ _)
    · have : j = n := by omega
      subst this
      exact Nat.dvd_mul_left _ _
theorem pf_pos (n : Nat) (hn : n ≤ 5) : 0 < pfp n ∧ pfp n ≤ 1049581225 := by
  have : n = 0 ∨ n = 1 ∨ n = 2 ∨ n = 3 ∨ n = 4 ∨ n = 5 := by omega
  rcases this with rfl | rfl | rfl | rfl | rfl | rfl <;> decide
theorem pf_mod (n : Nat) (hn : n < 5) : w64 (1 + w64 (w64 ((n : Int) + 1) * 24)) = ((pfm n : Nat) : Int) := by
  have e1 : w64 ((n : Int) + 1) = (n : Int) + 1 := w64_id (by omega) (by omega)
  have e2 : w64 (((n : Int) + 1) * 24) = ((n : Int) + 1) * 24 := w64_id (by omega) (by omega)
  rw [e1, e2, w64_id (by omega) (by omega)]
  unfold pfm
  omega
theorem pf_mod2 (n : Nat) (hn : n < 5) : w64 (1 + w64 (24 * w64 ((n : Int) + 1))) = ((pfm n : Nat) : Int) := by
  rw [Int.mul_comm]; exact pf_mod n hn
/-- the next number, found by going on -/
theorem pf_step (n : Nat) (hn : n < 5) (a x : Nat) (ha : a < pfp n) (hx : x ≤ 20) :
    ∃ b : Nat, iter (pair_Find_b11 (n : Int) ((a : Int), ((pfp n : Nat) : Int)) (x : Int)) 2000000000 (a : Int) = some (b : Int) ∧ b % pfm n = x ∧ ∃ t, t < pfm n ∧ b = a + pfp n * t := by
  obtain ⟨v, hv⟩ := pf_inv n hn
  have hp := pf_pos n (by omega)
  have hm : 25 ≤ pfm n ∧ pfm n ≤ 121 := by unfold pfm; omega
  -- how often it goes on at most
  obtain ⟨T, hT, hT2⟩ : ∃ T, T < pfm n ∧ (a + pfp n * T) % pfm n = x := by
    refine ⟨(v * (x + pfm n * a - a)) % pfm n, Nat.mod_lt _ (by omega), ?_⟩
    have e1 : (pfp n * ((v * (x + pfm n * a - a)) % pfm n)) % pfm n = (x + pfm n * a - a) % pfm n := by
      rw [Nat.mul_mod_mod, ← Nat.mul_assoc, Nat.mul_mod, hv, Nat.one_mul, Nat.mod_mod]
    have h1 : a ≤ pfm n * a := Nat.le_mul_of_pos_left a (by omega)
    rw [Nat.add_mod, e1, ← Nat.add_mod]
    have : a + (x + pfm n * a - a) = x + pfm n * a := by omega
    rw [this, Nat.add_mul_mod_self_left]
    exact Nat.mod_eq_of_lt (by omega)
  have hb : pfp n * T ≤ pfp n * pfm n := Nat.mul_le_mul_left _ (by omega)
  have hp5 : pfp n * pfm n ≤ 1049581225 := (pf_pos (n + 1) (by omega)).2
  obtain ⟨y, hy, b, t, rfl, h1, h2, h3⟩ := iter_inv (f := pair_Find_b11 (n : Int) ((a : Int), ((pfp n : Nat) : Int)) (x : Int)) (fun y => ∃ s, s ≤ T ∧ y = ((a + pfp n * s : Nat) : Int)) (fun y => ((a + pfp n * T : Nat) : Int).toNat - y.toNat) (fun y => ∃ b t : Nat, y = (b : Int) ∧ b % pfm n = x ∧ t < pfm n ∧ b = a + pfp n * t)
    (by
      rintro _ ⟨s, hs, rfl⟩
      have hps : pfp n * s ≤ pfp n * T := Nat.mul_le_mul_left _ hs
      unfold pair_Find_b11
      rw [pf_mod n hn, ck_ok (by omega), ← Int.ofNat_tmod]
      simp only [Option.bind_some]
      by_cases hc : (a + pfp n * s) % pfm n = x
      · have : ((((a + pfp n * s) % pfm n : Nat) : Int) != (x : Int)) = false := by simp [hc]
        rw [this]
        exact ⟨_, rfl, _, s, rfl, hc, by omega, rfl⟩
      · have : ((((a + pfp n * s) % pfm n : Nat) : Int) != (x : Int)) = true := by rw [bne_dec]; exact decide_eq_true (by omega)
        rw [this]
        have hsT : s < T := by
          rcases Nat.lt_or_ge s T with h | h
          · exact h
          · have : s = T := by omega
            subst this; exact (hc hT2).elim
        have hps2 : pfp n * (s + 1) ≤ pfp n * T := Nat.mul_le_mul_left _ hsT
        rw [Nat.mul_succ] at hps2
        have ew : w64 (((a + pfp n * s : Nat) : Int) + ((pfp n : Nat) : Int)) = ((a + pfp n * (s + 1) : Nat) : Int) := by
          rw [Nat.mul_succ, w64_id (by omega) (by omega)]; omega
        simp only [cond_true, ew]
        refine ⟨_, rfl, ⟨s + 1, by omega, rfl⟩, ?_⟩
        rw [Nat.mul_succ]
        omega) 2000000000 (a : Int) (by omega) ⟨0, by omega, by simp⟩
  exact ⟨b, hy, h1, t, h2, h3⟩
def pfBad (v : Int) : Bool := decide (v < 0) || decide (v > 20)
theorem pf_law14 (x v : Int) : law_PairFinds_g14 x v = some (if x = 0 ∧ pfBad v = true then 4 else x) := by
  unfold law_PairFinds_g14 pfBad
  rw [within_eq]
  by_cases hx : x = 0
  · subst hx
    by_cases hv : 0 ≤ v ∧ v ≤ 20
    · have : ¬ (v < 0 ∨ v > 20) := by omega
      simp [hv, this]
    · have : v < 0 ∨ v > 20 := by omega
      simp [hv, this]
  · simp [hx, beq_dec]
theorem pf_stay (l : List Int) : ∀ (i x : Int), x ≠ 0 → forL law_PairFinds_b16 (fun x => x) l i x = some x := by
  induction l with
  | nil => intro i x _; rfl
  | cons v l ih =>
    intro i x hx
    have : law_PairFinds_b16 i v x = some (.next x) := by unfold law_PairFinds_b16; rw [pf_law14]; simp [hx]
    simp only [forL, this]
    exact ih _ x hx
theorem pf_check (l : List Int) : ∀ (i : Int), forL law_PairFinds_b16 (fun x => x) l i 0 = some (if l.any pfBad then 4 else 0) := by
  induction l with
  | nil => intro i; rfl
  | cons v l ih =>
    intro i
    by_cases hv : pfBad v = true
    · have : law_PairFinds_b16 i v 0 = some (.next 4) := by unfold law_PairFinds_b16; rw [pf_law14]; simp [hv]
      simp only [forL, this]
      rw [pf_stay l _ 4 (by omega)]
      simp [hv]
    · have : law_PairFinds_b16 i v 0 = some (.next 0) := by unfold law_PairFinds_b16; rw [pf_law14]; simp [hv]
      simp only [forL, this]
      rw [ih]
      simp [hv]
theorem PairFinds_true (a0 : List Int) (f0 : Fits (.slice (.int .i64)) a0) : ∃ fuel, law_PairFinds fuel a0 = some true := by
  refine ⟨2000000000, ?_⟩
  unfold law_PairFinds pair_Find
  have hchk : forL pair_Find_b1 (fun x13 => (.brk () : Esc (Int × Int × Int) Unit)) a0 0 () = some (bif a0.any pfBad then .ret (0, 0, 4) else .brk ()) := by
    refine forL_ex (fun i a _ => ?_)
    unfold pair_Find_b1 pfBad
    cases (decide (a < 0) || decide (a > 20)) <;> rfl
  by_cases hl : (a0.length : Int) > 5
  · rw [decide_eq_true hl]
    simp [pf_stay]
  · rw [decide_eq_false hl, hchk]
    by_cases hb : a0.any pfBad = true
    · have := pf_check a0 0
      rw [hb] at this
      simp [this, hb]
    · have hb' : a0.any pfBad = false := by simpa using hb
      have h0 := pf_check a0 0
      rw [hb'] at h0
      have hin : ∀ x ∈ a0, 0 ≤ x ∧ x ≤ 20 := by
        intro x hx
        have := (List.any_eq_false.1 hb') x hx
        unfold pfBad at this
        simp only [Bool.or_eq_true, decide_eq_true_eq] at this
        omega
      obtain ⟨y, hy, A, rfl, hA1, hA2⟩ := forL_inv (body := pair_Find_b14 2000000000) (fin := fun x57 => x57.1) (l := a0) (x := ((0 : Int), (1 : Int))) (fun n x => ∃ a : Nat, x = ((a : Int), ((pfp n : Nat) : Int)) ∧ a < pfp n ∧ ∀ j v, j < n → a0[j]? = some v → ((a % pfm j : Nat) : Int) = v) (fun y => ∃ a : Nat, y = (a : Int) ∧ a ≤ 1049581225 ∧ ∀ j v, a0[j]? = some v → ((a % pfm j : Nat) : Int) = v)
        ⟨0, rfl, by decide, fun j v hj => by omega⟩
        (by
          rintro n v _ hv ⟨a, rfl, ha, hmod⟩
          have hn := (List.getElem?_eq_some_iff.1 hv).1
          have hvb := hin v (List.mem_of_getElem? hv)
          obtain ⟨x, rfl⟩ := Int.eq_ofNat_of_zero_le hvb.1
          obtain ⟨b, hb, hb2, t, ht, rfl⟩ := pf_step n (by omega) a x ha (by omega)
          have hp5 := pf_pos (n + 1) (by omega)
          have hlt : a + pfp n * t < pfp (n + 1) := by
            show a + pfp n * t < pfp n * pfm n
            have : pfp n * (t + 1) ≤ pfp n * pfm n := Nat.mul_le_mul_left _ ht
            rw [Nat.mul_succ] at this
            omega
          have ew : w64 (((pfp n : Nat) : Int) * ((pfm n : Nat) : Int)) = ((pfp (n + 1) : Nat) : Int) := by
            have : ((pfp n : Nat) : Int) * ((pfm n : Nat) : Int) = ((pfp (n + 1) : Nat) : Int) := by
              rw [← Int.natCast_mul]; rfl
            rw [this]
            exact w64_id (by omega) (by omega)
          refine ⟨.next (((a + pfp n * t : Nat) : Int), ((pfp (n + 1) : Nat) : Int)), ?_, ?_⟩
          · unfold pair_Find_b14
            simp only [hb, Option.bind_some, pf_mod n (by omega), ew]
          · refine ⟨_, rfl, hlt, ?_⟩
            intro j w hj hw
            rcases Nat.lt_or_ge j n with h1 | h1
            · obtain ⟨q, hq⟩ := pf_dvd n j h1
              have : (a + pfp n * t) % pfm j = a % pfm j := by rw [hq, Nat.mul_assoc, Nat.add_mul_mod_self_left]
              rw [this]
              exact hmod j w h1 hw
            · have : j = n := by omega
              subst this
              rw [hb2]
              exact Option.some.inj (hv.symm.trans hw))
        (by
          rintro _ ⟨a, rfl, ha, hmod⟩
          have := pf_pos a0.length (by omega)
          exact ⟨a, rfl, by omega, fun j v hv => hmod j v (List.getElem?_eq_some_iff.1 hv).1 hv⟩)
      have hfin : forL (law_PairFinds_b19 ((A : Int), 24, 0)) (fun x165 => (.brk () : Esc Bool Unit)) a0 0 () = some (.brk ()) := by
        obtain ⟨z, hz, rfl⟩ := forL_inv (body := law_PairFinds_b19 ((A : Int), 24, 0)) (fin := fun _ => (.brk () : Esc Bool Unit)) (l := a0) (x := ()) (fun _ _ => True) (fun y => y = .brk ()) trivial
          (by
            rintro n v x hv _
            have hn := (List.getElem?_eq_some_iff.1 hv).1
            refine ⟨.next (), ?_, trivial⟩
            have hm : 25 ≤ pfm n ∧ pfm n ≤ 121 := by unfold pfm; omega
            unfold law_PairFinds_b19
            simp only [pf_mod2 n (by omega)]
            rw [ck_ok (by omega)]
            have hd : ((A : Int).tdiv ((pfm n : Nat) : Int)) = ((A / pfm n : Nat) : Int) := by rw [Int.ofNat_tdiv]
            have e1 := Nat.div_add_mod A (pfm n)
            have e2 : A / pfm n ≤ A := Nat.div_le_self _ _
            have e3 : (((A / pfm n : Nat) : Int) * ((pfm n : Nat) : Int)) = ((pfm n * (A / pfm n) : Nat) : Int) := by rw [← Int.natCast_mul, Nat.mul_comm]
            have e4 := hA2 n v hv
            simp only [Option.bind_some, hd]
            obtain ⟨q, hq⟩ : ∃ q, q = A / pfm n := ⟨_, rfl⟩
            rw [← hq] at e1 e2 e3 ⊢
            rw [w64_id (n := (q : Int)) (by omega) (by omega), e3]
            generalize hQ : pfm n * q = Q at *
            rw [w64_id (n := (Q : Int)) (by omega) (by omega), w64_id (by omega) (by omega)]
            have : ((A : Int) - (Q : Int) != v) = false := by rw [bne_dec]; simp; omega
            rw [this]; rfl)
          (fun _ _ => rfl)
        exact hz
      have b1 : ¬ ((A : Int) < 0) := by omega
      have b2 : ¬ ((A : Int) > 1152921504606846976) := by omega
      simp [h0, hb', hy, hfin, b1, b2, law_PairFinds_g23]

end Go.Proofs.Ytmongadolmofnaa.pairFinds
namespace Go.Proofs.Ytmongadolmofnaa.pairFinds
open Go.ChangeShapes Go.WideShapes Go.ChangeAt Go.RowKit
open Go.ChangeMaps (open_string shut_string)
theorem own : ownKnob Try.prog.godebug = none := by kernel_rfl
theorem laidOut : laidOutB Try.prog = true := by kernel_rfl
theorem lifted (os : Os) (started : os.Started) (H : Type) (enc : TypeId × Value → H) :
    ReturnsInHanded {} Try.checked os 6 .any (Rows.pairFindsSpec.pre6 enc Try.prog Try.f6 Rows.pairFindsRow.domain false) (Rows.pairFindsSpec.post enc Try.prog Try.f6 false true false false) := by
  refine returnsInHanded_of_change (C := Try.checked) own started (by kernel_rfl) Try.func6
    (ChangeSpec.witness6 (enc := enc) (C := Try.checked) false ⟨#[], #[.slice none 0 0], []⟩ 8 (by kernel_rfl) (by kernel_rfl) (by kernel_rfl) (by kernel_rfl)) ?_
  intro W base args ds gs before hval0 hW hcnd _
  have hval : ∀ (j : Nat) t v, Try.f6.params[j]? = some t → args[j]? = some v → Value.okWide Try.prog W .any base t v := hval0
  have hW' := hW
  obtain ⟨p, q, hA0, hV, rfl, hfz, hnd⟩ := hW
  have hA : DataW.TrodAll enc Try.prog W 0 (fun _ => true) true Try.f6.params.toList args.toList ds p := hA0
  rw [Try.params6] at hA hval
  obtain ⟨v0, vs0, d0, ds0, p0, q0, hargs, rfl, rfl, h0, r0⟩ := trodAll_cons hA
  obtain ⟨rfl, rfl, rfl⟩ := trodAll_nil r0
  obtain rfl : args = #[v0] := by cases args; simp_all
  obtain ⟨rfl, rfl⟩ := trodVars_none hV
  obtain ⟨x0, f0, k0⟩ := Go.Sl.read_arg (u := (.slice (.int .i64))) (by kernel_rfl) (by kernel_rfl) (hval 0 32 v0 rfl rfl) h0
  have lt0 : ∀ x ∈ p0, x.block < W.heap.size := by obtain ⟨m, hm⟩ := h0; exact DataW.trod_lt m _ _ _ hm
  clear hA0 hval0
  obtain ⟨fuel, hm⟩ := PairFinds_true x0 f0
  refine (Go.Sl.law_of (vs := [v0]) (law_PairFinds_ok hm) rfl (.cons (k0 _ _) .nil)).mono fun e W' ⟨he, bel⟩ => ?_
  subst he
  exact ⟨_, rfl, _, _, _, [], _, [], hW', trodAll_mk1 (shut_bool Try.underlying4 _), (trodAll_cons_mk (Below.trod laidOut (by kernel_rfl) (of_decide_eq_true (by kernel_rfl)) h0 bel lt0) trodAll_mk0), rfl, bel.frame _, fun h => by cases h⟩
theorem proved : Rows.PairFindsSaid :=
  OpenClaim.holds_of_wide 6 Try.f6 rfl rfl rfl rfl rfl rfl rfl ⟨rfl, rfl, rfl, rfl, rfl⟩ rfl rfl rfl rfl rfl (by kernel_rfl) Try.func6 (by kernel_rfl)
    (of_decide_eq_true (by kernel_rfl)) (by unfold Func.isWrapper; first | (rw [if_pos (by decide +kernel)]; kernel_rfl) | (rw [if_neg (by decide +kernel)]; exact ⟨rfl, rfl⟩))
    (fun os started H enc _ => lifted os started H enc)
#print axioms proved
end Go.Proofs.Ytmongadolmofnaa.pairFinds
