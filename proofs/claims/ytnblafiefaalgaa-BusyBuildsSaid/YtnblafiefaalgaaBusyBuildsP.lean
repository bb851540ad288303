/- For any number busy.Build tells the machine whose number it is, or that there is none: no conditions. -/
import Derived.Test.YtnblafiefaalgaaRows
import Derived.WalkKit
import Derived.ProofKit
import Derived.OpenShut
import Derived.ShutString
import Derived.ChangeOld
import Derived.Below
import Derived.Test.YtnblafiefaalgaaBusyBuildsM
set_option linter.all false
set_option maxRecDepth 100000
namespace Go.Proofs.Ytnblafiefaalgaa.busyBuilds
open Go Go.Sl

def bbR (S n : Int) : Int × Int × Int := (w64 (Int.tdiv (w64 (Int.tdiv (Int.tmod n (w64 ((4 : Int) * (w64 (S + (1 : Int)))))) (w64 (S + (1 : Int))))) (2 : Int)), w64 ((w64 ((Int.tmod (w64 (Int.tdiv (Int.tmod n (w64 ((4 : Int) * (w64 (S + (1 : Int)))))) (w64 (S + (1 : Int))))) (2 : Int)) * (2 : Int))) - (1 : Int)), Int.tmod (Int.tmod n (w64 ((4 : Int) * (w64 (S + (1 : Int)))))) (w64 (S + (1 : Int))))
def bbQ (S r : Int) : Int × Int × Int := (Int.tdiv (Int.tdiv r (S + 1)) 2, Int.tmod (Int.tdiv r (S + 1)) 2 * 2 - 1, Int.tmod r (S + 1))
theorem bb12 (n : Int) (h0 : 0 ≤ n) : bbR 2 n = bbQ 2 (n % 12) := by
  have e : Int.tmod n (w64 ((4 : Int) * (w64 ((2 : Int) + (1 : Int))))) = n % 12 := by
    rw [show w64 ((4 : Int) * (w64 ((2 : Int) + (1 : Int)))) = 12 from by decide]; exact Int.tmod_eq_emod_of_nonneg h0
  unfold bbR
  rw [e]
  have h : n % 12 = 0 ∨ n % 12 = 1 ∨ n % 12 = 2 ∨ n % 12 = 3 ∨ n % 12 = 4 ∨ n % 12 = 5 ∨ n % 12 = 6 ∨ n % 12 = 7 ∨ n % 12 = 8 ∨ n % 12 = 9 ∨ n % 12 = 10 ∨ n % 12 = 11 := by omega
  generalize n % 12 = r at h
  rcases h with rfl | rfl | rfl | rfl | rfl | rfl | rfl | rfl | rfl | rfl | rfl | rfl <;> decide
theorem bbd (n : Int) (h0 : 0 ≤ n) (h1 : n ≤ 20736) : w64 (Int.tdiv n (w64 ((4 : Int) * (w64 ((2 : Int) + (1 : Int)))))) = n / 12 := by
  rw [show w64 ((4 : Int) * (w64 ((2 : Int) + (1 : Int)))) = 12 from by decide, Int.tdiv_eq_ediv_of_nonneg h0]
  exact w64_id (by omega) (by omega)
theorem bb_build (n : Int) (h0 : 0 ≤ n) (h1 : n < 20736) : busy_Build 5 2 n = some ((2, 2, [[bbQ 2 (n / 1728 % 12), bbQ 2 (n / 144 % 12)], [bbQ 2 (n / 12 % 12), bbQ 2 (n % 12)]]), 0) := by
  have hp : busy_power 2 = some 20736 := by decide
  have step : ∀ (m : Int) (a b c d : Int × Int × Int), busy_Build_b4 2 (m, 3, [[a, b], [c, d]]) = some (.next (w64 (Int.tdiv m (w64 ((4 : Int) * (w64 ((2 : Int) + (1 : Int)))))), 2, [[a, b], [c, bbR 2 m]])) ∧
      busy_Build_b4 2 (m, 2, [[a, b], [c, d]]) = some (.next (w64 (Int.tdiv m (w64 ((4 : Int) * (w64 ((2 : Int) + (1 : Int)))))), 1, [[a, b], [bbR 2 m, d]])) ∧
      busy_Build_b4 2 (m, 1, [[a, b], [c, d]]) = some (.next (w64 (Int.tdiv m (w64 ((4 : Int) * (w64 ((2 : Int) + (1 : Int)))))), 0, [[a, bbR 2 m], [c, d]])) ∧
      busy_Build_b4 2 (m, 0, [[a, b], [c, d]]) = some (.next (w64 (Int.tdiv m (w64 ((4 : Int) * (w64 ((2 : Int) + (1 : Int)))))), -1, [[bbR 2 m, b], [c, d]])) ∧
      busy_Build_b4 2 (m, -1, [[a, b], [c, d]]) = some (.done [[a, b], [c, d]]) := fun m a b c d => ⟨rfl, rfl, rfl, rfl, rfl⟩
  have hf : forI (0 : Int) 2 busy_Build_b1 (fun x24 => x24) [] = some [[(0, 0, 0), (0, 0, 0)], [(0, 0, 0), (0, 0, 0)]] := by rfl
  unfold busy_Build
  rw [show ((decide ((2 : Int) < (1 : Int))) || (decide ((2 : Int) > (2 : Int)))) = false from rfl, cond_false, show decide (n < (0 : Int)) = false from decide_eq_false (by omega), cond_false, hp, hf]
  simp only [Option.bind_some, show decide (n ≥ 20736) = false from decide_eq_false (by omega), cond_false]
  rw [show w64 ((w64 ((2 : Int) * 2)) - (1 : Int)) = 3 from by decide]
  simp only [iter, (step _ _ _ _ _).1, (step _ _ _ _ _).2.1, (step _ _ _ _ _).2.2.1, (step _ _ _ _ _).2.2.2.1, (step _ _ _ _ _).2.2.2.2, Option.bind_some]
  rw [bbd n h0 (by omega), bbd (n / 12) (by omega) (by omega), bbd (n / 12 / 12) (by omega) (by omega), bb12 n h0, bb12 (n / 12) (by omega), bb12 (n / 12 / 12) (by omega), bb12 (n / 12 / 12 / 12) (by omega)]
  rw [show n / 12 / 12 = n / 144 from by omega, show n / 144 / 12 = n / 1728 from by omega]
theorem bb_check : ∀ a b c d : Fin 12, ref_MachineCheck (2, 2, [[bbQ 2 a.val, bbQ 2 b.val], [bbQ 2 c.val, bbQ 2 d.val]]) = some 0 := by
  have one : ∀ (m : Int × Int × List (List (Int × Int × Int))), m.1 = 2 → m.2.1 = 2 → ∀ (r : Fin 12) (i : Int), ref_MachineCheck_b11 m i (bbQ 2 r.val) () = some (.next ()) := by
    rintro ⟨m1, m2, m3⟩ h1 h2 r i
    simp only at h1 h2
    subst h1 h2
    have : ∀ r : Fin 12, (ref_Inside 2 [(bbQ 2 r.val).1] = some true ∧ ref_Within (-1) (bbQ 2 r.val).2.1 1 = some true) ∧ ref_Inside 3 [(bbQ 2 r.val).2.2] = some true := by decide
    obtain ⟨⟨t1, t2⟩, t3⟩ := this r
    unfold ref_MachineCheck_b11
    simp only
    rw [t1, t2, show w64 ((2 : Int) + 1) = 3 from by decide, t3]
    rfl
  intro a b c d
  generalize hm : ((2, 2, [[bbQ 2 a.val, bbQ 2 b.val], [bbQ 2 c.val, bbQ 2 d.val]]) : Int × Int × List (List (Int × Int × Int))) = m
  have m1 : m.1 = 2 := by rw [← hm]
  have m2 : m.2.1 = 2 := by rw [← hm]
  have m3 : m.2.2 = [[bbQ 2 a.val, bbQ 2 b.val], [bbQ 2 c.val, bbQ 2 d.val]] := by rw [← hm]
  have o := one m m1 m2
  have row : ∀ (x y : Fin 12) (i : Int), ref_MachineCheck_b15 m i [bbQ 2 x.val, bbQ 2 y.val] () = some (.next ()) := by
    intro x y i
    unfold ref_MachineCheck_b15
    simp only [forL, o, Option.bind_some]
  unfold ref_MachineCheck
  rw [m1, m2, m3]
  simp only [forL, row, ref_MachineCheck_b1, m2]
  rfl
theorem bb_digits (m : Int × Int × List (List (Int × Int × Int))) (h1 : m.1 = 2) (r : Fin 12) (i x : Int) (hx : 0 ≤ x) (hx2 : x ≤ 100000) : law_digits_b26 m i (bbQ 2 r.val) x = some (.next (x * 12 + r.val)) := by
  have e : ∀ k : Int, 0 ≤ k → k ≤ 11 → w64 (w64 (w64 (w64 (x * 4) * w64 (2 + 1)) + k) + 0) = x * 12 + k := by
    intro k k0 k1
    rw [w64_id (n := x * 4) (by omega) (by omega), show w64 ((2 : Int) + 1) = 3 from by decide, w64_id (n := x * 4 * 3) (by omega) (by omega), w64_id (n := x * 4 * 3 + k) (by omega) (by omega), w64_id (by omega) (by omega)]
    omega
  have e2 : w64 (w64 (x * 4) * w64 (2 + 1)) = x * 12 := by
    rw [w64_id (n := x * 4) (by omega) (by omega), show w64 ((2 : Int) + 1) = 3 from by decide, w64_id (n := x * 4 * 3) (by omega) (by omega)]
    omega
  unfold law_digits_b26
  rw [h1, e2]
  have fin : ∀ a b c : Int, (0 ≤ a ∧ a ≤ 11) → (0 ≤ b ∧ b ≤ 11) → a + b = c → w64 (w64 (x * 12 + a) + b) = x * 12 + c := by
    intro a b c ha hb hc
    rw [w64_id (n := x * 12 + a) (by omega) (by omega), w64_id (by omega) (by omega)]; omega
  have tab : ∀ r : Fin 12, ((0 ≤ (bbQ 2 r.val).1 ∧ (bbQ 2 r.val).1 ≤ 1) ∧ (0 ≤ (bbQ 2 r.val).2.2 ∧ (bbQ 2 r.val).2.2 ≤ 2)) ∧ (((bbQ 2 r.val).2.1 = -1 ∧ 6 * (bbQ 2 r.val).1 + (bbQ 2 r.val).2.2 = r.val) ∨ ((bbQ 2 r.val).2.1 = 1 ∧ 6 * (bbQ 2 r.val).1 + 3 + (bbQ 2 r.val).2.2 = r.val)) := by decide
  obtain ⟨⟨t1, t2⟩, t3⟩ := tab r
  generalize bbQ 2 r.val = q at t1 t2 t3
  obtain ⟨W, M, N⟩ := q
  simp only at t1 t2 t3 ⊢
  rw [show w64 ((2 : Int) + 1) = 3 from by decide]
  rcases t3 with ⟨rfl, t3⟩ | ⟨rfl, t3⟩
  · rw [show ((-1 : Int) == 0) = false from rfl, cond_false, show decide ((-1 : Int) > 0) = false from rfl, cond_false]
    simp only [Option.bind_some]
    rw [w64_id (n := 2 * W) (by omega) (by omega), w64_id (n := 2 * W * 3) (by omega) (by omega), fin (2 * W * 3) N r.val (by omega) (by omega) (by omega)]
  · rw [show ((1 : Int) == 0) = false from rfl, cond_false, show decide ((1 : Int) > 0) = true from rfl, cond_true]
    simp only [Option.bind_some]
    rw [w64_id (n := 2 * W) (by omega) (by omega), w64_id (n := 2 * W + 1) (by omega) (by omega), w64_id (n := (2 * W + 1) * 3) (by omega) (by omega), fin ((2 * W + 1) * 3) N r.val (by omega) (by omega) (by omega)]
theorem bb_two (n : Int) (h0 : 0 ≤ n) (h1 : n < 20736) : law_BusyBuilds 5 2 n = some true := by
  unfold law_BusyBuilds
  rw [bb_build n h0 h1]
  have hp : ref_Power (w64 ((4 : Int) * (w64 ((2 : Int) + (1 : Int))))) (w64 ((2 : Int) * 2)) = some 20736 := by decide
  have hg : law_BusyBuilds_g7 2 n = some 0 := by
    unfold law_BusyBuilds_g7 law_BusyBuilds_g5
    rw [hp, show ref_Within 1 2 2 = some true from rfl, show decide (n < (0 : Int)) = false from decide_eq_false (by omega)]
    simp only [Option.bind_some, Bool.not_true, cond_false, show decide (n ≥ 20736) = false from decide_eq_false (by omega)]
  have cast : ∀ z : Int, ∃ r : Fin 12, z % 12 = (r.val : Int) := fun z => ⟨⟨(z % 12).toNat, by omega⟩, by simp only; omega⟩
  obtain ⟨a, ha⟩ := cast (n / 1728)
  obtain ⟨b, hb⟩ := cast (n / 144)
  obtain ⟨c, hc⟩ := cast (n / 12)
  obtain ⟨d, hd⟩ := cast n
  rw [ha, hb, hc, hd]
  have hla : (a.val : Int) < 12 := by have := a.isLt; omega
  have hlb : (b.val : Int) < 12 := by have := b.isLt; omega
  have hlc : (c.val : Int) < 12 := by have := c.isLt; omega
  have hck := bb_check a b c d
  have hdg : law_digits (2, 2, [[bbQ 2 a.val, bbQ 2 b.val], [bbQ 2 c.val, bbQ 2 d.val]]) = some n := by
    unfold law_digits law_digits_b30
    simp only [forL]
    rw [bb_digits _ rfl a _ 0 (by omega) (by omega)]
    simp only
    rw [bb_digits _ rfl b _ _ (by omega) (by omega)]
    simp only [Option.bind_some]
    rw [bb_digits _ rfl c _ _ (by omega) (by omega)]
    simp only
    rw [bb_digits _ rfl d _ _ (by omega) (by omega)]
    simp only [Option.bind_some]
    congr 1
    omega
  simp only [Option.bind_some, hg, law_BusyBuilds_g10, hck, hdg, show ((0 : Int) != 0) = false from rfl, cond_false, show ((0 : Int) == 0) = true from rfl, show ((2 : Int) == 2) = true from rfl, cond_true, beq_self_eq_true]
theorem bb_one : (List.range 64).all (fun n => law_BusyBuilds 5 1 (n : Int) == some true) = true := by decide +kernel
theorem BusyBuilds_true (x0 : Int) (x1 : Int) (f0 : Fits (.int .i64) x0) (f1 : Fits (.int .i64) x1) : ∃ fuel, law_BusyBuilds fuel x0 x1 = some true := by
  refine ⟨5, ?_⟩
  by_cases hw : x0 < 1 ∨ x0 > 2
  · unfold law_BusyBuilds busy_Build law_BusyBuilds_g7
    have e1 : ((decide (x0 < (1 : Int))) || (decide (x0 > (2 : Int)))) = true := by simpa using hw
    have e2 : ref_Within 1 x0 2 = some false := by
      unfold ref_Within
      congr 1
      simp only [Bool.and_eq_false_iff, decide_eq_false_iff_not]
      omega
    rw [e1, cond_true, e2]
    rfl
  · have hx : x0 = 1 ∨ x0 = 2 := by omega
    by_cases hn : x1 < 0
    · unfold law_BusyBuilds busy_Build law_BusyBuilds_g7 law_BusyBuilds_g5
      rw [show decide (x1 < (0 : Int)) = true from decide_eq_true hn]
      rcases hx with rfl | rfl <;> rfl
    · rcases hx with rfl | rfl
      · by_cases hb : x1 < 64
        · have := List.all_eq_true.1 bb_one x1.toNat (by simp; omega)
          have e : ((x1.toNat : Nat) : Int) = x1 := by omega
          rw [e] at this
          simpa using this
        · unfold law_BusyBuilds busy_Build law_BusyBuilds_g7 law_BusyBuilds_g5
          have hp : busy_power 1 = some 64 := by decide
          have hq : ref_Power (w64 ((4 : Int) * (w64 ((1 : Int) + (1 : Int))))) (w64 ((2 : Int) * 1)) = some 64 := by decide
          rw [show decide (x1 < (0 : Int)) = false from decide_eq_false hn, hp, hq]
          simp only [Option.bind_some, show decide (x1 ≥ 64) = true from decide_eq_true (by omega)]
          rfl
      · by_cases hb : x1 < 20736
        · exact bb_two x1 (by omega) hb
        · unfold law_BusyBuilds busy_Build law_BusyBuilds_g7 law_BusyBuilds_g5
          have hp : busy_power 2 = some 20736 := by decide
          have hq : ref_Power (w64 ((4 : Int) * (w64 ((2 : Int) + (1 : Int))))) (w64 ((2 : Int) * 2)) = some 20736 := by decide
          rw [show decide (x1 < (0 : Int)) = false from decide_eq_false hn, hp, hq]
          simp only [Option.bind_some, show decide (x1 ≥ 20736) = true from decide_eq_true (by omega)]
          rfl

end Go.Proofs.Ytnblafiefaalgaa.busyBuilds
namespace Go.Proofs.Ytnblafiefaalgaa.busyBuilds
open Go.ChangeShapes Go.WideShapes Go.ChangeAt Go.RowKit
open Go.ChangeMaps (open_string shut_string)
theorem own : ownKnob Try.prog.godebug = none := by kernel_rfl
theorem laidOut : laidOutB Try.prog = true := by kernel_rfl
theorem lifted (os : Os) (started : os.Started) (H : Type) (enc : TypeId × Value → H) :
    ReturnsInHanded {} Try.checked os 3 .any (Rows.busyBuildsSpec.pre6 enc Try.prog Try.f3 Rows.busyBuildsRow.domain false) (Rows.busyBuildsSpec.post enc Try.prog Try.f3 false true false false) := by
  refine returnsInHanded_of_change (C := Try.checked) own started (by kernel_rfl) Try.func3
    (ChangeSpec.witness6 (enc := enc) (C := Try.checked) false ⟨#[], #[.int .i64 0, .int .i64 0], []⟩ 8 (by kernel_rfl) (by kernel_rfl) (by kernel_rfl) (by kernel_rfl)) ?_
  intro W base args ds gs before hval0 hW hcnd _
  have hval : ∀ (j : Nat) t v, Try.f3.params[j]? = some t → args[j]? = some v → Value.okWide Try.prog W .any base t v := hval0
  have hW' := hW
  obtain ⟨p, q, hA0, hV, rfl, hfz, hnd⟩ := hW
  have hA : DataW.TrodAll enc Try.prog W 0 (fun _ => true) true Try.f3.params.toList args.toList ds p := hA0
  rw [Try.params3] at hA hval
  obtain ⟨v0, vs0, d0, ds0, p0, q0, hargs, rfl, rfl, h0, r0⟩ := trodAll_cons hA
  obtain ⟨v1, vs1, d1, ds1, p1, q1, rfl, rfl, rfl, h1, r1⟩ := trodAll_cons r0
  obtain ⟨rfl, rfl, rfl⟩ := trodAll_nil r1
  obtain rfl : args = #[v0, v1] := by cases args; simp_all
  obtain ⟨rfl, rfl⟩ := trodVars_none hV
  obtain ⟨x0, f0, k0⟩ := Go.Sl.read_arg (u := (.int .i64)) (by kernel_rfl) (by kernel_rfl) (hval 0 3 v0 rfl rfl) h0
  have lt0 : ∀ x ∈ p0, x.block < W.heap.size := by obtain ⟨m, hm⟩ := h0; exact DataW.trod_lt m _ _ _ hm
  obtain ⟨x1, f1, k1⟩ := Go.Sl.read_arg (u := (.int .i64)) (by kernel_rfl) (by kernel_rfl) (hval 1 3 v1 rfl rfl) h1
  have lt1 : ∀ x ∈ p1, x.block < W.heap.size := by obtain ⟨m, hm⟩ := h1; exact DataW.trod_lt m _ _ _ hm
  clear hA0 hval0
  obtain ⟨fuel, hm⟩ := BusyBuilds_true x0 x1 f0 f1
  refine (Go.Sl.law_of (vs := [v0, v1]) (law_BusyBuilds_ok hm) rfl (.cons (k0 _ _) (.cons (k1 _ _) .nil))).mono fun e W' ⟨he, bel⟩ => ?_
  subst he
  exact ⟨_, rfl, _, _, _, [], _, [], hW', trodAll_mk1 (shut_bool Try.underlying4 _), (trodAll_cons_mk (Below.trod laidOut (by kernel_rfl) (of_decide_eq_true (by kernel_rfl)) h0 bel lt0) (trodAll_cons_mk (Below.trod laidOut (by kernel_rfl) (of_decide_eq_true (by kernel_rfl)) h1 bel lt1) trodAll_mk0)), rfl, bel.frame _, fun h => by cases h⟩
theorem proved : Rows.BusyBuildsSaid :=
  OpenClaim.holds_of_wide 3 Try.f3 rfl rfl rfl rfl rfl rfl rfl ⟨rfl, rfl, rfl, rfl, rfl⟩ rfl rfl rfl rfl rfl (by kernel_rfl) Try.func3 (by kernel_rfl)
    (of_decide_eq_true (by kernel_rfl)) (by unfold Func.isWrapper; first | (rw [if_pos (by decide +kernel)]; kernel_rfl) | (rw [if_neg (by decide +kernel)]; exact ⟨rfl, rfl⟩))
    (fun os started H enc _ => lifted os started H enc)
#print axioms proved
end Go.Proofs.Ytnblafiefaalgaa.busyBuilds
