/- For any table guess.Sums returns the specified results: GuessSums returns true and changes nothing; no conditions. -/
import Derived.Test.YtnlibkamomlccaaRows
import Derived.WalkKit
import Derived.ProofKit
import Derived.OpenShut
import Derived.ShutString
import Derived.ChangeOld
import Derived.Below
import Derived.Test.YtnlibkamomlccaaGuessSumsM
set_option linter.all false
set_option maxRecDepth 100000
namespace Go.Proofs.Ytnlibkamomlccaa.guessSums
open Go Go.Sl

theorem gs_within (a b c : Int) : ref_Within a b c = some (decide (a ≤ b ∧ b ≤ c)) := by
  unfold ref_Within
  rw [Bool.decide_and]
theorem gs_inside (n : Int) (h : 0 < n) : ref_Inside n [0] = some true := by
  unfold ref_Inside
  have : ref_Inside_b1 n 0 0 () = some (.next ()) := by
    unfold ref_Inside_b1
    rw [bif_f (by simp only [Bool.or_eq_false_iff, decide_eq_false_iff_not]; omega)]
  simp [forL, this]
theorem gs_total (l : List Bool) (hl : ∀ i j : Nat, i < l.length → j < l.length → ∃ v, idx l (bXor .i64 i j) = some v) (i : Nat) (v : Bool) (hi : i < l.length) :
    ∀ (r : List Bool) (k : Nat) (x : Int), k + r.length ≤ l.length → ∃ y, forL (law_GuessSums_b24 l i v) (fun x => x) r k x = some y := by
  intro r
  induction r with
  | nil => intro k x _; exact ⟨x, rfl⟩
  | cons a r ih =>
    intro k x hk
    simp only [List.length_cons] at hk
    obtain ⟨u, hu⟩ := hl i k hi (by omega)
    have : ∃ z, law_GuessSums_b24 l i v k a x = some (.next z) := by
      unfold law_GuessSums_b24
      rw [hu]
      simp only [Option.bind_some]
      generalize (!(u == (!(v == a)))) = c
      cases c <;> exact ⟨_, rfl⟩
    obtain ⟨z, hz⟩ := this
    simp only [forL, hz]
    have := ih (k + 1) z (by omega)
    simpa using this
theorem gs_total2 (l : List Bool) (hl : ∀ i j : Nat, i < l.length → j < l.length → ∃ v, idx l (bXor .i64 i j) = some v) :
    ∀ (r : List Bool) (k : Nat) (x : Int), k + r.length ≤ l.length → ∃ y, forL (law_GuessSums_b27 l) (fun x => x) r k x = some y := by
  intro r
  induction r with
  | nil => intro k x _; exact ⟨x, rfl⟩
  | cons a r ih =>
    intro k x hk
    simp only [List.length_cons] at hk
    obtain ⟨z, hz⟩ := gs_total l hl k a (by omega) l 0 x (by omega)
    have : law_GuessSums_b27 l k a x = some (.next z) := by
      unfold law_GuessSums_b27
      have hz' : forL (law_GuessSums_b24 l k a) (fun x => x) l 0 x = some z := by simpa using hz
      rw [hz']; rfl
    simp only [forL, this]
    have := ih (k + 1) z (by omega)
    simpa using this
theorem gs_xor : ∀ e : Nat, e ≤ 4 → ∀ i : Nat, i < 2 ^ e → ∀ j : Nat, j < 2 ^ e → 0 ≤ bXor .i64 i j ∧ bXor .i64 i j < 2 ^ e := by decide +kernel
theorem GuessSums_true (a0 : Int) (a1 : List Bool) (f0 : Fits (.int .i64) a0) (f1 : Fits (.slice .bool) a1) : law_GuessSums a0 a1 = some true := by
  by_cases h : 0 ≤ a0 ∧ a0 ≤ 4
  · have hb : ((decide (a0 < (0 : Int))) || (decide (a0 > (4 : Int)))) = false := by
      simp only [Bool.or_eq_false_iff, decide_eq_false_iff_not]; omega
    obtain ⟨n, rfl⟩ := Int.eq_ofNat_of_zero_le h.1
    have hn : n ≤ 4 := by omega
    have hw : IntKind.wrap .u64 (n : Int) = (n : Int) := by
      have : ∀ n : Nat, n ≤ 4 → IntKind.wrap .u64 (n : Int) = (n : Int) := by decide
      exact this n hn
    have hs : bShl .i64 1 (n : Int) = ((2 ^ n : Nat) : Int) := by
      have : ∀ n : Nat, n ≤ 4 → bShl .i64 1 (n : Int) = ((2 ^ n : Nat) : Int) := by decide
      exact this n hn
    by_cases hlen : (a1.length : Int) = ((2 ^ n : Nat) : Int)
    · have hlen' : a1.length = 2 ^ n := by omega
      have hne : ((a1.length : Int) != ((2 ^ n : Nat) : Int)) = false := by simp [hlen]
      have h1 : guess_table n a1 = some 0 := by
        unfold guess_table
        rw [bif_f hb, hs, ck_ok h.1]
        simp only [Option.bind_some]
        rw [bif_f hne]
      have hpos : 0 < (2 : Nat) ^ n := Nat.pos_of_ne_zero (by simp)
      have h2 : ref_TableCheck n a1 0 = some 0 := by
        unfold ref_TableCheck
        rw [gs_within, hw, hs, ck_ok h.1, gs_inside _ (by omega)]
        simp only [Option.bind_some, decide_eq_true h]
        rw [hne]; rfl
      have hl : ∀ i j : Nat, i < a1.length → j < a1.length → ∃ v, idx a1 (bXor .i64 i j) = some v := by
        intro i j hi hj
        obtain ⟨b0, b1⟩ := gs_xor n hn i (by omega) j (by omega)
        have : (a1.length : Int) = 2 ^ n := by rw [hlen]; simp
        obtain ⟨v, hv, _⟩ := idx_get (xs := a1) b0 (by omega)
        exact ⟨v, hv⟩
      obtain ⟨y, hy⟩ := gs_total2 a1 hl a1 0 0 (by omega)
      have hy1 : forL (law_GuessSums_b27 a1) (fun x => x) a1 0 0 = some y := by simpa using hy
      have e : guess_Sums_b24 a1 = law_GuessSums_b27 a1 := rfl
      have hy2 : forL (guess_Sums_b24 a1) (fun x => x) a1 0 0 = some y := by rw [e]; exact hy1
      unfold law_GuessSums guess_Sums
      rw [h1, h2]
      simp [hy1, hy2]
    · have hne : ((a1.length : Int) != ((2 ^ n : Nat) : Int)) = true := by simpa using hlen
      have h1 : guess_table n a1 = some 3 := by
        unfold guess_table
        rw [bif_f hb, hs, ck_ok h.1]
        simp only [Option.bind_some]
        rw [bif_t hne]
      have h2 : ref_TableCheck n a1 0 = some 3 := by
        unfold ref_TableCheck
        rw [gs_within, hw, hs, ck_ok h.1]
        simp only [Option.bind_some, decide_eq_true h]
        rw [hne]; rfl
      unfold law_GuessSums guess_Sums
      rw [h1, h2]
      rfl
  · have hb : ((decide (a0 < (0 : Int))) || (decide (a0 > (4 : Int)))) = true := by
      simp only [Bool.or_eq_true, decide_eq_true_eq]; omega
    have h1 : guess_table a0 a1 = some 1 := by unfold guess_table; rw [bif_t hb]
    have h2 : ref_TableCheck a0 a1 0 = some 1 := by
      unfold ref_TableCheck
      rw [gs_within, decide_eq_false h]; rfl
    unfold law_GuessSums guess_Sums
    rw [h1, h2]
    rfl

end Go.Proofs.Ytnlibkamomlccaa.guessSums
namespace Go.Proofs.Ytnlibkamomlccaa.guessSums
open Go.ChangeShapes Go.WideShapes Go.ChangeAt Go.RowKit
open Go.ChangeMaps (open_string shut_string)
theorem own : ownKnob Try.prog.godebug = none := by kernel_rfl
theorem laidOut : laidOutB Try.prog = true := by kernel_rfl
theorem lifted (os : Os) (started : os.Started) (H : Type) (enc : TypeId × Value → H) :
    ReturnsInHanded {} Try.checked os 11 .any (Rows.guessSumsSpec.pre6 enc Try.prog Try.f11 Rows.guessSumsRow.domain false) (Rows.guessSumsSpec.post enc Try.prog Try.f11 false true false false) := by
  refine returnsInHanded_of_change (C := Try.checked) own started (by kernel_rfl) Try.func11
    (ChangeSpec.witness6 (enc := enc) (C := Try.checked) false ⟨#[], #[.int .i64 0, .slice none 0 0], []⟩ 8 (by kernel_rfl) (by kernel_rfl) (by kernel_rfl) (by kernel_rfl)) ?_
  intro W base args ds gs before hval0 hW hcnd _
  have hval : ∀ (j : Nat) t v, Try.f11.params[j]? = some t → args[j]? = some v → Value.okWide Try.prog W .any base t v := hval0
  have hW' := hW
  obtain ⟨p, q, hA0, hV, rfl, hfz, hnd⟩ := hW
  have hA : DataW.TrodAll enc Try.prog W 0 (fun _ => true) true Try.f11.params.toList args.toList ds p := hA0
  rw [Try.params11] at hA hval
  obtain ⟨v0, vs0, d0, ds0, p0, q0, hargs, rfl, rfl, h0, r0⟩ := trodAll_cons hA
  obtain ⟨v1, vs1, d1, ds1, p1, q1, rfl, rfl, rfl, h1, r1⟩ := trodAll_cons r0
  obtain ⟨rfl, rfl, rfl⟩ := trodAll_nil r1
  obtain rfl : args = #[v0, v1] := by cases args; simp_all
  obtain ⟨rfl, rfl⟩ := trodVars_none hV
  obtain ⟨x0, f0, k0⟩ := Go.Sl.read_arg (u := (.int .i64)) (by kernel_rfl) (by kernel_rfl) (hval 0 3 v0 rfl rfl) h0
  have lt0 : ∀ x ∈ p0, x.block < W.heap.size := by obtain ⟨m, hm⟩ := h0; exact DataW.trod_lt m _ _ _ hm
  obtain ⟨x1, f1, k1⟩ := Go.Sl.read_arg (u := (.slice .bool)) (by kernel_rfl) (by kernel_rfl) (hval 1 30 v1 rfl rfl) h1
  have lt1 : ∀ x ∈ p1, x.block < W.heap.size := by obtain ⟨m, hm⟩ := h1; exact DataW.trod_lt m _ _ _ hm
  clear hA0 hval0
  have hm := GuessSums_true x0 x1 f0 f1
  refine (Go.Sl.law_of (vs := [v0, v1]) (law_GuessSums_ok hm) rfl (.cons (k0 _ _) (.cons (k1 _ _) .nil))).mono fun e W' ⟨he, bel⟩ => ?_
  subst he
  exact ⟨_, rfl, _, _, _, [], _, [], hW', trodAll_mk1 (shut_bool Try.underlying4 _), (trodAll_cons_mk (Below.trod laidOut (by kernel_rfl) (of_decide_eq_true (by kernel_rfl)) h0 bel lt0) (trodAll_cons_mk (Below.trod laidOut (by kernel_rfl) (of_decide_eq_true (by kernel_rfl)) h1 bel lt1) trodAll_mk0)), rfl, bel.frame _, fun h => by cases h⟩
theorem proved : Rows.GuessSumsSaid :=
  OpenClaim.holds_of_wide 11 Try.f11 rfl rfl rfl rfl rfl rfl rfl ⟨rfl, rfl, rfl, rfl, rfl⟩ rfl rfl rfl rfl rfl (by kernel_rfl) Try.func11 (by kernel_rfl)
    (of_decide_eq_true (by kernel_rfl)) (by unfold Func.isWrapper; first | (rw [if_pos (by decide +kernel)]; kernel_rfl) | (rw [if_neg (by decide +kernel)]; exact ⟨rfl, rfl⟩))
    (fun os started H enc _ => lifted os started H enc)
#print axioms proved
end Go.Proofs.Ytnlibkamomlccaa.guessSums
