/- For any clauses hard.Dots returns the specified results: HardDots returns true and changes nothing; no conditions. -/
import Derived.Test.YtmmlochcobihpaaRows
import Derived.WalkKit
import Derived.ProofKit
import Derived.OpenShut
import Derived.ShutString
import Derived.ChangeOld
import Derived.Below
import Derived.Test.YtmmlochcobihpaaHardDotsM
set_option linter.all false
set_option maxRecDepth 100000
namespace Go.Proofs.Ytmmlochcobihpaa.hardDots
open Go Go.Sl

theorem within_eq (a b c : Int) : ref_Within a b c = some (decide (a ≤ b ∧ b ≤ c)) := by
  unfold ref_Within
  rw [Bool.decide_and]

def hbad (n : Int) (v : Int) : Bool := decide (v < 0) || decide (v ≥ n)
theorem hc_inside (n : Int) (l : List Int) : ref_Inside n l = some (!l.any (hbad n)) := by
  unfold ref_Inside
  rw [forL_ex (p := hbad n) (y := Esc.ret false) (fun i a _ => by unfold ref_Inside_b1 hbad; cases (decide (a < 0) || decide (a ≥ n)) <;> rfl)]
  cases (l.any (hbad n)) <;> rfl
theorem hc_bad (l : List Int) (n : Int) : slices_ContainsFunc_Lintint_with_hard_wrong_1 l n = some (l.any (hbad n)) := by
  unfold slices_ContainsFunc_Lintint_with_hard_wrong_1 slices_IndexFunc_Lintint_with_hard_wrong_1
  rcases forL_at (body := slices_IndexFunc_Lintint_with_hard_wrong_1_b1 n) (fin := fun _ => (Esc.brk () : Esc Int Unit)) (p := hbad n) (g := fun j => Esc.ret j) (l := l)
    (fun i a _ => by unfold slices_IndexFunc_Lintint_with_hard_wrong_1_b1 hard_wrong_1 hbad; cases (decide (a < 0) || decide (a ≥ n)) <;> rfl) (i := 0) with ⟨h1, h2⟩ | ⟨h1, j, h2, h3, h4⟩
  · rw [h2, h1]; rfl
  · rw [h4, h1]
    simp [h2]
def hA (v : List Int × List Int) : Bool := decide ((v.1.length : Int) > 3) || decide ((v.2.length : Int) > 3) || decide (w64 ((v.1.length : Int) + (v.2.length : Int)) > 3)
def hB (n : Int) (v : List Int × List Int) : Bool := v.1.any (hbad n) || v.2.any (hbad n)
def hcAll (n : Int) (l : List (List Int × List Int)) : Int :=
  bif !decide (0 ≤ n ∧ n ≤ 8) || decide ((l.length : Int) > 12) then 1 else bif l.any hA then 1 else bif l.any (hB n) then 2 else 0
theorem hc_wrong (n : Int) (l : List (List Int × List Int)) : hard_wrong n l = some (hcAll n l) := by
  unfold hard_wrong hcAll
  rw [forL_ex (p := hA) (y := Esc.ret 1) (fun i a _ => by
    unfold hard_wrong_b7 hard_wrong_g5 hA
    cases decide ((a.1.length : Int) > 3) <;> cases decide ((a.2.length : Int) > 3) <;> cases decide (w64 ((a.1.length : Int) + (a.2.length : Int)) > 3) <;> rfl)]
  rw [forL_ex (p := hB n) (y := Esc.ret 2) (fun i a _ => by
    unfold hard_wrong_b17 hard_wrong_g15 hB
    rw [hc_bad, hc_bad]
    cases a.1.any (hbad n) <;> cases a.2.any (hbad n) <;> rfl)]
  have : ((decide (n < (0 : Int))) || (decide (n > 8))) = !decide (0 ≤ n ∧ n ≤ 8) := by
    rw [or_dec, not_dec]; exact decide_eq_decide.2 (by omega)
  rw [this]
  cases (!decide (0 ≤ n ∧ n ≤ 8)) || decide ((l.length : Int) > 12) <;> cases l.any hA <;> cases l.any (hB n) <;> rfl
theorem hc_check (n : Int) (l : List (List Int × List Int)) : ref_HardCheck n l = some (hcAll n l) := by
  unfold ref_HardCheck hcAll
  rw [within_eq, bind_some']
  rw [forL_ex (p := hA) (y := Esc.ret 1) (fun i a _ => by
    unfold ref_HardCheck_b7 ref_HardCheck_g5 hA
    cases decide ((a.1.length : Int) > 3) <;> cases decide ((a.2.length : Int) > 3) <;> cases decide (w64 ((a.1.length : Int) + (a.2.length : Int)) > 3) <;> rfl)]
  rw [forL_ex (p := hB n) (y := Esc.ret 2) (fun i a _ => by
    unfold ref_HardCheck_b14 hB
    rw [hc_inside, hc_inside]
    cases a.1.any (hbad n) <;> cases a.2.any (hbad n) <;> rfl)]
  cases (!decide (0 ≤ n ∧ n ≤ 8)) || decide ((l.length : Int) > 12) <;> cases l.any hA <;> cases l.any (hB n) <;> rfl
theorem hc_ok {n : Int} {l : List (List Int × List Int)} (h : hcAll n l = 0) : (0 ≤ n ∧ n ≤ 8) ∧ l.length ≤ 12 ∧ ∀ v ∈ l, v.1.length ≤ 3 ∧ v.2.length ≤ 3 ∧ v.1.length + v.2.length ≤ 3 ∧ (∀ x ∈ v.1, 0 ≤ x ∧ x < n) ∧ (∀ x ∈ v.2, 0 ≤ x ∧ x < n) := by
  unfold hcAll at h
  cases hc : (!decide (0 ≤ n ∧ n ≤ 8)) || decide ((l.length : Int) > 12) with
  | true => rw [hc] at h; cases h
  | false =>
    rw [hc] at h
    simp only [Bool.or_eq_false_iff, Bool.not_eq_false', decide_eq_true_eq, decide_eq_false_iff_not] at hc
    cases h1 : l.any hA with
    | true => rw [h1] at h; cases h
    | false =>
      rw [h1] at h
      cases h2 : l.any (hB n) with
      | true => rw [h2] at h; cases h
      | false =>
        refine ⟨hc.1, by omega, fun v hv => ?_⟩
        have a1 := List.any_eq_false.1 h1 v hv
        have a2 := List.any_eq_false.1 h2 v hv
        unfold hA at a1
        unfold hB at a2
        simp only [Bool.or_eq_true, decide_eq_true_eq, not_or] at a1
        simp only [Bool.or_eq_true, not_or, Bool.not_eq_true] at a2
        have good : ∀ k : List Int, k.any (hbad n) = false → ∀ x ∈ k, 0 ≤ x ∧ x < n := by
          intro k hk x hx
          have := List.any_eq_false.1 hk x hx
          unfold hbad at this
          simp only [Bool.or_eq_true, decide_eq_true_eq, not_or] at this
          omega
        obtain ⟨⟨b1, b2⟩, b3⟩ := a1
        rw [w64_id (by omega) (by omega)] at b3
        exact ⟨by omega, by omega, by omega, good _ a2.1, good _ a2.2⟩

abbrev HD : Type := Int × (Int × Bool)
def hdLit (d : HD) : Int := bif d.2.2 then d.2.1 + 1 else -1 - d.2.1
def hdOk (d : HD) : Prop := 0 ≤ d.2.1 ∧ d.2.1 < 8
def hdR (b : Nat) (x : List HD) (x' : List Int × List Int) : Prop := x' = (x.map (·.1), x.map hdLit) ∧ x.length ≤ b ∧ ∀ d ∈ x, hdOk d
theorem hd_pos (c : Int) {l : List Int} (hl : l.length ≤ 3) (hv : ∀ v ∈ l, 0 ≤ v ∧ v < 8) {b : Nat} (hb : b ≤ 40) {x : List HD} {x' : List Int × List Int} (h : hdR b x x') :
    ∃ y y', forL (hard_dots_b13 c) (fun x => x) l 0 x = some y ∧ forL (law_HardDots_b13 c) (fun x => (x.1, x.2)) l 0 x' = some y' ∧ hdR (b + l.length) y y' := by
  refine forL_rel (fun n x x' => hdR (b + n) x x') (fun y y' => hdR (b + l.length) y y') rfl h (fun n a a' x x' hn hn' hx => ?_) (fun x x' hx => hx)
  rw [hn] at hn'
  obtain rfl := Option.some.inj hn'
  have hnl := (List.getElem?_eq_some_iff.1 hn).1
  have ha := hv a (List.mem_of_getElem? hn)
  obtain ⟨rfl, h2, h3⟩ := hx
  refine ⟨.next (x ++ [(c, a, true)]), .next (x.map (·.1) ++ [c], x.map hdLit ++ [w64 (a + 1)]), ?_, ?_, ?_⟩
  · unfold hard_dots_b13
    rw [ck_ok (by omega), bind_some']
  · unfold law_HardDots_b13
    dsimp only
    rw [List.length_map, List.length_map, ck_ok (by omega), bind_some', bind_some']
  · refine ⟨?_, by rw [List.length_append, List.length_singleton]; omega, fun d hd => ?_⟩
    · rw [w64_id (by omega) (by omega), List.map_append, List.map_append]; rfl
    · rcases List.mem_append.1 hd with h | h
      · exact h3 d h
      · rw [List.mem_singleton.1 h]; exact ha
theorem hd_neg (c : Int) {l : List Int} (hl : l.length ≤ 3) (hv : ∀ v ∈ l, 0 ≤ v ∧ v < 8) {b : Nat} (hb : b ≤ 40) {x : List HD} {x' : List Int × List Int} (h : hdR b x x') :
    ∃ y y', forL (hard_dots_b16 c) (fun x => x) l 0 x = some y ∧ forL (law_HardDots_b16 c) (fun x => (x.1, x.2)) l 0 x' = some y' ∧ hdR (b + l.length) y y' := by
  refine forL_rel (fun n x x' => hdR (b + n) x x') (fun y y' => hdR (b + l.length) y y') rfl h (fun n a a' x x' hn hn' hx => ?_) (fun x x' hx => hx)
  rw [hn] at hn'
  obtain rfl := Option.some.inj hn'
  have hnl := (List.getElem?_eq_some_iff.1 hn).1
  have ha := hv a (List.mem_of_getElem? hn)
  obtain ⟨rfl, h2, h3⟩ := hx
  refine ⟨.next (x ++ [(c, a, false)]), .next (x.map (·.1) ++ [c], x.map hdLit ++ [w64 (-1 - a)]), ?_, ?_, ?_⟩
  · unfold hard_dots_b16
    rw [ck_ok (by omega), bind_some']
  · unfold law_HardDots_b16
    dsimp only
    rw [List.length_map, List.length_map, ck_ok (by omega), bind_some', bind_some']
  · refine ⟨?_, by rw [List.length_append, List.length_singleton]; omega, fun d hd => ?_⟩
    · rw [w64_id (by omega) (by omega), List.map_append, List.map_append]; rfl
    · rcases List.mem_append.1 hd with h | h
      · exact h3 d h
      · rw [List.mem_singleton.1 h]; exact ha
theorem hd_dots {n : Int} (hn8 : n ≤ 8) {l : List (List Int × List Int)} (hl : l.length ≤ 12) (hv : ∀ v ∈ l, v.1.length ≤ 3 ∧ v.2.length ≤ 3 ∧ v.1.length + v.2.length ≤ 3 ∧ (∀ x ∈ v.1, 0 ≤ x ∧ x < n) ∧ (∀ x ∈ v.2, 0 ≤ x ∧ x < n)) :
    ∃ D : List HD, hard_dots l = some D ∧ forL law_HardDots_b19 (fun x => (x.1, x.2)) l 0 ([], []) = some (D.map (·.1), D.map hdLit) ∧ D.length ≤ 36 ∧ ∀ d ∈ D, hdOk d := by
  obtain ⟨D, D', h1, h2, h3, h4, h5⟩ := forL_rel (body := hard_dots_b19) (body' := law_HardDots_b19) (fin := fun x => x) (fin' := fun x => (x.1, x.2)) (l := l) (l' := l) (x := []) (x' := ([], [])) (fun n x x' => hdR (3 * n) x x') (fun y y' => hdR (3 * l.length) y y')
    rfl ⟨rfl, by simp, fun d hd => by cases hd⟩ (fun m a a' x x' hm hm' hx => by
    rw [hm] at hm'
    obtain rfl := Option.some.inj hm'
    have hml := (List.getElem?_eq_some_iff.1 hm).1
    obtain ⟨v1, v2, v3, v4, v5⟩ := hv a (List.mem_of_getElem? hm)
    obtain ⟨y, y', p1, p2, p3⟩ := hd_pos (m : Int) v1 (fun v h => ⟨(v4 v h).1, by have := (v4 v h).2; omega⟩) (by omega) hx
    obtain ⟨z, z', q1, q2, q3⟩ := hd_neg (m : Int) v2 (fun v h => ⟨(v5 v h).1, by have := (v5 v h).2; omega⟩) (by omega) p3
    refine ⟨.next z, .next z', ?_, ?_, q3.1, ?_, q3.2.2⟩
    · unfold hard_dots_b19
      rw [p1, bind_some', q1, bind_some']
    · unfold law_HardDots_b19
      rw [show (x'.1, x'.2) = x' from rfl, p2, bind_some', show (y'.1, y'.2) = y' from rfl, q2, bind_some']
    · have := q3.2.1; omega) (fun x x' hx => hx)
  refine ⟨D, ?_, by rw [h2, h3], by omega, h5⟩
  unfold hard_dots
  rw [h1, bind_some']
def hdC (D : List HD) (i j : Nat) : Bool := decide (i < j) && ((D.getD i (0, 0, false)).1 == (D.getD j (0, 0, false)).1 || ((D.getD i (0, 0, false)).2.1 == (D.getD j (0, 0, false)).2.1 && !((D.getD i (0, 0, false)).2.2 == (D.getD j (0, 0, false)).2.2)))
def hdZ (D : List HD) (i n : Nat) : List (List Int) := ((List.range n).filter (hdC D i)).map fun (j : Nat) => [(i : Int), (j : Int)]
theorem hdZ_succ (D : List HD) (i n : Nat) : hdZ D i (n + 1) = hdZ D i n ++ bif hdC D i n then [[(i : Int), (n : Int)]] else [] := by
  unfold hdZ
  rw [List.range_succ, List.filter_append, List.map_append]
  cases h : hdC D i n <;> simp [List.filter, h]
theorem hdZ_low (D : List HD) (i : Nat) : ∀ n, n ≤ i + 1 → hdZ D i n = []
  | 0, _ => rfl
  | n + 1, h => by
    have : hdC D i n = false := by
      unfold hdC
      rw [decide_eq_false (by omega)]; rfl
    rw [hdZ_succ, hdZ_low D i n (by omega), this]; rfl
theorem hdZ_len (D : List HD) (i n : Nat) : (hdZ D i n).length ≤ n := by
  unfold hdZ
  rw [List.length_map]
  have := List.length_filter_le (hdC D i) (List.range n)
  simpa using this
theorem hd_get {D : List HD} {i : Nat} (h : i < D.length) : D[i]? = some (D.getD i (0, 0, false)) := by
  rw [List.getD_eq_getElem?_getD, List.getElem?_eq_getElem h]; rfl
theorem hd_in {D : List HD} (hD : D.length ≤ 36) {i : Nat} (hi : i < D.length) (x : List (List Int)) (hx : x.length ≤ 36 * 36) : forL (hard_Dots_b78 (i : Int) (D.getD i (0, 0, false))) (fun x => x) D 0 x = some (x ++ hdZ D i D.length) := by
  obtain ⟨y, h1, h2⟩ := forL_inv (body := hard_Dots_b78 (i : Int) (D.getD i (0, 0, false))) (fin := fun x => x) (l := D) (x := x) (fun n y => y = x ++ hdZ D i n) (fun y => y = x ++ hdZ D i D.length) (by simp [hdZ]) (fun n a y hn hy => by
    have hnl := (List.getElem?_eq_some_iff.1 hn).1
    rw [hd_get hnl] at hn
    obtain rfl := Option.some.inj hn
    have hzl := hdZ_len D i n
    have hyl : y.length ≤ 36 * 36 + 36 := by rw [hy, List.length_append]; omega
    have hc : hard_Dots_g74 (i : Int) (D.getD i (0, 0, false)) (n : Int) (D.getD n (0, 0, false)) = some (hdC D i n) := by
      unfold hard_Dots_g74 hdC
      have : decide ((i : Int) < (n : Int)) = decide (i < n) := decide_eq_decide.2 (by omega)
      rw [this]
      cases decide (i < n) <;> cases ((D.getD i (0, 0, false)).1 == (D.getD n (0, 0, false)).1) <;> cases ((D.getD i (0, 0, false)).2.1 == (D.getD n (0, 0, false)).2.1) <;> rfl
    refine ⟨.next (y ++ bif hdC D i n then [[(i : Int), (n : Int)]] else []), ?_, ?_⟩
    · unfold hard_Dots_b78 hard_Dots_g76
      rw [hc, bind_some']
      cases hdC D i n with
      | true => rw [cond_true, ck_ok (by omega), bind_some', bind_some', cond_true]
      | false => rw [cond_false, bind_some', cond_false, List.append_nil]
    · dsimp only
      rw [hdZ_succ, hy, List.append_assoc]) (fun y hy => hy)
  rw [h1, h2]
theorem hd_conf {d e : HD} (hd : hdOk d) (he : hdOk e) : (hdLit d == w64 (0 - hdLit e)) = (d.2.1 == e.2.1 && !(d.2.2 == e.2.2)) := by
  obtain ⟨c, v, s⟩ := d
  obtain ⟨c', v', s'⟩ := e
  unfold hdOk at hd he
  dsimp only at hd he
  unfold hdLit
  cases s <;> cases s' <;> simp only [cond_true, cond_false] <;> rw [w64_id (by omega) (by omega), beq_dec, beq_dec, Bool.eq_iff_iff] <;> simp <;> omega
theorem hd_lin {D : List HD} (hD : D.length ≤ 36) (hok : ∀ d ∈ D, hdOk d) {i : Nat} (hi : i < D.length) (x : List (List Int)) (hx : x.length ≤ 36 * 36) :
    forI (w64 ((i : Int) + 1)) ((D.map (·.1)).length : Int) (law_HardDots_b99 (D.map (·.1), D.map hdLit) (i : Int) (D.getD i (0, 0, false)).1) (fun x => x) x = some (x ++ hdZ D i D.length) := by
  rw [List.length_map, w64_id (by omega) (by omega)]
  obtain ⟨y, h1, h2⟩ := forI_inv (body := law_HardDots_b99 (D.map (·.1), D.map hdLit) (i : Int) (D.getD i (0, 0, false)).1) (fin := fun x => x) (lo := (i : Int) + 1) (hi := (D.length : Int)) (x := x) (fun j y => y = x ++ hdZ D i j.toNat) (fun y => y = x ++ hdZ D i D.length) (by omega) (by omega)
    (by rw [hdZ_low D i _ (by omega), List.append_nil]) (fun j y j0 j1 hy => by
    obtain ⟨n, rfl⟩ := Int.eq_ofNat_of_zero_le (show 0 ≤ j by omega)
    rw [Int.toNat_natCast] at hy
    have hnl : n < D.length := by omega
    have hzl := hdZ_len D i n
    have hyl : y.length ≤ 36 * 36 + 36 := by rw [hy, List.length_append]; omega
    have g1 : idx (D.map (·.1)) (n : Int) = some (D.getD n (0, 0, false)).1 := by rw [idx_nat, List.getElem?_map, hd_get hnl]; rfl
    have g2 : idx (D.map hdLit) (n : Int) = some (hdLit (D.getD n (0, 0, false))) := by rw [idx_nat, List.getElem?_map, hd_get hnl]; rfl
    have g3 : idx (D.map hdLit) (i : Int) = some (hdLit (D.getD i (0, 0, false))) := by rw [idx_nat, List.getElem?_map, hd_get hi]; rfl
    have hc : law_HardDots_g95 (D.map (·.1), D.map hdLit) (i : Int) (D.getD i (0, 0, false)).1 (n : Int) = some (hdC D i n) := by
      unfold law_HardDots_g95 hdC
      dsimp only
      rw [g1, bind_some', g3, bind_some', g2, bind_some', hd_conf (hok _ (List.mem_of_getElem? (hd_get hi))) (hok _ (List.mem_of_getElem? (hd_get hnl))), decide_eq_true (show i < n by omega)]
      cases ((D.getD i (0, 0, false)).1 == (D.getD n (0, 0, false)).1) <;> rfl
    have ht : ((n : Int) + 1).toNat = n + 1 := by omega
    refine ⟨.next (y ++ bif hdC D i n then [[(i : Int), (n : Int)]] else []), ?_, ?_⟩
    · unfold law_HardDots_b99 law_HardDots_g97
      rw [hc, bind_some']
      cases hdC D i n with
      | true => rw [cond_true, ck_ok (by omega), bind_some', bind_some', cond_true]
      | false => rw [cond_false, bind_some', cond_false, List.append_nil]
    · dsimp only
      rw [ht, hdZ_succ, hy, List.append_assoc]) (fun j y j0 j1 j2 hy => by
    have : j = D.length := by omega
    subst this
    rw [Int.toNat_natCast] at hy
    exact hy)
  rw [h1, h2]
def hdE (D : List HD) (n : Nat) : List (List Int) := (List.range n).flatMap fun i => hdZ D i D.length
theorem hdE_succ (D : List HD) (n : Nat) : hdE D (n + 1) = hdE D n ++ hdZ D n D.length := by
  unfold hdE
  rw [List.range_succ, List.flatMap_append]; simp
theorem hdE_len {D : List HD} (hD : D.length ≤ 36) : ∀ n, n ≤ 36 → (hdE D n).length ≤ 36 * n
  | 0, _ => by simp [hdE]
  | n + 1, h => by
    have := hdE_len hD n (by omega)
    have := hdZ_len D n D.length
    rw [hdE_succ, List.length_append]; omega
theorem hd_twos (E : List (List Int)) : ref_Twos E E = some true := by
  unfold ref_Twos
  have : ((List.length E : Int) != (List.length E : Int)) = false := by simp
  rw [this, cond_false]
  obtain ⟨y, h1, h2⟩ := forL_inv (body := ref_Twos_b1 E) (fin := fun _ => (Esc.brk () : Esc Bool Unit)) (l := E) (x := ()) (fun _ _ => True) (fun y => y = .brk ()) trivial (fun n a x hn hx => by
    refine ⟨.next (), ?_, trivial⟩
    unfold ref_Twos_b1
    rw [idx_nat, hn, bind_some', deqT_self (.arr 2 tI) rfl]; rfl) (fun x hx => rfl)
  rw [h1, h2]; rfl
theorem HardDots_true (a0 : Int) (a1 : List (List Int × List Int)) (f0 : Fits (.int .i64) a0) (f1 : Fits (.slice (.pair (.slice (.int .i64)) (.slice (.int .i64)))) a1) : law_HardDots a0 a1 = some true := by
  unfold law_HardDots hard_Dots
  rw [hc_wrong, hc_check]
  simp only [bind_some']
  by_cases h : hcAll a0 a1 = 0
  · obtain ⟨h1, h2, h3⟩ := hc_ok h
    obtain ⟨D, d1, d2, d3, d4⟩ := hd_dots h1.2 h2 h3
    rw [h, d1, d2]
    have e1 : forL (hard_Dots_b81 D) (fun x => x) D 0 [] = some (hdE D D.length) := by
      obtain ⟨y, q1, q2⟩ := forL_inv (body := hard_Dots_b81 D) (fin := fun x => x) (l := D) (x := []) (fun n y => y = hdE D n) (fun y => y = hdE D D.length) rfl (fun n a y hn hy => by
        have hnl := (List.getElem?_eq_some_iff.1 hn).1
        rw [hd_get hnl] at hn
        obtain rfl := Option.some.inj hn
        have hE := hdE_len d3 n (by omega)
        refine ⟨.next (hdE D (n + 1)), ?_, rfl⟩
        unfold hard_Dots_b81
        rw [hd_in d3 hnl y (by rw [hy]; omega), bind_some', hdE_succ, hy]) (fun y hy => hy)
      rw [q1, q2]
    have e2 : forL (law_HardDots_b102 (D.map (·.1), D.map hdLit)) (fun x => x) (D.map (·.1)) 0 [] = some (hdE D D.length) := by
      obtain ⟨y, q1, q2⟩ := forL_inv (body := law_HardDots_b102 (D.map (·.1), D.map hdLit)) (fin := fun x => x) (l := D.map (·.1)) (x := []) (fun n y => y = hdE D n) (fun y => y = hdE D D.length) rfl (fun n a y hn hy => by
        have hnl := (List.getElem?_eq_some_iff.1 hn).1
        rw [List.length_map] at hnl
        rw [List.getElem?_map, hd_get hnl] at hn
        obtain rfl := Option.some.inj hn
        have hE := hdE_len d3 n (by omega)
        refine ⟨.next (hdE D (n + 1)), ?_, rfl⟩
        unfold law_HardDots_b102
        dsimp only
        rw [hd_lin d3 d4 hnl y (by rw [hy]; omega), bind_some', hdE_succ, hy]) (fun y hy => by rw [List.length_map] at hy; exact hy)
      rw [q1, q2]
    simp only [bind_some']
    rw [e1, e2]
    simp [hd_twos]
  · have e1 : (hcAll a0 a1 != 0) = true := by simp [h]
    rw [e1]
    simp [e1, h]

end Go.Proofs.Ytmmlochcobihpaa.hardDots
namespace Go.Proofs.Ytmmlochcobihpaa.hardDots
open Go.ChangeShapes Go.WideShapes Go.ChangeAt Go.RowKit
open Go.ChangeMaps (open_string shut_string)
theorem own : ownKnob Try.prog.godebug = none := by kernel_rfl
theorem laidOut : laidOutB Try.prog = true := by kernel_rfl
theorem lifted (os : Os) (started : os.Started) (H : Type) (enc : TypeId × Value → H) :
    ReturnsInHanded {} Try.checked os 10 .any (Rows.hardDotsSpec.pre6 enc Try.prog Try.f10 Rows.hardDotsRow.domain false) (Rows.hardDotsSpec.post enc Try.prog Try.f10 false true false false) := by
  refine returnsInHanded_of_change (C := Try.checked) own started (by kernel_rfl) Try.func10
    (ChangeSpec.witness6 (enc := enc) (C := Try.checked) false ⟨#[], #[.int .i64 0, .slice none 0 0], []⟩ 8 (by kernel_rfl) (by kernel_rfl) (by kernel_rfl) (by kernel_rfl)) ?_
  intro W base args ds gs before hval0 hW hcnd _
  have hval : ∀ (j : Nat) t v, Try.f10.params[j]? = some t → args[j]? = some v → Value.okWide Try.prog W .any base t v := hval0
  have hW' := hW
  obtain ⟨p, q, hA0, hV, rfl, hfz, hnd⟩ := hW
  have hA : DataW.TrodAll enc Try.prog W 0 (fun _ => true) true Try.f10.params.toList args.toList ds p := hA0
  rw [Try.params10] at hA hval
  obtain ⟨v0, vs0, d0, ds0, p0, q0, hargs, rfl, rfl, h0, r0⟩ := trodAll_cons hA
  obtain ⟨v1, vs1, d1, ds1, p1, q1, rfl, rfl, rfl, h1, r1⟩ := trodAll_cons r0
  obtain ⟨rfl, rfl, rfl⟩ := trodAll_nil r1
  obtain rfl : args = #[v0, v1] := by cases args; simp_all
  obtain ⟨rfl, rfl⟩ := trodVars_none hV
  obtain ⟨x0, f0, k0⟩ := Go.Sl.read_arg (u := (.int .i64)) (by kernel_rfl) (by kernel_rfl) (hval 0 3 v0 rfl rfl) h0
  have lt0 : ∀ x ∈ p0, x.block < W.heap.size := by obtain ⟨m, hm⟩ := h0; exact DataW.trod_lt m _ _ _ hm
  obtain ⟨x1, f1, k1⟩ := Go.Sl.read_arg (u := (.slice (.pair (.slice (.int .i64)) (.slice (.int .i64))))) (by kernel_rfl) (by kernel_rfl) (hval 1 22 v1 rfl rfl) h1
  have lt1 : ∀ x ∈ p1, x.block < W.heap.size := by obtain ⟨m, hm⟩ := h1; exact DataW.trod_lt m _ _ _ hm
  clear hA0 hval0
  have hm := HardDots_true x0 x1 f0 f1
  refine (Go.Sl.law_of (vs := [v0, v1]) (law_HardDots_ok hm) rfl (.cons (k0 _ _) (.cons (k1 _ _) .nil))).mono fun e W' ⟨he, bel⟩ => ?_
  subst he
  exact ⟨_, rfl, _, _, _, [], _, [], hW', trodAll_mk1 (shut_bool Try.underlying4 _), (trodAll_cons_mk (Below.trod laidOut (by kernel_rfl) (of_decide_eq_true (by kernel_rfl)) h0 bel lt0) (trodAll_cons_mk (Below.trod laidOut (by kernel_rfl) (of_decide_eq_true (by kernel_rfl)) h1 bel lt1) trodAll_mk0)), rfl, bel.frame _, fun h => by cases h⟩
theorem proved : Rows.HardDotsSaid :=
  OpenClaim.holds_of_wide 10 Try.f10 rfl rfl rfl rfl rfl rfl rfl ⟨rfl, rfl, rfl, rfl, rfl⟩ rfl rfl rfl rfl rfl (by kernel_rfl) Try.func10 (by kernel_rfl)
    (of_decide_eq_true (by kernel_rfl)) (by unfold Func.isWrapper; first | (rw [if_pos (by decide +kernel)]; kernel_rfl) | (rw [if_neg (by decide +kernel)]; exact ⟨rfl, rfl⟩))
    (fun os started H enc _ => lifted os started H enc)
#print axioms proved
end Go.Proofs.Ytmmlochcobihpaa.hardDots
