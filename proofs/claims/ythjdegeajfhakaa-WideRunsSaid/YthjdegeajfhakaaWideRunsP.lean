/- For any orders and inputs wide.Run returns the specified results: WideRuns returns true and changes nothing; no conditions. -/
import Derived.Test.YthjdegeajfhakaaRows
import Derived.WalkKit
import Derived.ProofKit
import Derived.OpenShut
import Derived.ShutString
import Derived.ChangeOld
import Derived.Below
import Derived.Test.YthjdegeajfhakaaWideRunsM
set_option linter.all false
set_option maxRecDepth 100000
namespace Go.Proofs.Ythjdegeajfhakaa.wideRuns
open Go Go.Sl

theorem inside1 (n v : Int) : ref_Inside n [v] = some (decide (0 ≤ v ∧ v < n)) := by
  unfold ref_Inside
  rw [forL_ex (p := fun v => decide (v < 0) || decide (v ≥ n)) (y := Esc.ret false) (fun i a _ => by unfold ref_Inside_b1; cases (decide (a < 0) || decide (a ≥ n)) <;> rfl)]
  by_cases h : 0 ≤ v ∧ v < n
  · have : (decide (v < 0) || decide (v ≥ n)) = false := by simp only [Bool.or_eq_false_iff, decide_eq_false_iff_not]; omega
    simp [this, h]
  · have : (decide (v < 0) || decide (v ≥ n)) = true := by simp only [Bool.or_eq_true, decide_eq_true_eq]; omega
    simp [this, h]

theorem within_eq (a b c : Int) : ref_Within a b c = some (decide (a ≤ b ∧ b ≤ c)) := by
  unfold ref_Within
  rw [Bool.decide_and]

def chCl (v : Int) : Int := if 0 ≤ v ∧ v ≤ 4 then v else 5
theorem ch_idx (l : List Int) (i : Int) : idx (l.map chCl) i = (idx l i).map chCl := by
  unfold idx
  split
  · simp
  · rfl
theorem ch_is (l : List Int) : wide_is l = wide_is (l.map chCl) := by
  unfold wide_is
  congr 1
  refine forI_congr (fun i x _ _ => ?_)
  unfold wide_is_b7
  rw [ch_idx]
  cases idx l i with
  | none => rfl
  | some v =>
    simp only [Option.map_some, Option.bind_some]
    unfold chCl
    split
    · rfl
    · rename_i h
      have e : ∀ u : Int, ¬ (0 ≤ u ∧ u ≤ 4) → wide_is_g5 x u = some true := by
        intro u hu
        unfold wide_is_g5
        rw [bif_t (by simp only [Bool.or_eq_true, decide_eq_true_eq]; omega)]
      rw [e v h, e 5 (by omega)]; rfl
theorem ch_change (l : List Int) : ref_Change l = ref_Change (l.map chCl) := by
  unfold ref_Change
  congr 1
  refine forI_congr (fun x u h0 h1 => ?_)
  unfold ref_Change_b19
  congr 1
  refine forI_congr (fun i c _ _ => ?_)
  unfold ref_Change_b16
  rw [ch_idx]
  cases idx l i with
  | none => rfl
  | some v =>
    have : (chCl v == x) = (v == x) := by
      rw [beq_dec, beq_dec]
      unfold chCl
      split
      · rfl
      · exact decide_eq_decide.2 (by omega)
    simp only [Option.map_some, Option.bind_some, this]
theorem ch_dec : ∀ a b c d e : Fin 6, wide_is [(a.val : Int), (b.val : Int), (c.val : Int), (d.val : Int), (e.val : Int)] = ref_Change [(a.val : Int), (b.val : Int), (c.val : Int), (d.val : Int), (e.val : Int)] ∧
    (wide_is [(a.val : Int), (b.val : Int), (c.val : Int), (d.val : Int), (e.val : Int)] = some false ∨ (wide_is [(a.val : Int), (b.val : Int), (c.val : Int), (d.val : Int), (e.val : Int)] = some true ∧ a.val < 5 ∧ b.val < 5 ∧ c.val < 5 ∧ d.val < 5 ∧ e.val < 5)) := by
  decide +kernel
theorem ch_len {l : List Int} (h : l.length = 5) : ∃ a b c d e, l = [a, b, c, d, e] := by
  match l, h with
  | [a, b, c, d, e], _ => exact ⟨a, b, c, d, e, rfl⟩
theorem ch_fin (v : Int) : ∃ a : Fin 6, chCl v = (a.val : Int) := by
  unfold chCl
  split
  · exact ⟨⟨v.toNat, by omega⟩, by simp; omega⟩
  · exact ⟨5, rfl⟩
/-- both checks of a change say the same -/
theorem ch_both {l : List Int} (h : l.length = 5) : wide_is l = ref_Change l ∧ (ref_Change l = some false ∨ (ref_Change l = some true ∧ ∀ v ∈ l, 0 ≤ v ∧ v < 5)) := by
  obtain ⟨a, b, c, d, e, rfl⟩ := ch_len h
  obtain ⟨a', ha⟩ := ch_fin a
  obtain ⟨b', hb⟩ := ch_fin b
  obtain ⟨c', hc⟩ := ch_fin c
  obtain ⟨d', hd⟩ := ch_fin d
  obtain ⟨e', he⟩ := ch_fin e
  have := ch_dec a' b' c' d' e'
  have inr : ∀ v : Int, ∀ q : Fin 6, chCl v = (q.val : Int) → q.val < 5 → 0 ≤ v ∧ v < 5 := by
    intro v q hq hlt
    unfold chCl at hq
    split at hq <;> omega
  rw [ch_is, ch_change]
  simp only [List.map_cons, List.map_nil, ha, hb, hc, hd, he]
  refine ⟨this.1, ?_⟩
  rw [← this.1]
  rcases this.2 with h | ⟨h, h1, h2, h3, h4, h5⟩
  · exact .inl h
  · refine .inr ⟨h, ?_⟩
    intro v hv
    simp only [List.mem_cons, List.not_mem_nil, or_false] at hv
    rcases hv with rfl | rfl | rfl | rfl | rfl
    · exact inr _ _ ha h1
    · exact inr _ _ hb h2
    · exact inr _ _ hc h3
    · exact inr _ _ hd h4
    · exact inr _ _ he h5

theorem word_loop : ∀ (l : List Bool) (i : Nat) (x : Nat), i + l.length ≤ 60 → x < 2 ^ i → forL ref_Word_b5 (fun x => x) l (i : Int) (x : Int) = some ((x + 2 ^ i * wd l : Nat) : Int)
  | [], i, x, hi, hx => by simp [forL, wd]
  | b :: l, i, x, hi, hx => by
    simp only [List.length_cons] at hi
    have hp : 2 ^ i ≤ 2 ^ 60 := Nat.pow_le_pow_right (by omega) (by omega)
    have hs : ref_Word_b5 (i : Int) b (x : Int) = some (.next ((x + 2 ^ i * b.toNat : Nat) : Int)) := by
      unfold ref_Word_b5
      have e : IntKind.wrap .u64 (i : Int) = (i : Int) := wrap_u64 (by omega) (by omega)
      rw [e, ck_ok (by omega), bShl_one (by omega)]
      cases b with
      | true =>
        have : w64 ((x : Int) + ((2 ^ i : Nat) : Int)) = ((x + 2 ^ i * 1 : Nat) : Int) := by
          generalize 2 ^ i = p at *
          rw [w64_id (by omega) (by omega)]; omega
        simp only [cond_true, Option.bind_some, this]; rfl
      | false => simp
    have hb : b.toNat ≤ 1 := Bool.toNat_le b
    have hlt : x + 2 ^ i * b.toNat < 2 ^ (i + 1) := by
      have : 2 ^ i * b.toNat ≤ 2 ^ i * 1 := Nat.mul_le_mul_left _ hb
      rw [Nat.pow_succ]; omega
    simp only [forL, hs]
    have := word_loop l (i + 1) (x + 2 ^ i * b.toNat) (by omega) hlt
    rw [Int.natCast_add, Int.natCast_one] at this
    rw [this]
    congr 2
    simp only [wd]
    rw [Nat.mul_add, Nat.pow_succ, Nat.mul_assoc]
    omega
theorem word_eq (l : List Bool) (h : l.length ≤ 60) : ref_Word l = some ((wd l : Nat) : Int) := by
  unfold ref_Word
  have := word_loop l 0 0 (by omega) (by simp)
  simp only [Int.natCast_zero, Nat.pow_zero, Nat.one_mul, Nat.zero_add] at this
  rw [this]; rfl

theorem bit_eq {w i : Nat} (hw : w < 2 ^ 63) (hi : i < 63) : ref_Bit (w : Int) (i : Int) = some (w.testBit i) := by
  unfold ref_Bit
  have c : (decide ((i : Int) ≥ 0) && decide ((i : Int) < 63)) = true := by simp; omega
  have e : IntKind.wrap .u64 (i : Int) = (i : Int) := wrap_u64 (by omega) (by omega)
  rw [c, e, ck_ok (by omega)]
  simp only [cond_true, Option.bind_some, bit_mask hw hi]

abbrev T5 := Int × List Int × List Int
def five (t : T5) : Prop := t.2.1.length = 5 ∧ t.2.2.length = 5
def wrf (n : Int) (t : T5) : Option Int := bif !decide (0 ≤ t.1 ∧ t.1 < n) then some 4 else bif !((ref_Change t.2.1).getD false && (ref_Change t.2.2).getD false) then some 3 else none
def wrAll (n : Int) (l : List T5) : Int := bif !decide (0 ≤ n ∧ n ≤ 5) || decide ((l.length : Int) > 300) then 1 else (l.findSome? (wrf n)).getD 0
theorem wr_some {l : List Int} (h : l.length = 5) : ref_Change l = some ((ref_Change l).getD false) ∧ wide_is l = some ((ref_Change l).getD false) := by
  obtain ⟨h1, h2⟩ := ch_both h
  rcases h2 with h2 | ⟨h2, _⟩ <;> rw [h1, h2] <;> exact ⟨rfl, rfl⟩
theorem wr_check {n : Int} {l : List T5} (h5 : ∀ t ∈ l, five t) : ref_WideCheck n l = some (wrAll n l) := by
  unfold ref_WideCheck wrAll
  rw [within_eq, bind_some', forL_find (f := wrf n) (g := Esc.ret) (fun i t ht => by
    unfold ref_WideCheck_b4 wrf
    rw [inside1, bind_some', (wr_some (h5 t ht).1).1, bind_some', (wr_some (h5 t ht).2).1, bind_some']
    simp only [Option.getD_some]
    cases decide (0 ≤ t.1 ∧ t.1 < n) <;> cases (ref_Change t.2.1).getD false <;> cases (ref_Change t.2.2).getD false <;> rfl)]
  cases (!decide (0 ≤ n ∧ n ≤ 5) || decide ((l.length : Int) > 300)) <;> cases l.findSome? (wrf n) <;> rfl
theorem wr_loop {n : Int} {l : List T5} (h5 : ∀ t ∈ l, five t) : forL (wide_Run_b7 n) (fun x59 => (.brk ())) l 0 () = some ((l.findSome? (wrf n)).elim (Esc.brk () : Esc (List Int × Int) Unit) (fun e => Esc.ret ([0, 0, 0, 0, 0], e))) := by
  refine forL_find (f := wrf n) (g := fun e => (Esc.ret ([0, 0, 0, 0, 0], e) : Esc (List Int × Int) Unit)) (fun i t ht => ?_)
  unfold wide_Run_b7 wrf
  have e1 : (bif decide (t.1 < (0 : Int)) then (some true) else (some (decide (t.1 ≥ n)))) = some (!decide (0 ≤ t.1 ∧ t.1 < n)) := by
    rw [bif_some]; congr 1
    by_cases h : t.1 < 0
    · have : ¬ (0 ≤ t.1 ∧ t.1 < n) := by omega
      simp [h, this]
    · rw [decide_eq_false h, cond_false, not_dec]; exact decide_eq_decide.2 (by omega)
  rw [e1, bind_some', (wr_some (h5 t ht).1).2, bind_some', (wr_some (h5 t ht).2).2, bind_some']
  cases decide (0 ≤ t.1 ∧ t.1 < n) <;> cases (ref_Change t.2.1).getD false <;> cases (ref_Change t.2.2).getD false <;> rfl
theorem wr_ok {n : Int} {l : List T5} (h5 : ∀ t ∈ l, five t) (h : wrAll n l = 0) : (0 ≤ n ∧ n ≤ 5) ∧ l.length ≤ 300 ∧ l.findSome? (wrf n) = none ∧ ∀ t ∈ l, (0 ≤ t.1 ∧ t.1 < n) ∧ (∀ v ∈ t.2.1, 0 ≤ v ∧ v < 5) ∧ (∀ v ∈ t.2.2, 0 ≤ v ∧ v < 5) := by
  unfold wrAll at h
  cases hc : (!decide (0 ≤ n ∧ n ≤ 5) || decide ((l.length : Int) > 300)) with
  | true => rw [hc] at h; cases h
  | false =>
    rw [hc] at h
    simp only [Bool.or_eq_false_iff, Bool.not_eq_false', decide_eq_true_eq, decide_eq_false_iff_not] at hc
    have hn : l.findSome? (wrf n) = none := by
      cases hf : l.findSome? (wrf n) with
      | none => rfl
      | some e =>
        rw [hf] at h
        obtain ⟨t, _, ht⟩ := List.exists_of_findSome?_eq_some hf
        have : e = 0 := h
        subst this
        unfold wrf at ht
        cases h1 : !decide (0 ≤ t.1 ∧ t.1 < n) <;> rw [h1] at ht
        · cases h2 : !((ref_Change t.2.1).getD false && (ref_Change t.2.2).getD false) <;> rw [h2] at ht <;> simp at ht
        · simp at ht
    refine ⟨hc.1, by omega, hn, fun t ht => ?_⟩
    have := List.findSome?_eq_none_iff.1 hn t ht
    unfold wrf at this
    obtain ⟨h1, h2⟩ := bif_none this
    obtain ⟨h2, _⟩ := bif_none h2
    simp only [Bool.not_eq_false', decide_eq_true_eq, Bool.and_eq_true] at h1 h2
    have good : ∀ k : List Int, k.length = 5 → (ref_Change k).getD false = true → ∀ v ∈ k, 0 ≤ v ∧ v < 5 := by
      intro k hk hg
      rcases (ch_both hk).2 with e | ⟨_, e⟩
      · rw [e] at hg; cases hg
      · exact e
    exact ⟨h1, good _ (h5 t ht).1 h2.1, good _ (h5 t ht).2 h2.2⟩
def ap5 (b : List Int) (v : Int) : Int := b.getD v.toNat 0
theorem ap5_idx {b : List Int} (hb : b.length = 5) {v : Int} (hv : 0 ≤ v ∧ v < 5) : idx b v = some (ap5 b v) := by
  obtain ⟨u, h1, h2⟩ := idx_get (xs := b) hv.1 (by omega)
  unfold ap5
  rw [h1, List.getD_eq_getElem?_getD, h2]; rfl
theorem ap5_mem {b : List Int} (hb : b.length = 5) {v : Int} (hv : 0 ≤ v ∧ v < 5) : ap5 b v ∈ b := by
  obtain ⟨u, h1, h2⟩ := idx_get (xs := b) hv.1 (by omega)
  unfold ap5
  rw [List.getD_eq_getElem?_getD, h2]; exact List.mem_of_getElem? h2
/-- a list filled place by place -/
theorem fill5 {body : Int → List Int → Option (Flow (List Int) (List Int))} {f : Nat → Int} (hb : ∀ (i : Nat) (x : List Int), i < 5 → x.length = 5 → body (i : Int) x = some (.next (x.set i (f i)))) :
    forI (0 : Int) (5 : Int) body (fun x => x) [(0 : Int), 0, 0, 0, 0] = some [f 0, f 1, f 2, f 3, f 4] := by
  unfold forI
  rw [if_pos ⟨by omega, by omega⟩]
  show loopI body (fun x => x) 5 0 [(0 : Int), 0, 0, 0, 0] = _
  have h0 := hb 0 [0, 0, 0, 0, 0] (by omega) rfl
  have h1 := hb 1 [f 0, 0, 0, 0, 0] (by omega) rfl
  have h2 := hb 2 [f 0, f 1, 0, 0, 0] (by omega) rfl
  have h3 := hb 3 [f 0, f 1, f 2, 0, 0] (by omega) rfl
  have h4 := hb 4 [f 0, f 1, f 2, f 3, 0] (by omega) rfl
  simp only [List.set_cons_zero, List.set_cons_succ] at h0 h1 h2 h3 h4
  have i0 : ((0 : Nat) : Int) = 0 := rfl
  have i1 : ((1 : Nat) : Int) = 0 + 1 := rfl
  have i2 : ((2 : Nat) : Int) = 0 + 1 + 1 := rfl
  have i3 : ((3 : Nat) : Int) = 0 + 1 + 1 + 1 := rfl
  have i4 : ((4 : Nat) : Int) = 0 + 1 + 1 + 1 + 1 := rfl
  rw [i0] at h0; rw [i1] at h1; rw [i2] at h2; rw [i3] at h3; rw [i4] at h4
  simp only [loopI, h0, h1, h2, h3, h4]
theorem wr_then {g : Nat → Int} {b : List Int} (hb : b.length = 5) (hg : ∀ i, i < 5 → 0 ≤ g i ∧ g i < 5) : wide_then [g 0, g 1, g 2, g 3, g 4] b = some [ap5 b (g 0), ap5 b (g 1), ap5 b (g 2), ap5 b (g 3), ap5 b (g 4)] := by
  unfold wide_then
  rw [fill5 (f := fun i => ap5 b (g i)) (fun i x hi hx => ?_)]
  · rfl
  have hgi : idx [g 0, g 1, g 2, g 3, g 4] (i : Int) = some (g i) := by
    have : i = 0 ∨ i = 1 ∨ i = 2 ∨ i = 3 ∨ i = 4 := by omega
    rcases this with rfl | rfl | rfl | rfl | rfl <;> rfl
  have hxi : ∃ q, idx x (i : Int) = some q := by rw [idx_nat]; exact ⟨_, List.getElem?_eq_getElem (by omega)⟩
  obtain ⟨q, hq⟩ := hxi
  unfold wide_then_b1
  rw [hgi, bind_some', ck_ok (hg i hi), bind_some', ap5_idx hb (hg i hi), bind_some', ck_ok (show 0 ≤ (i : Int) ∧ (i : Int) < 5 by omega), bind_some', hq, bind_some', Int.toNat_natCast]
/-- one order -/
def st5 (w : Nat) (v : Int) (t : T5) : Int := ap5 (bif w.testBit t.1.toNat then t.2.2 else t.2.1) v
theorem wr_fold {w : Nat} {l : List T5} (h5 : ∀ t ∈ l, five t) (hr : ∀ t ∈ l, (∀ v ∈ t.2.1, 0 ≤ v ∧ v < 5) ∧ (∀ v ∈ t.2.2, 0 ≤ v ∧ v < 5)) : ∀ n v, 0 ≤ v ∧ v < 5 → 0 ≤ (l.take n).foldl (st5 w) v ∧ (l.take n).foldl (st5 w) v < 5 := by
  intro n v hv
  have : ∀ (m : List T5) (v : Int), (∀ t ∈ m, t ∈ l) → 0 ≤ v ∧ v < 5 → 0 ≤ m.foldl (st5 w) v ∧ m.foldl (st5 w) v < 5 := by
    intro m
    induction m with
    | nil => intro v _ hv; exact hv
    | cons t m ih =>
      intro v hm hv
      refine ih _ (fun t ht => hm t (by simp [ht])) ?_
      have htl := hm t (by simp)
      unfold st5
      cases w.testBit t.1.toNat with
      | true => exact (hr t htl).2 _ (ap5_mem (h5 t htl).2 hv)
      | false => exact (hr t htl).1 _ (ap5_mem (h5 t htl).1 hv)
  exact this _ _ (fun t ht => List.mem_of_mem_take ht) hv
theorem WideRuns_true (a0 : Int) (a1 : List (Int × (List Int × List Int))) (a2 : List Bool) (f0 : Fits (.int .i64) a0) (f1 : Fits (.slice (.pair (.int .i64) (.pair (.arr 5 (.int .i64)) (.arr 5 (.int .i64))))) a1) (f2 : Fits (.slice .bool) a2) : law_WideRuns a0 a1 a2 = some true := by
  have h5 : ∀ t ∈ a1, five t := fun t ht => by
    have := Fits.mem f1 ht
    exact ⟨this.2.1.1, this.2.2.1⟩
  unfold law_WideRuns wide_Run
  rw [wr_check h5, wr_loop h5]
  have e : (((decide (a0 < (0 : Int))) || (decide (a0 > (5 : Int)))) || (decide ((List.length a1 : Int) > (300 : Int)))) = (!decide (0 ≤ a0 ∧ a0 ≤ 5) || decide ((a1.length : Int) > 300)) := by
    congr 1
    rw [or_dec, not_dec]; exact decide_eq_decide.2 (by omega)
  rw [e]
  by_cases hz : wrAll a0 a1 = 0
  · obtain ⟨h1, h2, h3, h4⟩ := wr_ok h5 hz
    have e0 : (!decide (0 ≤ a0 ∧ a0 ≤ 5) || decide ((a1.length : Int) > 300)) = false := by
      rw [decide_eq_true h1, decide_eq_false (by omega)]; rfl
    rw [e0, h3, hz]
    by_cases hl : (a2.length : Int) = a0
    · have el : ((a2.length : Int) != a0) = false := by simp [hl]
      rw [el]
      simp only [cond_false, Option.elim, bind_some', BEq.rfl, Bool.and_false]
      have hp : forL (wide_Run_b17 a2) (fun x160 => x160) a1 0 [(0 : Int), (1 : Int), (2 : Int), (3 : Int), (4 : Int)] = some [a1.foldl (st5 (wd a2)) 0, a1.foldl (st5 (wd a2)) 1, a1.foldl (st5 (wd a2)) 2, a1.foldl (st5 (wd a2)) 3, a1.foldl (st5 (wd a2)) 4] := by
        obtain ⟨y, p1, p2⟩ := forL_inv (body := wide_Run_b17 a2) (fin := fun x => x) (l := a1) (x := [(0 : Int), 1, 2, 3, 4])
          (fun n x => x = [(a1.take n).foldl (st5 (wd a2)) ((0 : Nat) : Int), (a1.take n).foldl (st5 (wd a2)) ((1 : Nat) : Int), (a1.take n).foldl (st5 (wd a2)) ((2 : Nat) : Int), (a1.take n).foldl (st5 (wd a2)) ((3 : Nat) : Int), (a1.take n).foldl (st5 (wd a2)) ((4 : Nat) : Int)])
          (fun y => y = [a1.foldl (st5 (wd a2)) 0, a1.foldl (st5 (wd a2)) 1, a1.foldl (st5 (wd a2)) 2, a1.foldl (st5 (wd a2)) 3, a1.foldl (st5 (wd a2)) 4]) (by simp)
          (fun n t x ht hx => by
            subst hx
            have hm := List.mem_of_getElem? ht
            have hrange := fun i (hi : i < 5) => wr_fold (w := wd a2) h5 (fun t ht => (h4 t ht).2) n ((i : Nat) : Int) (by omega)
            obtain ⟨b, hb1, hb2⟩ := idx_get (xs := a2) (h4 t hm).1.1 (by rw [hl]; exact (h4 t hm).1.2)
            have hbit : (wd a2).testBit t.1.toNat = b := by rw [wd_bit, List.getD_eq_getElem?_getD, hb2]; rfl
            have hth := wr_then (g := fun i => (a1.take n).foldl (st5 (wd a2)) ((i : Nat) : Int)) (b := bif b then t.2.2 else t.2.1) (by cases b; exact (h5 t hm).1; exact (h5 t hm).2) hrange
            have htk : ∀ v, (a1.take (n + 1)).foldl (st5 (wd a2)) v = ap5 (bif b then t.2.2 else t.2.1) ((a1.take n).foldl (st5 (wd a2)) v) := by
              intro v
              rw [List.take_add_one, ht, List.foldl_append]
              simp only [Option.toList, List.foldl_cons, List.foldl_nil, st5, hbit]
            refine ⟨.next [(a1.take (n + 1)).foldl (st5 (wd a2)) ((0 : Nat) : Int), (a1.take (n + 1)).foldl (st5 (wd a2)) ((1 : Nat) : Int), (a1.take (n + 1)).foldl (st5 (wd a2)) ((2 : Nat) : Int), (a1.take (n + 1)).foldl (st5 (wd a2)) ((3 : Nat) : Int), (a1.take (n + 1)).foldl (st5 (wd a2)) ((4 : Nat) : Int)], ?_, rfl⟩
            unfold wide_Run_b17 wide_Run_g15
            rw [hb1, bind_some']
            simp only [htk]
            cases b
            · simp only [cond_false] at hth ⊢; rw [hth]; rfl
            · simp only [cond_true] at hth ⊢; rw [hth]; rfl)
          (fun x hx => by rw [hx, List.take_length]; rfl)
        rw [p1, p2]
      have hq : ref_Wide a1 ((wd a2 : Nat) : Int) = some [a1.foldl (st5 (wd a2)) 0, a1.foldl (st5 (wd a2)) 1, a1.foldl (st5 (wd a2)) 2, a1.foldl (st5 (wd a2)) 3, a1.foldl (st5 (wd a2)) 4] := by
        have hw : wd a2 < 2 ^ 60 := Nat.lt_of_lt_of_le (wd_lt a2) (Nat.pow_le_pow_right (by omega) (by omega))
        unfold ref_Wide
        rw [fill5 (f := fun i => a1.foldl (st5 (wd a2)) ((i : Nat) : Int)) (fun i x hi hx => ?_)]
        · rfl
        have hxi : ∃ q, idx x (i : Int) = some q := by rw [idx_nat]; exact ⟨_, List.getElem?_eq_getElem (by omega)⟩
        obtain ⟨q, hq⟩ := hxi
        have hin : forL (ref_Wide_b22 ((wd a2 : Nat) : Int)) (fun x269 => x269) a1 0 (i : Int) = some (a1.foldl (st5 (wd a2)) ((i : Nat) : Int)) := by
          obtain ⟨y, p1, p2⟩ := forL_inv (body := ref_Wide_b22 ((wd a2 : Nat) : Int)) (fin := fun x => x) (l := a1) (x := (i : Int)) (fun n x => x = (a1.take n).foldl (st5 (wd a2)) ((i : Nat) : Int)) (fun y => y = a1.foldl (st5 (wd a2)) ((i : Nat) : Int)) (by simp)
            (fun n t x ht hx => by
              subst hx
              have hm := List.mem_of_getElem? ht
              have hv := wr_fold (w := wd a2) h5 (fun t ht => (h4 t ht).2) n ((i : Nat) : Int) (by omega)
              obtain ⟨j, hj⟩ := Int.eq_ofNat_of_zero_le (h4 t hm).1.1
              have hj5 : j < 60 := by have := (h4 t hm).1.2; omega
              refine ⟨.next ((a1.take (n + 1)).foldl (st5 (wd a2)) ((i : Nat) : Int)), ?_, rfl⟩
              · unfold ref_Wide_b22
                rw [hj, bit_eq (by omega) (by omega), bind_some']
                have : (bif (wd a2).testBit j then (idx t.2.2 ((a1.take n).foldl (st5 (wd a2)) ((i : Nat) : Int))).bind fun v291 => some v291 else (idx t.2.1 ((a1.take n).foldl (st5 (wd a2)) ((i : Nat) : Int))).bind fun v293 => some v293) = some (st5 (wd a2) ((a1.take n).foldl (st5 (wd a2)) ((i : Nat) : Int)) t) := by
                  rw [ap5_idx (h5 t hm).2 hv, ap5_idx (h5 t hm).1 hv]
                  unfold st5
                  rw [show t.1.toNat = j by omega]
                  cases (wd a2).testBit j <;> rfl
                rw [this, bind_some', List.take_add_one, ht, List.foldl_append]; rfl)
            (fun x hx => by rw [hx, List.take_length])
          rw [p1, p2]
        unfold ref_Wide_b25
        rw [hin, bind_some', ck_ok (show 0 ≤ (i : Int) ∧ (i : Int) < 5 by omega), bind_some', hq, bind_some', Int.toNat_natCast]
      rw [hp, word_eq a2 (by omega)]
      simp only [bind_some', cond_true, bne_self_eq_false, cond_false, BEq.rfl, hq, Bool.true_and]
      rw [deqT_self (.arr 5 tI) rfl]
    · have el : ((a2.length : Int) != a0) = true := by simp [hl]
      rw [el]
      have hd : deqT (.arr 5 tI) [(0 : Int), 0, 0, 0, 0] [(0 : Int), 0, 0, 0, 0] = true := deqT_self (.arr 5 tI) rfl _
      simp only [Option.elim, cond_false, cond_true, bind_some', BEq.rfl, Bool.and_self, hd]
      rfl
  · have hd : deqT (.arr 5 tI) [(0 : Int), 0, 0, 0, 0] [(0 : Int), 0, 0, 0, 0] = true := deqT_self (.arr 5 tI) rfl _
    have e1 : (wrAll a0 a1 != 0) = true := by simp [hz]
    have e2 : (wrAll a0 a1 == 0) = false := by simp [hz]
    simp only [bind_some', e2, Bool.false_and, cond_false, e1, cond_true]
    unfold wrAll at hz ⊢
    cases hc : (!decide (0 ≤ a0 ∧ a0 ≤ 5) || decide ((a1.length : Int) > 300)) with
    | true => simp [hd]
    | false =>
      rw [hc] at hz
      cases hf : a1.findSome? (wrf a0) with
      | none => rw [hf] at hz; exact (hz rfl).elim
      | some z => simp [hd]

end Go.Proofs.Ythjdegeajfhakaa.wideRuns
namespace Go.Proofs.Ythjdegeajfhakaa.wideRuns
open Go.ChangeShapes Go.WideShapes Go.ChangeAt Go.RowKit
open Go.ChangeMaps (open_string shut_string)
theorem own : ownKnob Try.prog.godebug = none := by kernel_rfl
theorem laidOut : laidOutB Try.prog = true := by kernel_rfl
theorem lifted (os : Os) (started : os.Started) (H : Type) (enc : TypeId × Value → H) :
    ReturnsInHanded {} Try.checked os 6 .any (Rows.wideRunsSpec.pre6 enc Try.prog Try.f6 Rows.wideRunsRow.domain false) (Rows.wideRunsSpec.post enc Try.prog Try.f6 false true false false) := by
  refine returnsInHanded_of_change (C := Try.checked) own started (by kernel_rfl) Try.func6
    (ChangeSpec.witness6 (enc := enc) (C := Try.checked) false ⟨#[], #[.int .i64 0, .slice none 0 0, .slice none 0 0], []⟩ 8 (by kernel_rfl) (by kernel_rfl) (by kernel_rfl) (by kernel_rfl)) ?_
  intro W base args ds gs before hval0 hW hcnd _
  have hval : ∀ (j : Nat) t v, Try.f6.params[j]? = some t → args[j]? = some v → Value.okWide Try.prog W .any base t v := hval0
  have hW' := hW
  obtain ⟨p, q, hA0, hV, rfl, hfz, hnd⟩ := hW
  have hA : DataW.TrodAll enc Try.prog W 0 (fun _ => true) true Try.f6.params.toList args.toList ds p := hA0
  rw [Try.params6] at hA hval
  obtain ⟨v0, vs0, d0, ds0, p0, q0, hargs, rfl, rfl, h0, r0⟩ := trodAll_cons hA
  obtain ⟨v1, vs1, d1, ds1, p1, q1, rfl, rfl, rfl, h1, r1⟩ := trodAll_cons r0
  obtain ⟨v2, vs2, d2, ds2, p2, q2, rfl, rfl, rfl, h2, r2⟩ := trodAll_cons r1
  obtain ⟨rfl, rfl, rfl⟩ := trodAll_nil r2
  obtain rfl : args = #[v0, v1, v2] := by cases args; simp_all
  obtain ⟨rfl, rfl⟩ := trodVars_none hV
  obtain ⟨x0, f0, k0⟩ := Go.Sl.read_arg (u := (.int .i64)) (by kernel_rfl) (by kernel_rfl) (hval 0 3 v0 rfl rfl) h0
  have lt0 : ∀ x ∈ p0, x.block < W.heap.size := by obtain ⟨m, hm⟩ := h0; exact DataW.trod_lt m _ _ _ hm
  obtain ⟨x1, f1, k1⟩ := Go.Sl.read_arg (u := (.slice (.pair (.int .i64) (.pair (.arr 5 (.int .i64)) (.arr 5 (.int .i64)))))) (by kernel_rfl) (by kernel_rfl) (hval 1 45 v1 rfl rfl) h1
  have lt1 : ∀ x ∈ p1, x.block < W.heap.size := by obtain ⟨m, hm⟩ := h1; exact DataW.trod_lt m _ _ _ hm
  obtain ⟨x2, f2, k2⟩ := Go.Sl.read_arg (u := (.slice .bool)) (by kernel_rfl) (by kernel_rfl) (hval 2 40 v2 rfl rfl) h2
  have lt2 : ∀ x ∈ p2, x.block < W.heap.size := by obtain ⟨m, hm⟩ := h2; exact DataW.trod_lt m _ _ _ hm
  clear hA0 hval0
  have hm := WideRuns_true x0 x1 x2 f0 f1 f2
  refine (Go.Sl.law_of (vs := [v0, v1, v2]) (law_WideRuns_ok hm) rfl (.cons (k0 _ _) (.cons (k1 _ _) (.cons (k2 _ _) .nil)))).mono fun e W' ⟨he, bel⟩ => ?_
  subst he
  exact ⟨_, rfl, _, _, _, [], _, [], hW', trodAll_mk1 (shut_bool Try.underlying4 _), (trodAll_cons_mk (Below.trod laidOut (by kernel_rfl) (of_decide_eq_true (by kernel_rfl)) h0 bel lt0) (trodAll_cons_mk (Below.trod laidOut (by kernel_rfl) (of_decide_eq_true (by kernel_rfl)) h1 bel lt1) (trodAll_cons_mk (Below.trod laidOut (by kernel_rfl) (of_decide_eq_true (by kernel_rfl)) h2 bel lt2) trodAll_mk0))), rfl, bel.frame _, fun h => by cases h⟩
theorem proved : Rows.WideRunsSaid :=
  OpenClaim.holds_of_wide 6 Try.f6 rfl rfl rfl rfl rfl rfl rfl ⟨rfl, rfl, rfl, rfl, rfl⟩ rfl rfl rfl rfl rfl (by kernel_rfl) Try.func6 (by kernel_rfl)
    (of_decide_eq_true (by kernel_rfl)) (by unfold Func.isWrapper; first | (rw [if_pos (by decide +kernel)]; kernel_rfl) | (rw [if_neg (by decide +kernel)]; exact ⟨rfl, rfl⟩))
    (fun os started H enc _ => lifted os started H enc)
#print axioms proved
end Go.Proofs.Ythjdegeajfhakaa.wideRuns
