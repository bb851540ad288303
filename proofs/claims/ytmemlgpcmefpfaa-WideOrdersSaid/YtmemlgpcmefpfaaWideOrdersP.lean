/- For any change wide.Order returns the specified results: WideOrders returns true and changes nothing; no conditions. -/
import Derived.Test.YtmemlgpcmefpfaaRows
import Derived.WalkKit
import Derived.ProofKit
import Derived.OpenShut
import Derived.ShutString
import Derived.ChangeOld
import Derived.Below
import Derived.Test.YtmemlgpcmefpfaaWideOrdersM
set_option linter.all false
set_option maxRecDepth 100000
namespace Go.Proofs.Ytmemlgpcmefpfaa.wideOrders
open Go Go.Sl

def chCl (v : Int) : Int := if 0 ≤ v ∧ v ≤ 4 then v else 5
theorem ch_idx (l : List Int) (i : Int) : idx (l.map chCl) i = (idx l i).map chCl := by
  unfold idx
  split
  · simp
  · rfl
theorem ch_is (l : List Int) : wide_is l = wide_is (l.map chCl) := by
  unfold wide_is
  congr 1
  refine forI_congr (fun i x _ _ => ?_)
  unfold wide_is_b7
  rw [ch_idx]
  cases idx l i with
  | none => rfl
  | some v =>
    simp only [Option.map_some, Option.bind_some]
    unfold chCl
    split
    · rfl
    · rename_i h
      have e : ∀ u : Int, ¬ (0 ≤ u ∧ u ≤ 4) → wide_is_g5 x u = some true := by
        intro u hu
        unfold wide_is_g5
        rw [bif_t (by simp only [Bool.or_eq_true, decide_eq_true_eq]; omega)]
      rw [e v h, e 5 (by omega)]; rfl
theorem ch_change (l : List Int) : ref_Change l = ref_Change (l.map chCl) := by
  unfold ref_Change
  congr 1
  refine forI_congr (fun x u h0 h1 => ?_)
  unfold ref_Change_b19
  congr 1
  refine forI_congr (fun i c _ _ => ?_)
  unfold ref_Change_b16
  rw [ch_idx]
  cases idx l i with
  | none => rfl
  | some v =>
    have : (chCl v == x) = (v == x) := by
      rw [beq_dec, beq_dec]
      unfold chCl
      split
      · rfl
      · exact decide_eq_decide.2 (by omega)
    simp only [Option.map_some, Option.bind_some, this]
theorem ch_dec : ∀ a b c d e : Fin 6, wide_is [(a.val : Int), (b.val : Int), (c.val : Int), (d.val : Int), (e.val : Int)] = ref_Change [(a.val : Int), (b.val : Int), (c.val : Int), (d.val : Int), (e.val : Int)] ∧
    (wide_is [(a.val : Int), (b.val : Int), (c.val : Int), (d.val : Int), (e.val : Int)] = some false ∨ (wide_is [(a.val : Int), (b.val : Int), (c.val : Int), (d.val : Int), (e.val : Int)] = some true ∧ a.val < 5 ∧ b.val < 5 ∧ c.val < 5 ∧ d.val < 5 ∧ e.val < 5)) := by
  decide +kernel
theorem ch_len {l : List Int} (h : l.length = 5) : ∃ a b c d e, l = [a, b, c, d, e] := by
  match l, h with
  | [a, b, c, d, e], _ => exact ⟨a, b, c, d, e, rfl⟩
theorem ch_fin (v : Int) : ∃ a : Fin 6, chCl v = (a.val : Int) := by
  unfold chCl
  split
  · exact ⟨⟨v.toNat, by omega⟩, by simp; omega⟩
  · exact ⟨5, rfl⟩
/-- both checks of a change say the same -/
theorem ch_both {l : List Int} (h : l.length = 5) : wide_is l = ref_Change l ∧ (ref_Change l = some false ∨ (ref_Change l = some true ∧ ∀ v ∈ l, 0 ≤ v ∧ v < 5)) := by
  obtain ⟨a, b, c, d, e, rfl⟩ := ch_len h
  obtain ⟨a', ha⟩ := ch_fin a
  obtain ⟨b', hb⟩ := ch_fin b
  obtain ⟨c', hc⟩ := ch_fin c
  obtain ⟨d', hd⟩ := ch_fin d
  obtain ⟨e', he⟩ := ch_fin e
  have := ch_dec a' b' c' d' e'
  have inr : ∀ v : Int, ∀ q : Fin 6, chCl v = (q.val : Int) → q.val < 5 → 0 ≤ v ∧ v < 5 := by
    intro v q hq hlt
    unfold chCl at hq
    split at hq <;> omega
  rw [ch_is, ch_change]
  simp only [List.map_cons, List.map_nil, ha, hb, hc, hd, he]
  refine ⟨this.1, ?_⟩
  rw [← this.1]
  rcases this.2 with h | ⟨h, h1, h2, h3, h4, h5⟩
  · exact .inl h
  · refine .inr ⟨h, ?_⟩
    intro v hv
    simp only [List.mem_cons, List.not_mem_nil, or_false] at hv
    rcases hv with rfl | rfl | rfl | rfl | rfl
    · exact inr _ _ ha h1
    · exact inr _ _ hb h2
    · exact inr _ _ hc h3
    · exact inr _ _ hd h4
    · exact inr _ _ he h5
theorem ch_then (a b : List Int) : wide_then a b = ref_Then a b := by
  have h : ∀ x : List Int, forI 0 5 (wide_then_b1 a b) (fun x => x) x = forI 0 5 (ref_Then_b1 a b) (fun x => x) x := by
    intro x
    refine forI_congr (fun i x _ _ => ?_)
    unfold wide_then_b1 ref_Then_b1
    cases idx a i with
    | none => cases ck (0 ≤ i ∧ i < 5) <;> rfl
    | some v =>
      simp only [Option.bind_some]
      cases ck (0 ≤ i ∧ i < 5) <;> cases ck (0 ≤ v ∧ v < 5) <;> cases idx b v <;> cases idx x i <;> rfl
  unfold wide_then ref_Then
  rw [h]
/-- what comes of two changes -/
theorem ch_thentotal {a b : List Int} (ha : a.length = 5) (hb : b.length = 5) (hr : ∀ v ∈ a, 0 ≤ v ∧ v < 5) : ∃ c, ref_Then a b = some c ∧ c.length = 5 ∧ ∀ v ∈ c, v ∈ b ∨ v = 0 := by
  obtain ⟨c, hc, hl, hv⟩ := forI_inv (lo := 0) (hi := 5) (body := ref_Then_b1 a b) (fin := fun x => x) (x := [(0 : Int), 0, 0, 0, 0]) (fun _ x => x.length = 5 ∧ ∀ v ∈ x, v ∈ b ∨ v = 0) (fun x => x.length = 5 ∧ ∀ v ∈ x, v ∈ b ∨ v = 0) (by omega) (by omega) ⟨rfl, by simp⟩
    (by
      rintro i x h0 h1 ⟨hx, hm⟩
      obtain ⟨v, hv, hv2⟩ := idx_get (xs := a) h0 (by omega)
      have hvr := hr v (List.mem_of_getElem? hv2)
      obtain ⟨u, hu, hu2⟩ := idx_get (xs := b) hvr.1 (by omega)
      obtain ⟨o, ho, _⟩ := idx_get (xs := x) h0 (by omega)
      refine ⟨.next (x.set i.toNat u), ?_, by simpa using hx, ?_⟩
      · unfold ref_Then_b1
        rw [ck_ok ⟨h0, h1⟩, hv]
        simp only [Option.bind_some]
        rw [ck_ok hvr, hu, ho]; rfl
      · intro w hw
        rcases List.mem_or_eq_of_mem_set hw with hw | rfl
        · exact hm w hw
        · exact .inl (List.mem_of_getElem? hu2))
    (by rintro i x _ _ _ h; exact h)
  exact ⟨c, by unfold ref_Then; rw [hc]; rfl, hl, hv⟩

theorem wo_dec : ∀ a b c d e : Fin 5, wide_is [(a.val : Int), (b.val : Int), (c.val : Int), (d.val : Int), (e.val : Int)] = some true →
    (iter (wide_Order_b1 [(a.val : Int), (b.val : Int), (c.val : Int), (d.val : Int), (e.val : Int)]) 10 ((1 : Int), [(a.val : Int), (b.val : Int), (c.val : Int), (d.val : Int), (e.val : Int)])).isSome = true := by
  decide +kernel
theorem WideOrders_true (a0 : List Int) (f0 : Fits (.arr 5 (.int .i64)) a0) : ∃ fuel, law_WideOrders fuel a0 = some true := by
  refine ⟨10, ?_⟩
  have l0 : a0.length = 5 := f0.1
  obtain ⟨p0, q0⟩ := ch_both l0
  have hb : law_WideOrders_b1 a0 = wide_Order_b1 a0 := by
    funext x
    unfold law_WideOrders_b1 wide_Order_b1 ref_Same
    rw [ch_then]; rfl
  unfold law_WideOrders wide_Order
  rw [p0, hb]
  rcases q0 with q0 | ⟨q0, r0⟩
  · rw [q0]; rfl
  · rw [q0]
    obtain ⟨a, b, c, d, e, rfl⟩ := ch_len l0
    have fin : ∀ v, v ∈ [a, b, c, d, e] → ∃ q : Fin 5, v = (q.val : Int) := by
      intro v hv
      have := r0 v hv
      exact ⟨⟨v.toNat, by omega⟩, by simp; omega⟩
    obtain ⟨a', rfl⟩ := fin a (by simp)
    obtain ⟨b', rfl⟩ := fin b (by simp)
    obtain ⟨c', rfl⟩ := fin c (by simp)
    obtain ⟨d', rfl⟩ := fin d (by simp)
    obtain ⟨e', rfl⟩ := fin e (by simp)
    have := wo_dec a' b' c' d' e' (by rw [p0, q0])
    obtain ⟨y, hy⟩ := Option.isSome_iff_exists.1 this
    rw [hy]
    simp

end Go.Proofs.Ytmemlgpcmefpfaa.wideOrders
namespace Go.Proofs.Ytmemlgpcmefpfaa.wideOrders
open Go.ChangeShapes Go.WideShapes Go.ChangeAt Go.RowKit
open Go.ChangeMaps (open_string shut_string)
theorem own : ownKnob Try.prog.godebug = none := by kernel_rfl
theorem laidOut : laidOutB Try.prog = true := by kernel_rfl
theorem lifted (os : Os) (started : os.Started) (H : Type) (enc : TypeId × Value → H) :
    ReturnsInHanded {} Try.checked os 9 .any (Rows.wideOrdersSpec.pre6 enc Try.prog Try.f9 Rows.wideOrdersRow.domain false) (Rows.wideOrdersSpec.post enc Try.prog Try.f9 false true false false) := by
  refine returnsInHanded_of_change (C := Try.checked) own started (by kernel_rfl) Try.func9
    (ChangeSpec.witness6 (enc := enc) (C := Try.checked) false ⟨#[], #[.agg #[.int .i64 0, .int .i64 0, .int .i64 0, .int .i64 0, .int .i64 0]], []⟩ 8 (by kernel_rfl) (by kernel_rfl) (by kernel_rfl) (by kernel_rfl)) ?_
  intro W base args ds gs before hval0 hW hcnd _
  have hval : ∀ (j : Nat) t v, Try.f9.params[j]? = some t → args[j]? = some v → Value.okWide Try.prog W .any base t v := hval0
  have hW' := hW
  obtain ⟨p, q, hA0, hV, rfl, hfz, hnd⟩ := hW
  have hA : DataW.TrodAll enc Try.prog W 0 (fun _ => true) true Try.f9.params.toList args.toList ds p := hA0
  rw [Try.params9] at hA hval
  obtain ⟨v0, vs0, d0, ds0, p0, q0, hargs, rfl, rfl, h0, r0⟩ := trodAll_cons hA
  obtain ⟨rfl, rfl, rfl⟩ := trodAll_nil r0
  obtain rfl : args = #[v0] := by cases args; simp_all
  obtain ⟨rfl, rfl⟩ := trodVars_none hV
  obtain ⟨x0, f0, k0⟩ := Go.Sl.read_arg (u := (.arr 5 (.int .i64))) (by kernel_rfl) (by kernel_rfl) (hval 0 44 v0 rfl rfl) h0
  have lt0 : ∀ x ∈ p0, x.block < W.heap.size := by obtain ⟨m, hm⟩ := h0; exact DataW.trod_lt m _ _ _ hm
  clear hA0 hval0
  obtain ⟨fuel, hm⟩ := WideOrders_true x0 f0
  refine (Go.Sl.law_of (vs := [v0]) (law_WideOrders_ok hm) rfl (.cons (k0 _ _) .nil)).mono fun e W' ⟨he, bel⟩ => ?_
  subst he
  exact ⟨_, rfl, _, _, _, [], _, [], hW', trodAll_mk1 (shut_bool Try.underlying4 _), (trodAll_cons_mk (Below.trod laidOut (by kernel_rfl) (of_decide_eq_true (by kernel_rfl)) h0 bel lt0) trodAll_mk0), rfl, bel.frame _, fun h => by cases h⟩
theorem proved : Rows.WideOrdersSaid :=
  OpenClaim.holds_of_wide 9 Try.f9 rfl rfl rfl rfl rfl rfl rfl ⟨rfl, rfl, rfl, rfl, rfl⟩ rfl rfl rfl rfl rfl (by kernel_rfl) Try.func9 (by kernel_rfl)
    (of_decide_eq_true (by kernel_rfl)) (by unfold Func.isWrapper; first | (rw [if_pos (by decide +kernel)]; kernel_rfl) | (rw [if_neg (by decide +kernel)]; exact ⟨rfl, rfl⟩))
    (fun os started H enc _ => lifted os started H enc)
#print axioms proved
end Go.Proofs.Ytmemlgpcmefpfaa.wideOrders
