/- For any sets and weights lone.Least returns the specified results: LoneLeasts returns true and changes nothing; no conditions. -/
import Derived.Test.YtkkmiclmbhbmjaaRows
import Derived.WalkKit
import Derived.ProofKit
import Derived.OpenShut
import Derived.ShutString
import Derived.ChangeOld
import Derived.Below
import Derived.Test.YtkkmiclmbhbmjaaLoneLeastsM
set_option linter.all false
set_option maxRecDepth 100000
namespace Go.Proofs.Ytkkmiclmbhbmjaa.loneLeasts
open Go Go.Sl

theorem mget_mput {α β : Type} {eq : α → α → Bool} [DecidableEq α] (heq : ∀ a b, eq a b = true ↔ a = b) : ∀ (l : List (α × β)) (x : α) (y : β) (z : α), mGet eq (mPut eq l x y) z = if z = x then some y else mGet eq l z
  | [], x, y, z => by
    by_cases h : z = x
    · simp [mPut, mGet, h, (heq x x).2 rfl]
    · have : eq z x = false := by cases hh : eq z x with | false => rfl | true => exact (h ((heq _ _).1 hh)).elim
      simp [mPut, mGet, h, this]
  | p :: l, x, y, z => by
    have hf : ∀ {a b}, a ≠ b → eq a b = false := by
      intro a b h
      cases hh : eq a b with | false => rfl | true => exact (h ((heq _ _).1 hh)).elim
    by_cases hp : x = p.1
    · have e1 : eq x p.1 = true := (heq _ _).2 hp
      by_cases h : z = x
      · simp [mPut, mGet, e1, h, (heq x x).2 rfl]
      · simp [mPut, mGet, e1, h, hf h, hf (fun e => h (e.trans hp.symm))]
    · have e1 : eq x p.1 = false := hf hp
      by_cases hz : z = p.1
      · have e2 : eq z p.1 = true := (heq _ _).2 hz
        have hzx : z ≠ x := fun e => hp (e ▸ hz)
        simp [mPut, mGet, e1, e2, hzx]
      · simp only [mPut, e1, Bool.false_eq_true, if_false, mGet, hf hz]
        exact mget_mput heq l x y z
theorem deqI {k : IntKind} (a b : Int) : deqT (.int k) a b = true ↔ a = b := by simp [deqT]

theorem within_eq (a b c : Int) : ref_Within a b c = some (decide (a ≤ b ∧ b ≤ c)) := by
  unfold ref_Within
  rw [Bool.decide_and]

/-- what a list of sets is told -/
def lw (n : Int) (l : List Int) : Int :=
  if ¬ (1 ≤ n ∧ n ≤ 5) ∨ ¬ (1 ≤ (l.length : Int) ∧ (l.length : Int) ≤ 200) then 1 else
  if l.any (fun s => decide (2 ^ n.toNat ≤ s)) then 4 else (firstOf (fun k s => if s ∈ l.take k then some 3 else none) 0 l).getD 0
theorem lone_shr {n s : Int} (h1 : 1 ≤ n) (h5 : n ≤ 5) (hs : 0 ≤ s) : (bShr .u32 s n != 0) = decide (2 ^ n.toNat ≤ s) := by
  obtain ⟨m, rfl⟩ := Int.eq_ofNat_of_zero_le hs
  obtain ⟨k, rfl⟩ := Int.eq_ofNat_of_zero_le (show 0 ≤ n by omega)
  rw [bShr_nat (by omega), bne_dec]
  refine decide_eq_decide.2 ?_
  rw [Int.toNat_natCast]
  have hp : 0 < 2 ^ k := Nat.two_pow_pos k
  constructor
  · intro h
    have h2 : m / 2 ^ k ≠ 0 := by omega
    have : 2 ^ k ≤ m := by
      rcases Nat.lt_or_ge m (2 ^ k) with h3 | h3
      · exact (h2 (Nat.div_eq_of_lt h3)).elim
      · exact h3
    exact_mod_cast this
  · intro h
    have h3 : 2 ^ k ≤ m := by exact_mod_cast h
    have := Nat.div_pos h3 hp
    omega
theorem lone_shl {n : Int} (h1 : 1 ≤ n) (h5 : n ≤ 5) : bShl .u32 1 (IntKind.wrap .u64 n) = 2 ^ n.toNat := by
  rw [wrap_u64 (by omega) (by omega)]
  have : n = 1 ∨ n = 2 ∨ n = 3 ∨ n = 4 ∨ n = 5 := by omega
  rcases this with rfl | rfl | rfl | rfl | rfl <;> decide
theorem lone_any {p : Int → Bool} {b : Int → Option Bool} : ∀ {l : List Int}, (∀ s ∈ l, b s = some (p s)) → ∀ {i : Int},
    ∃ y, forL (fun i s (_ : Unit) => (b s).bind fun r => bif r then some (.done (.ret i)) else some (.next ())) (fun _ => (.brk () : Esc Int Unit)) l i () = some y ∧ (0 ≤ i → (match y with | .ret v => l.any p = true ∧ 0 ≤ v | .brk _ => l.any p = false))
  | [], _, i => ⟨.brk (), rfl, fun _ => rfl⟩
  | a :: l, h, i => by
    rw [forL, h a (by simp), bind_some']
    cases hp : p a with
    | true => exact ⟨.ret i, rfl, fun h0 => ⟨by simp [hp], h0⟩⟩
    | false =>
      obtain ⟨y, h1, h2⟩ := lone_any (p := p) (b := b) (l := l) (fun s hs => h s (by simp [hs])) (i := i + 1)
      refine ⟨y, h1, fun h0 => ?_⟩
      have := h2 (by omega)
      cases y with
      | ret v => simpa [hp] using this
      | brk u => simpa [hp] using this
theorem lone_has {n : Int} {l : List Int} (h1 : 1 ≤ n) (h5 : n ≤ 5) (hl : ∀ s ∈ l, 0 ≤ s) : slices_ContainsFunc_Luint32uint32_with_lone_wrong_1 l n = some (l.any fun s => decide (2 ^ n.toNat ≤ s)) := by
  unfold slices_ContainsFunc_Luint32uint32_with_lone_wrong_1 slices_IndexFunc_Luint32uint32_with_lone_wrong_1
  obtain ⟨y, e1, e2⟩ := lone_any (p := fun s => decide (2 ^ n.toNat ≤ s)) (b := fun s => lone_wrong_1 s n) (l := l) (fun s hs => by
    unfold lone_wrong_1
    rw [ck_ok (by omega), bind_some', lone_shr h1 h5 (hl s hs)]) (i := 0)
  have e1' : forL (slices_IndexFunc_Luint32uint32_with_lone_wrong_1_b1 n) (fun _ => (.brk () : Esc Int Unit)) l 0 () = some y := e1
  rw [e1', bind_some']
  have e2 := e2 (by omega)
  cases y with
  | ret v => simp only [bind_some', e2.1]; congr 1; exact decide_eq_true e2.2
  | brk u => simp only [bind_some', e2]; rfl
theorem lone_wrong_eq (n : Int) (l : List Int) (hf : ∀ s ∈ l, 0 ≤ s) : lone_wrong n l = some (lw n l) := by
  unfold lone_wrong lw
  by_cases hr : ¬ (1 ≤ n ∧ n ≤ 5) ∨ ¬ (1 ≤ (l.length : Int) ∧ (l.length : Int) ≤ 200)
  · rw [if_pos hr, bif_t]
    simp only [Bool.or_eq_true, decide_eq_true_eq]; omega
  · rw [if_neg hr, bif_f (by simp only [Bool.or_eq_false_iff, decide_eq_false_iff_not]; omega)]
    rw [lone_has (by omega) (by omega) hf, bind_some']
    cases ha : l.any fun s => decide (2 ^ n.toNat ≤ s) with
    | true => rfl
    | false =>
      rw [bif_f rfl, if_neg (by decide)]
      obtain ⟨y, y', e1, e2, e3⟩ := forL_rel (body := lone_wrong_b1) (fin := fun _ => (.brk () : Esc Int Unit)) (l := l) (l' := l) (x := (some [] : Option (List (Int × Bool)))) (x' := ())
        (body' := fun k s _ => some (said (fun e : Int => (.ret e : Esc Int Unit)) (if s ∈ l.take k.toNat then some 3 else none))) (fin' := fun _ => .brk ())
        (R := fun k x _ => ∃ m, x = some m ∧ ∀ v, mGet (deqT (.int .u32)) m v = if v ∈ l.take k then some true else none) (S := fun y y' => y = y') rfl ⟨[], rfl, fun v => by simp [mGet]⟩ (by
          rintro k a a' x _ h1 h2 ⟨m, rfl, hm⟩
          obtain rfl := Option.some.inj (h1.symm.trans h2)
          have hg := hm a
          have hk := (List.getElem?_eq_some_iff.1 h1)
          unfold lone_wrong_b1
          by_cases hin : a ∈ l.take k
          · refine ⟨.done (.ret 3), .done (.ret 3), ?_, ?_, rfl⟩
            · simp [hg, hin]
            · simp [said, hin]
          · refine ⟨.next (some (mPut (deqT (.int .u32)) m a true)), .next (), ?_, ?_, _, rfl, ?_⟩
            · simp [hg, hin, ck]
            · simp [said, hin]
            · intro v
              rw [mget_mput deqI, hm v, List.take_add_one, h1]
              by_cases hv : v = a
              · simp [hv]
              · simp [hv]) (by rintro _ _ _; rfl)
      subst e3
      rw [e1, bind_some']
      have e4 := forL_findI (fin := fun _ => (.brk () : Esc Int Unit)) (f := fun k s => if s ∈ l.take k then some (3 : Int) else none) (g := fun e : Int => .ret e) (l := l) (body := fun k s _ => some (said (fun e : Int => (.ret e : Esc Int Unit)) (if s ∈ l.take k.toNat then some 3 else none))) (fun k a _ => by simp)
      rw [e2] at e4
      rw [Option.some.inj e4]
      cases firstOf (fun k s => if s ∈ l.take k then some (3 : Int) else none) 0 l <;> rfl
theorem lone_ref_eq (fuel : Nat) (n : Int) (l : List Int) (hf : ∀ s ∈ l, 0 ≤ s) : ref_LoneCheck fuel n l = some (lw n l) := by
  unfold ref_LoneCheck lw ref_LoneCheck_g1
  simp only [within_eq, bind_some']
  by_cases hr : ¬ (1 ≤ n ∧ n ≤ 5) ∨ ¬ (1 ≤ (l.length : Int) ∧ (l.length : Int) ≤ 200)
  · rw [if_pos hr]
    have : (bif !decide (1 ≤ n ∧ n ≤ 5) then some true else some !decide (1 ≤ (l.length : Int) ∧ (l.length : Int) ≤ 200)) = some true := by
      rcases hr with h | h <;> simp [h]
    rw [this]; rfl
  · rw [if_neg hr]
    have hb : (1 ≤ n ∧ n ≤ 5) ∧ (1 ≤ (l.length : Int) ∧ (l.length : Int) ≤ 200) := by omega
    have : (bif !decide (1 ≤ n ∧ n ≤ 5) then some true else some !decide (1 ≤ (l.length : Int) ∧ (l.length : Int) ≤ 200)) = some false := by simp [hb.1, hb.2]
    rw [this, bind_some', bif_f rfl]
    rw [forL_ex (p := fun s => decide (2 ^ n.toNat ≤ s)) (y := .ret 4) (fun i s hs => by
      unfold ref_LoneCheck_b2
      rw [wrap_u64 (by omega) (by omega), ck_ok (by omega), bind_some']
      have := lone_shl (n := n) (by omega) (by omega)
      rw [wrap_u64 (by omega) (by omega)] at this
      rw [this]
      exact bif_some)]
    cases ha : l.any fun s => decide (2 ^ n.toNat ≤ s) with
    | true => rfl
    | false =>
      rw [if_neg (by decide), bif_f rfl, bind_some']
      rw [forL_findI (f := fun k s => if s ∈ l.take k then some (3 : Int) else none) (g := fun e : Int => .ret e) (fun k a hk => by
        unfold ref_LoneCheck_b16
        have hkl := (List.getElem?_eq_some_iff.1 hk).1
        rw [forI_any (n := k) (p := fun j => decide (l[j]? = some a)) (y := .ret 3) (by omega) (fun j hj => by
          unfold ref_LoneCheck_b12
          have hjl : j < l.length := by omega
          rw [idx_nat, List.getElem?_eq_getElem hjl, bind_some', beq_dec, bif_some]
          congr 2
          refine decide_eq_decide.2 ?_
          simp only [Option.some.injEq]; exact eq_comm), bind_some']
        have hiff : (List.range k).any (fun j => decide (l[j]? = some a)) = decide (a ∈ l.take k) := by
          rw [Bool.eq_iff_iff]
          simp only [List.any_eq_true, List.mem_range, decide_eq_true_eq]
          constructor
          · rintro ⟨j, hj, h⟩
            rw [List.mem_iff_getElem?]
            exact ⟨j, by rw [List.getElem?_take_of_lt hj]; exact h⟩
          · intro h
            obtain ⟨j, hj⟩ := List.mem_iff_getElem?.1 h
            rw [List.getElem?_take] at hj
            split at hj
            · exact ⟨j, by assumption, hj⟩
            · cases hj
        rw [hiff]
        by_cases hin : a ∈ l.take k <;> simp [hin, said])]
      cases firstOf (fun k s => if s ∈ l.take k then some (3 : Int) else none) 0 l <;> rfl
theorem lw_zero {n : Int} {l : List Int} (h : lw n l = 0) : 1 ≤ n ∧ n ≤ 5 ∧ 1 ≤ l.length ∧ l.length ≤ 200 ∧ ∀ s ∈ l, s < 2 ^ n.toNat := by
  unfold lw at h
  split at h
  · cases h
  · split at h
    · cases h
    · rename_i h1 h2
      simp only [Bool.not_eq_true, List.any_eq_false, decide_eq_true_eq] at h2
      exact ⟨by omega, by omega, by omega, by omega, fun s hs => by have := h2 s hs; omega⟩

theorem bit_eq {w i : Nat} (hw : w < 2 ^ 63) (hi : i < 63) : ref_Bit (w : Int) (i : Int) = some (w.testBit i) := by
  unfold ref_Bit
  have c : (decide ((i : Int) ≥ 0) && decide ((i : Int) < 63)) = true := by simp; omega
  have e : IntKind.wrap .u64 (i : Int) = (i : Int) := wrap_u64 (by omega) (by omega)
  rw [c, e, ck_ok (by omega)]
  simp only [cond_true, Option.bind_some, bit_mask hw hi]

theorem ls_bit : ∀ s : Nat, s < 32 → ∀ i : Nat, i < 5 → w64 (bAnd .u32 (bShr .u32 (s : Int) (i : Int)) 1) = if s.testBit i then 1 else 0 := by
  decide +kernel
/-- what a set weighs -/
theorem ls_weigh {s : Int} {ws : List Int} (hs : 0 ≤ s ∧ s < 32) (hl : ws.length ≤ 5) (hw : ∀ w ∈ ws, 1 ≤ w ∧ w ≤ 1000) :
    ∃ v, forL (lone_least_b24 s) (fun x => x) ws 0 0 = some v ∧ ref_Weigh s ws = some v ∧ 0 ≤ v ∧ v ≤ 5000 := by
  obtain ⟨s, rfl⟩ := Int.eq_ofNat_of_zero_le hs.1
  obtain ⟨v, h1, h2, h3⟩ := forL_eq (body := lone_least_b24 (s : Int)) (body' := ref_Weigh_b4 (s : Int)) (fin := fun x => x) (l := ws) (x := 0) (Inv := fun k x => 0 ≤ x ∧ x ≤ 1000 * k) (Post := fun v => 0 ≤ v ∧ v ≤ 5000) (by simp) (by
    intro k w x hk hx
    have hkl := (List.getElem?_eq_some_iff.1 hk).1
    have := hw w (List.mem_of_getElem? hk)
    unfold lone_least_b24 ref_Weigh_b4
    rw [ck_ok (by omega), bind_some', ls_bit s (by omega) k (by omega), wnat (by omega), bit_eq (by omega) (by omega), bind_some']
    cases s.testBit k with
    | true =>
      simp only [if_true, cond_true, Int.one_mul, bind_some']
      rw [w64_id (n := w) (by omega) (by omega)]
      refine ⟨_, rfl, rfl, ?_⟩
      show 0 ≤ w64 (x + w) ∧ w64 (x + w) ≤ _
      rw [w64_id (by omega) (by omega)]
      omega
    | false =>
      simp only [Bool.false_eq_true, if_false, cond_false, Int.zero_mul, bind_some']
      rw [show w64 0 = 0 from rfl, Int.add_zero, w64_id (by omega) (by omega)]
      exact ⟨_, rfl, rfl, by omega, by omega⟩) (by intro x hx; omega)
  refine ⟨v, h1, ?_, h3⟩
  unfold ref_Weigh
  rw [h2]; rfl
theorem ls_least {l ws : List Int} (hlw : ws.length ≤ 5) (h1 : 1 ≤ l.length) (h2 : l.length ≤ 200) (hs : ∀ s ∈ l, 0 ≤ s ∧ s < 32) (hw : ∀ w ∈ ws, 1 ≤ w ∧ w ≤ 1000) :
    ∃ v r, lone_least l ws = some (v, r) ∧ ref_Lightest l ws = some (v, r) := by
  let W : Int → Int := fun s => (ref_Weigh s ws).getD 0
  have hW : ∀ s ∈ l, forL (lone_least_b24 s) (fun x => x) ws 0 0 = some (W s) ∧ ref_Weigh s ws = some (W s) ∧ 0 ≤ W s ∧ W s ≤ 5000 := by
    intro s hsm
    obtain ⟨v, e1, e2, e3⟩ := ls_weigh (hs s hsm) hlw hw
    have : W s = v := by show (ref_Weigh s ws).getD 0 = v; rw [e2]; rfl
    rw [this]; exact ⟨e1, e2, e3⟩
  obtain ⟨f, r, hl⟩ : ∃ f r, l = f :: r := by
    cases l with
    | nil => simp at h1
    | cons f r => exact ⟨f, r, rfl⟩
  have hf : f ∈ l := by rw [hl]; simp
  let g : Int → Int → Int := fun x s => if W s < x then W s else x
  let M : Nat → Int := fun k => (l.take k).foldl g (W f)
  have hM : ∀ k a, l[k]? = some a → M (k + 1) = g (M k) a := by
    intro k a hk
    show (l.take (k + 1)).foldl g (W f) = _
    rw [List.take_add_one, hk]
    simp only [Option.toList_some, List.foldl_append, List.foldl_cons, List.foldl_nil]
    rfl
  refine ⟨M l.length, l.filter fun s => W s == M l.length, ?_, ?_⟩
  · unfold lone_least
    obtain ⟨y, e1, e2⟩ := forL_inv (body := lone_least_b29 ws) (fin := fun x => (x.1, x.2)) (l := l) (x := ((-1 : Int), ([] : List Int)))
      (Inv := fun k x => (k = 0 ∧ x = (-1, [])) ∨ (0 < k ∧ x = (M k, (l.take k).filter fun s => W s == M k) ∧ 0 ≤ M k ∧ ∀ s ∈ l.take k, M k ≤ W s)) (Post := fun y => y = (M l.length, l.filter fun s => W s == M l.length)) (.inl ⟨rfl, rfl⟩) (by
        intro k a x hk hx
        have hkl := (List.getElem?_eq_some_iff.1 hk).1
        have ha := List.mem_of_getElem? hk
        obtain ⟨w1, w2, w3, w4⟩ := hW a ha
        unfold lone_least_b29 lone_least_g27
        rw [w1, bind_some']
        have htk : l.take (k + 1) = l.take k ++ [a] := by rw [List.take_add_one, hk]; rfl
        rcases hx with ⟨rfl, rfl⟩ | ⟨hk0, rfl, hm0, hmin⟩
        · have haf : a = f := by rw [hl] at hk; simpa using hk.symm
          subst haf
          have hM1 : M 1 = W a := by rw [hM 0 a hk]; show (if W a < W a then _ else _) = _; simp [M]
          refine ⟨.next (W a, [a]), by simp only [Int.reduceNeg, Int.reduceLT, decide_true, Bool.true_or, cond_true, bind_some'], Or.inr ⟨by omega, ?_, by rw [hM1]; exact w3, ?_⟩⟩
          · rw [hM1, htk]; simp
          · rw [htk]; simp [hM1]
        · have hMk := hM k a hk
          have e0 : decide (M k < 0) = false := by simp; omega
          by_cases hlt : W a < M k
          · have hM1 : M (k + 1) = W a := by rw [hMk]; show (if W a < M k then _ else _) = _; rw [if_pos hlt]
            refine ⟨.next (W a, [a]), by simp only [e0, hlt, decide_true, Bool.or_true, cond_true, bind_some'], Or.inr ⟨by omega, ?_, by rw [hM1]; exact w3, ?_⟩⟩
            · rw [hM1, htk, List.filter_append]
              have : (l.take k).filter (fun s => W s == W a) = [] := by
                rw [List.filter_eq_nil_iff]
                intro s hs'
                have := hmin s hs'
                simp; omega
              rw [this]; simp
            · rw [htk, hM1]
              intro s hs'
              rcases List.mem_append.1 hs' with h | h
              · have := hmin s h; omega
              · obtain rfl := List.mem_singleton.1 h; omega
          · have hM1 : M (k + 1) = M k := by rw [hMk]; show (if W a < M k then _ else _) = _; rw [if_neg hlt]
            have hmin' : ∀ s ∈ l.take (k + 1), M (k + 1) ≤ W s := by
              rw [htk, hM1]
              intro s hs'
              rcases List.mem_append.1 hs' with h | h
              · exact hmin s h
              · obtain rfl := List.mem_singleton.1 h; omega
            by_cases heq : W a = M k
            · have hck : ck ((((l.take k).filter fun s => W s == M k).length : Int) + 1 ≤ 4294967296) = some () := ck_ok (by
                have := List.length_filter_le (fun s => W s == M k) (l.take k)
                simp at this; omega)
              refine ⟨.next (M k, ((l.take k).filter fun s => W s == M k) ++ [a]), by simp only [e0, hlt, decide_false, Bool.or_false, cond_false, heq, BEq.rfl, cond_true, hck, bind_some', Int.lt_irrefl], Or.inr ⟨by omega, ?_, by rw [hM1]; exact hm0, hmin'⟩⟩
              rw [hM1, htk, List.filter_append]; simp [heq]
            · refine ⟨.next (M k, (l.take k).filter fun s => W s == M k), by
                have : (W a == M k) = false := by simpa using heq
                simp only [e0, hlt, decide_false, Bool.or_false, cond_false, this, bind_some'], Or.inr ⟨by omega, ?_, by rw [hM1]; exact hm0, hmin'⟩⟩
              rw [hM1, htk, List.filter_append]; simp [heq]) (by
        intro x hx
        rcases hx with ⟨h0, _⟩ | ⟨_, rfl, _⟩
        · omega
        · simp)
    rw [e1, e2]; rfl
  · unfold ref_Lightest
    have hi : idx l 0 = some f := by rw [hl]; rfl
    rw [hi, bind_some', (hW f hf).2.1, bind_some']
    rw [forL_fold (g := g) (fun i s x hsm => by
      unfold ref_Lightest_b4
      rw [(hW s hsm).2.1]
      simp only [bind_some']
      by_cases h : W s < x
      · simp [h, g]
      · simp [h, g]), bind_some']
    have e0 : l.foldl g (W f) = M l.length := by show _ = (l.take l.length).foldl g (W f); rw [List.take_length]
    rw [e0]
    obtain ⟨y, e1, e2⟩ := forL_inv (body := ref_Lightest_b12 ws (M l.length)) (fin := fun x => x) (l := l) (x := []) (Inv := fun k x => x = (l.take k).filter fun s => W s == M l.length) (Post := fun y => y = l.filter fun s => W s == M l.length) (by simp) (by
      rintro k a _ hk rfl
      have hkl := (List.getElem?_eq_some_iff.1 hk).1
      have hck : ck ((((l.take k).filter fun s => W s == M l.length).length : Int) + 1 ≤ 4294967296) = some () := ck_ok (by
        have := List.length_filter_le (fun s => W s == M l.length) (l.take k)
        simp at this; omega)
      unfold ref_Lightest_b12 ref_Lightest_g10
      rw [(hW a (List.mem_of_getElem? hk)).2.1, bind_some', hck]
      simp only [bind_some']
      refine ⟨_, by rw [bif_some, bind_some'], ?_⟩
      show (bif W a == M l.length then _ else _) = _
      rw [List.take_add_one, hk]
      cases hq : (W a == M l.length) <;> simp [hq]) (by intro x hx; rw [hx]; simp)
    rw [e1, e2]; rfl

theorem ll_has {l : List Int} : slices_ContainsFunc_Lintint_with_lone_Least_1 l = some (l.any fun w => decide (w < 1) || decide (w > 1000)) := by
  unfold slices_ContainsFunc_Lintint_with_lone_Least_1 slices_IndexFunc_Lintint_with_lone_Least_1
  obtain ⟨y, e1, e2⟩ := lone_any (p := fun w => decide (w < 1) || decide (w > 1000)) (b := fun w => lone_Least_1 w) (l := l) (fun c hc => rfl) (i := 0)
  have e1' : forL slices_IndexFunc_Lintint_with_lone_Least_1_b1 (fun _ => (.brk () : Esc Int Unit)) l 0 () = some y := e1
  rw [e1', bind_some']
  have e2 := e2 (by omega)
  cases y with
  | ret v => simp only [bind_some', e2.1]; congr 1; exact decide_eq_true e2.2
  | brk u => simp only [bind_some', e2]; rfl
theorem ll_loop {x0 : Int} {l : List Int} : forL law_LoneLeasts_b16 (fun x => x) l 0 x0 = some (if x0 = 0 ∧ l.any (fun w => decide (w < 1) || decide (w > 1000)) = true then 2 else x0) := by
  rw [forL_fold (g := fun x w => if x = 0 ∧ (decide (w < 1) || decide (w > 1000)) = true then 2 else x) (fun i w x _ => by
    unfold law_LoneLeasts_b16 law_LoneLeasts_g14
    rw [within_eq]
    by_cases hx : x = 0
    · subst hx
      by_cases hw : 1 ≤ w ∧ w ≤ 1000
      · have : (decide (w < 1) || decide (w > 1000)) = false := by simp; omega
        simp [hw, this]
      · have : (decide (w < 1) || decide (w > 1000)) = true := by simp; omega
        simp only [bind_some', BEq.rfl, cond_true, hw, decide_false, Bool.not_false, this, and_self, if_true]
    · have : (x == 0) = false := by simpa using hx
      simp [this, hx])]
  congr 1
  induction l generalizing x0 with
  | nil => simp
  | cons w l ih =>
    rw [List.foldl_cons, ih, List.any_cons]
    by_cases hx : x0 = 0
    · subst hx
      cases h : (decide (w < 1) || decide (w > 1000)) <;> simp
    · simp [hx]
theorem words_self (l : List Int) : ref_Words l l = some true := by
  unfold ref_Words
  rw [bif_f (by simp)]
  obtain ⟨y, h1, h2⟩ := forL_inv (body := ref_Words_b1 l) (fin := fun _ => (.brk () : Esc Bool Unit)) (l := l) (x := ()) (Inv := fun _ _ => True) (Post := fun y => y = .brk ()) trivial (by
    intro k a x hk _
    unfold ref_Words_b1
    rw [idx_nat, hk, bind_some', bif_f (by simp)]
    exact ⟨_, rfl, trivial⟩) (by intro x _; rfl)
  rw [h1, h2]; rfl
theorem LoneLeasts_true (a0 : Int) (a1 a2 : List Int) (f0 : Fits (.int .i64) a0) (f1 : Fits (.slice (.int .u32)) a1) (f2 : Fits (.slice (.int .i64)) a2) : ∃ fuel, law_LoneLeasts fuel a0 a1 a2 = some true := by
  refine ⟨0, ?_⟩
  have h1 : ∀ s ∈ a1, 0 ≤ s := fun s hs => (Fits.u32 (f1.mem hs)).1
  unfold law_LoneLeasts lone_Least
  rw [lone_wrong_eq a0 a1 h1, lone_ref_eq 0 a0 a1 h1]
  simp only [bind_some', ll_loop, ll_has]
  by_cases hz : lw a0 a1 = 0
  · obtain ⟨n1, n5, l1, l2, hs⟩ := lw_zero hz
    rw [hz]
    have hp32 : (2 : Int) ^ a0.toNat ≤ 32 := by
      have : a0.toNat ≤ 5 := by omega
      have := Nat.pow_le_pow_right (n := 2) (by omega) this
      exact_mod_cast this
    by_cases hlen : (a2.length : Int) = a0
    · have hne : ((a2.length : Int) != a0) = false := by simpa using hlen
      simp only [hne, cond_false, Bool.and_false, bind_some']
      cases hany : a2.any fun w => decide (w < 1) || decide (w > 1000) with
      | true => rfl
      | false =>
        have hw : ∀ w ∈ a2, 1 ≤ w ∧ w ≤ 1000 := fun w hw => by
          have := List.any_eq_false.1 hany w hw
          simp only [Bool.or_eq_true, decide_eq_true_eq] at this
          omega
        obtain ⟨v, r, e1, e2⟩ := ls_least (l := a1) (ws := a2) (by omega) l1 l2 (fun s hs' => by have := hs s hs'; have := h1 s hs'; omega) hw
        have e0 : (0 != (0 : Int)) = false := by decide
        simp only [e1, e2, e0, cond_false, bind_some', Bool.false_eq_true, and_false, if_false, BEq.rfl, Bool.and_self, cond_true, words_self]
    · have hne : ((a2.length : Int) != a0) = true := by simpa using hlen
      simp only [hne, cond_true, bind_some', BEq.rfl, Bool.and_self]
      rfl
  · have hne : (lw a0 a1 != 0) = true := by simpa using hz
    have hnz : (lw a0 a1 == 0) = false := by simpa using hz
    simp only [hne, cond_true, bind_some', hnz, Bool.false_and, cond_false, hz, false_and, if_false]
    simp

end Go.Proofs.Ytkkmiclmbhbmjaa.loneLeasts
namespace Go.Proofs.Ytkkmiclmbhbmjaa.loneLeasts
open Go.ChangeShapes Go.WideShapes Go.ChangeAt Go.RowKit
open Go.ChangeMaps (open_string shut_string)
theorem own : ownKnob Try.prog.godebug = none := by kernel_rfl
theorem laidOut : laidOutB Try.prog = true := by kernel_rfl
theorem lifted (os : Os) (started : os.Started) (H : Type) (enc : TypeId × Value → H) :
    ReturnsInHanded {} Try.checked os 4 .any (Rows.loneLeastsSpec.pre6 enc Try.prog Try.f4 Rows.loneLeastsRow.domain false) (Rows.loneLeastsSpec.post enc Try.prog Try.f4 false true false false) := by
  refine returnsInHanded_of_change (C := Try.checked) own started (by kernel_rfl) Try.func4
    (ChangeSpec.witness6 (enc := enc) (C := Try.checked) false ⟨#[], #[.int .i64 0, .slice none 0 0, .slice none 0 0], []⟩ 8 (by kernel_rfl) (by kernel_rfl) (by kernel_rfl) (by kernel_rfl)) ?_
  intro W base args ds gs before hval0 hW hcnd _
  have hval : ∀ (j : Nat) t v, Try.f4.params[j]? = some t → args[j]? = some v → Value.okWide Try.prog W .any base t v := hval0
  have hW' := hW
  obtain ⟨p, q, hA0, hV, rfl, hfz, hnd⟩ := hW
  have hA : DataW.TrodAll enc Try.prog W 0 (fun _ => true) true Try.f4.params.toList args.toList ds p := hA0
  rw [Try.params4] at hA hval
  obtain ⟨v0, vs0, d0, ds0, p0, q0, hargs, rfl, rfl, h0, r0⟩ := trodAll_cons hA
  obtain ⟨v1, vs1, d1, ds1, p1, q1, rfl, rfl, rfl, h1, r1⟩ := trodAll_cons r0
  obtain ⟨v2, vs2, d2, ds2, p2, q2, rfl, rfl, rfl, h2, r2⟩ := trodAll_cons r1
  obtain ⟨rfl, rfl, rfl⟩ := trodAll_nil r2
  obtain rfl : args = #[v0, v1, v2] := by cases args; simp_all
  obtain ⟨rfl, rfl⟩ := trodVars_none hV
  obtain ⟨x0, f0, k0⟩ := Go.Sl.read_arg (u := (.int .i64)) (by kernel_rfl) (by kernel_rfl) (hval 0 3 v0 rfl rfl) h0
  have lt0 : ∀ x ∈ p0, x.block < W.heap.size := by obtain ⟨m, hm⟩ := h0; exact DataW.trod_lt m _ _ _ hm
  obtain ⟨x1, f1, k1⟩ := Go.Sl.read_arg (u := (.slice (.int .u32))) (by kernel_rfl) (by kernel_rfl) (hval 1 22 v1 rfl rfl) h1
  have lt1 : ∀ x ∈ p1, x.block < W.heap.size := by obtain ⟨m, hm⟩ := h1; exact DataW.trod_lt m _ _ _ hm
  obtain ⟨x2, f2, k2⟩ := Go.Sl.read_arg (u := (.slice (.int .i64))) (by kernel_rfl) (by kernel_rfl) (hval 2 27 v2 rfl rfl) h2
  have lt2 : ∀ x ∈ p2, x.block < W.heap.size := by obtain ⟨m, hm⟩ := h2; exact DataW.trod_lt m _ _ _ hm
  clear hA0 hval0
  obtain ⟨fuel, hm⟩ := LoneLeasts_true x0 x1 x2 f0 f1 f2
  refine (Go.Sl.law_of (vs := [v0, v1, v2]) (law_LoneLeasts_ok hm) rfl (.cons (k0 _ _) (.cons (k1 _ _) (.cons (k2 _ _) .nil)))).mono fun e W' ⟨he, bel⟩ => ?_
  subst he
  exact ⟨_, rfl, _, _, _, [], _, [], hW', trodAll_mk1 (shut_bool Try.underlying4 _), (trodAll_cons_mk (Below.trod laidOut (by kernel_rfl) (of_decide_eq_true (by kernel_rfl)) h0 bel lt0) (trodAll_cons_mk (Below.trod laidOut (by kernel_rfl) (of_decide_eq_true (by kernel_rfl)) h1 bel lt1) (trodAll_cons_mk (Below.trod laidOut (by kernel_rfl) (of_decide_eq_true (by kernel_rfl)) h2 bel lt2) trodAll_mk0))), rfl, bel.frame _, fun h => by cases h⟩
theorem proved : Rows.LoneLeastsSaid :=
  OpenClaim.holds_of_wide 4 Try.f4 rfl rfl rfl rfl rfl rfl rfl ⟨rfl, rfl, rfl, rfl, rfl⟩ rfl rfl rfl rfl rfl (by kernel_rfl) Try.func4 (by kernel_rfl)
    (of_decide_eq_true (by kernel_rfl)) (by unfold Func.isWrapper; first | (rw [if_pos (by decide +kernel)]; kernel_rfl) | (rw [if_neg (by decide +kernel)]; exact ⟨rfl, rfl⟩))
    (fun os started H enc _ => lifted os started H enc)
#print axioms proved
end Go.Proofs.Ytkkmiclmbhbmjaa.loneLeasts
