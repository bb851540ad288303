/- For any sets and checks of bulk at most the given bound lone.Sieve returns the specified results: LoneSieves returns true and changes nothing; condition: the bound. -/
import Derived.JoinedCond
import Derived.Test.YtkkmiclmbhbmjaaRows
import Derived.WalkKit
import Derived.ProofKit
import Derived.OpenShut
import Derived.ShutString
import Derived.ChangeOld
import Derived.Below
import Derived.Test.YtkkmiclmbhbmjaaLoneSievesM
set_option linter.all false
set_option maxRecDepth 100000
namespace Go.Proofs.Ytkkmiclmbhbmjaa.loneSieves
open Go Go.Sl

--#upto
theorem mget_mput {α β : Type} {eq : α → α → Bool} [DecidableEq α] (heq : ∀ a b, eq a b = true ↔ a = b) : ∀ (l : List (α × β)) (x : α) (y : β) (z : α), mGet eq (mPut eq l x y) z = if z = x then some y else mGet eq l z
  | [], x, y, z => by
    by_cases h : z = x
    · simp [mPut, mGet, h, (heq x x).2 rfl]
    · have : eq z x = false := by cases hh : eq z x with | false => rfl | true => exact (h ((heq _ _).1 hh)).elim
      simp [mPut, mGet, h, this]
  | p :: l, x, y, z => by
    have hf : ∀ {a b}, a ≠ b → eq a b = false := by
      intro a b h
      cases hh : eq a b with | false => rfl | true => exact (h ((heq _ _).1 hh)).elim
    by_cases hp : x = p.1
    · have e1 : eq x p.1 = true := (heq _ _).2 hp
      by_cases h : z = x
      · simp [mPut, mGet, e1, h, (heq x x).2 rfl]
      · simp [mPut, mGet, e1, h, hf h, hf (fun e => h (e.trans hp.symm))]
    · have e1 : eq x p.1 = false := hf hp
      by_cases hz : z = p.1
      · have e2 : eq z p.1 = true := (heq _ _).2 hz
        have hzx : z ≠ x := fun e => hp (e ▸ hz)
        simp [mPut, mGet, e1, e2, hzx]
      · simp only [mPut, e1, Bool.false_eq_true, if_false, mGet, hf hz]
        exact mget_mput heq l x y z
theorem deqI {k : IntKind} (a b : Int) : deqT (.int k) a b = true ↔ a = b := by simp [deqT]

theorem within_eq (a b c : Int) : ref_Within a b c = some (decide (a ≤ b ∧ b ≤ c)) := by
  unfold ref_Within
  rw [Bool.decide_and]

/-- what a list of sets is told -/
def lw (n : Int) (l : List Int) : Int :=
  if ¬ (1 ≤ n ∧ n ≤ 5) ∨ ¬ (1 ≤ (l.length : Int) ∧ (l.length : Int) ≤ 200) then 1 else
  if l.any (fun s => decide (2 ^ n.toNat ≤ s)) then 4 else (firstOf (fun k s => if s ∈ l.take k then some 3 else none) 0 l).getD 0
theorem lone_shr {n s : Int} (h1 : 1 ≤ n) (h5 : n ≤ 5) (hs : 0 ≤ s) : (bShr .u32 s n != 0) = decide (2 ^ n.toNat ≤ s) := by
  obtain ⟨m, rfl⟩ := Int.eq_ofNat_of_zero_le hs
  obtain ⟨k, rfl⟩ := Int.eq_ofNat_of_zero_le (show 0 ≤ n by omega)
  rw [bShr_nat (by omega), bne_dec]
  refine decide_eq_decide.2 ?_
  rw [Int.toNat_natCast]
  have hp : 0 < 2 ^ k := Nat.two_pow_pos k
  constructor
  · intro h
    have h2 : m / 2 ^ k ≠ 0 := by omega
    have : 2 ^ k ≤ m := by
      rcases Nat.lt_or_ge m (2 ^ k) with h3 | h3
      · exact (h2 (Nat.div_eq_of_lt h3)).elim
      · exact h3
    exact_mod_cast this
  · intro h
    have h3 : 2 ^ k ≤ m := by exact_mod_cast h
    have := Nat.div_pos h3 hp
    omega
theorem lone_shl {n : Int} (h1 : 1 ≤ n) (h5 : n ≤ 5) : bShl .u32 1 (IntKind.wrap .u64 n) = 2 ^ n.toNat := by
  rw [wrap_u64 (by omega) (by omega)]
  have : n = 1 ∨ n = 2 ∨ n = 3 ∨ n = 4 ∨ n = 5 := by omega
  rcases this with rfl | rfl | rfl | rfl | rfl <;> decide
theorem lone_any {p : Int → Bool} {b : Int → Option Bool} : ∀ {l : List Int}, (∀ s ∈ l, b s = some (p s)) → ∀ {i : Int},
    ∃ y, forL (fun i s (_ : Unit) => (b s).bind fun r => bif r then some (.done (.ret i)) else some (.next ())) (fun _ => (.brk () : Esc Int Unit)) l i () = some y ∧ (0 ≤ i → (match y with | .ret v => l.any p = true ∧ 0 ≤ v | .brk _ => l.any p = false))
  | [], _, i => ⟨.brk (), rfl, fun _ => rfl⟩
  | a :: l, h, i => by
    rw [forL, h a (by simp), bind_some']
    cases hp : p a with
    | true => exact ⟨.ret i, rfl, fun h0 => ⟨by simp [hp], h0⟩⟩
    | false =>
      obtain ⟨y, h1, h2⟩ := lone_any (p := p) (b := b) (l := l) (fun s hs => h s (by simp [hs])) (i := i + 1)
      refine ⟨y, h1, fun h0 => ?_⟩
      have := h2 (by omega)
      cases y with
      | ret v => simpa [hp] using this
      | brk u => simpa [hp] using this
theorem lone_has {n : Int} {l : List Int} (h1 : 1 ≤ n) (h5 : n ≤ 5) (hl : ∀ s ∈ l, 0 ≤ s) : slices_ContainsFunc_Luint32uint32_with_lone_wrong_1 l n = some (l.any fun s => decide (2 ^ n.toNat ≤ s)) := by
  unfold slices_ContainsFunc_Luint32uint32_with_lone_wrong_1 slices_IndexFunc_Luint32uint32_with_lone_wrong_1
  obtain ⟨y, e1, e2⟩ := lone_any (p := fun s => decide (2 ^ n.toNat ≤ s)) (b := fun s => lone_wrong_1 s n) (l := l) (fun s hs => by
    unfold lone_wrong_1
    rw [ck_ok (by omega), bind_some', lone_shr h1 h5 (hl s hs)]) (i := 0)
  have e1' : forL (slices_IndexFunc_Luint32uint32_with_lone_wrong_1_b1 n) (fun _ => (.brk () : Esc Int Unit)) l 0 () = some y := e1
  rw [e1', bind_some']
  have e2 := e2 (by omega)
  cases y with
  | ret v => simp only [bind_some', e2.1]; congr 1; exact decide_eq_true e2.2
  | brk u => simp only [bind_some', e2]; rfl
theorem lone_wrong_eq (n : Int) (l : List Int) (hf : ∀ s ∈ l, 0 ≤ s) : lone_wrong n l = some (lw n l) := by
  unfold lone_wrong lw
  by_cases hr : ¬ (1 ≤ n ∧ n ≤ 5) ∨ ¬ (1 ≤ (l.length : Int) ∧ (l.length : Int) ≤ 200)
  · rw [if_pos hr, bif_t]
    simp only [Bool.or_eq_true, decide_eq_true_eq]; omega
  · rw [if_neg hr, bif_f (by simp only [Bool.or_eq_false_iff, decide_eq_false_iff_not]; omega)]
    rw [lone_has (by omega) (by omega) hf, bind_some']
    cases ha : l.any fun s => decide (2 ^ n.toNat ≤ s) with
    | true => rfl
    | false =>
      rw [bif_f rfl, if_neg (by decide)]
      obtain ⟨y, y', e1, e2, e3⟩ := forL_rel (body := lone_wrong_b1) (fin := fun _ => (.brk () : Esc Int Unit)) (l := l) (l' := l) (x := (some [] : Option (List (Int × Bool)))) (x' := ())
        (body' := fun k s _ => some (said (fun e : Int => (.ret e : Esc Int Unit)) (if s ∈ l.take k.toNat then some 3 else none))) (fin' := fun _ => .brk ())
        (R := fun k x _ => ∃ m, x = some m ∧ ∀ v, mGet (deqT (.int .u32)) m v = if v ∈ l.take k then some true else none) (S := fun y y' => y = y') rfl ⟨[], rfl, fun v => by simp [mGet]⟩ (by
          rintro k a a' x _ h1 h2 ⟨m, rfl, hm⟩
          obtain rfl := Option.some.inj (h1.symm.trans h2)
          have hg := hm a
          have hk := (List.getElem?_eq_some_iff.1 h1)
          unfold lone_wrong_b1
          by_cases hin : a ∈ l.take k
          · refine ⟨.done (.ret 3), .done (.ret 3), ?_, ?_, rfl⟩
            · simp [hg, hin]
            · simp [said, hin]
          · refine ⟨.next (some (mPut (deqT (.int .u32)) m a true)), .next (), ?_, ?_, _, rfl, ?_⟩
            · simp [hg, hin, ck]
            · simp [said, hin]
            · intro v
              rw [mget_mput deqI, hm v, List.take_add_one, h1]
              by_cases hv : v = a
              · simp [hv]
              · simp [hv]) (by rintro _ _ _; rfl)
      subst e3
      rw [e1, bind_some']
      have e4 := forL_findI (fin := fun _ => (.brk () : Esc Int Unit)) (f := fun k s => if s ∈ l.take k then some (3 : Int) else none) (g := fun e : Int => .ret e) (l := l) (body := fun k s _ => some (said (fun e : Int => (.ret e : Esc Int Unit)) (if s ∈ l.take k.toNat then some 3 else none))) (fun k a _ => by simp)
      rw [e2] at e4
      rw [Option.some.inj e4]
      cases firstOf (fun k s => if s ∈ l.take k then some (3 : Int) else none) 0 l <;> rfl
theorem lone_ref_eq (fuel : Nat) (n : Int) (l : List Int) (hf : ∀ s ∈ l, 0 ≤ s) : ref_LoneCheck fuel n l = some (lw n l) := by
  unfold ref_LoneCheck lw ref_LoneCheck_g1
  simp only [within_eq, bind_some']
  by_cases hr : ¬ (1 ≤ n ∧ n ≤ 5) ∨ ¬ (1 ≤ (l.length : Int) ∧ (l.length : Int) ≤ 200)
  · rw [if_pos hr]
    have : (bif !decide (1 ≤ n ∧ n ≤ 5) then some true else some !decide (1 ≤ (l.length : Int) ∧ (l.length : Int) ≤ 200)) = some true := by
      rcases hr with h | h <;> simp [h]
    rw [this]; rfl
  · rw [if_neg hr]
    have hb : (1 ≤ n ∧ n ≤ 5) ∧ (1 ≤ (l.length : Int) ∧ (l.length : Int) ≤ 200) := by omega
    have : (bif !decide (1 ≤ n ∧ n ≤ 5) then some true else some !decide (1 ≤ (l.length : Int) ∧ (l.length : Int) ≤ 200)) = some false := by simp [hb.1, hb.2]
    rw [this, bind_some', bif_f rfl]
    rw [forL_ex (p := fun s => decide (2 ^ n.toNat ≤ s)) (y := .ret 4) (fun i s hs => by
      unfold ref_LoneCheck_b2
      rw [wrap_u64 (by omega) (by omega), ck_ok (by omega), bind_some']
      have := lone_shl (n := n) (by omega) (by omega)
      rw [wrap_u64 (by omega) (by omega)] at this
      rw [this]
      exact bif_some)]
    cases ha : l.any fun s => decide (2 ^ n.toNat ≤ s) with
    | true => rfl
    | false =>
      rw [if_neg (by decide), bif_f rfl, bind_some']
      rw [forL_findI (f := fun k s => if s ∈ l.take k then some (3 : Int) else none) (g := fun e : Int => .ret e) (fun k a hk => by
        unfold ref_LoneCheck_b16
        have hkl := (List.getElem?_eq_some_iff.1 hk).1
        rw [forI_any (n := k) (p := fun j => decide (l[j]? = some a)) (y := .ret 3) (by omega) (fun j hj => by
          unfold ref_LoneCheck_b12
          have hjl : j < l.length := by omega
          rw [idx_nat, List.getElem?_eq_getElem hjl, bind_some', beq_dec, bif_some]
          congr 2
          refine decide_eq_decide.2 ?_
          simp only [Option.some.injEq]; exact eq_comm), bind_some']
        have hiff : (List.range k).any (fun j => decide (l[j]? = some a)) = decide (a ∈ l.take k) := by
          rw [Bool.eq_iff_iff]
          simp only [List.any_eq_true, List.mem_range, decide_eq_true_eq]
          constructor
          · rintro ⟨j, hj, h⟩
            rw [List.mem_iff_getElem?]
            exact ⟨j, by rw [List.getElem?_take_of_lt hj]; exact h⟩
          · intro h
            obtain ⟨j, hj⟩ := List.mem_iff_getElem?.1 h
            rw [List.getElem?_take] at hj
            split at hj
            · exact ⟨j, by assumption, hj⟩
            · cases hj
        rw [hiff]
        by_cases hin : a ∈ l.take k <;> simp [hin, said])]
      cases firstOf (fun k s => if s ∈ l.take k then some (3 : Int) else none) 0 l <;> rfl
theorem lw_zero {n : Int} {l : List Int} (h : lw n l = 0) : 1 ≤ n ∧ n ≤ 5 ∧ 1 ≤ l.length ∧ l.length ≤ 200 ∧ ∀ s ∈ l, s < 2 ^ n.toNat := by
  unfold lw at h
  split at h
  · cases h
  · split at h
    · cases h
    · rename_i h1 h2
      simp only [Bool.not_eq_true, List.any_eq_false, decide_eq_true_eq] at h2
      exact ⟨by omega, by omega, by omega, by omega, fun s hs => by have := h2 s hs; omega⟩

theorem bit_eq {w i : Nat} (hw : w < 2 ^ 63) (hi : i < 63) : ref_Bit (w : Int) (i : Int) = some (w.testBit i) := by
  unfold ref_Bit
  have c : (decide ((i : Int) ≥ 0) && decide ((i : Int) < 63)) = true := by simp; omega
  have e : IntKind.wrap .u64 (i : Int) = (i : Int) := wrap_u64 (by omega) (by omega)
  rw [c, e, ck_ok (by omega)]
  simp only [cond_true, Option.bind_some, bit_mask hw hi]

theorem size_eq {w : Nat} (hw : w < 2 ^ 63) : ref_Size (w : Int) = some ((pc w : Nat) : Int) := by
  unfold ref_Size
  have := forI_count (body := ref_Size_b4 (w : Int)) (fin := fun x => x) (p := w.testBit) (n := 63) (by omega) (by
    intro j x hj
    unfold ref_Size_b4
    rw [bit_eq hw hj]
    cases w.testBit j <;> rfl)
  simp only [Int.cast_ofNat_Int] at this
  rw [this]; rfl

theorem forL_filt {α Y : Type} {body : Int → α → List α → Option (Flow (List α) Y)} {fin : List α → Y} {p : α → Bool} {l : List α}
    (hb : ∀ (k : Nat) a x, l[k]? = some a → x.length ≤ k → body k a x = some (.next (bif p a then x ++ [a] else x))) : forL body fin l 0 [] = some (fin (l.filter p)) := by
  obtain ⟨y, h1, h2⟩ := forL_inv (body := body) (fin := fin) (l := l) (x := []) (Inv := fun k x => x = (l.take k).filter p) (Post := fun y => y = fin (l.filter p)) (by simp) (by
    intro k a x hk hx
    have hl : x.length ≤ k := by
      rw [hx]
      exact Nat.le_trans (List.length_filter_le _ _) (by simp; omega)
    refine ⟨_, hb k a x hk hl, ?_⟩
    show (bif p a then x ++ [a] else x) = _
    rw [hx, List.take_add_one, hk]
    cases hp : p a <;> simp [hp]) (by intro x hx; rw [hx]; simp)
  rw [h1, h2]
theorem ls_ones : ∀ w : Nat, w < 32 → math_bits_OnesCount32 (w : Int) = some ((pc w : Nat) : Int) := by
  decide +kernel
theorem ls_and : ∀ a : Nat, a < 32 → ∀ b : Nat, b < 32 → bAnd .u32 (a : Int) (b : Int) = ((a &&& b : Nat) : Int) ∧ a &&& b < 32 ∧ b &&& a = a &&& b := by
  decide +kernel
/-- is one met an odd number of times? -/
def oddOf (c s : Int) : Bool := (pc (c.toNat &&& s.toNat)) % 2 == 1
theorem odd_mod (k : Nat) : (Int.tmod (k : Int) 2 == 1) = (k % 2 == 1) := by
  rw [show (2 : Int) = ((2 : Nat) : Int) from rfl, ← Int.ofNat_tmod, beq_dec, beq_dec]; exact decide_eq_decide.2 (by omega)
theorem ls_odd {c s : Int} (hc : 0 ≤ c ∧ c < 32) (hs : 0 ≤ s ∧ s < 32) : lone_sieve_1 c s = some (oddOf c s) ∧ ref_Odd c (w64 s) = some (oddOf c s) := by
  obtain ⟨c, rfl⟩ := Int.eq_ofNat_of_zero_le hc.1
  obtain ⟨s, rfl⟩ := Int.eq_ofNat_of_zero_le hs.1
  obtain ⟨h1, h2, h3⟩ := ls_and c (by omega) s (by omega)
  unfold lone_sieve_1 ref_Odd oddOf
  simp only [Int.toNat_natCast]
  constructor
  · rw [h1, ls_ones _ h2, bind_some', odd_mod]
  · rw [wnat (by omega), bAnd_nat (by omega) (by omega), size_eq (by omega), bind_some', odd_mod]
theorem ls_any {s : Int} {l : List Int} (hs : 0 ≤ s ∧ s < 32) (hl : ∀ c ∈ l, 0 ≤ c ∧ c < 32) : slices_ContainsFunc_Luint32uint32_with_lone_sieve_1 l s = some (l.any fun c => oddOf c s) := by
  unfold slices_ContainsFunc_Luint32uint32_with_lone_sieve_1 slices_IndexFunc_Luint32uint32_with_lone_sieve_1
  obtain ⟨y, e1, e2⟩ := lone_any (p := fun c => oddOf c s) (b := fun c => lone_sieve_1 c s) (l := l) (fun c hc => (ls_odd (hl c hc) hs).1) (i := 0)
  have e1' : forL (slices_IndexFunc_Luint32uint32_with_lone_sieve_1_b1 s) (fun _ => (.brk () : Esc Int Unit)) l 0 () = some y := e1
  rw [e1', bind_some']
  have e2 := e2 (by omega)
  cases y with
  | ret v => simp only [bind_some', e2.1]; congr 1; exact decide_eq_true e2.2
  | brk u => simp only [bind_some', e2]; rfl
theorem ls_has {n : Int} {l : List Int} (h1 : 1 ≤ n) (h5 : n ≤ 5) (hl : ∀ s ∈ l, 0 ≤ s) : slices_ContainsFunc_Luint32uint32_with_lone_Sieve_1 l n = some (l.any fun s => decide (2 ^ n.toNat ≤ s)) := by
  unfold slices_ContainsFunc_Luint32uint32_with_lone_Sieve_1 slices_IndexFunc_Luint32uint32_with_lone_Sieve_1
  obtain ⟨y, e1, e2⟩ := lone_any (p := fun s => decide (2 ^ n.toNat ≤ s)) (b := fun s => lone_Sieve_1 s n) (l := l) (fun s hs => by
    unfold lone_Sieve_1
    rw [ck_ok (by omega), bind_some', lone_shr h1 h5 (hl s hs)]) (i := 0)
  have e1' : forL (slices_IndexFunc_Luint32uint32_with_lone_Sieve_1_b1 n) (fun _ => (.brk () : Esc Int Unit)) l 0 () = some y := e1
  rw [e1', bind_some']
  have e2 := e2 (by omega)
  cases y with
  | ret v => simp only [bind_some', e2.1]; congr 1; exact decide_eq_true e2.2
  | brk u => simp only [bind_some', e2]; rfl
theorem ls_sieve {l cs : List Int} (hlen : l.length ≤ 200) (hl : ∀ s ∈ l, 0 ≤ s ∧ s < 32) (hc : ∀ c ∈ cs, 0 ≤ c ∧ c < 32) : lone_sieve l cs = some (l.filter fun s => !(cs.any fun c => oddOf c s)) := by
  unfold lone_sieve
  rw [forL_filt (p := fun s => !(cs.any fun c => oddOf c s)) (fun k s x hk hx => by
    have hkl := (List.getElem?_eq_some_iff.1 hk).1
    unfold lone_sieve_b6 lone_sieve_g4
    rw [ls_any (hl s (List.mem_of_getElem? hk)) hc, bind_some']
    cases cs.any fun c => oddOf c s with
    | true => rfl
    | false =>
      have hck : ck ((x.length : Int) + 1 ≤ 4294967296) = some () := ck_ok (by omega)
      simp only [Bool.not_false, cond_true, hck, bind_some'])]
  rfl
theorem ls_sieved {l cs : List Int} (hlen : l.length ≤ 200) (hl : ∀ s ∈ l, 0 ≤ s ∧ s < 32) (hc : ∀ c ∈ cs, 0 ≤ c ∧ c < 32) : ref_Sieved l cs = some (l.filter fun s => !(cs.any fun c => oddOf c s)) := by
  unfold ref_Sieved
  rw [forL_filt (p := fun s => !(cs.any fun c => oddOf c s)) (fun k s x hk hx => by
    have hkl := (List.getElem?_eq_some_iff.1 hk).1
    unfold ref_Sieved_b33 ref_Sieved_g31
    have hs := hl s (List.mem_of_getElem? hk)
    rw [forL_fold (g := fun x c => x && !oddOf c s) (fun i c x hcm => by
      unfold ref_Sieved_b28
      cases x with
      | false => rfl
      | true => rw [(ls_odd (hc c hcm) hs).2]; rfl)]
    have hf : ∀ (l : List Int) (b : Bool), l.foldl (fun x c => x && !oddOf c s) b = (b && !(l.any fun c => oddOf c s)) := by
      intro l
      induction l with
      | nil => intro b; simp
      | cons c l ih => intro b; rw [List.foldl_cons, ih, List.any_cons]; cases b <;> cases oddOf c s <;> rfl
    rw [hf, Bool.true_and, bind_some']
    cases cs.any fun c => oddOf c s with
    | true => rfl
    | false =>
      have hck : ck ((x.length : Int) + 1 ≤ 4294967296) = some () := ck_ok (by omega)
      simp only [Bool.not_false, cond_true, hck, bind_some'])]
  rfl
theorem words_self (l : List Int) (h : l.length ≤ 9223372036854775807) : ref_Words l l = some true := by
  unfold ref_Words
  rw [bif_f (by simp)]
  obtain ⟨y, h1, h2⟩ := forL_inv (body := ref_Words_b1 l) (fin := fun _ => (.brk () : Esc Bool Unit)) (l := l) (x := ()) (Inv := fun _ _ => True) (Post := fun y => y = .brk ()) trivial (by
    intro k a x hk _
    unfold ref_Words_b1
    rw [idx_nat, hk, bind_some', bif_f (by simp)]
    exact ⟨_, rfl, trivial⟩) (by intro x _; rfl)
  rw [h1, h2]; rfl
theorem map_id64 {l : List Int} (h : ∀ c ∈ l, 0 ≤ c ∧ c ≤ 4294967295) : l.map w64 = l := by
  induction l with
  | nil => rfl
  | cons a l ih =>
    have := h a (by simp)
    rw [List.map_cons, ih (fun c hc => h c (by simp [hc])), w64_id (by omega) (by omega)]
/-- the law's loop over the checks -/
theorem ls_loop {n x0 : Int} {l : List Int} (hx : x0 = 0 → 1 ≤ n ∧ n ≤ 5) (hl : ∀ c ∈ l, 0 ≤ c ∧ c ≤ 4294967295) (hb : l.length ≤ 1048576) :
    forL (law_LoneSieves_b13 n) (fun x => (x.1, x.2)) l 0 (x0, []) = some (if x0 = 0 ∧ l.any (fun s => decide (2 ^ n.toNat ≤ s)) = true then 2 else x0, l) := by
  obtain ⟨y, h1, h2⟩ := forL_inv (body := law_LoneSieves_b13 n) (fin := fun x => (x.1, x.2)) (l := l) (x := (x0, [])) (Inv := fun k x => x = (if x0 = 0 ∧ (l.take k).any (fun s => decide (2 ^ n.toNat ≤ s)) = true then 2 else x0, (l.take k)))
    (Post := fun y => y = (if x0 = 0 ∧ l.any (fun s => decide (2 ^ n.toNat ≤ s)) = true then 2 else x0, l)) (by simp) (by
      rintro k a _ hk rfl
      have hkl := (List.getElem?_eq_some_iff.1 hk).1
      have ha := hl a (List.mem_of_getElem? hk)
      unfold law_LoneSieves_b13 law_LoneSieves_g11
      have hck : ck (((l.take k).length : Int) + 1 ≤ 4294967296) = some () := ck_ok (by simp; omega)
      rw [w64_id (by omega) (by omega)]
      simp only [hck, bind_some']
      by_cases h0 : x0 = 0
      · subst h0
        obtain ⟨n1, n5⟩ := hx rfl
        have e1 := lone_shl n1 n5
        by_cases hany : (l.take k).any (fun s => decide (2 ^ n.toNat ≤ s)) = true
        · refine ⟨_, by simp only [hany, and_true, if_true]; rfl, ?_⟩
          simp [List.take_add_one, hk, hany]
        · have hany : (l.take k).any (fun s => decide (2 ^ n.toNat ≤ s)) = false := by simpa using hany
          by_cases hge : 2 ^ n.toNat ≤ a
          · refine ⟨_, by
              simp only [hany, Bool.false_eq_true, and_false, if_false, beq_self_eq_true, cond_true]
              rw [ck_ok (by rw [wrap_u64 (by omega) (by omega)]; omega), bind_some', e1, bif_t (by simpa using hge)]
              rfl, ?_⟩
            simp [List.take_add_one, hk, hany, hge]
          · refine ⟨_, by
              simp only [hany, Bool.false_eq_true, and_false, if_false, beq_self_eq_true, cond_true]
              rw [ck_ok (by rw [wrap_u64 (by omega) (by omega)]; omega), bind_some', e1, bif_f (by simpa using hge)]
              rfl, ?_⟩
            simp [List.take_add_one, hk, hany, hge]
      · refine ⟨_, by simp only [h0, false_and, if_false]; rw [bif_f (by simpa using h0)]; rfl, ?_⟩
        simp [List.take_add_one, hk, h0]) (by
      rintro _ rfl
      simp)
  rw [h1, h2]
theorem LoneSieves_true (a0 : Int) (a1 a2 : List Int) (f0 : Fits (.int .i64) a0) (f1 : Fits (.slice (.int .u32)) a1) (f2 : Fits (.slice (.int .u32)) a2) (hb1 : a1.length ≤ 1048576) (hb2 : a2.length ≤ 1048576) : ∃ fuel, law_LoneSieves fuel a0 a1 a2 = some true := by
  refine ⟨0, ?_⟩
  have h1 : ∀ s ∈ a1, 0 ≤ s := fun s hs => (Fits.u32 (f1.mem hs)).1
  have h2 : ∀ s ∈ a2, 0 ≤ s ∧ s ≤ 4294967295 := fun s hs => Fits.u32 (f2.mem hs)
  unfold law_LoneSieves lone_Sieve
  rw [lone_wrong_eq a0 a1 h1, lone_ref_eq 0 a0 a1 h1]
  simp only [bind_some']
  by_cases hz : lw a0 a1 = 0
  · obtain ⟨n1, n5, l1, l2, hs⟩ := lw_zero hz
    rw [hz, bif_f (by decide)]
    have hp32 : (2 : Int) ^ a0.toNat ≤ 32 := by
      have : a0.toNat ≤ 5 := by omega
      have := Nat.pow_le_pow_right (n := 2) (by omega) this
      exact_mod_cast this
    by_cases hlen : (a2.length : Int) > 5
    · simp only [hlen, decide_true, cond_true, bind_some', BEq.rfl, Bool.and_self]
      rw [ls_loop (x0 := 2) (by intro h; cases h) h2 hb2]
      rfl
    · simp only [hlen, decide_false, cond_false, Bool.and_false, bind_some']
      rw [ls_has n1 n5 (fun s hs => (h2 s hs).1), bind_some', bind_some', ls_loop (x0 := 0) (fun _ => ⟨n1, n5⟩) h2 hb2]
      cases hany : a2.any fun s => decide (2 ^ a0.toNat ≤ s) with
      | true => rfl
      | false =>
        have hlt : ∀ s ∈ a2, 0 ≤ s ∧ s < 32 := fun s hs => by
          have := List.any_eq_false.1 hany s hs
          simp only [decide_eq_true_eq] at this
          have := h2 s hs
          omega
        have hlt1 : ∀ s ∈ a1, 0 ≤ s ∧ s < 32 := fun s hs' => by have := hs s hs'; have := h1 s hs'; omega
        simp only [cond_false, ls_sieve l2 hlt1 hlt, bind_some', Bool.false_eq_true, and_false, if_false, ls_sieved l2 hlt1 hlt]
        rw [words_self _ (Nat.le_trans (List.length_filter_le _ _) (by omega))]
        rfl
  · have hne : (lw a0 a1 != 0) = true := by simpa using hz
    rw [hne, cond_true, bind_some']
    have hnz : (lw a0 a1 == 0) = false := by simpa using hz
    rw [hnz, Bool.false_and, cond_false, bind_some', ls_loop (x0 := lw a0 a1) (fun h => (hz h).elim) h2 hb2]
    simp only [bind_some', hz, false_and, if_false, hne, cond_true]
    simp

end Go.Proofs.Ytkkmiclmbhbmjaa.loneSieves
namespace Go.Proofs.Ytkkmiclmbhbmjaa.loneSieves
open Go.ChangeShapes Go.WideShapes Go.ChangeAt Go.RowKit
open Go.ChangeMaps (open_string shut_string)
theorem own : ownKnob Try.prog.godebug = none := by kernel_rfl
theorem laidOut : laidOutB Try.prog = true := by kernel_rfl
theorem bulk_pos {H : Type} (d : DataW H) : 1 ≤ Rows.uptoBulk d := by
  cases d with
  | lit l => cases l <;> simp [Rows.uptoBulk]
  | _ => simp [Rows.uptoBulk]
theorem bulk_len {H : Type} : ∀ l : List (DataW H), l.length ≤ Rows.uptoBulkAll l
  | [] => by simp [Rows.uptoBulkAll]
  | d :: l => by
    have := bulk_pos d
    have := bulk_len l
    simp only [Rows.uptoBulkAll, List.length_cons]; omega
section
open Go.Sl
/-- a slice that is read is no longer than its bulk -/
theorem bulk_slice {H : Type} {enc : TypeId × Value → H} {P : Program} {w : World} {spare : Nat → Bool} {held : Bool} {t e : TypeId} {u : Ty} {v : Value} {d : DataW H} {ps : List MemPlace} {xs : List u.den}
    (ht : P.underlying t = some (.slice e)) (h : DataW.Trod enc P w 0 spare held t v d ps) (hr : ∀ ρ tm, VRel (heapOf w) ρ tm (aD (.slice u) xs) v) : xs.length ≤ Rows.uptoBulk d := by
  have hv : RepV (heapOf w) (.slice u) xs v := hr (fun _ => undef) #[]
  obtain ⟨ad, cap, rfl, _, _, hrest⟩ := sl_form (repV_slice.1 hv)
  obtain ⟨fuel, hx⟩ := h
  rcases DataW.trod_slice ht hx with ⟨hcs, _⟩ | ⟨a, len, cap', elems, rest, n, _, hcs, hd, _, _, _, hel, _, _, _⟩
  · simp [Value.cells] at hcs
    omega
  · simp [Value.cells] at hcs
    simp only [Prod.mk.injEq] at hd
    obtain ⟨rfl, _⟩ := hd
    have := bulk_len (elems.map (·.1))
    simp only [Rows.uptoBulk]
    rw [List.length_map] at this
    omega
end
theorem contract (H : Type) (enc : TypeId × Value → H) (W : World) (base : Nat) (args : Array Value) (ds gs : List (DataW H)) (before : List MemPlace)
    (hval0 : ∀ (j : Nat) t v, Try.f3.params[j]? = some t → args[j]? = some v → Value.okWide Try.prog W .any base t v)
    (hW : DataW.Whole enc Try.prog Try.f3.params.toList Rows.loneSievesSpec.vars false W args.toList ds gs before) (hk : Rows.uptoSmall H (ds ++ gs) = true) :
    Calls Try.prog 3 args W fun e W' => ∃ v, e = .returned v ∧ Rows.loneSievesSpec.post enc Try.prog Try.f3 false true false false W args v W' := by
  have hval : ∀ (j : Nat) t v, Try.f3.params[j]? = some t → args[j]? = some v → Value.okWide Try.prog W .any base t v := hval0
  have hW' := hW
  obtain ⟨p, q, hA0, hV, rfl, hfz, hnd⟩ := hW
  have hA : DataW.TrodAll enc Try.prog W 0 (fun _ => true) true Try.f3.params.toList args.toList ds p := hA0
  rw [Try.params3] at hA hval
  obtain ⟨v0, vs0, d0, ds0, p0, q0, hargs, rfl, rfl, h0, r0⟩ := trodAll_cons hA
  obtain ⟨v1, vs1, d1, ds1, p1, q1, rfl, rfl, rfl, h1, r1⟩ := trodAll_cons r0
  obtain ⟨v2, vs2, d2, ds2, p2, q2, rfl, rfl, rfl, h2, r2⟩ := trodAll_cons r1
  obtain ⟨rfl, rfl, rfl⟩ := trodAll_nil r2
  obtain rfl : args = #[v0, v1, v2] := by cases args; simp_all
  obtain ⟨rfl, rfl⟩ := trodVars_none hV
  obtain ⟨x0, f0, k0⟩ := Go.Sl.read_arg (u := (.int .i64)) (by kernel_rfl) (by kernel_rfl) (hval 0 3 v0 rfl rfl) h0
  have lt0 : ∀ x ∈ p0, x.block < W.heap.size := by obtain ⟨m, hm⟩ := h0; exact DataW.trod_lt m _ _ _ hm
  obtain ⟨x1, f1, k1⟩ := Go.Sl.read_arg (u := (.slice (.int .u32))) (by kernel_rfl) (by kernel_rfl) (hval 1 22 v1 rfl rfl) h1
  have lt1 : ∀ x ∈ p1, x.block < W.heap.size := by obtain ⟨m, hm⟩ := h1; exact DataW.trod_lt m _ _ _ hm
  obtain ⟨x2, f2, k2⟩ := Go.Sl.read_arg (u := (.slice (.int .u32))) (by kernel_rfl) (by kernel_rfl) (hval 2 22 v2 rfl rfl) h2
  have lt2 : ∀ x ∈ p2, x.block < W.heap.size := by obtain ⟨m, hm⟩ := h2; exact DataW.trod_lt m _ _ _ hm
  clear hA0 hval0
  have hk' : Rows.uptoBulkAll [d0, d1, d2] ≤ 1048576 := by simpa using of_decide_eq_true hk
  simp only [Rows.uptoBulkAll] at hk'
  have b1 := bulk_slice Try.underlying22 h1 k1
  have b2 := bulk_slice Try.underlying22 h2 k2
  obtain ⟨fuel, hm⟩ := LoneSieves_true x0 x1 x2 f0 f1 f2 (by omega) (by omega)
  refine (Go.Sl.law_of (vs := [v0, v1, v2]) (law_LoneSieves_ok hm) rfl (.cons (k0 _ _) (.cons (k1 _ _) (.cons (k2 _ _) .nil)))).mono fun e W' ⟨he, bel⟩ => ?_
  subst he
  exact ⟨_, rfl, _, _, _, [], _, [], hW', trodAll_mk1 (shut_bool Try.underlying4 _), (trodAll_cons_mk (Below.trod laidOut (by kernel_rfl) (of_decide_eq_true (by kernel_rfl)) h0 bel lt0) (trodAll_cons_mk (Below.trod laidOut (by kernel_rfl) (of_decide_eq_true (by kernel_rfl)) h1 bel lt1) (trodAll_cons_mk (Below.trod laidOut (by kernel_rfl) (of_decide_eq_true (by kernel_rfl)) h2 bel lt2) trodAll_mk0))), rfl, bel.frame _, fun h => by cases h⟩
theorem lifted (os : Os) (started : os.Started) (H : Type) (enc : TypeId × Value → H) (F : Stop.Interp) :
    ReturnsInHanded {} Try.checked os 3 .any ((Rows.OpenSpec.upto Rows.loneSievesSpec).pre6 enc Try.prog Try.f3 Rows.loneSievesUptoRow.domain false) (((Rows.OpenSpec.upto Rows.loneSievesSpec).at F).post enc Try.prog Try.f3 false true false false) := by
  refine returnsInHanded_of_cond (C := Try.checked) (s := Rows.OpenSpec.upto Rows.loneSievesSpec) (k := Rows.uptoSmall) rfl own started (by kernel_rfl) Try.func3
    (OpenSpec.witness (enc := enc) (C := Try.checked) (s := Rows.OpenSpec.upto Rows.loneSievesSpec) (k := Rows.uptoSmall) rfl false ⟨#[], #[.int .i64 0, .slice none 0 0, .slice none 0 0], []⟩ 8 (by kernel_rfl) (by kernel_rfl) (by kernel_rfl)
      (x := ([.lit (.int .i64 0), .nil, .nil], [], [])) (by kernel_rfl) rfl (by kernel_rfl)) ?_
  intro W base args ds gs before hval hW _ hk _
  exact contract H enc W base args ds gs before hval hW hk
theorem proved : Rows.LoneSievesUptoSaid :=
  OpenClaim.holds_of_cond 3 Try.f3 rfl rfl rfl rfl rfl rfl rfl ⟨rfl, rfl, rfl, rfl, rfl⟩ rfl rfl rfl rfl rfl (by kernel_rfl) Try.func3 (by kernel_rfl)
    (of_decide_eq_true (by kernel_rfl)) (by unfold Func.isWrapper; first | (rw [if_pos (by decide +kernel)]; kernel_rfl) | (rw [if_neg (by decide +kernel)]; exact ⟨rfl, rfl⟩))
    (fun os started H enc _ F => lifted os started H enc F)
#print axioms proved
end Go.Proofs.Ytkkmiclmbhbmjaa.loneSieves
