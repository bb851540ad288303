/- For any sets and any number of checks lone.Lucky returns the specified results: LoneLuckies returns true and changes nothing; no conditions. -/
import Derived.Test.YtkkmiclmbhbmjaaRows
import Derived.WalkKit
import Derived.ProofKit
import Derived.OpenShut
import Derived.ShutString
import Derived.ChangeOld
import Derived.Below
import Derived.Test.YtkkmiclmbhbmjaaLoneLuckiesM
set_option linter.all false
set_option maxRecDepth 100000
namespace Go.Proofs.Ytkkmiclmbhbmjaa.loneLuckies
open Go Go.Sl

theorem mget_mput {α β : Type} {eq : α → α → Bool} [DecidableEq α] (heq : ∀ a b, eq a b = true ↔ a = b) : ∀ (l : List (α × β)) (x : α) (y : β) (z : α), mGet eq (mPut eq l x y) z = if z = x then some y else mGet eq l z
  | [], x, y, z => by
    by_cases h : z = x
    · simp [mPut, mGet, h, (heq x x).2 rfl]
    · have : eq z x = false := by cases hh : eq z x with | false => rfl | true => exact (h ((heq _ _).1 hh)).elim
      simp [mPut, mGet, h, this]
  | p :: l, x, y, z => by
    have hf : ∀ {a b}, a ≠ b → eq a b = false := by
      intro a b h
      cases hh : eq a b with | false => rfl | true => exact (h ((heq _ _).1 hh)).elim
    by_cases hp : x = p.1
    · have e1 : eq x p.1 = true := (heq _ _).2 hp
      by_cases h : z = x
      · simp [mPut, mGet, e1, h, (heq x x).2 rfl]
      · simp [mPut, mGet, e1, h, hf h, hf (fun e => h (e.trans hp.symm))]
    · have e1 : eq x p.1 = false := hf hp
      by_cases hz : z = p.1
      · have e2 : eq z p.1 = true := (heq _ _).2 hz
        have hzx : z ≠ x := fun e => hp (e ▸ hz)
        simp [mPut, mGet, e1, e2, hzx]
      · simp only [mPut, e1, Bool.false_eq_true, if_false, mGet, hf hz]
        exact mget_mput heq l x y z
theorem deqI {k : IntKind} (a b : Int) : deqT (.int k) a b = true ↔ a = b := by simp [deqT]

theorem within_eq (a b c : Int) : ref_Within a b c = some (decide (a ≤ b ∧ b ≤ c)) := by
  unfold ref_Within
  rw [Bool.decide_and]

/-- what a list of sets is told -/
def lw (n : Int) (l : List Int) : Int :=
  if ¬ (1 ≤ n ∧ n ≤ 5) ∨ ¬ (1 ≤ (l.length : Int) ∧ (l.length : Int) ≤ 200) then 1 else
  if l.any (fun s => decide (2 ^ n.toNat ≤ s)) then 4 else (firstOf (fun k s => if s ∈ l.take k then some 3 else none) 0 l).getD 0
theorem lone_shr {n s : Int} (h1 : 1 ≤ n) (h5 : n ≤ 5) (hs : 0 ≤ s) : (bShr .u32 s n != 0) = decide (2 ^ n.toNat ≤ s) := by
  obtain ⟨m, rfl⟩ := Int.eq_ofNat_of_zero_le hs
  obtain ⟨k, rfl⟩ := Int.eq_ofNat_of_zero_le (show 0 ≤ n by omega)
  rw [bShr_nat (by omega), bne_dec]
  refine decide_eq_decide.2 ?_
  rw [Int.toNat_natCast]
  have hp : 0 < 2 ^ k := Nat.two_pow_pos k
  constructor
  · intro h
    have h2 : m / 2 ^ k ≠ 0 := by omega
    have : 2 ^ k ≤ m := by
      rcases Nat.lt_or_ge m (2 ^ k) with h3 | h3
      · exact (h2 (Nat.div_eq_of_lt h3)).elim
      · exact h3
    exact_mod_cast this
  · intro h
    have h3 : 2 ^ k ≤ m := by exact_mod_cast h
    have := Nat.div_pos h3 hp
    omega
theorem lone_shl {n : Int} (h1 : 1 ≤ n) (h5 : n ≤ 5) : bShl .u32 1 (IntKind.wrap .u64 n) = 2 ^ n.toNat := by
  rw [wrap_u64 (by omega) (by omega)]
  have : n = 1 ∨ n = 2 ∨ n = 3 ∨ n = 4 ∨ n = 5 := by omega
  rcases this with rfl | rfl | rfl | rfl | rfl <;> decide
theorem lone_any {p : Int → Bool} {b : Int → Option Bool} : ∀ {l : List Int}, (∀ s ∈ l, b s = some (p s)) → ∀ {i : Int},
    ∃ y, forL (fun i s (_ : Unit) => (b s).bind fun r => bif r then some (.done (.ret i)) else some (.next ())) (fun _ => (.brk () : Esc Int Unit)) l i () = some y ∧ (0 ≤ i → (match y with | .ret v => l.any p = true ∧ 0 ≤ v | .brk _ => l.any p = false))
  | [], _, i => ⟨.brk (), rfl, fun _ => rfl⟩
  | a :: l, h, i => by
    rw [forL, h a (by simp), bind_some']
    cases hp : p a with
    | true => exact ⟨.ret i, rfl, fun h0 => ⟨by simp [hp], h0⟩⟩
    | false =>
      obtain ⟨y, h1, h2⟩ := lone_any (p := p) (b := b) (l := l) (fun s hs => h s (by simp [hs])) (i := i + 1)
      refine ⟨y, h1, fun h0 => ?_⟩
      have := h2 (by omega)
      cases y with
      | ret v => simpa [hp] using this
      | brk u => simpa [hp] using this
theorem lone_has {n : Int} {l : List Int} (h1 : 1 ≤ n) (h5 : n ≤ 5) (hl : ∀ s ∈ l, 0 ≤ s) : slices_ContainsFunc_Luint32uint32_with_lone_wrong_1 l n = some (l.any fun s => decide (2 ^ n.toNat ≤ s)) := by
  unfold slices_ContainsFunc_Luint32uint32_with_lone_wrong_1 slices_IndexFunc_Luint32uint32_with_lone_wrong_1
  obtain ⟨y, e1, e2⟩ := lone_any (p := fun s => decide (2 ^ n.toNat ≤ s)) (b := fun s => lone_wrong_1 s n) (l := l) (fun s hs => by
    unfold lone_wrong_1
    rw [ck_ok (by omega), bind_some', lone_shr h1 h5 (hl s hs)]) (i := 0)
  have e1' : forL (slices_IndexFunc_Luint32uint32_with_lone_wrong_1_b1 n) (fun _ => (.brk () : Esc Int Unit)) l 0 () = some y := e1
  rw [e1', bind_some']
  have e2 := e2 (by omega)
  cases y with
  | ret v => simp only [bind_some', e2.1]; congr 1; exact decide_eq_true e2.2
  | brk u => simp only [bind_some', e2]; rfl
theorem lone_wrong_eq (n : Int) (l : List Int) (hf : ∀ s ∈ l, 0 ≤ s) : lone_wrong n l = some (lw n l) := by
  unfold lone_wrong lw
  by_cases hr : ¬ (1 ≤ n ∧ n ≤ 5) ∨ ¬ (1 ≤ (l.length : Int) ∧ (l.length : Int) ≤ 200)
  · rw [if_pos hr, bif_t]
    simp only [Bool.or_eq_true, decide_eq_true_eq]; omega
  · rw [if_neg hr, bif_f (by simp only [Bool.or_eq_false_iff, decide_eq_false_iff_not]; omega)]
    rw [lone_has (by omega) (by omega) hf, bind_some']
    cases ha : l.any fun s => decide (2 ^ n.toNat ≤ s) with
    | true => rfl
    | false =>
      rw [bif_f rfl, if_neg (by decide)]
      obtain ⟨y, y', e1, e2, e3⟩ := forL_rel (body := lone_wrong_b1) (fin := fun _ => (.brk () : Esc Int Unit)) (l := l) (l' := l) (x := (some [] : Option (List (Int × Bool)))) (x' := ())
        (body' := fun k s _ => some (said (fun e : Int => (.ret e : Esc Int Unit)) (if s ∈ l.take k.toNat then some 3 else none))) (fin' := fun _ => .brk ())
        (R := fun k x _ => ∃ m, x = some m ∧ ∀ v, mGet (deqT (.int .u32)) m v = if v ∈ l.take k then some true else none) (S := fun y y' => y = y') rfl ⟨[], rfl, fun v => by simp [mGet]⟩ (by
          rintro k a a' x _ h1 h2 ⟨m, rfl, hm⟩
          obtain rfl := Option.some.inj (h1.symm.trans h2)
          have hg := hm a
          have hk := (List.getElem?_eq_some_iff.1 h1)
          unfold lone_wrong_b1
          by_cases hin : a ∈ l.take k
          · refine ⟨.done (.ret 3), .done (.ret 3), ?_, ?_, rfl⟩
            · simp [hg, hin]
            · simp [said, hin]
          · refine ⟨.next (some (mPut (deqT (.int .u32)) m a true)), .next (), ?_, ?_, _, rfl, ?_⟩
            · simp [hg, hin, ck]
            · simp [said, hin]
            · intro v
              rw [mget_mput deqI, hm v, List.take_add_one, h1]
              by_cases hv : v = a
              · simp [hv]
              · simp [hv]) (by rintro _ _ _; rfl)
      subst e3
      rw [e1, bind_some']
      have e4 := forL_findI (fin := fun _ => (.brk () : Esc Int Unit)) (f := fun k s => if s ∈ l.take k then some (3 : Int) else none) (g := fun e : Int => .ret e) (l := l) (body := fun k s _ => some (said (fun e : Int => (.ret e : Esc Int Unit)) (if s ∈ l.take k.toNat then some 3 else none))) (fun k a _ => by simp)
      rw [e2] at e4
      rw [Option.some.inj e4]
      cases firstOf (fun k s => if s ∈ l.take k then some (3 : Int) else none) 0 l <;> rfl
theorem lone_ref_eq (fuel : Nat) (n : Int) (l : List Int) (hf : ∀ s ∈ l, 0 ≤ s) : ref_LoneCheck fuel n l = some (lw n l) := by
  unfold ref_LoneCheck lw ref_LoneCheck_g1
  simp only [within_eq, bind_some']
  by_cases hr : ¬ (1 ≤ n ∧ n ≤ 5) ∨ ¬ (1 ≤ (l.length : Int) ∧ (l.length : Int) ≤ 200)
  · rw [if_pos hr]
    have : (bif !decide (1 ≤ n ∧ n ≤ 5) then some true else some !decide (1 ≤ (l.length : Int) ∧ (l.length : Int) ≤ 200)) = some true := by
      rcases hr with h | h <;> simp [h]
    rw [this]; rfl
  · rw [if_neg hr]
    have hb : (1 ≤ n ∧ n ≤ 5) ∧ (1 ≤ (l.length : Int) ∧ (l.length : Int) ≤ 200) := by omega
    have : (bif !decide (1 ≤ n ∧ n ≤ 5) then some true else some !decide (1 ≤ (l.length : Int) ∧ (l.length : Int) ≤ 200)) = some false := by simp [hb.1, hb.2]
    rw [this, bind_some', bif_f rfl]
    rw [forL_ex (p := fun s => decide (2 ^ n.toNat ≤ s)) (y := .ret 4) (fun i s hs => by
      unfold ref_LoneCheck_b2
      rw [wrap_u64 (by omega) (by omega), ck_ok (by omega), bind_some']
      have := lone_shl (n := n) (by omega) (by omega)
      rw [wrap_u64 (by omega) (by omega)] at this
      rw [this]
      exact bif_some)]
    cases ha : l.any fun s => decide (2 ^ n.toNat ≤ s) with
    | true => rfl
    | false =>
      rw [if_neg (by decide), bif_f rfl, bind_some']
      rw [forL_findI (f := fun k s => if s ∈ l.take k then some (3 : Int) else none) (g := fun e : Int => .ret e) (fun k a hk => by
        unfold ref_LoneCheck_b16
        have hkl := (List.getElem?_eq_some_iff.1 hk).1
        rw [forI_any (n := k) (p := fun j => decide (l[j]? = some a)) (y := .ret 3) (by omega) (fun j hj => by
          unfold ref_LoneCheck_b12
          have hjl : j < l.length := by omega
          rw [idx_nat, List.getElem?_eq_getElem hjl, bind_some', beq_dec, bif_some]
          congr 2
          refine decide_eq_decide.2 ?_
          simp only [Option.some.injEq]; exact eq_comm), bind_some']
        have hiff : (List.range k).any (fun j => decide (l[j]? = some a)) = decide (a ∈ l.take k) := by
          rw [Bool.eq_iff_iff]
          simp only [List.any_eq_true, List.mem_range, decide_eq_true_eq]
          constructor
          · rintro ⟨j, hj, h⟩
            rw [List.mem_iff_getElem?]
            exact ⟨j, by rw [List.getElem?_take_of_lt hj]; exact h⟩
          · intro h
            obtain ⟨j, hj⟩ := List.mem_iff_getElem?.1 h
            rw [List.getElem?_take] at hj
            split at hj
            · exact ⟨j, by assumption, hj⟩
            · cases hj
        rw [hiff]
        by_cases hin : a ∈ l.take k <;> simp [hin, said])]
      cases firstOf (fun k s => if s ∈ l.take k then some (3 : Int) else none) 0 l <;> rfl
theorem lw_zero {n : Int} {l : List Int} (h : lw n l = 0) : 1 ≤ n ∧ n ≤ 5 ∧ 1 ≤ l.length ∧ l.length ≤ 200 ∧ ∀ s ∈ l, s < 2 ^ n.toNat := by
  unfold lw at h
  split at h
  · cases h
  · split at h
    · cases h
    · rename_i h1 h2
      simp only [Bool.not_eq_true, List.any_eq_false, decide_eq_true_eq] at h2
      exact ⟨by omega, by omega, by omega, by omega, fun s hs => by have := h2 s hs; omega⟩

theorem bit_eq {w i : Nat} (hw : w < 2 ^ 63) (hi : i < 63) : ref_Bit (w : Int) (i : Int) = some (w.testBit i) := by
  unfold ref_Bit
  have c : (decide ((i : Int) ≥ 0) && decide ((i : Int) < 63)) = true := by simp; omega
  have e : IntKind.wrap .u64 (i : Int) = (i : Int) := wrap_u64 (by omega) (by omega)
  rw [c, e, ck_ok (by omega)]
  simp only [cond_true, Option.bind_some, bit_mask hw hi]

theorem size_eq {w : Nat} (hw : w < 2 ^ 63) : ref_Size (w : Int) = some ((pc w : Nat) : Int) := by
  unfold ref_Size
  have := forI_count (body := ref_Size_b4 (w : Int)) (fin := fun x => x) (p := w.testBit) (n := 63) (by omega) (by
    intro j x hj
    unfold ref_Size_b4
    rw [bit_eq hw hj]
    cases w.testBit j <;> rfl)
  simp only [Int.cast_ofNat_Int] at this
  rw [this]; rfl

theorem forL_filt {α Y : Type} {body : Int → α → List α → Option (Flow (List α) Y)} {fin : List α → Y} {p : α → Bool} {l : List α}
    (hb : ∀ (k : Nat) a x, l[k]? = some a → x.length ≤ k → body k a x = some (.next (bif p a then x ++ [a] else x))) : forL body fin l 0 [] = some (fin (l.filter p)) := by
  obtain ⟨y, h1, h2⟩ := forL_inv (body := body) (fin := fin) (l := l) (x := []) (Inv := fun k x => x = (l.take k).filter p) (Post := fun y => y = fin (l.filter p)) (by simp) (by
    intro k a x hk hx
    have hl : x.length ≤ k := by
      rw [hx]
      exact Nat.le_trans (List.length_filter_le _ _) (by simp; omega)
    refine ⟨_, hb k a x hk hl, ?_⟩
    show (bif p a then x ++ [a] else x) = _
    rw [hx, List.take_add_one, hk]
    cases hp : p a <;> simp [hp]) (by intro x hx; rw [hx]; simp)
  rw [h1, h2]
theorem ls_ones : ∀ w : Nat, w < 32 → math_bits_OnesCount32 (w : Int) = some ((pc w : Nat) : Int) := by
  decide +kernel
theorem ls_and : ∀ a : Nat, a < 32 → ∀ b : Nat, b < 32 → bAnd .u32 (a : Int) (b : Int) = ((a &&& b : Nat) : Int) ∧ a &&& b < 32 ∧ b &&& a = a &&& b := by
  decide +kernel
/-- is one met an odd number of times? -/
def oddOf (c s : Int) : Bool := (pc (c.toNat &&& s.toNat)) % 2 == 1
theorem odd_mod (k : Nat) : (Int.tmod (k : Int) 2 == 1) = (k % 2 == 1) := by
  rw [show (2 : Int) = ((2 : Nat) : Int) from rfl, ← Int.ofNat_tmod, beq_dec, beq_dec]; exact decide_eq_decide.2 (by omega)
theorem ls_odd {c s : Int} (hc : 0 ≤ c ∧ c < 32) (hs : 0 ≤ s ∧ s < 32) : lone_sieve_1 c s = some (oddOf c s) ∧ ref_Odd c (w64 s) = some (oddOf c s) := by
  obtain ⟨c, rfl⟩ := Int.eq_ofNat_of_zero_le hc.1
  obtain ⟨s, rfl⟩ := Int.eq_ofNat_of_zero_le hs.1
  obtain ⟨h1, h2, h3⟩ := ls_and c (by omega) s (by omega)
  unfold lone_sieve_1 ref_Odd oddOf
  simp only [Int.toNat_natCast]
  constructor
  · rw [h1, ls_ones _ h2, bind_some', odd_mod]
  · rw [wnat (by omega), bAnd_nat (by omega) (by omega), size_eq (by omega), bind_some', odd_mod]
theorem ls_any {s : Int} {l : List Int} (hs : 0 ≤ s ∧ s < 32) (hl : ∀ c ∈ l, 0 ≤ c ∧ c < 32) : slices_ContainsFunc_Luint32uint32_with_lone_sieve_1 l s = some (l.any fun c => oddOf c s) := by
  unfold slices_ContainsFunc_Luint32uint32_with_lone_sieve_1 slices_IndexFunc_Luint32uint32_with_lone_sieve_1
  obtain ⟨y, e1, e2⟩ := lone_any (p := fun c => oddOf c s) (b := fun c => lone_sieve_1 c s) (l := l) (fun c hc => (ls_odd (hl c hc) hs).1) (i := 0)
  have e1' : forL (slices_IndexFunc_Luint32uint32_with_lone_sieve_1_b1 s) (fun _ => (.brk () : Esc Int Unit)) l 0 () = some y := e1
  rw [e1', bind_some']
  have e2 := e2 (by omega)
  cases y with
  | ret v => simp only [bind_some', e2.1]; congr 1; exact decide_eq_true e2.2
  | brk u => simp only [bind_some', e2]; rfl
theorem ls_sieve {l cs : List Int} (hlen : l.length ≤ 200) (hl : ∀ s ∈ l, 0 ≤ s ∧ s < 32) (hc : ∀ c ∈ cs, 0 ≤ c ∧ c < 32) : lone_sieve l cs = some (l.filter fun s => !(cs.any fun c => oddOf c s)) := by
  unfold lone_sieve
  rw [forL_filt (p := fun s => !(cs.any fun c => oddOf c s)) (fun k s x hk hx => by
    have hkl := (List.getElem?_eq_some_iff.1 hk).1
    unfold lone_sieve_b6 lone_sieve_g4
    rw [ls_any (hl s (List.mem_of_getElem? hk)) hc, bind_some']
    cases cs.any fun c => oddOf c s with
    | true => rfl
    | false =>
      have hck : ck ((x.length : Int) + 1 ≤ 4294967296) = some () := ck_ok (by omega)
      simp only [Bool.not_false, cond_true, hck, bind_some'])]
  rfl
theorem ls_sieved {l cs : List Int} (hlen : l.length ≤ 200) (hl : ∀ s ∈ l, 0 ≤ s ∧ s < 32) (hc : ∀ c ∈ cs, 0 ≤ c ∧ c < 32) : ref_Sieved l cs = some (l.filter fun s => !(cs.any fun c => oddOf c s)) := by
  unfold ref_Sieved
  rw [forL_filt (p := fun s => !(cs.any fun c => oddOf c s)) (fun k s x hk hx => by
    have hkl := (List.getElem?_eq_some_iff.1 hk).1
    unfold ref_Sieved_b33 ref_Sieved_g31
    have hs := hl s (List.mem_of_getElem? hk)
    rw [forL_fold (g := fun x c => x && !oddOf c s) (fun i c x hcm => by
      unfold ref_Sieved_b28
      cases x with
      | false => rfl
      | true => rw [(ls_odd (hc c hcm) hs).2]; rfl)]
    have hf : ∀ (l : List Int) (b : Bool), l.foldl (fun x c => x && !oddOf c s) b = (b && !(l.any fun c => oddOf c s)) := by
      intro l
      induction l with
      | nil => intro b; simp
      | cons c l ih => intro b; rw [List.foldl_cons, ih, List.any_cons]; cases b <;> cases oddOf c s <;> rfl
    rw [hf, Bool.true_and, bind_some']
    cases cs.any fun c => oddOf c s with
    | true => rfl
    | false =>
      have hck : ck ((x.length : Int) + 1 ≤ 4294967296) = some () := ck_ok (by omega)
      simp only [Bool.not_false, cond_true, hck, bind_some'])]
  rfl

/-- the digits of a number, the least first -/
def dgs (b n d : Nat) : List Int := (List.range n).map fun j => ((d / b ^ j % b : Nat) : Int)
@[simp] theorem dgs_len (b n d : Nat) : (dgs b n d).length = n := by simp [dgs]
theorem dgs_cons (b n d : Nat) : dgs b (n + 1) d = ((d % b : Nat) : Int) :: dgs b n (d / b) := by
  unfold dgs
  rw [List.range_succ_eq_map, List.map_cons, List.map_map, Nat.pow_zero, Nat.div_one]
  congr 1
  apply List.map_congr_left
  intro j _
  simp only [Function.comp]
  rw [Nat.pow_succ, Nat.mul_comm, Nat.div_div_eq_div_mul]
theorem dgs_snoc (b n d : Nat) : dgs b (n + 1) d = dgs b n d ++ [((d / b ^ n % b : Nat) : Int)] := by
  unfold dgs
  rw [List.range_succ, List.map_append]; rfl
theorem dgs_mem {b n d : Nat} (hb : 0 < b) {v : Int} (h : v ∈ dgs b n d) : 0 ≤ v ∧ v < b := by
  unfold dgs at h
  obtain ⟨j, _, rfl⟩ := List.mem_map.1 h
  have := Nat.mod_lt (d / b ^ j) hb
  omega
theorem dgs_zero (b n : Nat) : dgs b n 0 = List.replicate n 0 := by
  unfold dgs
  rw [List.eq_replicate_iff]
  refine ⟨by simp, fun v hv => ?_⟩
  obtain ⟨j, _, rfl⟩ := List.mem_map.1 hv
  simp
theorem dice_eq {b n d : Nat} (hb : 0 < b) (hn : n ≤ 1000) (hd : d ≤ 9223372036854775807) : ref_Dice (n : Int) (b : Int) (d : Int) = some (dgs b n d) := by
  unfold ref_Dice
  obtain ⟨y, h1, h2⟩ := forI_inv (body := ref_Dice_b4 (b : Int)) (fin := fun x9 => x9.2) (lo := 0) (hi := (n : Int)) (x := ((d : Int), [])) (fun i x => x = (((d / b ^ i.toNat : Nat) : Int), dgs b i.toNat d)) (fun y => y = dgs b n d) (by omega) (by omega) (by simp [dgs])
    (fun i x h0 hi hx => by
      obtain ⟨j, rfl⟩ := Int.eq_ofNat_of_zero_le h0
      rw [Int.toNat_natCast] at hx
      subst hx
      have hle : d / b ^ j ≤ d := Nat.div_le_self _ _
      have hle2 : d / b ^ j / b ≤ d := Nat.le_trans (Nat.div_le_self _ _) hle
      have hw : w64 ((d / b ^ j / b : Nat) : Int) = ((d / b ^ j / b : Nat) : Int) := by
        generalize d / b ^ j / b = q at *
        exact w64_id (by omega) (by omega)
      have e1 : Int.tdiv ((d / b ^ j : Nat) : Int) (b : Int) = ((d / b ^ j / b : Nat) : Int) := rfl
      have e2 : Int.tmod ((d / b ^ j : Nat) : Int) (b : Int) = ((d / b ^ j % b : Nat) : Int) := rfl
      unfold ref_Dice_b4
      dsimp only
      have hck : ck ((List.length (dgs b j d) : Int) + 1 ≤ 4294967296) = some () := ck_ok (by rw [dgs_len]; omega)
      rw [ck_ok (by omega), bind_some', hck, bind_some', e1, e2, hw]
      refine ⟨_, rfl, ?_⟩
      have ht : ((j : Int) + 1).toNat = j + 1 := by omega
      rw [ht, dgs_snoc, Nat.pow_succ, ← Nat.div_div_eq_div_mul])
    (fun i x h0 h1 h2 hx => by
      have : i.toNat = n := by omega
      rw [hx, this])
  rw [h1, h2]; rfl
theorem iter_seq {X Y : Type} {f : X → Option (Flow X Y)} {s : Nat → X} {y : Y} {n : Nat} (hs : ∀ j, j < n → f (s j) = some (.next (s (j + 1)))) (hf : f (s n) = some (.done y)) : ∀ (k j fuel : Nat), j + k = n → k < fuel → iter f fuel (s j) = some y
  | k, j, 0, _, h => by omega
  | 0, j, fuel + 1, h, _ => by
    have : j = n := by omega
    subst this
    simp only [iter, hf]
  | k + 1, j, fuel + 1, h, hk => by
    simp only [iter, hs j (by omega)]
    exact iter_seq hs hf k (j + 1) fuel (by omega) (by omega)

/-- the next of the lists of numbers below b, the first one turning fastest -/
def incL (b : Int) : List Int → Option (List Int)
  | [] => none
  | x :: l => if x = b - 1 then (incL b l).map (0 :: ·) else some ((x + 1) :: l)
theorem inc_dgs {b : Nat} (hb : 0 < b) : ∀ (n d : Nat), d < b ^ n → incL b (dgs b n d) = if d + 1 = b ^ n then none else some (dgs b n (d + 1))
  | 0, d, h => by
    have : d = 0 := by simpa using h
    subst this
    rfl
  | n + 1, d, h => by
    have hm := Nat.mod_lt d hb
    have hd := Nat.div_add_mod d b
    rw [Nat.pow_succ] at h ⊢
    rw [dgs_cons, dgs_cons, incL]
    by_cases e : d % b = b - 1
    · have e1 : ((d % b : Nat) : Int) = (b : Int) - 1 := by omega
      have hq : (d + 1) / b = d / b + 1 := by
        have : d + 1 = b * (d / b + 1) := by rw [Nat.mul_add]; omega
        rw [this, Nat.mul_div_cancel_left _ hb]
      have hr : (d + 1) % b = 0 := by
        have : d + 1 = b * (d / b + 1) := by rw [Nat.mul_add]; omega
        rw [this, Nat.mul_mod_right]
      have hlt : d / b < b ^ n := Nat.div_lt_of_lt_mul (by rw [Nat.mul_comm]; exact h)
      rw [if_pos e1, inc_dgs hb n (d / b) hlt, hq, hr]
      by_cases e2 : d / b + 1 = b ^ n
      · have : d + 1 = b ^ n * b := by
          rw [← e2, Nat.mul_comm, Nat.mul_add]; omega
        rw [if_pos e2, if_pos this]; rfl
      · have : ¬ d + 1 = b ^ n * b := by
          intro h3
          apply e2
          have : b * (d / b + 1) = b * b ^ n := by rw [Nat.mul_add, Nat.mul_comm b (b ^ n)]; omega
          exact Nat.eq_of_mul_eq_mul_left hb this
        rw [if_neg e2, if_neg this]; rfl
    · have e1 : ¬ ((d % b : Nat) : Int) = (b : Int) - 1 := by omega
      have hq : (d + 1) / b = d / b := by
        have : d + 1 = b * (d / b) + (d % b + 1) := by omega
        rw [this, Nat.mul_add_div hb, Nat.div_eq_of_lt (by omega : d % b + 1 < b), Nat.add_zero]
      have hr : (d + 1) % b = d % b + 1 := by
        have : d + 1 = b * (d / b) + (d % b + 1) := by omega
        rw [this, Nat.mul_add_mod, Nat.mod_eq_of_lt (by omega : d % b + 1 < b)]
      have hne : ¬ d + 1 = b ^ n * b := by
        intro h3
        have : (d + 1) % b = 0 := by rw [h3, Nat.mul_mod_left]
        omega
      rw [if_neg e1, if_neg hne, hq, hr]
      rfl
/-- the loop that looks for the place -/
def odB (c0 c1 : Int) (x : Int × List Int) : Option (Flow (Int × List Int) (Int × List Int)) :=
  (bif decide (x.1 < c0) then ((idx x.2 x.1).bind fun v => some (v == (w64 (c1 - (1 : Int))))) else (some false)).bind fun v154 =>
  bif v154 then ((idx x.2 x.1).bind fun _ => some (.next (w64 (x.1 + (1 : Int)), List.set x.2 (Int.toNat x.1) (0 : Int)))) else (some (.done (x.1, x.2)))
theorem od_loop {b : Int} (hb : 1 ≤ b ∧ b ≤ 1000) : ∀ (r p : List Int) (c0 : Int) (fuel : Nat), c0 = ((p.length + r.length : Nat) : Int) → p.length + r.length ≤ 1000 → (∀ v ∈ r, 0 ≤ v ∧ v < b) → r.length < fuel →
    ∃ (i : Nat) (l' : List Int), iter (odB c0 b) fuel ((p.length : Int), p ++ r) = some ((i : Int), l') ∧ (match incL b r with
      | none => (i : Int) = c0
      | some r' => (i : Int) ≠ c0 ∧ ∃ v, idx l' (i : Int) = some v ∧ List.set l' i (w64 (v + 1)) = p ++ r')
  | [], p, c0, fuel + 1, hc, _, _, _ => by
    refine ⟨p.length, p ++ [], ?_, by rw [incL]; simpa using hc.symm⟩
    have h0 : decide ((p.length : Int) < c0) = false := decide_eq_false (by rw [hc]; simp)
    rw [iter]
    unfold odB
    dsimp only
    rw [h0, cond_false, bind_some', cond_false]
  | x :: r, p, c0, fuel + 1, hc, hl, hv, hf => by
    have hx := hv x (by simp)
    have h0 : decide ((p.length : Int) < c0) = true := decide_eq_true (by rw [hc]; simp; omega)
    have hi : idx (p ++ x :: r) (p.length : Int) = some x := by rw [idx_nat, List.getElem?_append_right (Nat.le_refl _), Nat.sub_self]; rfl
    have hw : w64 (b - 1) = b - 1 := w64_id (by omega) (by omega)
    have hs : odB c0 b ((p.length : Int), p ++ x :: r) = some (if x = b - 1 then .next (((p ++ [(0 : Int)]).length : Int), (p ++ [0]) ++ r) else .done ((p.length : Int), p ++ x :: r)) := by
      unfold odB
      dsimp only
      rw [h0, cond_true, hi, bind_some', bind_some', hw]
      by_cases e : x = b - 1
      · rw [if_pos e, show (x == b - 1) = true from by simp [e], cond_true, bind_some', w64_id (by omega) (by omega), Int.toNat_natCast, List.set_append_right _ _ (Nat.le_refl _), Nat.sub_self, List.set_cons_zero]
        congr 3
        · simp
        · simp
      · rw [if_neg e, show (x == b - 1) = false from by simp [e], cond_false]
    rw [iter, hs, incL]
    by_cases e : x = b - 1
    · rw [if_pos e, if_pos e]
      dsimp only
      obtain ⟨i, l', h1, h2⟩ := od_loop hb r (p ++ [0]) c0 fuel (by rw [hc]; simp; omega) (by simp at hl ⊢; omega) (fun v h => hv v (by simp [h])) (by simp at hf; omega)
      refine ⟨i, l', h1, ?_⟩
      cases hq : incL b r with
      | none => rw [hq] at h2; exact h2
      | some r' =>
        rw [hq] at h2
        obtain ⟨h3, v, h4, h5⟩ := h2
        refine ⟨h3, v, h4, ?_⟩
        rw [h5]; simp
    · rw [if_neg e, if_neg e]
      refine ⟨p.length, p ++ x :: r, rfl, by rw [hc]; simp; omega, x, hi, ?_⟩
      rw [w64_id (by omega) (by omega), List.set_append_right _ _ (Nat.le_refl _), Nat.sub_self, List.set_cons_zero]
def odO {A : Type} (fuel : Nat) (c0 c1 : Int) (rf_y : List Int → (A × Int × Int) → Option (A × Int × Int)) (x57 : A × Int × Int × List Int) : Option (Flow (A × Int × Int × List Int) (A × Int × Int)) :=
  (rf_y x57.2.2.2 (x57.1, x57.2.1, x57.2.2.1)).bind fun r112 =>
  (iter (odB c0 c1) fuel ((0 : Int), x57.2.2.2)).bind fun v159 =>
  bif v159.1 == c0 then (some (.done (r112.1, r112.2.1, r112.2.2)))
  else ((idx v159.2 v159.1).bind fun v164 => some (.next (r112.1, r112.2.1, r112.2.2, List.set v159.2 (Int.toNat v159.1) (w64 (v164 + (1 : Int))))))
def odA {A : Type} (rf_y : List Int → (A × Int × Int) → Option (A × Int × Int)) (fuel : Nat) (c0 c1 : Int) (x0 : A × Int × Int) : Option (A × Int × Int) :=
  (ck (0 ≤ c0 ∧ c0 = c0 ∧ c0 ≤ 4294967296)).bind fun _ =>
  (iter (odO fuel c0 c1 rf_y) fuel (x0.1, x0.2.1, x0.2.2, List.replicate (Int.toNat c0) (0 : Int))).bind fun v166 => some (v166.1, v166.2.1, v166.2.2)
/-- all choices, one behind the other -/
theorem od_all {A : Type} {rf : List Int → (A × Int × Int) → Option (A × Int × Int)} {b n fuel : Nat} {s : Nat → A × Int × Int} (hb : 1 ≤ b ∧ b ≤ 1000) (hn : n ≤ 900) (hf : b ^ n < fuel) (hf2 : n < fuel) (hs : ∀ j, j < b ^ n → rf (dgs b n j) (s j) = some (s (j + 1))) :
    odA rf fuel (n : Int) (b : Int) (s 0) = some (s (b ^ n)) := by
  have hpos : 0 < b ^ n := Nat.pow_pos (by omega)
  have hlen : ∀ j, (dgs b n j).length = n := fun j => by simp [dgs]
  have step : ∀ j, j < b ^ n → odO fuel (n : Int) (b : Int) rf ((s j).1, (s j).2.1, (s j).2.2, dgs b n j) = some (if j + 1 = b ^ n then .done (s (j + 1)) else .next ((s (j + 1)).1, (s (j + 1)).2.1, (s (j + 1)).2.2, dgs b n (j + 1))) := by
    intro j hj
    obtain ⟨i, l', h1, h2⟩ := od_loop (b := (b : Int)) (by omega) (dgs b n j) [] (n : Int) fuel (by simp [hlen]) (by simp [hlen]; omega) (fun v hv => by have := dgs_mem (by omega) hv; omega) (by rw [hlen]; exact hf2)
    rw [inc_dgs (by omega) n j hj] at h2
    unfold odO
    dsimp only
    rw [hs j hj, bind_some']
    simp only [List.length_nil, List.nil_append, Int.cast_ofNat_Int] at h1
    rw [h1, bind_some']
    dsimp only
    by_cases e : j + 1 = b ^ n
    · rw [if_pos e] at h2
      have h2 : (i : Int) = (n : Int) := h2
      rw [if_pos e, show ((i : Int) == (n : Int)) = true from by simp [h2], cond_true]
    · rw [if_neg e] at h2
      obtain ⟨h3, v, h4, h5⟩ := h2
      rw [if_neg e, show ((i : Int) == (n : Int)) = false from by simpa using h3, cond_false, h4, bind_some', Int.toNat_natCast, h5]
      rfl
  have hck : ck (0 ≤ (n : Int) ∧ (n : Int) = (n : Int) ∧ (n : Int) ≤ 4294967296) = some () := ck_ok (by omega)
  unfold odA
  rw [hck, bind_some', Int.toNat_natCast, ← dgs_zero b n]
  have := iter_seq (f := odO fuel (n : Int) (b : Int) rf) (s := fun j => ((s j).1, (s j).2.1, (s j).2.2, dgs b n j)) (y := s (b ^ n)) (n := b ^ n - 1)
    (fun j hj => by rw [step j (by omega), if_neg (by omega)]) (by
      have e : b ^ n - 1 + 1 = b ^ n := by omega
      rw [step _ (by omega), if_pos e, e]) (b ^ n - 1) 0 fuel (by omega) (by omega)
  rw [this]; rfl

theorem ch_eq : lone_choices_1_for_lone_Lucky = odA (A := List Int) := by
  funext rf fuel c0 c1 x
  rfl
def keptL (l cs : List Int) : List Int := l.filter fun s => !(cs.any fun c => oddOf c s)
def luck (a1 : List Int) (b k j : Nat) : Bool := (((keptL a1 (dgs b k j)).length : Int) == 1)
def cntL (a1 : List Int) (b k : Nat) : Nat → Nat
  | 0 => 0
  | j + 1 => cntL a1 b k j + (if luck a1 b k j then 1 else 0)
theorem cntL_le (a1 : List Int) (b k : Nat) : ∀ j, cntL a1 b k j ≤ j
  | 0 => Nat.le_refl _
  | j + 1 => by have := cntL_le a1 b k j; unfold cntL; split <;> omega
theorem lk_checks {l : List Int} (hl : l.length ≤ 1000) (hv : ∀ v ∈ l, 0 ≤ v ∧ v < 32) : forL lone_Lucky_b9 (fun x => x) l 0 [] = some l := by
  obtain ⟨y, h1, h2⟩ := forL_inv (body := lone_Lucky_b9) (fin := fun x => x) (l := l) (x := []) (fun n x => x = l.take n) (fun y => y = l) rfl
    (by
      rintro n a x ha rfl
      have hn := (List.getElem?_eq_some_iff.1 ha).1
      have hb := hv a (List.mem_of_getElem? ha)
      have hck : ck ((List.length (l.take n) : Int) + 1 ≤ 4294967296) = some () := ck_ok (by rw [List.length_take]; omega)
      refine ⟨.next (l.take n ++ [a]), by unfold lone_Lucky_b9; rw [hck, bind_some', wrap_u32 (by omega) (by omega)], ?_⟩
      show l.take n ++ [a] = l.take (n + 1)
      rw [List.take_add_one, ha]; rfl)
    (by rintro x rfl; simp)
  rw [h1, h2]
theorem lk_r {a1 : List Int} {b k j : Nat} (hb : 1 ≤ b ∧ b ≤ 32) (hk : k ≤ 12) (h2 : a1.length ≤ 200) (hs : ∀ s ∈ a1, 0 ≤ s ∧ s < 32) (hj : j ≤ 100000) :
    lone_Lucky_r13 (dgs b k j) (a1, (cntL a1 b k j : Int), (j : Int)) = some (a1, (cntL a1 b k (j + 1) : Int), ((j + 1 : Nat) : Int)) := by
  have hv : ∀ v ∈ dgs b k j, 0 ≤ v ∧ v < 32 := fun v hv => by have := dgs_mem (by omega) hv; omega
  have hc := cntL_le a1 b k j
  unfold lone_Lucky_r13
  rw [lk_checks (by rw [dgs_len]; omega) hv, bind_some']
  dsimp only
  rw [ls_sieve h2 hs hv, bind_some', w64_id (by omega) (by omega), w64_id (by omega) (by omega), cntL]
  show (Option.bind (bif luck a1 b k j then _ else _) fun v => _) = _
  cases luck a1 b k j with
  | true => rw [cond_true, bind_some', if_pos rfl]; congr 3
  | false => rw [cond_false, bind_some', if_neg (by simp)]; rfl
theorem LoneLuckies_true (a0 : Int) (a1 : List Int) (a2 : Int) (f0 : Fits (.int .i64) a0) (f1 : Fits (.slice (.int .u32)) a1) (f2 : Fits (.int .i64) a2) : ∃ fuel, law_LoneLuckies fuel a0 a1 a2 = some true := by
  refine ⟨100000, ?_⟩
  have h1 : ∀ s ∈ a1, 0 ≤ s := fun s hs => (Fits.u32 (f1.mem hs)).1
  have hL := lone_ref_eq 100000 a0 a1 h1
  have hW := lone_wrong_eq a0 a1 h1
  unfold law_LoneLuckies
  by_cases hz : lw a0 a1 = 0
  · obtain ⟨n1, n5, l1, l2, hs⟩ := lw_zero hz
    have hp32 : (2 : Int) ^ a0.toNat ≤ 32 := by
      have : a0.toNat ≤ 5 := by omega
      have := Nat.pow_le_pow_right (n := 2) (by omega) this
      exact_mod_cast this
    have hs32 : ∀ s ∈ a1, 0 ≤ s ∧ s < 32 := fun s hs' => by have := hs s hs'; have := h1 s hs'; omega
    rw [hz] at hL hW
    have g4 : law_LoneLuckies_g4 a0 a2 0 = some (if (0 ≤ a2 ∧ a2 ≤ 12) ∧ ¬ w64 (a2 * a0) > 12 then 0 else 2) := by
      unfold law_LoneLuckies_g4 ref_Within
      rw [show ((0 : Int) == 0) = true from rfl, cond_true, bind_some', bind_some', ← Bool.decide_and]
      by_cases hx : 0 ≤ a2 ∧ a2 ≤ 12
      · by_cases hy : w64 (a2 * a0) > 12
        · rw [if_neg (fun h => h.2 hy), decide_eq_true hx, decide_eq_true hy]; rfl
        · rw [if_pos ⟨hx, hy⟩, decide_eq_true hx, decide_eq_false hy]; rfl
      · rw [if_neg (fun h => hx h.1), decide_eq_false hx]; rfl
    by_cases hx : (0 ≤ a2 ∧ a2 ≤ 12) ∧ ¬ w64 (a2 * a0) > 12
    · rw [if_pos hx] at g4
      obtain ⟨n, rfl⟩ := Int.eq_ofNat_of_zero_le (by omega : 0 ≤ a0)
      obtain ⟨k, rfl⟩ := Int.eq_ofNat_of_zero_le hx.1.1
      have hkn : w64 ((k : Int) * (n : Int)) = ((k * n : Nat) : Int) := by
        have : k * n ≤ 12 * 5 := Nat.mul_le_mul (by omega) (by omega)
        rw [← Int.natCast_mul, wnat (by omega)]
      have hkn12 : k * n ≤ 12 := by have := hx.2; rw [hkn] at this; omega
      have hb : 2 ^ n ≤ 32 := by
        have := Nat.pow_le_pow_right (n := 2) (by omega) (by omega : n ≤ 5)
        omega
      have hb1 : 1 ≤ 2 ^ n := Nat.pow_pos (by omega)
      have hbk : (2 ^ n) ^ k = 2 ^ (k * n) := by rw [← Nat.pow_mul, Nat.mul_comm]
      have hbig : 2 ^ (k * n) ≤ 4096 := by
        have := Nat.pow_le_pow_right (n := 2) (by omega) hkn12
        omega
      have hsh : bShl .i64 1 (n : Int) = ((2 ^ n : Nat) : Int) := bShl_one (by omega)
      have hS : lone_Lucky 100000 (n : Int) a1 (k : Int) = some ((cntL a1 (2 ^ n) k (2 ^ (k * n)) : Int), ((2 ^ (k * n) : Nat) : Int), 0) := by
        have e1 : ((((decide ((k : Int) < (0 : Int))) || (decide ((k : Int) > (12 : Int)))) || (decide ((w64 ((k : Int) * (n : Int))) > (12 : Int))))) = false := by
          simp only [Bool.or_eq_false_iff, decide_eq_false_iff_not]; omega
        have e2 : lone_choices (k : Int) ((2 ^ n : Nat) : Int) = some ((k : Int), ((2 ^ n : Nat) : Int)) := rfl
        have hck : ck (0 ≤ (n : Int)) = some () := ck_ok (by omega)
        unfold lone_Lucky
        rw [hW, bind_some', show ((0 : Int) != 0) = false from rfl, cond_false, e1, cond_false, hck, bind_some', hsh, e2, bind_some', ch_eq]
        dsimp only
        have := od_all (rf := lone_Lucky_r13) (b := 2 ^ n) (n := k) (fuel := 100000) (s := fun j => (a1, (cntL a1 (2 ^ n) k j : Int), (j : Int))) (by omega) (by omega) (by rw [hbk]; omega) (by omega)
          (fun j hj => lk_r (by omega) (by omega) l2 hs32 (by rw [hbk] at hj; omega))
        rw [hbk] at this
        rw [show ((a1, (0 : Int), (0 : Int)) : List Int × Int × Int) = (a1, (cntL a1 (2 ^ n) k 0 : Int), ((0 : Nat) : Int)) from rfl, this, bind_some']
      rw [hS, bind_some', hL, bind_some', g4, bind_some', show ((0 : Int) != 0) = false from rfl, cond_false]
      have hw1 : IntKind.wrap .u64 (((k * n : Nat) : Int)) = ((k * n : Nat) : Int) := wrap_u64 (by omega) (by omega)
      have hw2 : IntKind.wrap .u64 (n : Int) = (n : Int) := wrap_u64 (by omega) (by omega)
      have hck1 : ck (0 ≤ ((k * n : Nat) : Int)) = some () := ck_ok (by omega)
      have hck2 : ck (0 ≤ (n : Int)) = some () := ck_ok (by omega)
      have hsh2 : bShl .i64 1 ((k * n : Nat) : Int) = ((2 ^ (k * n) : Nat) : Int) := bShl_one (by omega)
      have hit := iter_seq (f := law_LoneLuckies_b11 (n : Int) a1 (k : Int)) (s := fun j => ((cntL a1 (2 ^ n) k j : Int), (j : Int))) (y := (cntL a1 (2 ^ n) k (2 ^ (k * n)) : Int)) (n := 2 ^ (k * n))
        (fun j hj => by
          have hcj := cntL_le a1 (2 ^ n) k j
          have hv : ∀ v ∈ dgs (2 ^ n) k j, 0 ≤ v ∧ v < 32 := fun v hv => by have := dgs_mem (by omega) hv; omega
          have e4 : law_LoneLuckies_g9 (n : Int) a1 (k : Int) ((cntL a1 (2 ^ n) k j : Int), (j : Int)) = some (cntL a1 (2 ^ n) k (j + 1) : Int) := by
            unfold law_LoneLuckies_g9
            dsimp only
            rw [hw2, hck2, bind_some', hsh, dice_eq (by omega) (by omega) (by omega), bind_some', ls_sieved l2 hs32 hv, bind_some', w64_id (by omega) (by omega), cntL]
            show (bif luck a1 (2 ^ n) k j then _ else _) = _
            cases luck a1 (2 ^ n) k j <;> rfl
          unfold law_LoneLuckies_b11
          rw [hkn, hw1, hck1, bind_some', hsh2]
          dsimp only
          rw [decide_eq_true (by omega), cond_true, e4, bind_some', w64_id (by omega) (by omega)]
          rfl)
        (by
          unfold law_LoneLuckies_b11
          rw [hkn, hw1, hck1, bind_some', hsh2]
          dsimp only
          rw [decide_eq_false (by omega), cond_false]) (2 ^ (k * n)) 0 100000 (by omega) (by omega)
      have hit' : iter (law_LoneLuckies_b11 (n : Int) a1 (k : Int)) 100000 ((0 : Int), (0 : Int)) = some (cntL a1 (2 ^ n) k (2 ^ (k * n)) : Int) := hit
      rw [hit', bind_some', hkn, hw1]
      dsimp only
      rw [hsh2, show ((0 : Int) == 0) = true from rfl, cond_true, hck1, bind_some']
      simp
    · rw [if_neg hx] at g4
      have e1 : ((((decide (a2 < (0 : Int))) || (decide (a2 > (12 : Int)))) || (decide ((w64 (a2 * a0)) > (12 : Int))))) = true := by
        simp only [Bool.or_eq_true, decide_eq_true_eq]; omega
      have hS : lone_Lucky 100000 a0 a1 a2 = some (0, 0, 2) := by
        unfold lone_Lucky
        rw [hW, bind_some', show ((0 : Int) != 0) = false from rfl, cond_false, e1, cond_true]
      rw [hS, bind_some', hL, bind_some', g4, bind_some']
      rfl
  · have hne : (lw a0 a1 != 0) = true := by simpa using hz
    have hS : lone_Lucky 100000 a0 a1 a2 = some (0, 0, lw a0 a1) := by
      unfold lone_Lucky
      rw [hW, bind_some', hne, cond_true]
    have g4 : law_LoneLuckies_g4 a0 a2 (lw a0 a1) = some (lw a0 a1) := by
      unfold law_LoneLuckies_g4
      rw [show (lw a0 a1 == 0) = false from by simpa using hz, cond_false, bind_some', cond_false]
    rw [hS, bind_some', hL, bind_some', g4, bind_some', hne, cond_true]
    simp

end Go.Proofs.Ytkkmiclmbhbmjaa.loneLuckies
namespace Go.Proofs.Ytkkmiclmbhbmjaa.loneLuckies
open Go.ChangeShapes Go.WideShapes Go.ChangeAt Go.RowKit
open Go.ChangeMaps (open_string shut_string)
theorem own : ownKnob Try.prog.godebug = none := by kernel_rfl
theorem laidOut : laidOutB Try.prog = true := by kernel_rfl
theorem lifted (os : Os) (started : os.Started) (H : Type) (enc : TypeId × Value → H) :
    ReturnsInHanded {} Try.checked os 6 .any (Rows.loneLuckiesSpec.pre6 enc Try.prog Try.f6 Rows.loneLuckiesRow.domain false) (Rows.loneLuckiesSpec.post enc Try.prog Try.f6 false true false false) := by
  refine returnsInHanded_of_change (C := Try.checked) own started (by kernel_rfl) Try.func6
    (ChangeSpec.witness6 (enc := enc) (C := Try.checked) false ⟨#[], #[.int .i64 0, .slice none 0 0, .int .i64 0], []⟩ 8 (by kernel_rfl) (by kernel_rfl) (by kernel_rfl) (by kernel_rfl)) ?_
  intro W base args ds gs before hval0 hW hcnd _
  have hval : ∀ (j : Nat) t v, Try.f6.params[j]? = some t → args[j]? = some v → Value.okWide Try.prog W .any base t v := hval0
  have hW' := hW
  obtain ⟨p, q, hA0, hV, rfl, hfz, hnd⟩ := hW
  have hA : DataW.TrodAll enc Try.prog W 0 (fun _ => true) true Try.f6.params.toList args.toList ds p := hA0
  rw [Try.params6] at hA hval
  obtain ⟨v0, vs0, d0, ds0, p0, q0, hargs, rfl, rfl, h0, r0⟩ := trodAll_cons hA
  obtain ⟨v1, vs1, d1, ds1, p1, q1, rfl, rfl, rfl, h1, r1⟩ := trodAll_cons r0
  obtain ⟨v2, vs2, d2, ds2, p2, q2, rfl, rfl, rfl, h2, r2⟩ := trodAll_cons r1
  obtain ⟨rfl, rfl, rfl⟩ := trodAll_nil r2
  obtain rfl : args = #[v0, v1, v2] := by cases args; simp_all
  obtain ⟨rfl, rfl⟩ := trodVars_none hV
  obtain ⟨x0, f0, k0⟩ := Go.Sl.read_arg (u := (.int .i64)) (by kernel_rfl) (by kernel_rfl) (hval 0 3 v0 rfl rfl) h0
  have lt0 : ∀ x ∈ p0, x.block < W.heap.size := by obtain ⟨m, hm⟩ := h0; exact DataW.trod_lt m _ _ _ hm
  obtain ⟨x1, f1, k1⟩ := Go.Sl.read_arg (u := (.slice (.int .u32))) (by kernel_rfl) (by kernel_rfl) (hval 1 22 v1 rfl rfl) h1
  have lt1 : ∀ x ∈ p1, x.block < W.heap.size := by obtain ⟨m, hm⟩ := h1; exact DataW.trod_lt m _ _ _ hm
  obtain ⟨x2, f2, k2⟩ := Go.Sl.read_arg (u := (.int .i64)) (by kernel_rfl) (by kernel_rfl) (hval 2 3 v2 rfl rfl) h2
  have lt2 : ∀ x ∈ p2, x.block < W.heap.size := by obtain ⟨m, hm⟩ := h2; exact DataW.trod_lt m _ _ _ hm
  clear hA0 hval0
  obtain ⟨fuel, hm⟩ := LoneLuckies_true x0 x1 x2 f0 f1 f2
  refine (Go.Sl.law_of (vs := [v0, v1, v2]) (law_LoneLuckies_ok hm) rfl (.cons (k0 _ _) (.cons (k1 _ _) (.cons (k2 _ _) .nil)))).mono fun e W' ⟨he, bel⟩ => ?_
  subst he
  exact ⟨_, rfl, _, _, _, [], _, [], hW', trodAll_mk1 (shut_bool Try.underlying4 _), (trodAll_cons_mk (Below.trod laidOut (by kernel_rfl) (of_decide_eq_true (by kernel_rfl)) h0 bel lt0) (trodAll_cons_mk (Below.trod laidOut (by kernel_rfl) (of_decide_eq_true (by kernel_rfl)) h1 bel lt1) (trodAll_cons_mk (Below.trod laidOut (by kernel_rfl) (of_decide_eq_true (by kernel_rfl)) h2 bel lt2) trodAll_mk0))), rfl, bel.frame _, fun h => by cases h⟩
theorem proved : Rows.LoneLuckiesSaid :=
  OpenClaim.holds_of_wide 6 Try.f6 rfl rfl rfl rfl rfl rfl rfl ⟨rfl, rfl, rfl, rfl, rfl⟩ rfl rfl rfl rfl rfl (by kernel_rfl) Try.func6 (by kernel_rfl)
    (of_decide_eq_true (by kernel_rfl)) (by unfold Func.isWrapper; first | (rw [if_pos (by decide +kernel)]; kernel_rfl) | (rw [if_neg (by decide +kernel)]; exact ⟨rfl, rfl⟩))
    (fun os started H enc _ => lifted os started H enc)
#print axioms proved
end Go.Proofs.Ytkkmiclmbhbmjaa.loneLuckies
