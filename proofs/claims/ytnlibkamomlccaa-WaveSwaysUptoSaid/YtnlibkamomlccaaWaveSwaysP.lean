/- For any table of bulk at most the given bound wave.Sways returns the specified results: WaveSways returns true and changes nothing; condition: the bound. -/
import Derived.JoinedCond
import Derived.Test.YtnlibkamomlccaaRows
import Derived.WalkKit
import Derived.ProofKit
import Derived.OpenShut
import Derived.ShutString
import Derived.ChangeOld
import Derived.Below
import Derived.Test.YtnlibkamomlccaaWaveSwaysM
set_option linter.all false
set_option maxRecDepth 100000
namespace Go.Proofs.Ytnlibkamomlccaa.waveSways
open Go Go.Sl

--#upto
theorem within_eq (a b c : Int) : ref_Within a b c = some (decide (a ≤ b ∧ b ≤ c)) := by
  unfold ref_Within
  rw [Bool.decide_and]

theorem inside1 (n v : Int) : ref_Inside n [v] = some (decide (0 ≤ v ∧ v < n)) := by
  unfold ref_Inside
  rw [forL_ex (p := fun v => decide (v < 0) || decide (v ≥ n)) (y := Esc.ret false) (fun i a _ => by unfold ref_Inside_b1; cases (decide (a < 0) || decide (a ≥ n)) <;> rfl)]
  by_cases h : 0 ≤ v ∧ v < n
  · have : (decide (v < 0) || decide (v ≥ n)) = false := by simp only [Bool.or_eq_false_iff, decide_eq_false_iff_not]; omega
    simp [this, h]
  · have : (decide (v < 0) || decide (v ≥ n)) = true := by simp only [Bool.or_eq_true, decide_eq_true_eq]; omega
    simp [this, h]

def tbc (a0 : Int) (f : List Bool) (x : Int) : Int :=
  if ¬ (0 ≤ a0 ∧ a0 ≤ 4) then 1 else if f.length ≠ 2 ^ a0.toNat then 3 else if ¬ (0 ≤ x ∧ x < f.length) then 4 else 0
theorem tb_shl {k : Nat} (h : k ≤ 4) : bShl .i64 1 (k : Int) = ((2 ^ k : Nat) : Int) := bShl_one (by omega)
theorem tb_len {f : List Bool} {k : Nat} (h : k ≤ 4) : ((f.length : Int) != bShl .i64 1 (k : Int)) = !decide (f.length = 2 ^ k) := by
  rw [tb_shl h, bne_dec, not_dec]
  exact decide_eq_decide.2 (by omega)
theorem tb_ref (a0 : Int) (f : List Bool) (x : Int) : ref_TableCheck a0 f x = some (tbc a0 f x) := by
  unfold ref_TableCheck tbc
  rw [within_eq, inside1]
  by_cases h : 0 ≤ a0 ∧ a0 ≤ 4
  · obtain ⟨k, rfl⟩ := Int.eq_ofNat_of_zero_le h.1
    rw [wrap_u64 (n := (k : Int)) (by omega) (by omega), ck_ok (by omega), tb_len (by omega), decide_eq_true h, if_neg (by omega), Int.toNat_natCast]
    by_cases hl : f.length = 2 ^ k
    · by_cases hx : 0 ≤ x ∧ x < (f.length : Int)
      · rw [if_neg (by omega), if_neg (by omega), decide_eq_true hl, decide_eq_true hx]; rfl
      · rw [if_neg (by omega), if_pos hx]; rw [decide_eq_false hx, decide_eq_true hl]; rfl
    · rw [if_pos hl, decide_eq_false hl]; rfl
  · rw [if_pos h, decide_eq_false h]; rfl
theorem tb_valid {a0 : Int} {f : List Bool} {x : Int} (h : tbc a0 f x = 0) : ∃ k : Nat, k ≤ 4 ∧ a0 = (k : Int) ∧ f.length = 2 ^ k ∧ 0 ≤ x ∧ x < (f.length : Int) := by
  unfold tbc at h
  split at h
  · omega
  · split at h
    · omega
    · split at h
      · omega
      · rename_i h1 h2 h3
        refine ⟨a0.toNat, by omega, by omega, by omega, by omega, by omega⟩
theorem tb_16 {k n : Nat} (h : k ≤ 4) (hn : n < 2 ^ k) : n < 16 := Nat.lt_of_lt_of_le hn (Nat.pow_le_pow_right (by omega) h)

theorem sw_wrongzero (n : Nat) : slices_ContainsFunc_Lintint_with_wave_wrong_1 (List.replicate n (0 : Int)) = some false := by
  unfold slices_ContainsFunc_Lintint_with_wave_wrong_1 slices_IndexFunc_Lintint_with_wave_wrong_1
  rcases forL_at (body := slices_IndexFunc_Lintint_with_wave_wrong_1_b1) (fin := fun _ => (Esc.brk () : Esc Int Unit)) (p := fun _ => false) (g := fun j => Esc.ret j) (l := List.replicate n (0 : Int))
    (fun i a ha => by rw [List.eq_of_mem_replicate ha]; rfl) (i := 0) with ⟨h1, h2⟩ | ⟨h1, j, h2, h3, h4⟩
  · rw [h2]; rfl
  · simp at h1
def swc (a0 : Int) (n : Nat) : Int := if ¬ (0 ≤ a0 ∧ a0 ≤ 4) then 1 else if n ≠ 2 ^ a0.toNat then 3 else 0
theorem sw_wrong (a0 : Int) (n : Nat) : wave_wrong a0 (List.replicate n (0 : Int)) = some (swc a0 n) := by
  unfold wave_wrong swc
  have e1 : ((decide (a0 < (0 : Int))) || (decide (a0 > (4 : Int)))) = !decide (0 ≤ a0 ∧ a0 ≤ 4) := by
    rw [or_dec, not_dec]; exact decide_eq_decide.2 (by omega)
  rw [e1, sw_wrongzero, List.length_replicate]
  by_cases h : 0 ≤ a0 ∧ a0 ≤ 4
  · obtain ⟨k, rfl⟩ := Int.eq_ofNat_of_zero_le h.1
    have e2 : ((n : Int) != bShl .i64 1 (k : Int)) = !decide (n = 2 ^ k) := by
      rw [bShl_one (by omega), bne_dec, not_dec]
      exact decide_eq_decide.2 (by omega)
    rw [ck_ok (by omega), e2, decide_eq_true h, if_neg (by omega), Int.toNat_natCast]
    by_cases hl : n = 2 ^ k
    · rw [if_neg (by omega), decide_eq_true hl]; rfl
    · rw [if_pos hl, decide_eq_false hl]; rfl
  · rw [if_pos h, decide_eq_false h]; rfl
theorem sw_same (a0 : Int) (f : List Bool) : tbc a0 f 0 = swc a0 f.length := by
  unfold tbc swc
  split
  · rfl
  · split
    · rfl
    · rename_i h1 h2
      have : 0 < 2 ^ a0.toNat := Nat.two_pow_pos _
      rw [if_neg (by omega)]
def swD (f : List Bool) (i x : Nat) : Int := bif !(f.getD (x ^^^ 2 ^ i) false == f.getD x false) then 1 else 0
def swS (f : List Bool) (i : Nat) : Nat → Int
  | 0 => 0
  | n + 1 => swS f i n + swD f i n
theorem swD_01 (f : List Bool) (i x : Nat) : 0 ≤ swD f i x ∧ swD f i x ≤ 1 := by unfold swD; cases !(f.getD (x ^^^ 2 ^ i) false == f.getD x false) <;> simp
theorem swS_le (f : List Bool) (i : Nat) : ∀ n, 0 ≤ swS f i n ∧ swS f i n ≤ n
  | 0 => by simp [swS]
  | n + 1 => by
    have := swS_le f i n
    have := swD_01 f i n
    simp only [swS]; omega
theorem sw_get {f : List Bool} {i : Nat} (h : i < f.length) : f[i]? = some (f.getD i false) := by
  rw [List.getD_eq_getElem?_getD, List.getElem?_eq_getElem h]; rfl
theorem sw_xor : ∀ k : Nat, k ≤ 4 → ∀ x : Nat, x < 2 ^ k → ∀ i : Nat, i < k → x ^^^ 2 ^ i < 2 ^ k := fun k _ x hx i hi => Nat.xor_lt_two_pow hx (Nat.pow_lt_pow_right (by omega) hi)
theorem sw_prog {k : Nat} (hk : k ≤ 4) {f : List Bool} (hf : f.length = 2 ^ k) {i : Nat} (hi : i < k) {out : List Int} (ho : out[i]? = some 0) : forL (wave_Sways_b25 f (i : Int)) (fun x => x) f 0 out = some (out.set i (swS f i (2 ^ k))) := by
  have h16 : 2 ^ k ≤ 16 := Nat.pow_le_pow_right (n := 2) (by omega) hk
  have hil : i < out.length := (List.getElem?_eq_some_iff.1 ho).1
  obtain ⟨y, h1, h2⟩ := forL_inv (body := wave_Sways_b25 f (i : Int)) (fin := fun x => x) (l := f) (x := out) (fun n y => y = out.set i (swS f i n)) (fun y => y = out.set i (swS f i (2 ^ k)))
    (by apply List.ext_getElem?; intro j; rw [List.getElem?_set]; by_cases h : i = j
        · subst h; rw [if_pos rfl, if_pos hil, ho]; rfl
        · rw [if_neg h]) (fun n a y hn hy => by
    have hnl := (List.getElem?_eq_some_iff.1 hn).1
    rw [sw_get hnl] at hn
    obtain rfl := Option.some.inj hn
    have hx := sw_xor k hk n (by omega) i hi
    have hp : 2 ^ i < 2 ^ 63 := Nat.pow_lt_pow_right (by omega) (by omega)
    have hS := swS_le f i n
    have g1 : idx f ((n ^^^ 2 ^ i : Nat) : Int) = some (f.getD (n ^^^ 2 ^ i) false) := by rw [idx_nat, sw_get (by omega)]
    have g2 : idx y (i : Int) = some (swS f i n) := by rw [idx_nat, hy, List.getElem?_set, if_pos rfl, if_pos hil]
    refine ⟨.next (out.set i (swS f i (n + 1))), ?_, rfl⟩
    unfold wave_Sways_b25 wave_Sways_g23
    rw [ck_ok (by omega), bind_some', bShl_one (by omega), bXor_nat (by omega) hp, g1, bind_some']
    have hS1 : swS f i (n + 1) = swS f i n + swD f i n := rfl
    unfold swD at hS1
    cases hc : !(f.getD (n ^^^ 2 ^ i) false == f.getD n false) with
    | true =>
      rw [hc] at hS1
      rw [cond_true, g2, bind_some', bind_some', w64_id (by omega) (by omega), hS1, hy, Int.toNat_natCast, List.set_set]; rfl
    | false =>
      rw [hc] at hS1
      rw [cond_false, bind_some', hS1, hy, cond_false, Int.add_zero]) (fun y hy => by rw [hf] at hy; exact hy)
  rw [h1, h2]
theorem sw_law {k : Nat} (hk : k ≤ 4) {f : List Bool} (hf : f.length = 2 ^ k) {i : Nat} (hi : i < k) : forL (law_WaveSways_b207 f (i : Int)) (fun x => x) f 0 0 = some (swS f i (2 ^ k)) := by
  have h16 : 2 ^ k ≤ 16 := Nat.pow_le_pow_right (n := 2) (by omega) hk
  have hp : 2 ^ i < 2 ^ 63 := Nat.pow_lt_pow_right (by omega) (by omega)
  obtain ⟨y, h1, h2⟩ := forL_inv (body := law_WaveSways_b207 f (i : Int)) (fin := fun x => x) (l := f) (x := (0 : Int)) (fun n y => y = swS f i n) (fun y => y = swS f i (2 ^ k)) rfl (fun n a y hn hy => by
    have hnl := (List.getElem?_eq_some_iff.1 hn).1
    rw [sw_get hnl] at hn
    obtain rfl := Option.some.inj hn
    have hS := swS_le f i n
    have hx := sw_xor k hk n (by omega) i hi
    obtain ⟨z, z1, z2⟩ := forL_inv (body := law_WaveSways_b204 (i : Int) (n : Int) (f.getD n false)) (fin := fun x => x) (l := f) (x := y) (fun m z => z = y + if n ^^^ 2 ^ i < m then swD f i n else 0) (fun z => z = y + swD f i n) (by simp) (fun m b z hm hz => by
      have hml := (List.getElem?_eq_some_iff.1 hm).1
      rw [sw_get hml] at hm
      obtain rfl := Option.some.inj hm
      have hd := swD_01 f i n
      have hxm : n ^^^ m < 16 := Nat.lt_of_lt_of_le (Nat.xor_lt_two_pow (n := k) (by omega) (by omega)) h16
      have hc : law_WaveSways_g201 (i : Int) (n : Int) (f.getD n false) (m : Int) (f.getD m false) = some (bif decide (n ^^^ m = 2 ^ i) then !(f.getD n false == f.getD m false) else false) := by
        unfold law_WaveSways_g201
        rw [wrap_u64 (n := (i : Int)) (by omega) (by omega), ck_ok (by omega), bind_some', bShl_one (by omega), bXor_nat (by omega) (by omega)]
        have : (((n ^^^ m : Nat) : Int) == ((2 ^ i : Nat) : Int)) = decide (n ^^^ m = 2 ^ i) := by rw [beq_dec]; exact decide_eq_decide.2 (by omega)
        rw [this]
        cases decide (n ^^^ m = 2 ^ i) <;> rfl
      unfold law_WaveSways_b204
      rw [hc, bind_some']
      by_cases he : m = n ^^^ 2 ^ i
      · have he2 : n ^^^ m = 2 ^ i := by rw [he, ← Nat.xor_assoc, Nat.xor_self, Nat.zero_xor]
        rw [decide_eq_true he2, cond_true]
        rw [if_neg (by omega), Int.add_zero] at hz
        have hD : swD f i n = bif !(f.getD n false == f.getD m false) then 1 else 0 := by
          unfold swD
          rw [← he, Bool.beq_comm]
        cases hb : !(f.getD n false == f.getD m false) with
        | true =>
          rw [hb] at hD
          refine ⟨.next (z + 1), by rw [cond_true, bind_some', w64_id (by omega) (by omega)], ?_⟩
          dsimp only
          rw [if_pos (by omega), hD, hz]; rfl
        | false =>
          rw [hb] at hD
          refine ⟨.next z, by rw [cond_false, bind_some'], ?_⟩
          dsimp only
          rw [if_pos (by omega), hD, hz]; simp
      · have he2 : n ^^^ m ≠ 2 ^ i := fun e => he (by rw [← e, ← Nat.xor_assoc, Nat.xor_self, Nat.zero_xor])
        rw [decide_eq_false he2, cond_false]
        refine ⟨.next z, by rw [cond_false, bind_some'], ?_⟩
        dsimp only
        rw [hz]
        by_cases hlt : n ^^^ 2 ^ i < m
        · rw [if_pos hlt, if_pos (by omega)]
        · rw [if_neg hlt, if_neg (by omega)]) (fun z hz => by rw [if_pos (by omega)] at hz; exact hz)
    refine ⟨.next (swS f i (n + 1)), ?_, rfl⟩
    unfold law_WaveSways_b207
    rw [z1, bind_some', z2, hy]; rfl) (fun y hy => by rw [hf] at hy; exact hy)
  rw [h1, h2]
theorem sw_out {k : Nat} (hk : k ≤ 4) {f : List Bool} (hf : f.length = 2 ^ k) : ∃ out, forL (wave_Sways_b28 f) (fun x => x) (List.replicate k (0 : Int)) 0 (List.replicate k (0 : Int)) = some out ∧ out.length = k ∧ ∀ i, i < k → out[i]? = some (swS f i (2 ^ k)) := by
  refine forL_inv (fun (n : Nat) (out : List Int) => out.length = k ∧ (∀ i, i < n → out[i]? = some (swS f i (2 ^ k))) ∧ ∀ i, n ≤ i → i < k → out[i]? = some 0) (fun (out : List Int) => out.length = k ∧ ∀ i, i < k → out[i]? = some (swS f i (2 ^ k)))
    ⟨by simp, fun i hi => by omega, fun i _ hi => by rw [List.getElem?_replicate, if_pos hi]⟩ (fun n a out hn ho => ?_) (fun out ho => ⟨ho.1, fun i hi => ho.2.1 i (by simpa using hi)⟩)
  have hnk : n < k := by have := (List.getElem?_eq_some_iff.1 hn).1; simpa using this
  refine ⟨.next (out.set n (swS f n (2 ^ k))), ?_, by simp [ho.1], fun i hi => ?_, fun i hi hik => ?_⟩
  · unfold wave_Sways_b28
    rw [sw_prog hk hf hnk (ho.2.2 n (by omega) hnk), bind_some']
  · rw [List.getElem?_set]
    by_cases h : n = i
    · subst h; rw [if_pos rfl, if_pos (by omega)]
    · rw [if_neg h]; exact ho.2.1 i (by omega)
  · rw [List.getElem?_set, if_neg (by omega)]; exact ho.2.2 i (by omega) hik
theorem WaveSways_true (a0 : Int) (a1 : List Bool) (f0 : Fits (.int .i64) a0) (f1 : Fits (.slice .bool) a1) (hb : a1.length ≤ 1048576) : ∃ fuel, law_WaveSways fuel a0 a1 = some true := by
  refine ⟨100, ?_⟩
  unfold law_WaveSways wave_Sways
  rw [tb_ref, sw_same, Int.toNat_natCast, sw_wrong, ck_ok ⟨by omega, rfl, by omega⟩]
  simp only [bind_some']
  by_cases h : swc a0 a1.length = 0
  · have hv : tbc a0 a1 0 = 0 := by rw [sw_same]; exact h
    obtain ⟨k, hk, rfl, hf, _⟩ := tb_valid hv
    obtain ⟨out, o1, o2, o3⟩ := sw_out hk hf
    rw [h]
    rw [ck_ok ⟨by omega, trivial, by omega⟩, Int.toNat_natCast, o1]
    simp only [bind_some']
    have e1 : ((0 : Int) != 0) = false := rfl
    rw [e1, cond_false]
    simp only [bind_some']
    rw [cond_false]
    obtain ⟨y, h1, h2⟩ := iter_inv (f := law_WaveSways_b210 (k : Int) a1 (out, 0)) (fun x => ∃ i : Nat, x = (i : Int) ∧ i ≤ k) (fun x => k - x.toNat) (fun y => y = .brk ()) (fun x hx => by
      obtain ⟨i, rfl, hi⟩ := hx
      unfold law_WaveSways_b210
      dsimp only
      by_cases hlt : i < k
      · rw [decide_eq_true (show (i : Int) < (k : Int) by omega), decide_eq_true (show (i : Int) < (out.length : Int) by omega), Bool.and_self, cond_true, sw_law hk hf hlt, bind_some', idx_nat, o3 i hlt, bind_some']
        refine ⟨.next ((i + 1 : Nat) : Int), ?_, ⟨i + 1, rfl, by omega⟩, by omega⟩
        have : (swS a1 i (2 ^ k) != swS a1 i (2 ^ k)) = false := by simp
        rw [this, cond_false, w64_id (by omega) (by omega)]; rfl
      · rw [decide_eq_false (show ¬ (i : Int) < (k : Int) by omega), Bool.false_and, cond_false]
        exact ⟨_, rfl, rfl⟩) 100 0 (by omega) ⟨0, rfl, by omega⟩
    rw [h1, h2, bind_some']
    simp [o2]
  · have e1 : (swc a0 a1.length != 0) = true := by simp [h]
    rw [e1]
    simp [e1, h]

end Go.Proofs.Ytnlibkamomlccaa.waveSways
namespace Go.Proofs.Ytnlibkamomlccaa.waveSways
open Go.ChangeShapes Go.WideShapes Go.ChangeAt Go.RowKit
open Go.ChangeMaps (open_string shut_string)
theorem own : ownKnob Try.prog.godebug = none := by kernel_rfl
theorem laidOut : laidOutB Try.prog = true := by kernel_rfl
theorem bulk_pos {H : Type} (d : DataW H) : 1 ≤ Rows.uptoBulk d := by
  cases d with
  | lit l => cases l <;> simp [Rows.uptoBulk]
  | _ => simp [Rows.uptoBulk]
theorem bulk_len {H : Type} : ∀ l : List (DataW H), l.length ≤ Rows.uptoBulkAll l
  | [] => by simp [Rows.uptoBulkAll]
  | d :: l => by
    have := bulk_pos d
    have := bulk_len l
    simp only [Rows.uptoBulkAll, List.length_cons]; omega
section
open Go.Sl
/-- a slice that is read is no longer than its bulk -/
theorem bulk_slice {H : Type} {enc : TypeId × Value → H} {P : Program} {w : World} {spare : Nat → Bool} {held : Bool} {t e : TypeId} {u : Ty} {v : Value} {d : DataW H} {ps : List MemPlace} {xs : List u.den}
    (ht : P.underlying t = some (.slice e)) (h : DataW.Trod enc P w 0 spare held t v d ps) (hr : ∀ ρ tm, VRel (heapOf w) ρ tm (aD (.slice u) xs) v) : xs.length ≤ Rows.uptoBulk d := by
  have hv : RepV (heapOf w) (.slice u) xs v := hr (fun _ => undef) #[]
  obtain ⟨ad, cap, rfl, _, _, hrest⟩ := sl_form (repV_slice.1 hv)
  obtain ⟨fuel, hx⟩ := h
  rcases DataW.trod_slice ht hx with ⟨hcs, _⟩ | ⟨a, len, cap', elems, rest, n, _, hcs, hd, _, _, _, hel, _, _, _⟩
  · simp [Value.cells] at hcs
    omega
  · simp [Value.cells] at hcs
    simp only [Prod.mk.injEq] at hd
    obtain ⟨rfl, _⟩ := hd
    have := bulk_len (elems.map (·.1))
    simp only [Rows.uptoBulk]
    rw [List.length_map] at this
    omega
end
theorem contract (H : Type) (enc : TypeId × Value → H) (W : World) (base : Nat) (args : Array Value) (ds gs : List (DataW H)) (before : List MemPlace)
    (hval0 : ∀ (j : Nat) t v, Try.f13.params[j]? = some t → args[j]? = some v → Value.okWide Try.prog W .any base t v)
    (hW : DataW.Whole enc Try.prog Try.f13.params.toList Rows.waveSwaysSpec.vars false W args.toList ds gs before) (hk : Rows.uptoSmall H (ds ++ gs) = true) :
    Calls Try.prog 13 args W fun e W' => ∃ v, e = .returned v ∧ Rows.waveSwaysSpec.post enc Try.prog Try.f13 false true false false W args v W' := by
  have hval : ∀ (j : Nat) t v, Try.f13.params[j]? = some t → args[j]? = some v → Value.okWide Try.prog W .any base t v := hval0
  have hW' := hW
  obtain ⟨p, q, hA0, hV, rfl, hfz, hnd⟩ := hW
  have hA : DataW.TrodAll enc Try.prog W 0 (fun _ => true) true Try.f13.params.toList args.toList ds p := hA0
  rw [Try.params13] at hA hval
  obtain ⟨v0, vs0, d0, ds0, p0, q0, hargs, rfl, rfl, h0, r0⟩ := trodAll_cons hA
  obtain ⟨v1, vs1, d1, ds1, p1, q1, rfl, rfl, rfl, h1, r1⟩ := trodAll_cons r0
  obtain ⟨rfl, rfl, rfl⟩ := trodAll_nil r1
  obtain rfl : args = #[v0, v1] := by cases args; simp_all
  obtain ⟨rfl, rfl⟩ := trodVars_none hV
  obtain ⟨x0, f0, k0⟩ := Go.Sl.read_arg (u := (.int .i64)) (by kernel_rfl) (by kernel_rfl) (hval 0 3 v0 rfl rfl) h0
  have lt0 : ∀ x ∈ p0, x.block < W.heap.size := by obtain ⟨m, hm⟩ := h0; exact DataW.trod_lt m _ _ _ hm
  obtain ⟨x1, f1, k1⟩ := Go.Sl.read_arg (u := (.slice .bool)) (by kernel_rfl) (by kernel_rfl) (hval 1 30 v1 rfl rfl) h1
  have lt1 : ∀ x ∈ p1, x.block < W.heap.size := by obtain ⟨m, hm⟩ := h1; exact DataW.trod_lt m _ _ _ hm
  clear hA0 hval0
  have hk' : Rows.uptoBulkAll [d0, d1] ≤ 1048576 := by simpa using of_decide_eq_true hk
  simp only [Rows.uptoBulkAll] at hk'
  have b1 := bulk_slice Try.underlying30 h1 k1
  obtain ⟨fuel, hm⟩ := WaveSways_true x0 x1 f0 f1 (by omega)
  refine (Go.Sl.law_of (vs := [v0, v1]) (law_WaveSways_ok hm) rfl (.cons (k0 _ _) (.cons (k1 _ _) .nil))).mono fun e W' ⟨he, bel⟩ => ?_
  subst he
  exact ⟨_, rfl, _, _, _, [], _, [], hW', trodAll_mk1 (shut_bool Try.underlying4 _), (trodAll_cons_mk (Below.trod laidOut (by kernel_rfl) (of_decide_eq_true (by kernel_rfl)) h0 bel lt0) (trodAll_cons_mk (Below.trod laidOut (by kernel_rfl) (of_decide_eq_true (by kernel_rfl)) h1 bel lt1) trodAll_mk0)), rfl, bel.frame _, fun h => by cases h⟩
theorem lifted (os : Os) (started : os.Started) (H : Type) (enc : TypeId × Value → H) (F : Stop.Interp) :
    ReturnsInHanded {} Try.checked os 13 .any ((Rows.OpenSpec.upto Rows.waveSwaysSpec).pre6 enc Try.prog Try.f13 Rows.waveSwaysUptoRow.domain false) (((Rows.OpenSpec.upto Rows.waveSwaysSpec).at F).post enc Try.prog Try.f13 false true false false) := by
  refine returnsInHanded_of_cond (C := Try.checked) (s := Rows.OpenSpec.upto Rows.waveSwaysSpec) (k := Rows.uptoSmall) rfl own started (by kernel_rfl) Try.func13
    (OpenSpec.witness (enc := enc) (C := Try.checked) (s := Rows.OpenSpec.upto Rows.waveSwaysSpec) (k := Rows.uptoSmall) rfl false ⟨#[], #[.int .i64 0, .slice none 0 0], []⟩ 8 (by kernel_rfl) (by kernel_rfl) (by kernel_rfl)
      (x := ([.lit (.int .i64 0), .nil], [], [])) (by kernel_rfl) rfl (by kernel_rfl)) ?_
  intro W base args ds gs before hval hW _ hk _
  exact contract H enc W base args ds gs before hval hW hk
theorem proved : Rows.WaveSwaysUptoSaid :=
  OpenClaim.holds_of_cond 13 Try.f13 rfl rfl rfl rfl rfl rfl rfl ⟨rfl, rfl, rfl, rfl, rfl⟩ rfl rfl rfl rfl rfl (by kernel_rfl) Try.func13 (by kernel_rfl)
    (of_decide_eq_true (by kernel_rfl)) (by unfold Func.isWrapper; first | (rw [if_pos (by decide +kernel)]; kernel_rfl) | (rw [if_neg (by decide +kernel)]; exact ⟨rfl, rfl⟩))
    (fun os started H enc _ F => lifted os started H enc F)
#print axioms proved
end Go.Proofs.Ytnlibkamomlccaa.waveSways
