/- For any table ask.Proofs returns the specified results: AskBoths returns true and changes nothing; no conditions. -/
import Derived.Test.YtnlibkamomlccaaRows
import Derived.WalkKit
import Derived.ProofKit
import Derived.OpenShut
import Derived.ShutString
import Derived.ChangeOld
import Derived.Below
import Derived.Test.YtnlibkamomlccaaAskBothsM
set_option linter.all false
set_option maxRecDepth 100000
namespace Go.Proofs.Ytnlibkamomlccaa.askBoths
open Go Go.Sl

theorem within_eq (a b c : Int) : ref_Within a b c = some (decide (a ≤ b ∧ b ≤ c)) := by
  unfold ref_Within
  rw [Bool.decide_and]

theorem inside1 (n v : Int) : ref_Inside n [v] = some (decide (0 ≤ v ∧ v < n)) := by
  unfold ref_Inside
  rw [forL_ex (p := fun v => decide (v < 0) || decide (v ≥ n)) (y := Esc.ret false) (fun i a _ => by unfold ref_Inside_b1; cases (decide (a < 0) || decide (a ≥ n)) <;> rfl)]
  by_cases h : 0 ≤ v ∧ v < n
  · have : (decide (v < 0) || decide (v ≥ n)) = false := by simp only [Bool.or_eq_false_iff, decide_eq_false_iff_not]; omega
    simp [this, h]
  · have : (decide (v < 0) || decide (v ≥ n)) = true := by simp only [Bool.or_eq_true, decide_eq_true_eq]; omega
    simp [this, h]

def tbc (a0 : Int) (f : List Bool) (x : Int) : Int :=
  if ¬ (0 ≤ a0 ∧ a0 ≤ 4) then 1 else if f.length ≠ 2 ^ a0.toNat then 3 else if ¬ (0 ≤ x ∧ x < f.length) then 4 else 0
theorem tb_shl {k : Nat} (h : k ≤ 4) : bShl .i64 1 (k : Int) = ((2 ^ k : Nat) : Int) := bShl_one (by omega)
theorem tb_len {f : List Bool} {k : Nat} (h : k ≤ 4) : ((f.length : Int) != bShl .i64 1 (k : Int)) = !decide (f.length = 2 ^ k) := by
  rw [tb_shl h, bne_dec, not_dec]
  exact decide_eq_decide.2 (by omega)
theorem tb_ref (a0 : Int) (f : List Bool) (x : Int) : ref_TableCheck a0 f x = some (tbc a0 f x) := by
  unfold ref_TableCheck tbc
  rw [within_eq, inside1]
  by_cases h : 0 ≤ a0 ∧ a0 ≤ 4
  · obtain ⟨k, rfl⟩ := Int.eq_ofNat_of_zero_le h.1
    rw [wrap_u64 (n := (k : Int)) (by omega) (by omega), ck_ok (by omega), tb_len (by omega), decide_eq_true h, if_neg (by omega), Int.toNat_natCast]
    by_cases hl : f.length = 2 ^ k
    · by_cases hx : 0 ≤ x ∧ x < (f.length : Int)
      · rw [if_neg (by omega), if_neg (by omega), decide_eq_true hl, decide_eq_true hx]; rfl
      · rw [if_neg (by omega), if_pos hx]; rw [decide_eq_false hx, decide_eq_true hl]; rfl
    · rw [if_pos hl, decide_eq_false hl]; rfl
  · rw [if_pos h, decide_eq_false h]; rfl
theorem tb_valid {a0 : Int} {f : List Bool} {x : Int} (h : tbc a0 f x = 0) : ∃ k : Nat, k ≤ 4 ∧ a0 = (k : Int) ∧ f.length = 2 ^ k ∧ 0 ≤ x ∧ x < (f.length : Int) := by
  unfold tbc at h
  split at h
  · omega
  · split at h
    · omega
    · split at h
      · omega
      · rename_i h1 h2 h3
        refine ⟨a0.toNat, by omega, by omega, by omega, by omega, by omega⟩
theorem tb_16 {k n : Nat} (h : k ≤ 4) (hn : n < 2 ^ k) : n < 16 := Nat.lt_of_lt_of_le hn (Nat.pow_le_pow_right (by omega) h)

theorem tb_ask (a0 : Int) (f : List Bool) (x : Int) : ask_wrong a0 f x = some (tbc a0 f x) := by
  unfold ask_wrong tbc
  by_cases h : 0 ≤ a0 ∧ a0 ≤ 4
  · have c : ((decide (a0 < (0 : Int))) || (decide (a0 > (4 : Int)))) = false := by simp only [Bool.or_eq_false_iff, decide_eq_false_iff_not]; omega
    obtain ⟨k, rfl⟩ := Int.eq_ofNat_of_zero_le h.1
    rw [c, ck_ok (by omega), tb_len (by omega), tb_shl (by omega), if_neg (by omega), Int.toNat_natCast]
    by_cases hl : f.length = 2 ^ k
    · rw [if_neg (by omega), decide_eq_true hl]
      by_cases hx : 0 ≤ x ∧ x < (f.length : Int)
      · rw [if_neg (by omega), decide_eq_false (by omega), decide_eq_false (by omega)]; rfl
      · rw [if_pos hx]
        by_cases h0 : x < 0
        · rw [decide_eq_true h0]; rfl
        · rw [decide_eq_false h0, decide_eq_true (by omega)]; rfl
    · rw [if_pos hl, decide_eq_false hl]; rfl
  · have c : ((decide (a0 < (0 : Int))) || (decide (a0 > (4 : Int)))) = true := by simp only [Bool.or_eq_true, decide_eq_true_eq]; omega
    rw [c, if_pos h]; rfl

theorem bit_eq {w i : Nat} (hw : w < 2 ^ 63) (hi : i < 63) : ref_Bit (w : Int) (i : Int) = some (w.testBit i) := by
  unfold ref_Bit
  have c : (decide ((i : Int) ≥ 0) && decide ((i : Int) < 63)) = true := by simp; omega
  have e : IntKind.wrap .u64 (i : Int) = (i : Int) := wrap_u64 (by omega) (by omega)
  rw [c, e, ck_ok (by omega)]
  simp only [cond_true, Option.bind_some, bit_mask hw hi]

theorem size_eq {w : Nat} (hw : w < 2 ^ 63) : ref_Size (w : Int) = some ((pc w : Nat) : Int) := by
  unfold ref_Size
  have := forI_count (body := ref_Size_b4 (w : Int)) (fin := fun x => x) (p := w.testBit) (n := 63) (by omega) (by
    intro j x hj
    unfold ref_Size_b4
    rw [bit_eq hw hj]
    cases w.testBit j <;> rfl)
  simp only [Int.cast_ofNat_Int] at this
  rw [this]; rfl

theorem ones_eq : ∀ w : Nat, w < 64 → math_bits_OnesCount (w : Int) = some ((pc w : Nat) : Int) := by
  decide +kernel

theorem ap_mask : ∀ x : Nat, x < 16 → ∀ y : Nat, y < 16 → ∀ m : Nat, m < 16 → x ^^^ y < 16 ∧ (x ^^^ y) &&& m < 16 ∧ ((x ^^^ y) &&& m == 0) = (y &&& m == x &&& m) := by
  decide +kernel
/-- does a table say one thing? -/
def apOne (f : List Bool) (m x : Nat) : Bool := (List.range f.length).all fun y => !((y &&& m == x &&& m) && !(f.getD y false == f.getD x false))
theorem ap_search {f : List Bool} {body : Int → Bool → Unit → Option (Flow Unit (Esc Bool Unit))} {m x : Nat} (hb : ∀ (y : Nat) c, f[y]? = some c → body (y : Int) c () = some (bif (y &&& m == x &&& m) && !(f.getD y false == f.getD x false) then .done (.ret false) else .next ())) :
    (forL body (fun _ => (.brk () : Esc Bool Unit)) f 0 ()).bind (fun v => match v with | .ret r => some r | .brk _ => some true) = some (apOne f m x) := by
  rw [forL_findI (f := fun y _ => bif (y &&& m == x &&& m) && !(f.getD y false == f.getD x false) then some false else none) (g := Esc.ret) (fun y c hc => by
    rw [hb y c hc]
    cases ((y &&& m == x &&& m) && !(f.getD y false == f.getD x false)) <;> rfl)]
  unfold apOne
  cases hf : firstOf (fun y (_ : Bool) => bif (y &&& m == x &&& m) && !(f.getD y false == f.getD x false) then some false else none) 0 f with
  | none =>
    have : ((List.range f.length).all fun y => !((y &&& m == x &&& m) && !(f.getD y false == f.getD x false))) = true := by
      rw [List.all_eq_true]
      intro y hy
      have hy2 : y < f.length := by simpa using hy
      have := firstOf_none hf (List.getElem?_eq_getElem hy2)
      cases hc : ((y &&& m == x &&& m) && !(f.getD y false == f.getD x false)) with
      | false => rfl
      | true => rw [hc] at this; cases this
    rw [this]; rfl
  | some e =>
    obtain ⟨y, c, hy, he⟩ := firstOf_some hf
    have hy2 := (List.getElem?_eq_some_iff.1 hy).1
    have : ((List.range f.length).all fun y => !((y &&& m == x &&& m) && !(f.getD y false == f.getD x false))) = false := by
      rw [List.all_eq_false]
      refine ⟨y, by simpa using hy2, ?_⟩
      cases hc : ((y &&& m == x &&& m) && !(f.getD y false == f.getD x false)) with
      | false => rw [hc] at he; cases he
      | true => simp
    have he2 : e = false := by
      cases hc : ((y &&& m == x &&& m) && !(f.getD y false == f.getD x false)) with
      | false => rw [hc] at he; cases he
      | true => rw [hc] at he; cases he; rfl
    rw [this, he2]; rfl
theorem ap_same {f : List Bool} {m x : Nat} (hl : f.length ≤ 16) (hm : m < 16) (hx : x < f.length) : ask_same f (m : Int) (x : Int) = some (apOne f m x) := by
  unfold ask_same
  refine ap_search (fun y c hc => ?_)
  have hy := (List.getElem?_eq_some_iff.1 hc).1
  obtain ⟨k1, k2, k3⟩ := ap_mask x (by omega) y (by omega) m hm
  have hfx : idx f (x : Int) = some (f.getD x false) := by rw [idx_nat, List.getD_eq_getElem?_getD, List.getElem?_eq_getElem hx]; rfl
  have hfc : f.getD y false = c := by rw [List.getD_eq_getElem?_getD, hc]; rfl
  have e : ((((x ^^^ y) &&& m : Nat) : Int) == 0) = (y &&& m == x &&& m) := by
    rw [← k3, beq_dec, beq_dec]; exact decide_eq_decide.2 (by omega)
  unfold ask_same_b4
  rw [bXor_nat (by omega) (by omega), bAnd_nat (by omega) (by omega), hfx, e, hfc]
  simp only [Option.bind_some]
  cases (y &&& m == x &&& m) <;> cases (c == f.getD x false) <;> rfl
theorem ap_one {f : List Bool} {m x : Nat} (hl : f.length ≤ 16) (hm : m < 16) (hx : x < f.length) : ref_One f (m : Int) (x : Int) = some (apOne f m x) := by
  unfold ref_One
  refine ap_search (fun y c hc => ?_)
  have hy := (List.getElem?_eq_some_iff.1 hc).1
  have hfx : idx f (x : Int) = some (f.getD x false) := by rw [idx_nat, List.getD_eq_getElem?_getD, List.getElem?_eq_getElem hx]; rfl
  have hfc : f.getD y false = c := by rw [List.getD_eq_getElem?_getD, hc]; rfl
  have e : (((y &&& m : Nat) : Int) == ((x &&& m : Nat) : Int)) = (y &&& m == x &&& m) := by
    rw [beq_dec, beq_dec]; exact decide_eq_decide.2 (by omega)
  unfold ref_One_b4
  rw [bAnd_nat (by omega) (by omega), bAnd_nat (by omega) (by omega), hfx, e, hfc]
  simp only [Option.bind_some]
  cases (y &&& m == x &&& m) <;> cases (c == f.getD x false) <;> rfl


/-- the least number of bits that prove a word -/
def apBest (f : List Bool) (x : Nat) (j : Nat) (b : Int) : Int := bif decide ((pc j : Int) < b) && apOne f j x then (pc j : Int) else b
theorem ap_proof {k : Nat} (hk : k ≤ 4) {f : List Bool} (hl : f.length = 2 ^ k) {x : Nat} (hx : x < f.length) : ask_proof (k : Int) f (x : Int) = some ((List.range (2 ^ k)).foldl (fun b j => apBest f x j b) (k : Int)) := by
  have h16 : 2 ^ k ≤ 16 := Nat.pow_le_pow_right (n := 2) (by omega) hk
  unfold ask_proof
  rw [ck_ok (by omega), tb_shl hk, Option.bind_some, forI_fold (g := fun j b => apBest f x j b) (by omega)]
  · rfl
  · intro j b hj
    unfold ask_proof_b16 ask_proof_g14 apBest
    rw [wrap_u64 (by omega) (by omega), ones_eq j (by omega), Option.bind_some, ap_same (by omega) (by omega) hx]
    cases decide ((pc j : Int) < b) <;> cases apOne f j x <;> rfl
theorem ap_proofref {k : Nat} (hk : k ≤ 4) {f : List Bool} (hl : f.length = 2 ^ k) {x : Nat} (hx : x < f.length) : ref_Proof 100 (k : Int) f (x : Int) = some ((List.range (2 ^ k)).foldl (fun b j => apBest f x j b) (k : Int)) := by
  have h16 : 2 ^ k ≤ 16 := Nat.pow_le_pow_right (n := 2) (by omega) hk
  have hc : ck (0 ≤ IntKind.wrap .u64 (k : Int)) = some () := by rw [wrap_u64 (by omega) (by omega)]; exact ck_ok (by omega)
  have hs : bShl .i64 1 (IntKind.wrap .u64 (k : Int)) = ((2 ^ k : Nat) : Int) := by rw [wrap_u64 (by omega) (by omega), tb_shl hk]
  unfold ref_Proof
  rw [iter_count0 (g := fun j b => apBest f x j b) (fin := fun b => b) (n := 2 ^ k)]
  · rfl
  · intro j b hj
    unfold ref_Proof_b16 ref_Proof_g14 apBest
    have hd : decide ((j : Int) < ((2 ^ k : Nat) : Int)) = true := by simp only [decide_eq_true_eq]; omega
    have ew : w64 ((j : Int) + 1) = ((j + 1 : Nat) : Int) := by rw [w64_id (by omega) (by omega)]; omega
    rw [hc, hs]
    simp only [Option.bind_some, hd, cond_true, size_eq (w := j) (by omega), ap_one (m := j) (by omega) (by omega) hx, ew]
    cases decide ((pc j : Int) < b) <;> cases apOne f j x <;> rfl
  · intro b
    unfold ref_Proof_b16
    rw [hc, hs]
    simp
  · omega

theorem AskBoths_true (a0 : Int) (a1 : List Bool) (f0 : Fits (.int .i64) a0) (f1 : Fits (.slice .bool) a1) : ∃ fuel, law_AskBoths fuel a0 a1 = some true := by
  refine ⟨100, ?_⟩
  unfold law_AskBoths ask_Proofs
  rw [tb_ref, tb_ask]
  simp only [Option.bind_some]
  by_cases hz : tbc a0 a1 0 = 0
  · obtain ⟨k, hk, rfl, hl, h0, h1⟩ := tb_valid hz
    rw [hz]
    obtain ⟨y, h1, h2, _⟩ := forL_eq (body := ask_Proofs_b6 (k : Int) a1) (body' := law_AskBoths_b16 (k : Int) a1 100) (fin := fun x => (x.1, x.2)) (l := a1) (x := (0, 0)) (fun _ _ => True) (fun _ => True) trivial
      (by
        intro w b x hw _
        have hwl := (List.getElem?_eq_some_iff.1 hw).1
        unfold ask_Proofs_b6 law_AskBoths_b16 law_AskBoths_g14
        rw [ap_proof hk hl hwl, ap_proofref hk hl hwl]
        generalize (List.range (2 ^ k)).foldl (fun b j => apBest a1 w j b) (k : Int) = r
        simp only [Option.bind_some]
        unfold imax
        cases b with
        | true =>
          by_cases hc : r > x.2
          · exact ⟨_, rfl, by simp [hc], trivial⟩
          · exact ⟨_, rfl, by simp [hc], trivial⟩
        | false =>
          by_cases hc : r > x.1
          · exact ⟨_, rfl, by simp [hc], trivial⟩
          · exact ⟨_, rfl, by simp [hc], trivial⟩)
      (fun _ _ => trivial)
    simp [h1, h2]
  · have e0 : (tbc a0 a1 0 != 0) = true := by simp [hz]
    simp [e0]

end Go.Proofs.Ytnlibkamomlccaa.askBoths
namespace Go.Proofs.Ytnlibkamomlccaa.askBoths
open Go.ChangeShapes Go.WideShapes Go.ChangeAt Go.RowKit
open Go.ChangeMaps (open_string shut_string)
theorem own : ownKnob Try.prog.godebug = none := by kernel_rfl
theorem laidOut : laidOutB Try.prog = true := by kernel_rfl
theorem lifted (os : Os) (started : os.Started) (H : Type) (enc : TypeId × Value → H) :
    ReturnsInHanded {} Try.checked os 9 .any (Rows.askBothsSpec.pre6 enc Try.prog Try.f9 Rows.askBothsRow.domain false) (Rows.askBothsSpec.post enc Try.prog Try.f9 false true false false) := by
  refine returnsInHanded_of_change (C := Try.checked) own started (by kernel_rfl) Try.func9
    (ChangeSpec.witness6 (enc := enc) (C := Try.checked) false ⟨#[], #[.int .i64 0, .slice none 0 0], []⟩ 8 (by kernel_rfl) (by kernel_rfl) (by kernel_rfl) (by kernel_rfl)) ?_
  intro W base args ds gs before hval0 hW hcnd _
  have hval : ∀ (j : Nat) t v, Try.f9.params[j]? = some t → args[j]? = some v → Value.okWide Try.prog W .any base t v := hval0
  have hW' := hW
  obtain ⟨p, q, hA0, hV, rfl, hfz, hnd⟩ := hW
  have hA : DataW.TrodAll enc Try.prog W 0 (fun _ => true) true Try.f9.params.toList args.toList ds p := hA0
  rw [Try.params9] at hA hval
  obtain ⟨v0, vs0, d0, ds0, p0, q0, hargs, rfl, rfl, h0, r0⟩ := trodAll_cons hA
  obtain ⟨v1, vs1, d1, ds1, p1, q1, rfl, rfl, rfl, h1, r1⟩ := trodAll_cons r0
  obtain ⟨rfl, rfl, rfl⟩ := trodAll_nil r1
  obtain rfl : args = #[v0, v1] := by cases args; simp_all
  obtain ⟨rfl, rfl⟩ := trodVars_none hV
  obtain ⟨x0, f0, k0⟩ := Go.Sl.read_arg (u := (.int .i64)) (by kernel_rfl) (by kernel_rfl) (hval 0 3 v0 rfl rfl) h0
  have lt0 : ∀ x ∈ p0, x.block < W.heap.size := by obtain ⟨m, hm⟩ := h0; exact DataW.trod_lt m _ _ _ hm
  obtain ⟨x1, f1, k1⟩ := Go.Sl.read_arg (u := (.slice .bool)) (by kernel_rfl) (by kernel_rfl) (hval 1 30 v1 rfl rfl) h1
  have lt1 : ∀ x ∈ p1, x.block < W.heap.size := by obtain ⟨m, hm⟩ := h1; exact DataW.trod_lt m _ _ _ hm
  clear hA0 hval0
  obtain ⟨fuel, hm⟩ := AskBoths_true x0 x1 f0 f1
  refine (Go.Sl.law_of (vs := [v0, v1]) (law_AskBoths_ok hm) rfl (.cons (k0 _ _) (.cons (k1 _ _) .nil))).mono fun e W' ⟨he, bel⟩ => ?_
  subst he
  exact ⟨_, rfl, _, _, _, [], _, [], hW', trodAll_mk1 (shut_bool Try.underlying4 _), (trodAll_cons_mk (Below.trod laidOut (by kernel_rfl) (of_decide_eq_true (by kernel_rfl)) h0 bel lt0) (trodAll_cons_mk (Below.trod laidOut (by kernel_rfl) (of_decide_eq_true (by kernel_rfl)) h1 bel lt1) trodAll_mk0)), rfl, bel.frame _, fun h => by cases h⟩
theorem proved : Rows.AskBothsSaid :=
  OpenClaim.holds_of_wide 9 Try.f9 rfl rfl rfl rfl rfl rfl rfl ⟨rfl, rfl, rfl, rfl, rfl⟩ rfl rfl rfl rfl rfl (by kernel_rfl) Try.func9 (by kernel_rfl)
    (of_decide_eq_true (by kernel_rfl)) (by unfold Func.isWrapper; first | (rw [if_pos (by decide +kernel)]; kernel_rfl) | (rw [if_neg (by decide +kernel)]; exact ⟨rfl, rfl⟩))
    (fun os started H enc _ => lifted os started H enc)
#print axioms proved
end Go.Proofs.Ytnlibkamomlccaa.askBoths
