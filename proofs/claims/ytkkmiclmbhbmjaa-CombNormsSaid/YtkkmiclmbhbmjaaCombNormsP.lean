/- For any term and any steps comb.Norm returns the specified results: CombNorms returns true and changes nothing; no conditions. -/
import Derived.Test.YtkkmiclmbhbmjaaRows
import Derived.WalkKit
import Derived.ProofKit
import Derived.OpenShut
import Derived.ShutString
import Derived.ChangeOld
import Derived.Below
import Derived.Test.YtkkmiclmbhbmjaaCombNormsM2
set_option linter.all false
set_option maxRecDepth 100000
namespace Go.Proofs.Ytkkmiclmbhbmjaa.combNorms
open Go Go.Sl

theorem within_eq (a b c : Int) : ref_Within a b c = some (decide (a ≤ b ∧ b ≤ c)) := by
  unfold ref_Within
  rw [Bool.decide_and]

def cbf (n : Nat) (v : Int × Int × Int × Int) : Option Int :=
  bif !decide (1 ≤ v.1 ∧ v.1 ≤ 4) then some 6 else bif (v.1 == 3) && !decide (0 ≤ v.2.2.2 ∧ v.2.2.2 ≤ 1000) then some 4 else
    bif (v.1 == 4) && !decide ((0 ≤ v.2.1 ∧ v.2.1 < (n : Int)) ∧ (0 ≤ v.2.2.1 ∧ v.2.2.1 < (n : Int))) then some 2 else none
theorem cb_inside2 (n a b : Int) : ref_Inside n [a, b] = some (decide ((0 ≤ a ∧ a < n) ∧ (0 ≤ b ∧ b < n))) := by
  unfold ref_Inside
  rw [forL_ex (p := fun v => decide (v < 0) || decide (v ≥ n)) (y := Esc.ret false) (fun i a _ => by unfold ref_Inside_b1; cases (decide (a < 0) || decide (a ≥ n)) <;> rfl)]
  have e : ∀ v : Int, (decide (v < 0) || decide (v ≥ n)) = !decide (0 ≤ v ∧ v < n) := fun v => by rw [or_dec, not_dec]; exact decide_eq_decide.2 (by omega)
  simp only [List.any_cons, List.any_nil, Bool.or_false, e]
  by_cases h1 : 0 ≤ a ∧ a < n <;> by_cases h2 : 0 ≤ b ∧ b < n <;> simp [h1, h2]
theorem cb_body (n : Nat) (v : Int × Int × Int × Int) : comb_Check_b13 (n : Int) v () = some (said Esc.ret (cbf n v)) := by
  unfold comb_Check_b13 comb_Check_g9 cbf
  have e1 : (bif decide (v.1 < (1 : Int)) then (some true) else (some (decide (v.1 > (4 : Int))))) = some (!decide (1 ≤ v.1 ∧ v.1 ≤ 4)) := by
    rw [bif_some]; congr 1
    by_cases h : v.1 < 1
    · have : ¬ (1 ≤ v.1 ∧ v.1 ≤ 4) := by omega
      simp [h, this]
    · rw [decide_eq_false h, cond_false, not_dec]; exact decide_eq_decide.2 (by omega)
  have e2 : (bif decide (v.2.2.2 < (0 : Int)) then (some true) else (some (decide (v.2.2.2 > (1000 : Int))))) = some (!decide (0 ≤ v.2.2.2 ∧ v.2.2.2 ≤ 1000)) := by
    rw [bif_some]; congr 1
    by_cases h : v.2.2.2 < 0
    · have : ¬ (0 ≤ v.2.2.2 ∧ v.2.2.2 ≤ 1000) := by omega
      simp [h, this]
    · rw [decide_eq_false h, cond_false, not_dec]; exact decide_eq_decide.2 (by omega)
  have e3 : (bif decide ((imin v.2.1 v.2.2.1) < (0 : Int)) then (some true) else (some (decide ((imax v.2.1 v.2.2.1) ≥ (n : Int))))) = some (!decide ((0 ≤ v.2.1 ∧ v.2.1 < (n : Int)) ∧ (0 ≤ v.2.2.1 ∧ v.2.2.1 < (n : Int)))) := by
    rw [bif_some]; congr 1
    by_cases h : imin v.2.1 v.2.2.1 < 0
    · have : ¬ ((0 ≤ v.2.1 ∧ v.2.1 < (n : Int)) ∧ (0 ≤ v.2.2.1 ∧ v.2.2.1 < (n : Int))) := by
        unfold imin at h; split at h <;> omega
      rw [decide_eq_true h, decide_eq_false this]; rfl
    · rw [decide_eq_false h, cond_false, not_dec]
      refine decide_eq_decide.2 ?_
      unfold imin at h; unfold imax
      split at h <;> split <;> omega
  rw [e1, e2, e3]
  cases decide (1 ≤ v.1 ∧ v.1 ≤ 4) <;> cases (v.1 == 3) <;> cases decide (0 ≤ v.2.2.2 ∧ v.2.2.2 ≤ 1000) <;> cases (v.1 == 4) <;> cases decide ((0 ≤ v.2.1 ∧ v.2.1 < (n : Int)) ∧ (0 ≤ v.2.2.1 ∧ v.2.2.1 < (n : Int))) <;> rfl
theorem cb_rbody (n : Nat) (v : Int × Int × Int × Int) : ref_CombCheck_b7 (n : Int) v () = some (said Esc.ret (cbf n v)) := by
  unfold ref_CombCheck_b7 cbf
  rw [within_eq, within_eq, cb_inside2]
  cases decide (1 ≤ v.1 ∧ v.1 ≤ 4) <;> cases (v.1 == 3) <;> cases decide (0 ≤ v.2.2.2 ∧ v.2.2.2 ≤ 1000) <;> cases (v.1 == 4) <;> cases decide ((0 ≤ v.2.1 ∧ v.2.1 < (n : Int)) ∧ (0 ≤ v.2.2.1 ∧ v.2.2.1 < (n : Int))) <;> rfl
/-- the sizes, one by one -/
theorem cb_sizes {l : List (Int × Int × Int × Int)} (hl : l.length ≤ 40) (hok : firstOf cbf 0 l = none) :
    ∃ y y', forL comb_sizes_b9 (fun x54 => x54) l 0 ([] : List Int) = some y ∧ forL ref_CombCheck_b35 (fun x297 => x297) l 0 (List.replicate l.length (0 : Int)) = some y' ∧ (y = y' ∧ y.length = l.length) := by
  refine forL_rel (R := fun n (x x' : List Int) => x.length = n ∧ x' = x ++ List.replicate (l.length - n) 0 ∧ ∀ v ∈ x, 0 ≤ v ∧ v ≤ 301) (S := fun (y y' : List Int) => y = y' ∧ y.length = l.length) rfl ⟨rfl, by simp, by simp⟩ ?_ ?_
  · rintro n a a' x _ ha ha' ⟨hx, rfl, hb⟩
    obtain rfl := Option.some.inj (ha.symm.trans ha')
    have hn : n < l.length := (List.getElem?_eq_some_iff.1 ha).1
    have hok := firstOf_none hok ha
    have hrep : List.replicate (l.length - n) (0 : Int) = 0 :: List.replicate (l.length - (n + 1)) 0 := by
      rw [show l.length - n = (l.length - (n + 1)) + 1 by omega]; rfl
    have hset : ∀ (q v : Int), List.set (x ++ q :: List.replicate (l.length - (n + 1)) 0) n v = x ++ v :: List.replicate (l.length - (n + 1)) 0 := by
      intro q v
      rw [List.set_append_right _ _ (by omega), hx, Nat.sub_self]; rfl
    have hidx : ∀ (q : Int), idx (x ++ q :: List.replicate (l.length - (n + 1)) 0) (n : Int) = some q := by
      intro q
      rw [idx_nat, List.getElem?_append_right (by omega), hx, Nat.sub_self]; rfl
    have hlow : ∀ (q i : Int), 0 ≤ i ∧ i < (n : Int) → ∃ v, idx x i = some v ∧ idx (x ++ q :: List.replicate (l.length - (n + 1)) 0) i = some v ∧ 0 ≤ v ∧ v ≤ 301 := by
      intro q i hi
      obtain ⟨v, h1, h2⟩ := idx_get (xs := x) hi.1 (by omega)
      refine ⟨v, h1, ?_, hb v (List.mem_of_getElem? h2)⟩
      unfold idx
      rw [if_pos hi.1, List.getElem?_append_left (by omega)]; exact h2
    have hck : ck ((List.length x : Int) + 1 ≤ 4294967296) = some () := ck_ok (by omega)
    unfold comb_sizes_b9 comb_sizes_g7 ref_CombCheck_b35 ref_CombCheck_g33 ref_CombCheck_g31
    rw [hck, hrep, hidx]
    simp only [Int.toNat_natCast, hset, bind_some']
    cases h4 : (a.1 == 4) with
    | true =>
      have hr : (0 ≤ a.2.1 ∧ a.2.1 < (n : Int)) ∧ (0 ≤ a.2.2.1 ∧ a.2.2.1 < (n : Int)) := by
        unfold cbf at hok
        cases h5 : !decide (1 ≤ a.1 ∧ a.1 ≤ 4) with
        | true => rw [h5] at hok; cases hok
        | false =>
          rw [h5] at hok
          cases h6 : ((a.1 == 3) && !decide (0 ≤ a.2.2.2 ∧ a.2.2.2 ≤ 1000)) with
          | true => rw [h6] at hok; cases hok
          | false =>
            rw [h6, h4] at hok
            by_cases h7 : (0 ≤ a.2.1 ∧ a.2.1 < (n : Int)) ∧ (0 ≤ a.2.2.1 ∧ a.2.2.1 < (n : Int))
            · exact h7
            · simp [decide_eq_false h7] at hok
      obtain ⟨p, p1, p2, p3, p4⟩ := hlow 1 _ hr.1
      obtain ⟨q, q1, q2, q3, q4⟩ := hlow 1 _ hr.2
      simp only [cond_true, p1, p2, q1, q2, bind_some', hidx, hset]
      have e1 : w64 (1 + p) = 1 + p := w64_id (by omega) (by omega)
      have e2 : w64 (1 + p + q) = 1 + p + q := w64_id (by omega) (by omega)
      rw [e1, e2]
      have hmin : imin (1 + p + q) 301 = if 1 + p + q > 300 then 301 else 1 + p + q := by
        unfold imin; split <;> split <;> omega
      rw [hmin]
      by_cases h8 : 1 + p + q > 300
      · simp only [h8, decide_true, cond_true, if_true, bind_some', hidx, hset]
        exact ⟨_, _, rfl, rfl, by simp [hx], by simp, by intro v hv; simp at hv; rcases hv with hv | rfl; exact hb v hv; omega⟩
      · simp only [h8, decide_false, cond_false, if_false, bind_some']
        exact ⟨_, _, rfl, rfl, by simp [hx], by simp, by intro v hv; simp at hv; rcases hv with hv | rfl; exact hb v hv; omega⟩
    | false =>
      simp only [cond_false, bind_some', hidx]
      have : decide ((1 : Int) > 300) = false := by decide
      rw [this]
      exact ⟨_, _, rfl, rfl, by simp [hx], by simp, by intro v hv; simp at hv; rcases hv with hv | rfl; exact hb v hv; omega⟩
  · rintro x _ ⟨hx, rfl, _⟩
    exact ⟨by simp, hx⟩
/-- terms -/
inductive TT where
  | leaf (k v : Int)
  | put (a b : TT)
abbrev Cb : Type := Int × Int × Int × Int
def emb : TT → CT
  | .leaf k v => .node k v .nil .nil
  | .put a b => .node 4 0 (emb a) (emb b)
def sz : TT → Nat
  | .leaf _ _ => 1
  | .put a b => 1 + sz a + sz b
def okT : TT → Prop
  | .leaf k _ => k ≠ 4
  | .put a b => okT a ∧ okT b
def mkT (ts : List TT) (c : Cb) : TT := if c.1 = 4 then .put (ts.getD c.2.1.toNat (.leaf 0 0)) (ts.getD c.2.2.1.toNat (.leaf 0 0)) else .leaf c.1 (if c.1 = 3 then c.2.2.2 else 0)
def rdL (l : List Cb) : List TT := l.foldl (fun ts c => ts ++ [mkT ts c]) []
theorem sz_pos : ∀ t : TT, 1 ≤ sz t
  | .leaf _ _ => Nat.le_refl _
  | .put a b => by unfold sz; omega
theorem rdL_snoc (l : List Cb) (c : Cb) : rdL (l ++ [c]) = rdL l ++ [mkT (rdL l) c] := by simp [rdL, List.foldl_append]
theorem rdL_len (l : List Cb) : (rdL l).length = l.length := by
  refine snoc_ind (P := fun l => (rdL l).length = l.length) rfl (fun l c ih => ?_) l
  rw [rdL_snoc, List.length_append, List.length_append, ih]; rfl
theorem rdL_take (l : List Cb) : ∀ n, n ≤ l.length → (rdL l).take n = rdL (l.take n) := by
  refine snoc_ind (P := fun l => ∀ n, n ≤ l.length → (rdL l).take n = rdL (l.take n)) (fun n hn => by
    have : n = 0 := by simpa using hn
    subst this; rfl) (fun l c ih n hn => ?_) l
  rw [rdL_snoc]
  by_cases h : n ≤ l.length
  · rw [List.take_append_of_le_length (by rw [rdL_len]; exact h), List.take_append_of_le_length h]
    exact ih n h
  · have hn' : n = l.length + 1 := by simp at hn; omega
    subst hn'
    rw [List.take_of_length_le (by simp [rdL_len]), List.take_of_length_le (by simp), rdL_snoc]
theorem rdL_get {l : List Cb} {n : Nat} {c : Cb} (h : l[n]? = some c) : (rdL l)[n]? = some (mkT (rdL (l.take n)) c) := by
  have hn := (List.getElem?_eq_some_iff.1 h).1
  have e := rdL_take l (n + 1) (by omega)
  have e2 : l.take (n + 1) = l.take n ++ [c] := by rw [List.take_add_one, h]; rfl
  rw [e2, rdL_snoc] at e
  have : ((rdL l).take (n + 1))[n]? = some (mkT (rdL (l.take n)) c) := by
    rw [e, List.getElem?_append_right (by rw [rdL_len, List.length_take]; omega), rdL_len, List.length_take, Nat.min_eq_left (by omega), Nat.sub_self]; rfl
  rw [List.getElem?_take_of_lt (by omega)] at this
  exact this
theorem cb_ok {n : Nat} {v : Cb} (h : cbf n v = none) : (1 ≤ v.1 ∧ v.1 ≤ 4) ∧ (v.1 = 4 → (0 ≤ v.2.1 ∧ v.2.1 < (n : Int)) ∧ (0 ≤ v.2.2.1 ∧ v.2.2.1 < (n : Int))) := by
  unfold cbf at h
  by_cases h1 : 1 ≤ v.1 ∧ v.1 ≤ 4
  · refine ⟨h1, fun h4 => ?_⟩
    rw [decide_eq_true h1] at h
    have h3 : (v.1 == 3) = false := by rw [h4]; rfl
    rw [h3, h4] at h
    by_cases h7 : (0 ≤ v.2.1 ∧ v.2.1 < (n : Int)) ∧ (0 ≤ v.2.2.1 ∧ v.2.2.1 < (n : Int))
    · exact h7
    · simp [decide_eq_false h7] at h
  · simp [decide_eq_false h1] at h
theorem take_getD {ts : List TT} {n k : Nat} (hk : k < n) (d : TT) : (ts.take n).getD k d = ts.getD k d := by
  rw [List.getD_eq_getElem?_getD, List.getD_eq_getElem?_getD, List.getElem?_take_of_lt hk]
/-- the parts of a term stand ahead of it -/
theorem mkT_eq {l : List Cb} {n : Nat} {c : Cb} (hn : n ≤ l.length) (hc : cbf n c = none) : mkT (rdL (l.take n)) c = mkT (rdL l) c := by
  unfold mkT
  split
  · rename_i h4
    obtain ⟨h1, h2⟩ := (cb_ok hc).2 h4
    rw [← rdL_take l n hn, take_getD (by omega), take_getD (by omega)]
  · rfl
theorem rdL_ok {l : List Cb} (h : firstOf cbf 0 l = none) : ∀ (n : Nat) (t : TT), (rdL l)[n]? = some t → okT t := by
  intro n
  induction n using Nat.strongRecOn with
  | ind n ih =>
    intro t ht
    have hn : n < l.length := by have := (List.getElem?_eq_some_iff.1 ht).1; rwa [rdL_len] at this
    have hc := List.getElem?_eq_getElem hn
    have hok := firstOf_none h hc
    rw [rdL_get hc, mkT_eq (by omega) hok] at ht
    obtain rfl := Option.some.inj ht
    unfold mkT
    split
    · rename_i h4
      obtain ⟨h1, h2⟩ := (cb_ok hok).2 h4
      have key : ∀ k : Nat, k < n → okT ((rdL l).getD k (.leaf 0 0)) := fun k hk => by
        rw [List.getD_eq_getElem?_getD, List.getElem?_eq_getElem (by rw [rdL_len]; omega)]
        exact ih k hk _ (List.getElem?_eq_getElem (by rw [rdL_len]; omega))
      exact ⟨key _ (by omega), key _ (by omega)⟩
    · rename_i h4; exact h4
theorem comb_read_eq {l : List Cb} (hl : l.length ≤ 40) (h1 : 1 ≤ l.length) (h : firstOf cbf 0 l = none) : comb_read l = some (emb ((rdL l).getD (l.length - 1) (.leaf 0 0))) := by
  obtain ⟨y, h2, h3⟩ := forL_inv (body := comb_read_b11) (fin := fun x => x) (l := l) (x := []) (fun n x => x = (rdL (l.take n)).map emb) (fun y => y = (rdL l).map emb) rfl
    (by
      rintro n c x hc rfl
      have hn := (List.getElem?_eq_some_iff.1 hc).1
      have hok := firstOf_none h hc
      have hlen : ((rdL (l.take n)).map emb).length = n := by rw [List.length_map, rdL_len, List.length_take]; omega
      have hck : ck ((List.length ((rdL (l.take n)).map emb) : Int) + 1 ≤ 4294967296) = some () := ck_ok (by omega)
      have hnext : (rdL (l.take (n + 1))).map emb = (rdL (l.take n)).map emb ++ [emb (mkT (rdL (l.take n)) c)] := by
        have e2 : l.take (n + 1) = l.take n ++ [c] := by rw [List.take_add_one, hc]; rfl
        rw [e2, rdL_snoc, List.map_append]; rfl
      have hidx : ∀ i : Int, 0 ≤ i ∧ i < (n : Int) → idx ((rdL (l.take n)).map emb) i = some (emb ((rdL (l.take n)).getD i.toNat (.leaf 0 0))) := by
        intro i hi
        refine idx_of hi.1 ?_
        rw [List.getElem?_map, List.getElem?_eq_getElem (by rw [rdL_len, List.length_take]; omega), List.getD_eq_getElem?_getD, List.getElem?_eq_getElem (by rw [rdL_len, List.length_take]; omega)]; rfl
      refine ⟨.next ((rdL (l.take n)).map emb ++ [emb (mkT (rdL (l.take n)) c)]), ?_, hnext.symm⟩
      unfold comb_read_b11 mkT
      by_cases h4 : c.1 = 4
      · obtain ⟨q1, q2⟩ := (cb_ok hok).2 h4
        rw [h4, show ((4 : Int) == 3) = false from rfl, cond_false, bind_some', show ((4 : Int) == 4) = true from rfl, cond_true, hidx _ q1, bind_some', hidx _ q2, bind_some', bind_some', hck, bind_some', if_pos rfl]
        rfl
      · rw [show (c.1 == 4) = false from by simp [h4], if_neg h4]
        by_cases h3 : c.1 = 3
        · rw [h3, show ((3 : Int) == 3) = true from rfl, cond_true, bind_some', cond_false, bind_some', hck, bind_some', if_pos rfl]
          rfl
        · rw [show (c.1 == 3) = false from by simp [h3], cond_false, bind_some', cond_false, bind_some', hck, bind_some', if_neg h3]
          rfl)
    (by rintro x rfl; simp)
  have hlen : ((rdL l).map emb).length = l.length := by rw [List.length_map, rdL_len]
  unfold comb_read
  rw [h2, h3, bind_some', hlen, show ((l.length : Int)) - 1 = ((l.length - 1 : Nat) : Int) from by omega, wnat (by omega), idx_nat, List.getElem?_map, List.getElem?_eq_getElem (by rw [rdL_len]; omega), List.getD_eq_getElem?_getD, List.getElem?_eq_getElem (by rw [rdL_len]; omega)]
  rfl
theorem ref_read_eq {l : List Cb} (h : firstOf cbf 0 l = none) : ∀ (fuel i : Nat), i < l.length → i < fuel → ref_Read fuel l (i : Int) = some (emb ((rdL l).getD i (.leaf 0 0)))
  | fuel + 1, i, hi, hf => by
    have hc := List.getElem?_eq_getElem hi
    have hok := firstOf_none h hc
    have hget := rdL_get hc
    rw [mkT_eq (by omega) hok] at hget
    have hv : (rdL l).getD i (.leaf 0 0) = mkT (rdL l) l[i] := by rw [List.getD_eq_getElem?_getD, hget]; rfl
    rw [hv]
    show ref_Read_step (ref_Read fuel) fuel l (i : Int) = _
    unfold ref_Read_step mkT
    rw [idx_nat, hc, bind_some']
    by_cases h4 : l[i].1 = 4
    · obtain ⟨⟨q1, q2⟩, q3, q4⟩ := (cb_ok hok).2 h4
      have r1 := ref_read_eq h fuel l[i].2.1.toNat (by omega) (by omega)
      have r2 := ref_read_eq h fuel l[i].2.2.1.toNat (by omega) (by omega)
      rw [Int.toNat_of_nonneg q1] at r1
      rw [Int.toNat_of_nonneg q3] at r2
      rw [if_pos h4, show (l[i].1 == 4) = true from by simp [h4], cond_true, r1, bind_some', r2, bind_some', h4]
      rfl
    · rw [if_neg h4, show (l[i].1 == 4) = false from by simp [h4], cond_false]
      by_cases h3 : l[i].1 = 3
      · rw [show (l[i].1 == 3) = true from by simp [h3], cond_true, bind_some', if_pos h3]; rfl
      · rw [show (l[i].1 == 3) = false from by simp [h3], cond_false, bind_some', if_neg h3]; rfl
/-- the sizes that are told -/
theorem sizes_eq {l : List Cb} (hl : l.length ≤ 40) (h : firstOf cbf 0 l = none) : comb_sizes l = some ((rdL l).map fun t => ((min (sz t) 301 : Nat) : Int)) := by
  obtain ⟨y, h2, h3⟩ := forL_inv (body := comb_sizes_b9) (fin := fun x => x) (l := l) (x := []) (fun n x => x = (rdL (l.take n)).map fun t => ((min (sz t) 301 : Nat) : Int)) (fun y => y = (rdL l).map fun t => ((min (sz t) 301 : Nat) : Int)) rfl
    (by
      rintro n c x hc rfl
      have hn := (List.getElem?_eq_some_iff.1 hc).1
      have hok := firstOf_none h hc
      have hlen : ((rdL (l.take n)).map fun t => ((min (sz t) 301 : Nat) : Int)).length = n := by rw [List.length_map, rdL_len, List.length_take]; omega
      have hck : ck ((List.length ((rdL (l.take n)).map fun t => ((min (sz t) 301 : Nat) : Int)) : Int) + 1 ≤ 4294967296) = some () := ck_ok (by omega)
      have hnext : ((rdL (l.take (n + 1))).map fun t => ((min (sz t) 301 : Nat) : Int)) = ((rdL (l.take n)).map fun t => ((min (sz t) 301 : Nat) : Int)) ++ [((min (sz (mkT (rdL (l.take n)) c)) 301 : Nat) : Int)] := by
        have e2 : l.take (n + 1) = l.take n ++ [c] := by rw [List.take_add_one, hc]; rfl
        rw [e2, rdL_snoc, List.map_append]; rfl
      have hidx : ∀ i : Int, 0 ≤ i ∧ i < (n : Int) → idx ((rdL (l.take n)).map fun t => ((min (sz t) 301 : Nat) : Int)) i = some ((min (sz ((rdL (l.take n)).getD i.toNat (.leaf 0 0))) 301 : Nat) : Int) := by
        intro i hi
        refine idx_of hi.1 ?_
        rw [List.getElem?_map, List.getElem?_eq_getElem (by rw [rdL_len, List.length_take]; omega), List.getD_eq_getElem?_getD, List.getElem?_eq_getElem (by rw [rdL_len, List.length_take]; omega)]; rfl
      have hg : comb_sizes_g7 ((rdL (l.take n)).map fun t => ((min (sz t) 301 : Nat) : Int)) c = some ((min (sz (mkT (rdL (l.take n)) c)) 301 : Nat) : Int) := by
        unfold comb_sizes_g7 mkT
        by_cases h4 : c.1 = 4
        · obtain ⟨q1, q2⟩ := (cb_ok hok).2 h4
          rw [show (c.1 == 4) = true from by simp [h4], cond_true, hidx _ q1, bind_some', hidx _ q2, bind_some', if_pos h4, sz]
          generalize sz ((rdL (l.take n)).getD c.2.1.toNat (.leaf 0 0)) = A
          generalize sz ((rdL (l.take n)).getD c.2.2.1.toNat (.leaf 0 0)) = B
          rw [w64_id (n := 1 + ((min A 301 : Nat) : Int)) (by omega) (by omega), w64_id (by omega) (by omega)]
          exact congrArg some (by unfold imin; split <;> omega)
        · rw [show (c.1 == 4) = false from by simp [h4], cond_false, if_neg h4, sz]; rfl
      refine ⟨.next (((rdL (l.take n)).map fun t => ((min (sz t) 301 : Nat) : Int)) ++ [((min (sz (mkT (rdL (l.take n)) c)) 301 : Nat) : Int)]), ?_, hnext.symm⟩
      unfold comb_sizes_b9
      rw [hg, bind_some', hck, bind_some'])
    (by rintro x rfl; simp)
  unfold comb_sizes
  rw [h2, h3]; rfl
theorem cb_ne0 (j : Nat) (a : Cb) (h : cbf j a = some 0) : False := by
  unfold cbf at h
  generalize (!decide (1 ≤ a.1 ∧ a.1 ≤ 4)) = p at h
  generalize ((a.1 == 3) && !decide (0 ≤ a.2.2.2 ∧ a.2.2.2 ≤ 1000)) = q at h
  generalize ((a.1 == 4) && !decide ((0 ≤ a.2.1 ∧ a.2.1 < (j : Int)) ∧ (0 ≤ a.2.2.1 ∧ a.2.2.1 < (j : Int)))) = r at h
  cases p <;> cases q <;> cases r <;> cases h
theorem cb_key (a0 : List Cb) : ∃ z, comb_Check a0 = some z ∧ ref_CombCheck a0 = some z ∧ (z = 0 → 1 ≤ a0.length ∧ a0.length ≤ 40 ∧ firstOf cbf 0 a0 = none ∧ sz ((rdL a0).getD (a0.length - 1) (.leaf 0 0)) ≤ 300) := by
  unfold comb_Check ref_CombCheck
  rw [within_eq, bind_some', forL_findI (f := cbf) (g := Esc.ret) (fun n a _ => cb_body n a), forL_findI (f := cbf) (g := Esc.ret) (fun n a _ => cb_rbody n a)]
  have e : ((decide ((List.length a0 : Int) < (1 : Int))) || (decide ((List.length a0 : Int) > (40 : Int)))) = !decide (1 ≤ (a0.length : Int) ∧ (a0.length : Int) ≤ 40) := by
    rw [or_dec, not_dec]; exact decide_eq_decide.2 (by omega)
  rw [e]
  by_cases h : 1 ≤ (a0.length : Int) ∧ (a0.length : Int) ≤ 40
  · simp only [h, and_self, decide_true, Bool.not_true, cond_false]
    cases hf : firstOf cbf 0 a0 with
    | some z =>
      refine ⟨z, rfl, rfl, fun hz => ?_⟩
      subst hz
      obtain ⟨j, a, _, h2⟩ := firstOf_some hf
      exact (cb_ne0 j a h2).elim
    | none =>
      obtain ⟨y, y', h1, h2, rfl, h3⟩ := cb_sizes (by omega) hf
      have hs := sizes_eq (by omega) hf
      unfold comb_sizes at hs ⊢
      rw [h1] at hs
      simp only [bind_some', Option.some.injEq] at hs
      simp only [Option.elim, bind_some', h1, Int.toNat_natCast, h2]
      rw [ck_ok (by refine ⟨by omega, by trivial, by omega⟩), bind_some']
      have e2 : w64 ((a0.length : Int) - 1) = ((a0.length - 1 : Nat) : Int) := by rw [w64_id (by omega) (by omega)]; omega
      obtain ⟨T, hT⟩ : ∃ T, (rdL a0)[a0.length - 1]? = some T := ⟨_, List.getElem?_eq_getElem (by rw [rdL_len]; omega)⟩
      rw [e2, hs, idx_nat, List.getElem?_map, List.getD_eq_getElem?_getD, hT]
      simp only [Option.map_some, bind_some', Option.getD_some]
      by_cases h5 : ((min (sz T) 301 : Nat) : Int) > 300
      · rw [decide_eq_true h5]; exact ⟨1, rfl, rfl, fun h => by cases h⟩
      · rw [decide_eq_false h5]; exact ⟨0, rfl, rfl, fun _ => ⟨by omega, by omega, trivial, by omega⟩⟩
  · rw [decide_eq_false h]; exact ⟨1, rfl, rfl, fun h => by cases h⟩
/-! sizes and lists -/
def wr : TT → List Cb → List Cb
  | .leaf k v, l => l ++ [(k, 0, 0, v)]
  | .put a b, l => wr b (wr a l) ++ [(4, ((wr a l).length : Int) - 1, ((wr b (wr a l)).length : Int) - 1, 0)]
theorem wr_len : ∀ (t : TT) (l : List Cb), (wr t l).length = l.length + sz t
  | .leaf k v, l => by simp [wr, sz]
  | .put a b, l => by simp [wr, sz, wr_len b, wr_len a]; omega
theorem size_eq : ∀ (t : TT) (fuel : Nat), okT t → sz t ≤ 1000000 → sz t < fuel → comb_Tree_size fuel (emb t) = some (sz t : Int)
  | .leaf k v, fuel + 1, h, _, _ => by
    show comb_Tree_size_step (comb_Tree_size fuel) fuel _ = _
    unfold comb_Tree_size_step
    have hk : k ≠ 4 := h
    simp only [emb, CT.open, bind_some']
    rw [show (k != 4) = true from by simp [hk]]; rfl
  | .put a b, fuel + 1, h, hs, hf => by
    have := sz_pos a
    have := sz_pos b
    simp only [sz] at hs hf
    have h1 := size_eq a fuel h.1 (by omega) (by omega)
    have h2 := size_eq b fuel h.2 (by omega) (by omega)
    show comb_Tree_size_step (comb_Tree_size fuel) fuel _ = _
    unfold comb_Tree_size_step
    simp only [emb, CT.open, bind_some']
    rw [show ((4 : Int) != 4) = false from rfl, cond_false, h1, bind_some', h2, bind_some', w64_id (n := 1 + (sz a : Int)) (by omega) (by omega), w64_id (by omega) (by omega)]
    exact congrArg some (by simp only [sz]; omega)
theorem nodes_eq : ∀ (t : TT) (fuel : Nat), okT t → sz t ≤ 1000000 → sz t < fuel → ref_Nodes fuel (emb t) = some (sz t : Int)
  | .leaf k v, fuel + 1, h, _, _ => by
    show ref_Nodes_step (ref_Nodes fuel) fuel _ = _
    unfold ref_Nodes_step
    have hk : k ≠ 4 := h
    simp only [emb, CT.open, bind_some']
    rw [show (k != 4) = true from by simp [hk]]; rfl
  | .put a b, fuel + 1, h, hs, hf => by
    have := sz_pos a
    have := sz_pos b
    simp only [sz] at hs hf
    have h1 := nodes_eq a fuel h.1 (by omega) (by omega)
    have h2 := nodes_eq b fuel h.2 (by omega) (by omega)
    show ref_Nodes_step (ref_Nodes fuel) fuel _ = _
    unfold ref_Nodes_step
    simp only [emb, CT.open, bind_some']
    rw [show ((4 : Int) != 4) = false from rfl, cond_false, h1, bind_some', h2, bind_some', w64_id (n := 1 + (sz a : Int)) (by omega) (by omega), w64_id (by omega) (by omega)]
    exact congrArg some (by simp only [sz]; omega)
theorem write4_eq : ∀ (t : TT) (l : List Cb) (fuel : Nat), okT t → l.length + sz t ≤ 1000000 → sz t < fuel → comb_Tree_write_i4 fuel (emb t) l = some (wr t l, wr t l)
  | .leaf k v, l, fuel + 1, h, hs, _ => by
    have hk : k ≠ 4 := h
    simp only [sz] at hs
    have hck : ck ((List.length l : Int) + 1 ≤ 4294967296) = some () := ck_ok (by omega)
    show comb_Tree_write_i4_step (comb_Tree_write_i4 fuel) fuel _ _ = _
    unfold comb_Tree_write_i4_step
    rw [show CT.open (emb (.leaf k v)) = some (k, v, .nil, .nil) from rfl, bind_some']
    dsimp only
    rw [show (k != 4) = true from by simp [hk], cond_true, hck, bind_some', wr]
  | .put a b, l, fuel + 1, h, hs, hf => by
    have := sz_pos a
    have := sz_pos b
    simp only [sz] at hs hf
    have h1 := write4_eq a l fuel h.1 (by omega) (by omega)
    have h2 := write4_eq b (wr a l) fuel h.2 (by rw [wr_len]; omega) (by omega)
    have l1 := wr_len a l
    have l2 := wr_len b (wr a l)
    have hck : ck ((List.length (wr b (wr a l)) : Int) + 1 ≤ 4294967296) = some () := ck_ok (by omega)
    show comb_Tree_write_i4_step (comb_Tree_write_i4 fuel) fuel _ _ = _
    unfold comb_Tree_write_i4_step
    rw [show CT.open (emb (.put a b)) = some (4, 0, emb a, emb b) from rfl, bind_some']
    dsimp only
    rw [show ((4 : Int) != 4) = false from rfl, cond_false, h1, bind_some', h2, bind_some']
    dsimp only
    rw [hck, bind_some', w64_id (by omega) (by omega), w64_id (by omega) (by omega), wr]
theorem write_eq : ∀ (t : TT) (fuel : Nat), okT t → sz t ≤ 1000000 → sz t < fuel → comb_Tree_write fuel (emb t) = some (wr t [])
  | .leaf k v, fuel + 1, h, _, _ => by
    have hk : k ≠ 4 := h
    show comb_Tree_write_step (comb_Tree_write fuel) fuel _ = _
    unfold comb_Tree_write_step
    rw [show CT.open (emb (.leaf k v)) = some (k, v, .nil, .nil) from rfl, bind_some']
    dsimp only
    rw [show (k != 4) = true from by simp [hk], cond_true]; rfl
  | .put a b, fuel + 1, h, hs, hf => by
    have := sz_pos a
    have := sz_pos b
    simp only [sz] at hs hf
    have h1 := write_eq a fuel h.1 (by omega) (by omega)
    have l1 := wr_len a []
    have l2 := wr_len b (wr a [])
    simp only [List.length_nil] at l1
    have h2 := write4_eq b (wr a []) fuel h.2 (by omega) (by omega)
    have hck : ck ((List.length (wr b (wr a [])) : Int) + 1 ≤ 4294967296) = some () := ck_ok (by omega)
    show comb_Tree_write_step (comb_Tree_write fuel) fuel _ = _
    unfold comb_Tree_write_step
    rw [show CT.open (emb (.put a b)) = some (4, 0, emb a, emb b) from rfl, bind_some']
    dsimp only
    rw [show ((4 : Int) != 4) = false from rfl, cond_false, h1, bind_some', h2, bind_some']
    dsimp only
    rw [hck, bind_some', w64_id (by omega) (by omega), w64_id (by omega) (by omega), wr]
theorem rwrite_eq : ∀ (t : TT) (l : List Cb) (fuel : Nat), okT t → l.length + sz t ≤ 1000000 → sz t < fuel → ref_Write fuel (emb t) l = some (wr t l)
  | .leaf k v, l, fuel + 1, h, hs, _ => by
    have hk : k ≠ 4 := h
    simp only [sz] at hs
    have hck : ck ((List.length l : Int) + 1 ≤ 4294967296) = some () := ck_ok (by omega)
    have hck0 : ck ((0 : Int) + (List.length l : Int) ≤ 4294967296) = some () := ck_ok (by omega)
    show ref_Write_step (ref_Write fuel) fuel _ _ = _
    unfold ref_Write_step
    rw [show CT.open (emb (.leaf k v)) = some (k, v, .nil, .nil) from rfl, bind_some']
    dsimp only
    rw [show (k != 4) = true from by simp [hk], cond_true, hck0, bind_some', List.nil_append, hck, bind_some', wr]
  | .put a b, l, fuel + 1, h, hs, hf => by
    have := sz_pos a
    have := sz_pos b
    simp only [sz] at hs hf
    have h1 := rwrite_eq a l fuel h.1 (by omega) (by omega)
    have h2 := rwrite_eq b (wr a l) fuel h.2 (by rw [wr_len]; omega) (by omega)
    have l1 := wr_len a l
    have l2 := wr_len b (wr a l)
    have hck : ck ((List.length (wr b (wr a l)) : Int) + 1 ≤ 4294967296) = some () := ck_ok (by omega)
    have hck0 : ck ((0 : Int) + (List.length (wr b (wr a l)) : Int) ≤ 4294967296) = some () := ck_ok (by omega)
    show ref_Write_step (ref_Write fuel) fuel _ _ = _
    unfold ref_Write_step
    rw [show CT.open (emb (.put a b)) = some (4, 0, emb a, emb b) from rfl, bind_some']
    dsimp only
    rw [show ((4 : Int) != 4) = false from rfl, cond_false, h1, bind_some', h2, bind_some', hck0, bind_some', List.nil_append, hck, bind_some', w64_id (by omega) (by omega), w64_id (by omega) (by omega), wr]
theorem combs_self (l : List Cb) : ref_Combs l l = some true := by
  unfold ref_Combs
  rw [bif_f (by simp)]
  have e : forL (ref_Combs_b1 l) (fun _ => (Esc.brk () : Esc Bool Unit)) l 0 () = some (.brk ()) := by
    rw [forL_eqs (q := l) (fun n a c hc => by
      unfold ref_Combs_b1
      rw [idx_nat, hc, bind_some']
      by_cases h : a = c
      · rw [if_pos h, h, deqT_self _ (by decide)]; rfl
      · rw [if_neg h, deqT_ne _ (by decide) h]; rfl) rfl]
    simp
  rw [e]; rfl

/-! a step -/
def partT : TT → Option TT
  | .put (.put (.leaf k _) x) y => if k = 2 then some x else none
  | .put (.put (.put (.leaf k _) x) y) z => if k = 1 then some (.put (.put x z) (.put y z)) else none
  | _ => none
def stT : TT → Option TT
  | .leaf _ _ => none
  | .put a b => match partT (.put a b) with
    | some r => some r
    | none => match stT a with
      | some a' => some (.put a' b)
      | none => (stT b).map (.put a)
theorem partT_ok {t r : TT} (h : partT t = some r) (ho : okT t) : okT r ∧ sz r ≤ 2 * sz t := by
  unfold partT at h
  split at h
  · rename_i k v x y
    split at h
    · simp only [Option.some.injEq] at h; subst h
      simp only [okT] at ho
      simp only [sz]
      exact ⟨ho.1.2, by omega⟩
    · cases h
  · rename_i k v x y z
    split at h
    · simp only [Option.some.injEq] at h; subst h
      simp only [okT] at ho ⊢
      simp only [sz]
      exact ⟨⟨⟨ho.1.1.2, ho.2⟩, ho.1.2, ho.2⟩, by omega⟩
    · cases h
  · cases h
theorem stT_ok : ∀ {t r : TT}, stT t = some r → okT t → okT r ∧ sz r ≤ 2 * sz t
  | .leaf _ _, r, h, _ => by cases h
  | .put a b, r, h, ho => by
    unfold stT at h
    split at h
    · rename_i r' hp
      obtain rfl := Option.some.inj h
      exact partT_ok hp ho
    · split at h
      · rename_i a' ha
        obtain rfl := Option.some.inj h
        obtain ⟨h1, h2⟩ := stT_ok ha ho.1
        simp only [sz]
        exact ⟨⟨h1, ho.2⟩, by omega⟩
      · obtain ⟨b', hb, rfl⟩ := Option.map_eq_some_iff.1 h
        obtain ⟨h1, h2⟩ := stT_ok hb ho.2
        simp only [sz]
        exact ⟨⟨ho.1, h1⟩, by omega⟩
theorem rev2 (fuel : Nat) (a b : CT) : slices_Reverse_LcombTreecombTree (fuel + 2) [a, b] = some [b, a] := by
  have e : w64 ((List.length [a, b] : Int) - 1) = 1 := rfl
  unfold slices_Reverse_LcombTreecombTree
  rw [e]; rfl
theorem rev3 (fuel : Nat) (a b c : CT) : slices_Reverse_LcombTreecombTree (fuel + 2) [a, b, c] = some [c, b, a] := by
  have e : w64 ((List.length [a, b, c] : Int) - 1) = 2 := rfl
  unfold slices_Reverse_LcombTreecombTree
  rw [e]; rfl
theorem ltr_leaf {k v : Int} {x : List CT} {i : Int} (h : k ≠ 4) : comb_Tree_letter_b1 i (emb (.leaf k v), x) = some (.done (.ret ([], false))) := by
  unfold comb_Tree_letter_b1
  rw [show CT.open (emb (.leaf k v)) = some (k, v, .nil, .nil) from rfl, bind_some']
  dsimp only
  rw [show (k != 4) = true from by simp [h], cond_true]
theorem ltr_put {a b : TT} {x : List CT} {i : Int} (h : x.length ≤ 10) : comb_Tree_letter_b1 i (emb (.put a b), x) = some (.next (emb a, x ++ [emb b])) := by
  have hck : ck ((List.length x : Int) + 1 ≤ 4294967296) = some () := ck_ok (by omega)
  unfold comb_Tree_letter_b1
  rw [show CT.open (emb (.put a b)) = some (4, 0, emb a, emb b) from rfl, bind_some']
  dsimp only
  rw [show ((4 : Int) != 4) = false from rfl, cond_false, hck, bind_some']
def kd : TT → Int
  | .leaf k _ => k
  | .put _ _ => 4
theorem open_kd (t : TT) : ∃ p, CT.open (emb t) = some p ∧ p.1 = kd t := by cases t <;> exact ⟨_, rfl, rfl⟩
theorem letter2 (t : TT) (fuel : Nat) (ho : okT t) : comb_Tree_letter (fuel + 2) (emb t) 2 2 = some (match t with
    | .put (.put h x) y => ([emb x, emb y], kd h == 2)
    | _ => ([], false)) := by
  have e : ∀ x : CT × List CT, forI 0 2 comb_Tree_letter_b1 (fun x13 => (Esc.brk (x13.1, x13.2) : Esc (List CT × Bool) (CT × List CT))) x = loopI comb_Tree_letter_b1 (fun x13 => (Esc.brk (x13.1, x13.2) : Esc (List CT × Bool) (CT × List CT))) 2 0 x := fun x => rfl
  unfold comb_Tree_letter
  rw [e]
  match t, ho with
  | .leaf k v, ho => simp only [loopI]; rw [ltr_leaf ho]; rfl
  | .put (.leaf k v) y, ho => simp only [loopI]; rw [ltr_put (by simp)]; simp only [loopI]; rw [ltr_leaf ho.1]; rfl
  | .put (.put h x) y, ho =>
    obtain ⟨p, h1, h2⟩ := open_kd h
    simp only [loopI]
    rw [ltr_put (by simp)]
    simp only [loopI]
    rw [ltr_put (by simp)]
    simp only [loopI, bind_some', List.nil_append, List.cons_append]
    rw [rev2, bind_some', h1, bind_some', h2]
theorem letter3 (t : TT) (fuel : Nat) (ho : okT t) : comb_Tree_letter (fuel + 2) (emb t) 1 3 = some (match t with
    | .put (.put (.put h x) y) z => ([emb x, emb y, emb z], kd h == 1)
    | _ => ([], false)) := by
  have e : ∀ x : CT × List CT, forI 0 3 comb_Tree_letter_b1 (fun x13 => (Esc.brk (x13.1, x13.2) : Esc (List CT × Bool) (CT × List CT))) x = loopI comb_Tree_letter_b1 (fun x13 => (Esc.brk (x13.1, x13.2) : Esc (List CT × Bool) (CT × List CT))) 3 0 x := fun x => rfl
  unfold comb_Tree_letter
  rw [e]
  match t, ho with
  | .leaf k v, ho => simp only [loopI]; rw [ltr_leaf ho]; rfl
  | .put (.leaf k v) y, ho => simp only [loopI]; rw [ltr_put (by simp)]; simp only [loopI]; rw [ltr_leaf ho.1]; rfl
  | .put (.put (.leaf k v) y) z, ho => simp only [loopI]; rw [ltr_put (by simp)]; simp only [loopI]; rw [ltr_put (by simp)]; simp only [loopI]; rw [ltr_leaf ho.1.1]; rfl
  | .put (.put (.put h x) y) z, ho =>
    obtain ⟨p, h1, h2⟩ := open_kd h
    simp only [loopI]
    rw [ltr_put (by simp)]
    simp only [loopI]
    rw [ltr_put (by simp)]
    simp only [loopI]
    rw [ltr_put (by simp)]
    simp only [loopI, bind_some', List.nil_append, List.cons_append]
    rw [rev3, bind_some', h1, bind_some', h2]
def embO : Option TT → CT
  | some t => emb t
  | none => .nil
theorem nil_emb (t : TT) : CT.isNil (emb t) = false := by cases t <;> rfl
theorem put_eq (a b : TT) : comb_put (emb a) (emb b) = some (emb (.put a b)) := rfl
/-- the first two questions of a step -/
theorem step_part {rf : CT → Option CT} {fuel : Nat} (t : TT) (ho : okT t) : comb_Tree_step_step rf (fuel + 2) (emb t) = match partT t with
    | some r => some (emb r)
    | none => ((CT.open (emb t)).bind fun p21 => bif p21.1 != (4 : Int) then (some CT.nil) else ((rf p21.2.2.1).bind fun r24 => bif !CT.isNil r24 then ((comb_put r24 p21.2.2.2).bind fun r27 => some r27) else
        ((rf p21.2.2.2).bind fun r29 => bif !CT.isNil r29 then ((comb_put p21.2.2.1 r29).bind fun r32 => some r32) else (some CT.nil)))) := by
  unfold comb_Tree_step_step
  rw [letter2 t fuel ho, bind_some']
  match t, ho with
  | .leaf k v, ho => rw [letter3 _ fuel ho]; rfl
  | .put (.leaf k v) y, ho => rw [letter3 _ fuel ho]; rfl
  | .put (.put (.leaf k v) x) y, ho =>
    rw [letter3 _ fuel ho]
    dsimp only [kd, partT]
    by_cases h : k = 2
    · rw [if_pos h, h]; rfl
    · rw [if_neg h, show (k == 2) = false from by simp [h]]; rfl
  | .put (.put (.put (.leaf k v) x) y) z, ho =>
    rw [letter3 _ fuel ho]
    dsimp only [kd, partT]
    rw [show ((4 : Int) == 2) = false from rfl, cond_false, bind_some']
    dsimp only
    by_cases h : k = 1
    · rw [if_pos h, h]; rfl
    · rw [if_neg h, show (k == 1) = false from by simp [h]]; rfl
  | .put (.put (.put (.put a b) x) y) z, ho => rw [letter3 _ fuel ho]; rfl
theorem step_eq : ∀ (t : TT) (fuel : Nat), okT t → sz t + 3 < fuel → comb_Tree_step fuel (emb t) = some (embO (stT t))
  | .leaf k v, fuel + 3, h, _ => by
    have hk : k ≠ 4 := h
    show comb_Tree_step_step (comb_Tree_step (fuel + 2)) (fuel + 2) _ = _
    rw [step_part _ h]
    show ((CT.open (emb (.leaf k v))).bind _) = _
    rw [show CT.open (emb (.leaf k v)) = some (k, v, .nil, .nil) from rfl, bind_some']
    dsimp only
    rw [show (k != 4) = true from by simp [hk], cond_true]; rfl
  | .put a b, fuel + 3, h, hf => by
    have := sz_pos a
    have := sz_pos b
    simp only [sz] at hf
    have h1 := step_eq a (fuel + 2) h.1 (by omega)
    have h2 := step_eq b (fuel + 2) h.2 (by omega)
    show comb_Tree_step_step (comb_Tree_step (fuel + 2)) (fuel + 2) _ = _
    rw [step_part _ h]
    unfold stT
    cases hp : partT (.put a b) with
    | some r => rfl
    | none =>
      dsimp only
      rw [show CT.open (emb (.put a b)) = some (4, 0, emb a, emb b) from rfl, bind_some']
      dsimp only
      rw [show ((4 : Int) != 4) = false from rfl, cond_false, h1, bind_some']
      cases ha : stT a with
      | some a' => dsimp only [embO]; rw [nil_emb]; rfl
      | none =>
        dsimp only [embO]
        rw [show (!CT.isNil .nil) = false from rfl, cond_false, h2, bind_some']
        cases hb : stT b with
        | some b' => dsimp only [embO]; rw [nil_emb]; rfl
        | none => rfl
theorem rpart_eq (t : TT) (ho : okT t) : ref_part (emb t) = some (embO (partT t), (partT t).isSome) := by
  unfold ref_part
  match t, ho with
  | .leaf k v, ho =>
    have hk : k ≠ 4 := ho
    rw [show CT.open (emb (.leaf k v)) = some (k, v, .nil, .nil) from rfl, bind_some']
    dsimp only
    rw [show (k != 4) = true from by simp [hk], cond_true]; rfl
  | .put (.leaf k v) y, ho =>
    have hk : k ≠ 4 := ho.1
    rw [show CT.open (emb (.put (.leaf k v) y)) = some (4, 0, emb (.leaf k v), emb y) from rfl, bind_some']
    dsimp only
    rw [show ((4 : Int) != 4) = false from rfl, cond_false, show CT.open (emb (.leaf k v)) = some (k, v, .nil, .nil) from rfl, bind_some', bind_some']
    dsimp only
    rw [show (k != 4) = true from by simp [hk], cond_true]; rfl
  | .put (.put (.leaf k v) x) y, ho =>
    have hk : k ≠ 4 := ho.1.1
    dsimp only [partT]
    by_cases h : k = 2
    · subst h; rfl
    · rw [if_neg h]
      show (bif k == 2 then _ else _) = _
      rw [show (k == 2) = false from by simp [h], cond_false]
      show (Option.bind (bif k == 4 then _ else _) _) = _
      rw [show (k == 4) = false from by simp [hk], cond_false]; rfl
  | .put (.put (.put (.leaf k v) x) y) z, ho =>
    dsimp only [partT]
    by_cases h : k = 1
    · subst h; rfl
    · rw [if_neg h]
      show (bif k == 1 then _ else _) = _
      rw [show (k == 1) = false from by simp [h], cond_false]; rfl
  | .put (.put (.put (.put a b) x) y) z, ho => rfl
theorem stepped_eq : ∀ (t : TT) (fuel : Nat), okT t → sz t < fuel → ref_Stepped fuel (emb t) = some (embO (stT t), (stT t).isSome)
  | .leaf k v, fuel + 1, h, _ => by
    have hk : k ≠ 4 := h
    show ref_Stepped_step (ref_Stepped fuel) fuel _ = _
    unfold ref_Stepped_step
    rw [rpart_eq _ h, bind_some']
    dsimp only [partT, Option.isSome_none]
    rw [cond_false, show CT.open (emb (.leaf k v)) = some (k, v, .nil, .nil) from rfl, bind_some']
    dsimp only
    rw [show (k != 4) = true from by simp [hk], cond_true]; rfl
  | .put a b, fuel + 1, h, hf => by
    have := sz_pos a
    have := sz_pos b
    simp only [sz] at hf
    have h1 := stepped_eq a fuel h.1 (by omega)
    have h2 := stepped_eq b fuel h.2 (by omega)
    show ref_Stepped_step (ref_Stepped fuel) fuel _ = _
    unfold ref_Stepped_step stT
    rw [rpart_eq _ h, bind_some']
    cases hp : partT (.put a b) with
    | some r => rfl
    | none =>
      dsimp only [Option.isSome_none]
      rw [cond_false, show CT.open (emb (.put a b)) = some (4, 0, emb a, emb b) from rfl, bind_some']
      dsimp only
      rw [show ((4 : Int) != 4) = false from rfl, cond_false, h1, bind_some']
      cases ha : stT a with
      | some a' => rfl
      | none =>
        dsimp only [Option.isSome_none]
        rw [cond_false, h2, bind_some']
        cases hb : stT b with
        | some b' => rfl
        | none => rfl

abbrev Rt : Type := List Cb × Int × Int
theorem norm_loop (a1 : Int) (hb : a1 ≤ 60) : ∀ (n : Nat) (t : TT) (d : Int) (fuel : Nat), okT t → sz t ≤ 300 → 0 ≤ d → d + n = a1 → n < fuel →
    ∃ o : Option (TT × Int), (iter (comb_Norm_b1 a1 100000) fuel (emb t, d) = some (match o with | none => .ret ([], 0, 7) | some p => .brk (emb p.1, p.2))) ∧
      (∀ r1 : Rt, iter (law_CombNorms_b5 a1 100000 r1) fuel (emb t, d) = some (match o with | none => .ret (((r1.2.2 == (7 : Int)) && ((List.length r1.1 : Int) == (0 : Int))) && (r1.2.1 == (0 : Int))) | some p => .brk (emb p.1, p.2))) ∧
      ∀ p, o = some p → okT p.1 ∧ sz p.1 ≤ 300
  | 0, t, d, fuel + 1, ho, hs, h0, hd, _ => by
    have hc : decide (d < a1) = false := decide_eq_false (by omega)
    refine ⟨some (t, d), ?_, fun r1 => ?_, fun p hp => by obtain rfl := Option.some.inj hp; exact ⟨ho, hs⟩⟩
    · rw [iter]; unfold comb_Norm_b1; dsimp only; rw [hc, cond_false]
    · rw [iter]; unfold law_CombNorms_b5; dsimp only; rw [hc, cond_false]
  | n + 1, t, d, fuel + 1, ho, hs, h0, hd, hf => by
    have hc : decide (d < a1) = true := decide_eq_true (by omega)
    have hw : w64 (d + 1) = d + 1 := w64_id (by omega) (by omega)
    cases hst : stT t with
    | none =>
      refine ⟨some (t, d), ?_, fun r1 => ?_, fun p hp => by obtain rfl := Option.some.inj hp; exact ⟨ho, hs⟩⟩
      · rw [iter]; unfold comb_Norm_b1; dsimp only; rw [hc, cond_true, step_eq t 100000 ho (by omega), bind_some', hst]; rfl
      · rw [iter]; unfold law_CombNorms_b5; dsimp only; rw [hc, cond_true, stepped_eq t 100000 ho (by omega), bind_some', hst]; rfl
    | some r =>
      obtain ⟨ro, rs⟩ := stT_ok hst ho
      by_cases hbig : (sz r : Int) > 300
      · refine ⟨none, ?_, fun r1 => ?_, fun p hp => by cases hp⟩
        · rw [iter]; unfold comb_Norm_b1; dsimp only
          rw [hc, cond_true, step_eq t 100000 ho (by omega), bind_some', hst]
          dsimp only [embO]
          rw [nil_emb, cond_false, size_eq r 100000 ro (by omega) (by omega), bind_some', decide_eq_true hbig, cond_true]
        · rw [iter]; unfold law_CombNorms_b5; dsimp only
          rw [hc, cond_true, stepped_eq t 100000 ho (by omega), bind_some', hst]
          dsimp only [embO, Option.isSome_some]
          rw [show (!true) = false from rfl, cond_false, nodes_eq r 100000 ro (by omega) (by omega), bind_some', decide_eq_true hbig, cond_true]
      · obtain ⟨o, h1, h2, h3⟩ := norm_loop a1 hb n r (d + 1) fuel ro (by omega) (by omega) (by omega) (by omega)
        refine ⟨o, ?_, fun r1 => ?_, h3⟩
        · rw [← h1, iter]
          have : comb_Norm_b1 a1 100000 (emb t, d) = some (.next (emb r, d + 1)) := by
            unfold comb_Norm_b1; dsimp only
            rw [hc, cond_true, step_eq t 100000 ho (by omega), bind_some', hst]
            dsimp only [embO]
            rw [nil_emb, cond_false, size_eq r 100000 ro (by omega) (by omega), bind_some', decide_eq_false hbig, cond_false, hw]
          rw [this]
        · rw [← h2 r1, iter]
          have : law_CombNorms_b5 a1 100000 r1 (emb t, d) = some (.next (emb r, d + 1)) := by
            unfold law_CombNorms_b5; dsimp only
            rw [hc, cond_true, stepped_eq t 100000 ho (by omega), bind_some', hst]
            dsimp only [embO, Option.isSome_some]
            rw [show (!true) = false from rfl, cond_false, nodes_eq r 100000 ro (by omega) (by omega), bind_some', decide_eq_false hbig, cond_false, hw]
          rw [this]
def nrO : Option (TT × Int) → Rt
  | none => ([], 0, 7)
  | some p => (wr p.1 [], p.2, 0)
theorem CombNorms_true (a0 : List (Int × (Int × (Int × Int)))) (a1 : Int) (f0 : Fits (.slice (.pair (.int .i64) (.pair (.int .i64) (.pair (.int .i64) (.int .i64))))) a0) (f1 : Fits (.int .i64) a1) : ∃ fuel, law_CombNorms fuel a0 a1 = some true := by
  refine ⟨100000, ?_⟩
  obtain ⟨z, h1, h2, h3⟩ := cb_key a0
  unfold law_CombNorms
  have g4 : ∀ z, law_CombNorms_g4 a1 z = some (if z = 0 ∧ ¬ (0 ≤ a1 ∧ a1 ≤ 60) then 4 else z) := by
    intro z
    unfold law_CombNorms_g4
    rw [within_eq, bind_some']
    by_cases hz : z = 0
    · rw [show (z == 0) = true from by simp [hz], cond_true, bind_some']
      by_cases hx : 0 ≤ a1 ∧ a1 ≤ 60
      · rw [decide_eq_true hx, if_neg (fun h => h.2 hx)]; rfl
      · rw [decide_eq_false hx, if_pos ⟨hz, hx⟩]; rfl
    · rw [show (z == 0) = false from by simp [hz], cond_false, bind_some', cond_false, if_neg (fun h => hz h.1)]
  by_cases hz : z = 0
  · subst hz
    by_cases hx : 0 ≤ a1 ∧ a1 ≤ 60
    · obtain ⟨l1, l2, hf, hs⟩ := h3 rfl
      have e1 := comb_read_eq l2 l1 hf
      have e2 := ref_read_eq hf 100000 (a0.length - 1) (by omega) (by omega)
      have hok := rdL_ok hf (a0.length - 1) ((rdL a0).getD (a0.length - 1) (.leaf 0 0)) (by rw [List.getD_eq_getElem?_getD, List.getElem?_eq_getElem (by rw [rdL_len]; omega)]; rfl)
      have hi : w64 ((a0.length : Int) - 1) = ((a0.length - 1 : Nat) : Int) := by rw [w64_id (by omega) (by omega)]; omega
      generalize (rdL a0).getD (a0.length - 1) (.leaf 0 0) = t at *
      obtain ⟨o, q1, q2, q3⟩ := norm_loop a1 hx.2 a1.toNat t 0 100000 hok hs (by omega) (by omega) (by omega)
      have c1 : ((decide (a1 < (0 : Int))) || (decide (a1 > (60 : Int)))) = false := by simp only [Bool.or_eq_false_iff, decide_eq_false_iff_not]; omega
      have hS : comb_Norm 100000 a0 a1 = some (nrO o) := by
        unfold comb_Norm
        rw [h1, bind_some', show ((0 : Int) != 0) = false from rfl, cond_false, c1, cond_false, e1, bind_some', q1, bind_some']
        cases o with
        | none => rfl
        | some p =>
          obtain ⟨po, ps⟩ := q3 p rfl
          dsimp only
          rw [write_eq p.1 100000 po (by omega) (by omega), bind_some']
          rfl
      rw [hS, bind_some', h2, bind_some', g4, if_neg (fun h => h.2 hx), bind_some', show ((0 : Int) != 0) = false from rfl, cond_false, hi, e2, bind_some', q2, bind_some']
      cases o with
      | none => rfl
      | some p =>
        obtain ⟨po, ps⟩ := q3 p rfl
        dsimp only [nrO]
        rw [show ((0 : Int) == 0) = true from rfl, show (p.2 == p.2) = true from by simp, Bool.and_self, cond_true, rwrite_eq p.1 [] 100000 po (by simp; omega) (by omega), bind_some', combs_self]
        rfl
    · have c1 : ((decide (a1 < (0 : Int))) || (decide (a1 > (60 : Int)))) = true := by simp only [Bool.or_eq_true, decide_eq_true_eq]; omega
      have hS : comb_Norm 100000 a0 a1 = some ([], 0, 4) := by
        unfold comb_Norm
        rw [h1, bind_some', show ((0 : Int) != 0) = false from rfl, cond_false, c1, cond_true]
      rw [hS, bind_some', h2, bind_some', g4, if_pos ⟨rfl, hx⟩, bind_some']
      rfl
  · have hS : comb_Norm 100000 a0 a1 = some ([], 0, z) := by
      unfold comb_Norm
      rw [h1, bind_some', show (z != 0) = true from by simp [hz], cond_true]
    rw [hS, bind_some', h2, bind_some', g4, if_neg (fun h => hz h.1), bind_some', show (z != 0) = true from by simp [hz], cond_true]
    simp

end Go.Proofs.Ytkkmiclmbhbmjaa.combNorms
namespace Go.Proofs.Ytkkmiclmbhbmjaa.combNorms
open Go.ChangeShapes Go.WideShapes Go.ChangeAt Go.RowKit
open Go.ChangeMaps (open_string shut_string)
theorem own : ownKnob Try.prog.godebug = none := by kernel_rfl
theorem laidOut : laidOutB Try.prog = true := by kernel_rfl
theorem lifted (os : Os) (started : os.Started) (H : Type) (enc : TypeId × Value → H) :
    ReturnsInHanded {} Try.checked os 9 .any (Rows.combNormsSpec.pre6 enc Try.prog Try.f9 Rows.combNormsRow.domain false) (Rows.combNormsSpec.post enc Try.prog Try.f9 false true false false) := by
  refine returnsInHanded_of_change (C := Try.checked) own started (by kernel_rfl) Try.func9
    (ChangeSpec.witness6 (enc := enc) (C := Try.checked) false ⟨#[], #[.slice none 0 0, .int .i64 0], []⟩ 8 (by kernel_rfl) (by kernel_rfl) (by kernel_rfl) (by kernel_rfl)) ?_
  intro W base args ds gs before hval0 hW hcnd _
  have hval : ∀ (j : Nat) t v, Try.f9.params[j]? = some t → args[j]? = some v → Value.okWide Try.prog W .any base t v := hval0
  have hW' := hW
  obtain ⟨p, q, hA0, hV, rfl, hfz, hnd⟩ := hW
  have hA : DataW.TrodAll enc Try.prog W 0 (fun _ => true) true Try.f9.params.toList args.toList ds p := hA0
  rw [Try.params9] at hA hval
  obtain ⟨v0, vs0, d0, ds0, p0, q0, hargs, rfl, rfl, h0, r0⟩ := trodAll_cons hA
  obtain ⟨v1, vs1, d1, ds1, p1, q1, rfl, rfl, rfl, h1, r1⟩ := trodAll_cons r0
  obtain ⟨rfl, rfl, rfl⟩ := trodAll_nil r1
  obtain rfl : args = #[v0, v1] := by cases args; simp_all
  obtain ⟨rfl, rfl⟩ := trodVars_none hV
  obtain ⟨x0, f0, k0⟩ := Go.Sl.read_arg (u := (.slice (.pair (.int .i64) (.pair (.int .i64) (.pair (.int .i64) (.int .i64)))))) (by kernel_rfl) (by kernel_rfl) (hval 0 44 v0 rfl rfl) h0
  have lt0 : ∀ x ∈ p0, x.block < W.heap.size := by obtain ⟨m, hm⟩ := h0; exact DataW.trod_lt m _ _ _ hm
  obtain ⟨x1, f1, k1⟩ := Go.Sl.read_arg (u := (.int .i64)) (by kernel_rfl) (by kernel_rfl) (hval 1 3 v1 rfl rfl) h1
  have lt1 : ∀ x ∈ p1, x.block < W.heap.size := by obtain ⟨m, hm⟩ := h1; exact DataW.trod_lt m _ _ _ hm
  clear hA0 hval0
  obtain ⟨fuel, hm⟩ := CombNorms_true x0 x1 f0 f1
  refine (Go.Sl.law_of (vs := [v0, v1]) (law_CombNorms_ok hm) rfl (.cons (k0 _ _) (.cons (k1 _ _) .nil))).mono fun e W' ⟨he, bel⟩ => ?_
  subst he
  exact ⟨_, rfl, _, _, _, [], _, [], hW', trodAll_mk1 (shut_bool Try.underlying4 _), (trodAll_cons_mk (Below.trod laidOut (by kernel_rfl) (of_decide_eq_true (by kernel_rfl)) h0 bel lt0) (trodAll_cons_mk (Below.trod laidOut (by kernel_rfl) (of_decide_eq_true (by kernel_rfl)) h1 bel lt1) trodAll_mk0)), rfl, bel.frame _, fun h => by cases h⟩
theorem proved : Rows.CombNormsSaid :=
  OpenClaim.holds_of_wide 9 Try.f9 rfl rfl rfl rfl rfl rfl rfl ⟨rfl, rfl, rfl, rfl, rfl⟩ rfl rfl rfl rfl rfl (by kernel_rfl) Try.func9 (by kernel_rfl)
    (of_decide_eq_true (by kernel_rfl)) (by unfold Func.isWrapper; first | (rw [if_pos (by decide +kernel)]; kernel_rfl) | (rw [if_neg (by decide +kernel)]; exact ⟨rfl, rfl⟩))
    (fun os started H enc _ => lifted os started H enc)
#print axioms proved
end Go.Proofs.Ytkkmiclmbhbmjaa.combNorms
