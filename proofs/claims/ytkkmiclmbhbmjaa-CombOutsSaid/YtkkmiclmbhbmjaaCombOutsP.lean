/- For any term and any variable comb.Out returns the specified results: CombOuts returns true and changes nothing; no conditions. -/
import Derived.Test.YtkkmiclmbhbmjaaRows
import Derived.WalkKit
import Derived.ProofKit
import Derived.OpenShut
import Derived.ShutString
import Derived.ChangeOld
import Derived.Below
import Derived.Test.YtkkmiclmbhbmjaaCombOutsM
set_option linter.all false
set_option maxRecDepth 100000
namespace Go.Proofs.Ytkkmiclmbhbmjaa.combOuts
open Go Go.Sl

theorem within_eq (a b c : Int) : ref_Within a b c = some (decide (a ≤ b ∧ b ≤ c)) := by
  unfold ref_Within
  rw [Bool.decide_and]

def cbf (n : Nat) (v : Int × Int × Int × Int) : Option Int :=
  bif !decide (1 ≤ v.1 ∧ v.1 ≤ 4) then some 6 else bif (v.1 == 3) && !decide (0 ≤ v.2.2.2 ∧ v.2.2.2 ≤ 1000) then some 4 else
    bif (v.1 == 4) && !decide ((0 ≤ v.2.1 ∧ v.2.1 < (n : Int)) ∧ (0 ≤ v.2.2.1 ∧ v.2.2.1 < (n : Int))) then some 2 else none
theorem cb_inside2 (n a b : Int) : ref_Inside n [a, b] = some (decide ((0 ≤ a ∧ a < n) ∧ (0 ≤ b ∧ b < n))) := by
  unfold ref_Inside
  rw [forL_ex (p := fun v => decide (v < 0) || decide (v ≥ n)) (y := Esc.ret false) (fun i a _ => by unfold ref_Inside_b1; cases (decide (a < 0) || decide (a ≥ n)) <;> rfl)]
  have e : ∀ v : Int, (decide (v < 0) || decide (v ≥ n)) = !decide (0 ≤ v ∧ v < n) := fun v => by rw [or_dec, not_dec]; exact decide_eq_decide.2 (by omega)
  simp only [List.any_cons, List.any_nil, Bool.or_false, e]
  by_cases h1 : 0 ≤ a ∧ a < n <;> by_cases h2 : 0 ≤ b ∧ b < n <;> simp [h1, h2]
theorem cb_body (n : Nat) (v : Int × Int × Int × Int) : comb_Check_b13 (n : Int) v () = some (said Esc.ret (cbf n v)) := by
  unfold comb_Check_b13 comb_Check_g9 cbf
  have e1 : (bif decide (v.1 < (1 : Int)) then (some true) else (some (decide (v.1 > (4 : Int))))) = some (!decide (1 ≤ v.1 ∧ v.1 ≤ 4)) := by
    rw [bif_some]; congr 1
    by_cases h : v.1 < 1
    · have : ¬ (1 ≤ v.1 ∧ v.1 ≤ 4) := by omega
      simp [h, this]
    · rw [decide_eq_false h, cond_false, not_dec]; exact decide_eq_decide.2 (by omega)
  have e2 : (bif decide (v.2.2.2 < (0 : Int)) then (some true) else (some (decide (v.2.2.2 > (1000 : Int))))) = some (!decide (0 ≤ v.2.2.2 ∧ v.2.2.2 ≤ 1000)) := by
    rw [bif_some]; congr 1
    by_cases h : v.2.2.2 < 0
    · have : ¬ (0 ≤ v.2.2.2 ∧ v.2.2.2 ≤ 1000) := by omega
      simp [h, this]
    · rw [decide_eq_false h, cond_false, not_dec]; exact decide_eq_decide.2 (by omega)
  have e3 : (bif decide ((imin v.2.1 v.2.2.1) < (0 : Int)) then (some true) else (some (decide ((imax v.2.1 v.2.2.1) ≥ (n : Int))))) = some (!decide ((0 ≤ v.2.1 ∧ v.2.1 < (n : Int)) ∧ (0 ≤ v.2.2.1 ∧ v.2.2.1 < (n : Int)))) := by
    rw [bif_some]; congr 1
    by_cases h : imin v.2.1 v.2.2.1 < 0
    · have : ¬ ((0 ≤ v.2.1 ∧ v.2.1 < (n : Int)) ∧ (0 ≤ v.2.2.1 ∧ v.2.2.1 < (n : Int))) := by
        unfold imin at h; split at h <;> omega
      rw [decide_eq_true h, decide_eq_false this]; rfl
    · rw [decide_eq_false h, cond_false, not_dec]
      refine decide_eq_decide.2 ?_
      unfold imin at h; unfold imax
      split at h <;> split <;> omega
  rw [e1, e2, e3]
  cases decide (1 ≤ v.1 ∧ v.1 ≤ 4) <;> cases (v.1 == 3) <;> cases decide (0 ≤ v.2.2.2 ∧ v.2.2.2 ≤ 1000) <;> cases (v.1 == 4) <;> cases decide ((0 ≤ v.2.1 ∧ v.2.1 < (n : Int)) ∧ (0 ≤ v.2.2.1 ∧ v.2.2.1 < (n : Int))) <;> rfl
theorem cb_rbody (n : Nat) (v : Int × Int × Int × Int) : ref_CombCheck_b7 (n : Int) v () = some (said Esc.ret (cbf n v)) := by
  unfold ref_CombCheck_b7 cbf
  rw [within_eq, within_eq, cb_inside2]
  cases decide (1 ≤ v.1 ∧ v.1 ≤ 4) <;> cases (v.1 == 3) <;> cases decide (0 ≤ v.2.2.2 ∧ v.2.2.2 ≤ 1000) <;> cases (v.1 == 4) <;> cases decide ((0 ≤ v.2.1 ∧ v.2.1 < (n : Int)) ∧ (0 ≤ v.2.2.1 ∧ v.2.2.1 < (n : Int))) <;> rfl
/-- the sizes, one by one -/
theorem cb_sizes {l : List (Int × Int × Int × Int)} (hl : l.length ≤ 40) (hok : firstOf cbf 0 l = none) :
    ∃ y y', forL comb_sizes_b9 (fun x54 => x54) l 0 ([] : List Int) = some y ∧ forL ref_CombCheck_b35 (fun x297 => x297) l 0 (List.replicate l.length (0 : Int)) = some y' ∧ (y = y' ∧ y.length = l.length) := by
  refine forL_rel (R := fun n (x x' : List Int) => x.length = n ∧ x' = x ++ List.replicate (l.length - n) 0 ∧ ∀ v ∈ x, 0 ≤ v ∧ v ≤ 301) (S := fun (y y' : List Int) => y = y' ∧ y.length = l.length) rfl ⟨rfl, by simp, by simp⟩ ?_ ?_
  · rintro n a a' x _ ha ha' ⟨hx, rfl, hb⟩
    obtain rfl := Option.some.inj (ha.symm.trans ha')
    have hn : n < l.length := (List.getElem?_eq_some_iff.1 ha).1
    have hok := firstOf_none hok ha
    have hrep : List.replicate (l.length - n) (0 : Int) = 0 :: List.replicate (l.length - (n + 1)) 0 := by
      rw [show l.length - n = (l.length - (n + 1)) + 1 by omega]; rfl
    have hset : ∀ (q v : Int), List.set (x ++ q :: List.replicate (l.length - (n + 1)) 0) n v = x ++ v :: List.replicate (l.length - (n + 1)) 0 := by
      intro q v
      rw [List.set_append_right _ _ (by omega), hx, Nat.sub_self]; rfl
    have hidx : ∀ (q : Int), idx (x ++ q :: List.replicate (l.length - (n + 1)) 0) (n : Int) = some q := by
      intro q
      rw [idx_nat, List.getElem?_append_right (by omega), hx, Nat.sub_self]; rfl
    have hlow : ∀ (q i : Int), 0 ≤ i ∧ i < (n : Int) → ∃ v, idx x i = some v ∧ idx (x ++ q :: List.replicate (l.length - (n + 1)) 0) i = some v ∧ 0 ≤ v ∧ v ≤ 301 := by
      intro q i hi
      obtain ⟨v, h1, h2⟩ := idx_get (xs := x) hi.1 (by omega)
      refine ⟨v, h1, ?_, hb v (List.mem_of_getElem? h2)⟩
      unfold idx
      rw [if_pos hi.1, List.getElem?_append_left (by omega)]; exact h2
    have hck : ck ((List.length x : Int) + 1 ≤ 4294967296) = some () := ck_ok (by omega)
    unfold comb_sizes_b9 comb_sizes_g7 ref_CombCheck_b35 ref_CombCheck_g33 ref_CombCheck_g31
    rw [hck, hrep, hidx]
    simp only [Int.toNat_natCast, hset, bind_some']
    cases h4 : (a.1 == 4) with
    | true =>
      have hr : (0 ≤ a.2.1 ∧ a.2.1 < (n : Int)) ∧ (0 ≤ a.2.2.1 ∧ a.2.2.1 < (n : Int)) := by
        unfold cbf at hok
        cases h5 : !decide (1 ≤ a.1 ∧ a.1 ≤ 4) with
        | true => rw [h5] at hok; cases hok
        | false =>
          rw [h5] at hok
          cases h6 : ((a.1 == 3) && !decide (0 ≤ a.2.2.2 ∧ a.2.2.2 ≤ 1000)) with
          | true => rw [h6] at hok; cases hok
          | false =>
            rw [h6, h4] at hok
            by_cases h7 : (0 ≤ a.2.1 ∧ a.2.1 < (n : Int)) ∧ (0 ≤ a.2.2.1 ∧ a.2.2.1 < (n : Int))
            · exact h7
            · simp [decide_eq_false h7] at hok
      obtain ⟨p, p1, p2, p3, p4⟩ := hlow 1 _ hr.1
      obtain ⟨q, q1, q2, q3, q4⟩ := hlow 1 _ hr.2
      simp only [cond_true, p1, p2, q1, q2, bind_some', hidx, hset]
      have e1 : w64 (1 + p) = 1 + p := w64_id (by omega) (by omega)
      have e2 : w64 (1 + p + q) = 1 + p + q := w64_id (by omega) (by omega)
      rw [e1, e2]
      have hmin : imin (1 + p + q) 301 = if 1 + p + q > 300 then 301 else 1 + p + q := by
        unfold imin; split <;> split <;> omega
      rw [hmin]
      by_cases h8 : 1 + p + q > 300
      · simp only [h8, decide_true, cond_true, if_true, bind_some', hidx, hset]
        exact ⟨_, _, rfl, rfl, by simp [hx], by simp, by intro v hv; simp at hv; rcases hv with hv | rfl; exact hb v hv; omega⟩
      · simp only [h8, decide_false, cond_false, if_false, bind_some']
        exact ⟨_, _, rfl, rfl, by simp [hx], by simp, by intro v hv; simp at hv; rcases hv with hv | rfl; exact hb v hv; omega⟩
    | false =>
      simp only [cond_false, bind_some', hidx]
      have : decide ((1 : Int) > 300) = false := by decide
      rw [this]
      exact ⟨_, _, rfl, rfl, by simp [hx], by simp, by intro v hv; simp at hv; rcases hv with hv | rfl; exact hb v hv; omega⟩
  · rintro x _ ⟨hx, rfl, _⟩
    exact ⟨by simp, hx⟩
/-- terms -/
inductive TT where
  | leaf (k v : Int)
  | put (a b : TT)
abbrev Cb : Type := Int × Int × Int × Int
def emb : TT → CT
  | .leaf k v => .node k v .nil .nil
  | .put a b => .node 4 0 (emb a) (emb b)
def sz : TT → Nat
  | .leaf _ _ => 1
  | .put a b => 1 + sz a + sz b
def okT : TT → Prop
  | .leaf k _ => k ≠ 4
  | .put a b => okT a ∧ okT b
def mkT (ts : List TT) (c : Cb) : TT := if c.1 = 4 then .put (ts.getD c.2.1.toNat (.leaf 0 0)) (ts.getD c.2.2.1.toNat (.leaf 0 0)) else .leaf c.1 (if c.1 = 3 then c.2.2.2 else 0)
def rdL (l : List Cb) : List TT := l.foldl (fun ts c => ts ++ [mkT ts c]) []
theorem sz_pos : ∀ t : TT, 1 ≤ sz t
  | .leaf _ _ => Nat.le_refl _
  | .put a b => by unfold sz; omega
theorem rdL_snoc (l : List Cb) (c : Cb) : rdL (l ++ [c]) = rdL l ++ [mkT (rdL l) c] := by simp [rdL, List.foldl_append]
theorem rdL_len (l : List Cb) : (rdL l).length = l.length := by
  refine snoc_ind (P := fun l => (rdL l).length = l.length) rfl (fun l c ih => ?_) l
  rw [rdL_snoc, List.length_append, List.length_append, ih]; rfl
theorem rdL_take (l : List Cb) : ∀ n, n ≤ l.length → (rdL l).take n = rdL (l.take n) := by
  refine snoc_ind (P := fun l => ∀ n, n ≤ l.length → (rdL l).take n = rdL (l.take n)) (fun n hn => by
    have : n = 0 := by simpa using hn
    subst this; rfl) (fun l c ih n hn => ?_) l
  rw [rdL_snoc]
  by_cases h : n ≤ l.length
  · rw [List.take_append_of_le_length (by rw [rdL_len]; exact h), List.take_append_of_le_length h]
    exact ih n h
  · have hn' : n = l.length + 1 := by simp at hn; omega
    subst hn'
    rw [List.take_of_length_le (by simp [rdL_len]), List.take_of_length_le (by simp), rdL_snoc]
theorem rdL_get {l : List Cb} {n : Nat} {c : Cb} (h : l[n]? = some c) : (rdL l)[n]? = some (mkT (rdL (l.take n)) c) := by
  have hn := (List.getElem?_eq_some_iff.1 h).1
  have e := rdL_take l (n + 1) (by omega)
  have e2 : l.take (n + 1) = l.take n ++ [c] := by rw [List.take_add_one, h]; rfl
  rw [e2, rdL_snoc] at e
  have : ((rdL l).take (n + 1))[n]? = some (mkT (rdL (l.take n)) c) := by
    rw [e, List.getElem?_append_right (by rw [rdL_len, List.length_take]; omega), rdL_len, List.length_take, Nat.min_eq_left (by omega), Nat.sub_self]; rfl
  rw [List.getElem?_take_of_lt (by omega)] at this
  exact this
theorem cb_ok {n : Nat} {v : Cb} (h : cbf n v = none) : (1 ≤ v.1 ∧ v.1 ≤ 4) ∧ (v.1 = 4 → (0 ≤ v.2.1 ∧ v.2.1 < (n : Int)) ∧ (0 ≤ v.2.2.1 ∧ v.2.2.1 < (n : Int))) := by
  unfold cbf at h
  by_cases h1 : 1 ≤ v.1 ∧ v.1 ≤ 4
  · refine ⟨h1, fun h4 => ?_⟩
    rw [decide_eq_true h1] at h
    have h3 : (v.1 == 3) = false := by rw [h4]; rfl
    rw [h3, h4] at h
    by_cases h7 : (0 ≤ v.2.1 ∧ v.2.1 < (n : Int)) ∧ (0 ≤ v.2.2.1 ∧ v.2.2.1 < (n : Int))
    · exact h7
    · simp [decide_eq_false h7] at h
  · simp [decide_eq_false h1] at h
theorem take_getD {ts : List TT} {n k : Nat} (hk : k < n) (d : TT) : (ts.take n).getD k d = ts.getD k d := by
  rw [List.getD_eq_getElem?_getD, List.getD_eq_getElem?_getD, List.getElem?_take_of_lt hk]
/-- the parts of a term stand ahead of it -/
theorem mkT_eq {l : List Cb} {n : Nat} {c : Cb} (hn : n ≤ l.length) (hc : cbf n c = none) : mkT (rdL (l.take n)) c = mkT (rdL l) c := by
  unfold mkT
  split
  · rename_i h4
    obtain ⟨h1, h2⟩ := (cb_ok hc).2 h4
    rw [← rdL_take l n hn, take_getD (by omega), take_getD (by omega)]
  · rfl
theorem rdL_ok {l : List Cb} (h : firstOf cbf 0 l = none) : ∀ (n : Nat) (t : TT), (rdL l)[n]? = some t → okT t := by
  intro n
  induction n using Nat.strongRecOn with
  | ind n ih =>
    intro t ht
    have hn : n < l.length := by have := (List.getElem?_eq_some_iff.1 ht).1; rwa [rdL_len] at this
    have hc := List.getElem?_eq_getElem hn
    have hok := firstOf_none h hc
    rw [rdL_get hc, mkT_eq (by omega) hok] at ht
    obtain rfl := Option.some.inj ht
    unfold mkT
    split
    · rename_i h4
      obtain ⟨h1, h2⟩ := (cb_ok hok).2 h4
      have key : ∀ k : Nat, k < n → okT ((rdL l).getD k (.leaf 0 0)) := fun k hk => by
        rw [List.getD_eq_getElem?_getD, List.getElem?_eq_getElem (by rw [rdL_len]; omega)]
        exact ih k hk _ (List.getElem?_eq_getElem (by rw [rdL_len]; omega))
      exact ⟨key _ (by omega), key _ (by omega)⟩
    · rename_i h4; exact h4
theorem comb_read_eq {l : List Cb} (hl : l.length ≤ 40) (h1 : 1 ≤ l.length) (h : firstOf cbf 0 l = none) : comb_read l = some (emb ((rdL l).getD (l.length - 1) (.leaf 0 0))) := by
  obtain ⟨y, h2, h3⟩ := forL_inv (body := comb_read_b11) (fin := fun x => x) (l := l) (x := []) (fun n x => x = (rdL (l.take n)).map emb) (fun y => y = (rdL l).map emb) rfl
    (by
      rintro n c x hc rfl
      have hn := (List.getElem?_eq_some_iff.1 hc).1
      have hok := firstOf_none h hc
      have hlen : ((rdL (l.take n)).map emb).length = n := by rw [List.length_map, rdL_len, List.length_take]; omega
      have hck : ck ((List.length ((rdL (l.take n)).map emb) : Int) + 1 ≤ 4294967296) = some () := ck_ok (by omega)
      have hnext : (rdL (l.take (n + 1))).map emb = (rdL (l.take n)).map emb ++ [emb (mkT (rdL (l.take n)) c)] := by
        have e2 : l.take (n + 1) = l.take n ++ [c] := by rw [List.take_add_one, hc]; rfl
        rw [e2, rdL_snoc, List.map_append]; rfl
      have hidx : ∀ i : Int, 0 ≤ i ∧ i < (n : Int) → idx ((rdL (l.take n)).map emb) i = some (emb ((rdL (l.take n)).getD i.toNat (.leaf 0 0))) := by
        intro i hi
        refine idx_of hi.1 ?_
        rw [List.getElem?_map, List.getElem?_eq_getElem (by rw [rdL_len, List.length_take]; omega), List.getD_eq_getElem?_getD, List.getElem?_eq_getElem (by rw [rdL_len, List.length_take]; omega)]; rfl
      refine ⟨.next ((rdL (l.take n)).map emb ++ [emb (mkT (rdL (l.take n)) c)]), ?_, hnext.symm⟩
      unfold comb_read_b11 mkT
      by_cases h4 : c.1 = 4
      · obtain ⟨q1, q2⟩ := (cb_ok hok).2 h4
        rw [h4, show ((4 : Int) == 3) = false from rfl, cond_false, bind_some', show ((4 : Int) == 4) = true from rfl, cond_true, hidx _ q1, bind_some', hidx _ q2, bind_some', bind_some', hck, bind_some', if_pos rfl]
        rfl
      · rw [show (c.1 == 4) = false from by simp [h4], if_neg h4]
        by_cases h3 : c.1 = 3
        · rw [h3, show ((3 : Int) == 3) = true from rfl, cond_true, bind_some', cond_false, bind_some', hck, bind_some', if_pos rfl]
          rfl
        · rw [show (c.1 == 3) = false from by simp [h3], cond_false, bind_some', cond_false, bind_some', hck, bind_some', if_neg h3]
          rfl)
    (by rintro x rfl; simp)
  have hlen : ((rdL l).map emb).length = l.length := by rw [List.length_map, rdL_len]
  unfold comb_read
  rw [h2, h3, bind_some', hlen, show ((l.length : Int)) - 1 = ((l.length - 1 : Nat) : Int) from by omega, wnat (by omega), idx_nat, List.getElem?_map, List.getElem?_eq_getElem (by rw [rdL_len]; omega), List.getD_eq_getElem?_getD, List.getElem?_eq_getElem (by rw [rdL_len]; omega)]
  rfl
theorem ref_read_eq {l : List Cb} (h : firstOf cbf 0 l = none) : ∀ (fuel i : Nat), i < l.length → i < fuel → ref_Read fuel l (i : Int) = some (emb ((rdL l).getD i (.leaf 0 0)))
  | fuel + 1, i, hi, hf => by
    have hc := List.getElem?_eq_getElem hi
    have hok := firstOf_none h hc
    have hget := rdL_get hc
    rw [mkT_eq (by omega) hok] at hget
    have hv : (rdL l).getD i (.leaf 0 0) = mkT (rdL l) l[i] := by rw [List.getD_eq_getElem?_getD, hget]; rfl
    rw [hv]
    show ref_Read_step (ref_Read fuel) fuel l (i : Int) = _
    unfold ref_Read_step mkT
    rw [idx_nat, hc, bind_some']
    by_cases h4 : l[i].1 = 4
    · obtain ⟨⟨q1, q2⟩, q3, q4⟩ := (cb_ok hok).2 h4
      have r1 := ref_read_eq h fuel l[i].2.1.toNat (by omega) (by omega)
      have r2 := ref_read_eq h fuel l[i].2.2.1.toNat (by omega) (by omega)
      rw [Int.toNat_of_nonneg q1] at r1
      rw [Int.toNat_of_nonneg q3] at r2
      rw [if_pos h4, show (l[i].1 == 4) = true from by simp [h4], cond_true, r1, bind_some', r2, bind_some', h4]
      rfl
    · rw [if_neg h4, show (l[i].1 == 4) = false from by simp [h4], cond_false]
      by_cases h3 : l[i].1 = 3
      · rw [show (l[i].1 == 3) = true from by simp [h3], cond_true, bind_some', if_pos h3]; rfl
      · rw [show (l[i].1 == 3) = false from by simp [h3], cond_false, bind_some', if_neg h3]; rfl
/-- the sizes that are told -/
theorem sizes_eq {l : List Cb} (hl : l.length ≤ 40) (h : firstOf cbf 0 l = none) : comb_sizes l = some ((rdL l).map fun t => ((min (sz t) 301 : Nat) : Int)) := by
  obtain ⟨y, h2, h3⟩ := forL_inv (body := comb_sizes_b9) (fin := fun x => x) (l := l) (x := []) (fun n x => x = (rdL (l.take n)).map fun t => ((min (sz t) 301 : Nat) : Int)) (fun y => y = (rdL l).map fun t => ((min (sz t) 301 : Nat) : Int)) rfl
    (by
      rintro n c x hc rfl
      have hn := (List.getElem?_eq_some_iff.1 hc).1
      have hok := firstOf_none h hc
      have hlen : ((rdL (l.take n)).map fun t => ((min (sz t) 301 : Nat) : Int)).length = n := by rw [List.length_map, rdL_len, List.length_take]; omega
      have hck : ck ((List.length ((rdL (l.take n)).map fun t => ((min (sz t) 301 : Nat) : Int)) : Int) + 1 ≤ 4294967296) = some () := ck_ok (by omega)
      have hnext : ((rdL (l.take (n + 1))).map fun t => ((min (sz t) 301 : Nat) : Int)) = ((rdL (l.take n)).map fun t => ((min (sz t) 301 : Nat) : Int)) ++ [((min (sz (mkT (rdL (l.take n)) c)) 301 : Nat) : Int)] := by
        have e2 : l.take (n + 1) = l.take n ++ [c] := by rw [List.take_add_one, hc]; rfl
        rw [e2, rdL_snoc, List.map_append]; rfl
      have hidx : ∀ i : Int, 0 ≤ i ∧ i < (n : Int) → idx ((rdL (l.take n)).map fun t => ((min (sz t) 301 : Nat) : Int)) i = some ((min (sz ((rdL (l.take n)).getD i.toNat (.leaf 0 0))) 301 : Nat) : Int) := by
        intro i hi
        refine idx_of hi.1 ?_
        rw [List.getElem?_map, List.getElem?_eq_getElem (by rw [rdL_len, List.length_take]; omega), List.getD_eq_getElem?_getD, List.getElem?_eq_getElem (by rw [rdL_len, List.length_take]; omega)]; rfl
      have hg : comb_sizes_g7 ((rdL (l.take n)).map fun t => ((min (sz t) 301 : Nat) : Int)) c = some ((min (sz (mkT (rdL (l.take n)) c)) 301 : Nat) : Int) := by
        unfold comb_sizes_g7 mkT
        by_cases h4 : c.1 = 4
        · obtain ⟨q1, q2⟩ := (cb_ok hok).2 h4
          rw [show (c.1 == 4) = true from by simp [h4], cond_true, hidx _ q1, bind_some', hidx _ q2, bind_some', if_pos h4, sz]
          generalize sz ((rdL (l.take n)).getD c.2.1.toNat (.leaf 0 0)) = A
          generalize sz ((rdL (l.take n)).getD c.2.2.1.toNat (.leaf 0 0)) = B
          rw [w64_id (n := 1 + ((min A 301 : Nat) : Int)) (by omega) (by omega), w64_id (by omega) (by omega)]
          exact congrArg some (by unfold imin; split <;> omega)
        · rw [show (c.1 == 4) = false from by simp [h4], cond_false, if_neg h4, sz]; rfl
      refine ⟨.next (((rdL (l.take n)).map fun t => ((min (sz t) 301 : Nat) : Int)) ++ [((min (sz (mkT (rdL (l.take n)) c)) 301 : Nat) : Int)]), ?_, hnext.symm⟩
      unfold comb_sizes_b9
      rw [hg, bind_some', hck, bind_some'])
    (by rintro x rfl; simp)
  unfold comb_sizes
  rw [h2, h3]; rfl
theorem cb_ne0 (j : Nat) (a : Cb) (h : cbf j a = some 0) : False := by
  unfold cbf at h
  generalize (!decide (1 ≤ a.1 ∧ a.1 ≤ 4)) = p at h
  generalize ((a.1 == 3) && !decide (0 ≤ a.2.2.2 ∧ a.2.2.2 ≤ 1000)) = q at h
  generalize ((a.1 == 4) && !decide ((0 ≤ a.2.1 ∧ a.2.1 < (j : Int)) ∧ (0 ≤ a.2.2.1 ∧ a.2.2.1 < (j : Int)))) = r at h
  cases p <;> cases q <;> cases r <;> cases h
theorem cb_key (a0 : List Cb) : ∃ z, comb_Check a0 = some z ∧ ref_CombCheck a0 = some z ∧ (z = 0 → 1 ≤ a0.length ∧ a0.length ≤ 40 ∧ firstOf cbf 0 a0 = none ∧ sz ((rdL a0).getD (a0.length - 1) (.leaf 0 0)) ≤ 300) := by
  unfold comb_Check ref_CombCheck
  rw [within_eq, bind_some', forL_findI (f := cbf) (g := Esc.ret) (fun n a _ => cb_body n a), forL_findI (f := cbf) (g := Esc.ret) (fun n a _ => cb_rbody n a)]
  have e : ((decide ((List.length a0 : Int) < (1 : Int))) || (decide ((List.length a0 : Int) > (40 : Int)))) = !decide (1 ≤ (a0.length : Int) ∧ (a0.length : Int) ≤ 40) := by
    rw [or_dec, not_dec]; exact decide_eq_decide.2 (by omega)
  rw [e]
  by_cases h : 1 ≤ (a0.length : Int) ∧ (a0.length : Int) ≤ 40
  · simp only [h, and_self, decide_true, Bool.not_true, cond_false]
    cases hf : firstOf cbf 0 a0 with
    | some z =>
      refine ⟨z, rfl, rfl, fun hz => ?_⟩
      subst hz
      obtain ⟨j, a, _, h2⟩ := firstOf_some hf
      exact (cb_ne0 j a h2).elim
    | none =>
      obtain ⟨y, y', h1, h2, rfl, h3⟩ := cb_sizes (by omega) hf
      have hs := sizes_eq (by omega) hf
      unfold comb_sizes at hs ⊢
      rw [h1] at hs
      simp only [bind_some', Option.some.injEq] at hs
      simp only [Option.elim, bind_some', h1, Int.toNat_natCast, h2]
      rw [ck_ok (by refine ⟨by omega, by trivial, by omega⟩), bind_some']
      have e2 : w64 ((a0.length : Int) - 1) = ((a0.length - 1 : Nat) : Int) := by rw [w64_id (by omega) (by omega)]; omega
      obtain ⟨T, hT⟩ : ∃ T, (rdL a0)[a0.length - 1]? = some T := ⟨_, List.getElem?_eq_getElem (by rw [rdL_len]; omega)⟩
      rw [e2, hs, idx_nat, List.getElem?_map, List.getD_eq_getElem?_getD, hT]
      simp only [Option.map_some, bind_some', Option.getD_some]
      by_cases h5 : ((min (sz T) 301 : Nat) : Int) > 300
      · rw [decide_eq_true h5]; exact ⟨1, rfl, rfl, fun h => by cases h⟩
      · rw [decide_eq_false h5]; exact ⟨0, rfl, rfl, fun _ => ⟨by omega, by omega, trivial, by omega⟩⟩
  · rw [decide_eq_false h]; exact ⟨1, rfl, rfl, fun h => by cases h⟩
/-! sizes and lists -/
def wr : TT → List Cb → List Cb
  | .leaf k v, l => l ++ [(k, 0, 0, v)]
  | .put a b, l => wr b (wr a l) ++ [(4, ((wr a l).length : Int) - 1, ((wr b (wr a l)).length : Int) - 1, 0)]
theorem wr_len : ∀ (t : TT) (l : List Cb), (wr t l).length = l.length + sz t
  | .leaf k v, l => by simp [wr, sz]
  | .put a b, l => by simp [wr, sz, wr_len b, wr_len a]; omega
theorem size_eq : ∀ (t : TT) (fuel : Nat), okT t → sz t ≤ 1000000 → sz t < fuel → comb_Tree_size fuel (emb t) = some (sz t : Int)
  | .leaf k v, fuel + 1, h, _, _ => by
    show comb_Tree_size_step (comb_Tree_size fuel) fuel _ = _
    unfold comb_Tree_size_step
    have hk : k ≠ 4 := h
    simp only [emb, CT.open, bind_some']
    rw [show (k != 4) = true from by simp [hk]]; rfl
  | .put a b, fuel + 1, h, hs, hf => by
    have := sz_pos a
    have := sz_pos b
    simp only [sz] at hs hf
    have h1 := size_eq a fuel h.1 (by omega) (by omega)
    have h2 := size_eq b fuel h.2 (by omega) (by omega)
    show comb_Tree_size_step (comb_Tree_size fuel) fuel _ = _
    unfold comb_Tree_size_step
    simp only [emb, CT.open, bind_some']
    rw [show ((4 : Int) != 4) = false from rfl, cond_false, h1, bind_some', h2, bind_some', w64_id (n := 1 + (sz a : Int)) (by omega) (by omega), w64_id (by omega) (by omega)]
    exact congrArg some (by simp only [sz]; omega)
theorem nodes_eq : ∀ (t : TT) (fuel : Nat), okT t → sz t ≤ 1000000 → sz t < fuel → ref_Nodes fuel (emb t) = some (sz t : Int)
  | .leaf k v, fuel + 1, h, _, _ => by
    show ref_Nodes_step (ref_Nodes fuel) fuel _ = _
    unfold ref_Nodes_step
    have hk : k ≠ 4 := h
    simp only [emb, CT.open, bind_some']
    rw [show (k != 4) = true from by simp [hk]]; rfl
  | .put a b, fuel + 1, h, hs, hf => by
    have := sz_pos a
    have := sz_pos b
    simp only [sz] at hs hf
    have h1 := nodes_eq a fuel h.1 (by omega) (by omega)
    have h2 := nodes_eq b fuel h.2 (by omega) (by omega)
    show ref_Nodes_step (ref_Nodes fuel) fuel _ = _
    unfold ref_Nodes_step
    simp only [emb, CT.open, bind_some']
    rw [show ((4 : Int) != 4) = false from rfl, cond_false, h1, bind_some', h2, bind_some', w64_id (n := 1 + (sz a : Int)) (by omega) (by omega), w64_id (by omega) (by omega)]
    exact congrArg some (by simp only [sz]; omega)
theorem write4_eq : ∀ (t : TT) (l : List Cb) (fuel : Nat), okT t → l.length + sz t ≤ 1000000 → sz t < fuel → comb_Tree_write_i4 fuel (emb t) l = some (wr t l, wr t l)
  | .leaf k v, l, fuel + 1, h, hs, _ => by
    have hk : k ≠ 4 := h
    simp only [sz] at hs
    have hck : ck ((List.length l : Int) + 1 ≤ 4294967296) = some () := ck_ok (by omega)
    show comb_Tree_write_i4_step (comb_Tree_write_i4 fuel) fuel _ _ = _
    unfold comb_Tree_write_i4_step
    rw [show CT.open (emb (.leaf k v)) = some (k, v, .nil, .nil) from rfl, bind_some']
    dsimp only
    rw [show (k != 4) = true from by simp [hk], cond_true, hck, bind_some', wr]
  | .put a b, l, fuel + 1, h, hs, hf => by
    have := sz_pos a
    have := sz_pos b
    simp only [sz] at hs hf
    have h1 := write4_eq a l fuel h.1 (by omega) (by omega)
    have h2 := write4_eq b (wr a l) fuel h.2 (by rw [wr_len]; omega) (by omega)
    have l1 := wr_len a l
    have l2 := wr_len b (wr a l)
    have hck : ck ((List.length (wr b (wr a l)) : Int) + 1 ≤ 4294967296) = some () := ck_ok (by omega)
    show comb_Tree_write_i4_step (comb_Tree_write_i4 fuel) fuel _ _ = _
    unfold comb_Tree_write_i4_step
    rw [show CT.open (emb (.put a b)) = some (4, 0, emb a, emb b) from rfl, bind_some']
    dsimp only
    rw [show ((4 : Int) != 4) = false from rfl, cond_false, h1, bind_some', h2, bind_some']
    dsimp only
    rw [hck, bind_some', w64_id (by omega) (by omega), w64_id (by omega) (by omega), wr]
theorem write_eq : ∀ (t : TT) (fuel : Nat), okT t → sz t ≤ 1000000 → sz t < fuel → comb_Tree_write fuel (emb t) = some (wr t [])
  | .leaf k v, fuel + 1, h, _, _ => by
    have hk : k ≠ 4 := h
    show comb_Tree_write_step (comb_Tree_write fuel) fuel _ = _
    unfold comb_Tree_write_step
    rw [show CT.open (emb (.leaf k v)) = some (k, v, .nil, .nil) from rfl, bind_some']
    dsimp only
    rw [show (k != 4) = true from by simp [hk], cond_true]; rfl
  | .put a b, fuel + 1, h, hs, hf => by
    have := sz_pos a
    have := sz_pos b
    simp only [sz] at hs hf
    have h1 := write_eq a fuel h.1 (by omega) (by omega)
    have l1 := wr_len a []
    have l2 := wr_len b (wr a [])
    simp only [List.length_nil] at l1
    have h2 := write4_eq b (wr a []) fuel h.2 (by omega) (by omega)
    have hck : ck ((List.length (wr b (wr a [])) : Int) + 1 ≤ 4294967296) = some () := ck_ok (by omega)
    show comb_Tree_write_step (comb_Tree_write fuel) fuel _ = _
    unfold comb_Tree_write_step
    rw [show CT.open (emb (.put a b)) = some (4, 0, emb a, emb b) from rfl, bind_some']
    dsimp only
    rw [show ((4 : Int) != 4) = false from rfl, cond_false, h1, bind_some', h2, bind_some']
    dsimp only
    rw [hck, bind_some', w64_id (by omega) (by omega), w64_id (by omega) (by omega), wr]
theorem rwrite_eq : ∀ (t : TT) (l : List Cb) (fuel : Nat), okT t → l.length + sz t ≤ 1000000 → sz t < fuel → ref_Write fuel (emb t) l = some (wr t l)
  | .leaf k v, l, fuel + 1, h, hs, _ => by
    have hk : k ≠ 4 := h
    simp only [sz] at hs
    have hck : ck ((List.length l : Int) + 1 ≤ 4294967296) = some () := ck_ok (by omega)
    have hck0 : ck ((0 : Int) + (List.length l : Int) ≤ 4294967296) = some () := ck_ok (by omega)
    show ref_Write_step (ref_Write fuel) fuel _ _ = _
    unfold ref_Write_step
    rw [show CT.open (emb (.leaf k v)) = some (k, v, .nil, .nil) from rfl, bind_some']
    dsimp only
    rw [show (k != 4) = true from by simp [hk], cond_true, hck0, bind_some', List.nil_append, hck, bind_some', wr]
  | .put a b, l, fuel + 1, h, hs, hf => by
    have := sz_pos a
    have := sz_pos b
    simp only [sz] at hs hf
    have h1 := rwrite_eq a l fuel h.1 (by omega) (by omega)
    have h2 := rwrite_eq b (wr a l) fuel h.2 (by rw [wr_len]; omega) (by omega)
    have l1 := wr_len a l
    have l2 := wr_len b (wr a l)
    have hck : ck ((List.length (wr b (wr a l)) : Int) + 1 ≤ 4294967296) = some () := ck_ok (by omega)
    have hck0 : ck ((0 : Int) + (List.length (wr b (wr a l)) : Int) ≤ 4294967296) = some () := ck_ok (by omega)
    show ref_Write_step (ref_Write fuel) fuel _ _ = _
    unfold ref_Write_step
    rw [show CT.open (emb (.put a b)) = some (4, 0, emb a, emb b) from rfl, bind_some']
    dsimp only
    rw [show ((4 : Int) != 4) = false from rfl, cond_false, h1, bind_some', h2, bind_some', hck0, bind_some', List.nil_append, hck, bind_some', w64_id (by omega) (by omega), w64_id (by omega) (by omega), wr]
theorem combs_self (l : List Cb) : ref_Combs l l = some true := by
  unfold ref_Combs
  rw [bif_f (by simp)]
  have e : forL (ref_Combs_b1 l) (fun _ => (Esc.brk () : Esc Bool Unit)) l 0 () = some (.brk ()) := by
    rw [forL_eqs (q := l) (fun n a c hc => by
      unfold ref_Combs_b1
      rw [idx_nat, hc, bind_some']
      by_cases h : a = c
      · rw [if_pos h, h, deqT_self _ (by decide)]; rfl
      · rw [if_neg h, deqT_ne _ (by decide) h]; rfl) rfl]
    simp
  rw [e]; rfl

def hasT (v : Int) : TT → Bool
  | .leaf k x => k == 3 && x == v
  | .put a b => hasT v a || hasT v b
def outT (v : Int) : TT → TT
  | .leaf k x => if hasT v (.leaf k x) then .put (.put (.leaf 1 0) (.leaf 2 0)) (.leaf 2 0) else .put (.leaf 2 0) (.leaf k x)
  | .put a b => if hasT v (.put a b) then .put (.put (.leaf 1 0) (outT v a)) (outT v b) else .put (.leaf 2 0) (.put a b)
theorem outT_ok (v : Int) : ∀ (t : TT), okT t → okT (outT v t) ∧ sz (outT v t) ≤ 5 * sz t
  | .leaf k x, h => by
    unfold outT
    split
    · simp [okT, sz]
    · simp only [okT, sz] at h ⊢; exact ⟨⟨by decide, h⟩, by omega⟩
  | .put a b, h => by
    obtain ⟨a1, a2⟩ := outT_ok v a h.1
    obtain ⟨b1, b2⟩ := outT_ok v b h.2
    unfold outT
    split
    · simp only [okT, sz]; exact ⟨⟨⟨by decide, a1⟩, b1⟩, by omega⟩
    · simp only [okT, sz]; exact ⟨⟨by decide, h⟩, by omega⟩
theorem has_eq (v : Int) : ∀ (t : TT) (fuel : Nat), okT t → sz t < fuel → comb_Tree_has fuel (emb t) v = some (hasT v t) ∧ ref_Stands fuel (emb t) v = some (hasT v t)
  | .leaf k x, fuel + 1, h, _ => by
    have hk : (k == 4) = false := by simpa using (show k ≠ 4 from h)
    constructor
    · show comb_Tree_has_step (comb_Tree_has fuel) fuel _ _ = _
      unfold comb_Tree_has_step
      rw [show CT.open (emb (.leaf k x)) = some (k, x, .nil, .nil) from rfl, bind_some']
      dsimp only
      rw [hk, cond_false]
      unfold hasT
      cases (k == 3) <;> rfl
    · show ref_Stands_step (ref_Stands fuel) fuel _ _ = _
      unfold ref_Stands_step
      rw [show CT.open (emb (.leaf k x)) = some (k, x, .nil, .nil) from rfl, bind_some']
      dsimp only
      rw [hk, cond_false]
      unfold hasT
      cases (k == 3) <;> rfl
  | .put a b, fuel + 1, h, hf => by
    have := sz_pos a
    have := sz_pos b
    simp only [sz] at hf
    obtain ⟨a1, a2⟩ := has_eq v a fuel h.1 (by omega)
    obtain ⟨b1, b2⟩ := has_eq v b fuel h.2 (by omega)
    constructor
    · show comb_Tree_has_step (comb_Tree_has fuel) fuel _ _ = _
      unfold comb_Tree_has_step
      rw [show CT.open (emb (.put a b)) = some (4, 0, emb a, emb b) from rfl, bind_some']
      dsimp only
      rw [show ((4 : Int) == 4) = true from rfl, cond_true, a1, b1, bind_some']
      rw [show hasT v (.put a b) = (hasT v a || hasT v b) from rfl]
      cases hasT v a <;> rfl
    · show ref_Stands_step (ref_Stands fuel) fuel _ _ = _
      unfold ref_Stands_step
      rw [show CT.open (emb (.put a b)) = some (4, 0, emb a, emb b) from rfl, bind_some']
      dsimp only
      rw [show ((4 : Int) == 4) = true from rfl, cond_true, a2, b2, bind_some']
      rw [show hasT v (.put a b) = (hasT v a || hasT v b) from rfl]
      cases hasT v a <;> rfl
theorem out_eq (v : Int) : ∀ (t : TT) (fuel : Nat), okT t → sz t + 1 < fuel → comb_Tree_out fuel (emb t) v = some (emb (outT v t)) ∧ ref_Outed fuel (emb t) v = some (emb (outT v t))
  | .leaf k x, fuel + 1, h, hf => by
    obtain ⟨h1, h2⟩ := has_eq v (.leaf k x) fuel h (by omega)
    have hk : ∀ q : Bool, hasT v (.leaf k x) = q → q = true → k = 3 := by
      rintro q h rfl
      unfold hasT at h
      simp only [Bool.and_eq_true, beq_iff_eq] at h
      exact h.1
    constructor
    · show comb_Tree_out_step (comb_Tree_out fuel) fuel _ _ = _
      unfold comb_Tree_out_step outT
      rw [h1, bind_some']
      cases hq : hasT v (.leaf k x) with
      | true =>
        have := hk _ hq rfl
        subst this
        rfl
      | false => rfl
    · show ref_Outed_step (ref_Outed fuel) fuel _ _ = _
      unfold ref_Outed_step outT
      rw [h2, bind_some']
      cases hq : hasT v (.leaf k x) with
      | true =>
        have := hk _ hq rfl
        subst this
        rfl
      | false => rfl
  | .put a b, fuel + 1, h, hf => by
    have := sz_pos a
    have := sz_pos b
    obtain ⟨h1, h2⟩ := has_eq v (.put a b) fuel h (by omega)
    simp only [sz] at hf
    obtain ⟨a1, a2⟩ := out_eq v a fuel h.1 (by omega)
    obtain ⟨b1, b2⟩ := out_eq v b fuel h.2 (by omega)
    constructor
    · show comb_Tree_out_step (comb_Tree_out fuel) fuel _ _ = _
      unfold comb_Tree_out_step outT
      rw [h1, bind_some']
      cases hq : hasT v (.put a b) with
      | true =>
        rw [show (!true) = false from rfl, cond_false, show CT.open (emb (.put a b)) = some (4, 0, emb a, emb b) from rfl, bind_some']
        dsimp only
        rw [show ((4 : Int) == 3) = false from rfl, cond_false, a1, b1]
        rfl
      | false => rfl
    · show ref_Outed_step (ref_Outed fuel) fuel _ _ = _
      unfold ref_Outed_step outT
      rw [h2, bind_some']
      cases hq : hasT v (.put a b) with
      | true =>
        rw [show (!true) = false from rfl, cond_false, show CT.open (emb (.put a b)) = some (4, 0, emb a, emb b) from rfl, bind_some']
        dsimp only
        rw [show ((4 : Int) == 3) = false from rfl, cond_false, a2, b2]
        rfl
      | false => rfl
theorem CombOuts_true (a0 : List (Int × (Int × (Int × Int)))) (a1 : Int) (f0 : Fits (.slice (.pair (.int .i64) (.pair (.int .i64) (.pair (.int .i64) (.int .i64))))) a0) (f1 : Fits (.int .i64) a1) : ∃ fuel, law_CombOuts fuel a0 a1 = some true := by
  refine ⟨100000, ?_⟩
  obtain ⟨z, h1, h2, h3⟩ := cb_key a0
  unfold law_CombOuts
  have g4 : ∀ z, law_CombOuts_g4 a1 z = some (if z = 0 ∧ ¬ (0 ≤ a1 ∧ a1 ≤ 1000) then 4 else z) := by
    intro z
    unfold law_CombOuts_g4
    rw [within_eq, bind_some']
    by_cases hz : z = 0
    · rw [show (z == 0) = true from by simp [hz], cond_true, bind_some']
      by_cases hx : 0 ≤ a1 ∧ a1 ≤ 1000
      · rw [decide_eq_true hx, if_neg (fun h => h.2 hx)]; rfl
      · rw [decide_eq_false hx, if_pos ⟨hz, hx⟩]; rfl
    · rw [show (z == 0) = false from by simp [hz], cond_false, bind_some', cond_false, if_neg (fun h => hz h.1)]
  by_cases hz : z = 0
  · subst hz
    by_cases hx : 0 ≤ a1 ∧ a1 ≤ 1000
    · obtain ⟨l1, l2, hf, hs⟩ := h3 rfl
      have e1 := comb_read_eq l2 l1 hf
      have e2 := ref_read_eq hf 100000 (a0.length - 1) (by omega) (by omega)
      have hok := rdL_ok hf (a0.length - 1) ((rdL a0).getD (a0.length - 1) (.leaf 0 0)) (by rw [List.getD_eq_getElem?_getD, List.getElem?_eq_getElem (by rw [rdL_len]; omega)]; rfl)
      have hi : w64 ((a0.length : Int) - 1) = ((a0.length - 1 : Nat) : Int) := by rw [w64_id (by omega) (by omega)]; omega
      generalize (rdL a0).getD (a0.length - 1) (.leaf 0 0) = t at *
      obtain ⟨q1, q2⟩ := out_eq a1 t 100000 hok (by omega)
      obtain ⟨ro, rs⟩ := outT_ok a1 t hok
      generalize outT a1 t = r at *
      have c1 : ((decide (a1 < (0 : Int))) || (decide (a1 > (1000 : Int)))) = false := by simp only [Bool.or_eq_false_iff, decide_eq_false_iff_not]; omega
      have hS : comb_Out 100000 a0 a1 = some (if (sz r : Int) > 300 then ([], 7) else (wr r [], 0)) := by
        unfold comb_Out
        rw [h1, bind_some', show ((0 : Int) != 0) = false from rfl, cond_false, c1, cond_false, e1, bind_some', q1, bind_some']
        unfold comb_told
        rw [size_eq r 100000 ro (by omega) (by omega), bind_some']
        by_cases hb : (sz r : Int) > 300
        · rw [decide_eq_true hb, if_pos hb]; rfl
        · rw [decide_eq_false hb, if_neg hb, cond_false, write_eq r 100000 ro (by omega) (by omega)]; rfl
      rw [hS, bind_some', h2, bind_some', g4, if_neg (fun h => h.2 hx), bind_some', show ((0 : Int) != 0) = false from rfl, cond_false, hi, e2, bind_some', q2, bind_some', nodes_eq r 100000 ro (by omega) (by omega), bind_some']
      by_cases hb : (sz r : Int) > 300
      · rw [decide_eq_true hb, if_pos hb]; rfl
      · rw [decide_eq_false hb, if_neg hb, cond_false]
        dsimp only
        rw [show ((0 : Int) == 0) = true from rfl, cond_true, rwrite_eq r [] 100000 ro (by simp; omega) (by omega), bind_some', combs_self]
        rfl
    · have c1 : ((decide (a1 < (0 : Int))) || (decide (a1 > (1000 : Int)))) = true := by simp only [Bool.or_eq_true, decide_eq_true_eq]; omega
      have hS : comb_Out 100000 a0 a1 = some ([], 4) := by
        unfold comb_Out
        rw [h1, bind_some', show ((0 : Int) != 0) = false from rfl, cond_false, c1, cond_true]
      rw [hS, bind_some', h2, bind_some', g4, if_pos ⟨rfl, hx⟩, bind_some']
      rfl
  · have hS : comb_Out 100000 a0 a1 = some ([], z) := by
      unfold comb_Out
      rw [h1, bind_some', show (z != 0) = true from by simp [hz], cond_true]
    rw [hS, bind_some', h2, bind_some', g4, if_neg (fun h => hz h.1), bind_some', show (z != 0) = true from by simp [hz], cond_true]
    simp

end Go.Proofs.Ytkkmiclmbhbmjaa.combOuts
namespace Go.Proofs.Ytkkmiclmbhbmjaa.combOuts
open Go.ChangeShapes Go.WideShapes Go.ChangeAt Go.RowKit
open Go.ChangeMaps (open_string shut_string)
theorem own : ownKnob Try.prog.godebug = none := by kernel_rfl
theorem laidOut : laidOutB Try.prog = true := by kernel_rfl
theorem lifted (os : Os) (started : os.Started) (H : Type) (enc : TypeId × Value → H) :
    ReturnsInHanded {} Try.checked os 10 .any (Rows.combOutsSpec.pre6 enc Try.prog Try.f10 Rows.combOutsRow.domain false) (Rows.combOutsSpec.post enc Try.prog Try.f10 false true false false) := by
  refine returnsInHanded_of_change (C := Try.checked) own started (by kernel_rfl) Try.func10
    (ChangeSpec.witness6 (enc := enc) (C := Try.checked) false ⟨#[], #[.slice none 0 0, .int .i64 0], []⟩ 8 (by kernel_rfl) (by kernel_rfl) (by kernel_rfl) (by kernel_rfl)) ?_
  intro W base args ds gs before hval0 hW hcnd _
  have hval : ∀ (j : Nat) t v, Try.f10.params[j]? = some t → args[j]? = some v → Value.okWide Try.prog W .any base t v := hval0
  have hW' := hW
  obtain ⟨p, q, hA0, hV, rfl, hfz, hnd⟩ := hW
  have hA : DataW.TrodAll enc Try.prog W 0 (fun _ => true) true Try.f10.params.toList args.toList ds p := hA0
  rw [Try.params10] at hA hval
  obtain ⟨v0, vs0, d0, ds0, p0, q0, hargs, rfl, rfl, h0, r0⟩ := trodAll_cons hA
  obtain ⟨v1, vs1, d1, ds1, p1, q1, rfl, rfl, rfl, h1, r1⟩ := trodAll_cons r0
  obtain ⟨rfl, rfl, rfl⟩ := trodAll_nil r1
  obtain rfl : args = #[v0, v1] := by cases args; simp_all
  obtain ⟨rfl, rfl⟩ := trodVars_none hV
  obtain ⟨x0, f0, k0⟩ := Go.Sl.read_arg (u := (.slice (.pair (.int .i64) (.pair (.int .i64) (.pair (.int .i64) (.int .i64)))))) (by kernel_rfl) (by kernel_rfl) (hval 0 44 v0 rfl rfl) h0
  have lt0 : ∀ x ∈ p0, x.block < W.heap.size := by obtain ⟨m, hm⟩ := h0; exact DataW.trod_lt m _ _ _ hm
  obtain ⟨x1, f1, k1⟩ := Go.Sl.read_arg (u := (.int .i64)) (by kernel_rfl) (by kernel_rfl) (hval 1 3 v1 rfl rfl) h1
  have lt1 : ∀ x ∈ p1, x.block < W.heap.size := by obtain ⟨m, hm⟩ := h1; exact DataW.trod_lt m _ _ _ hm
  clear hA0 hval0
  obtain ⟨fuel, hm⟩ := CombOuts_true x0 x1 f0 f1
  refine (Go.Sl.law_of (vs := [v0, v1]) (law_CombOuts_ok hm) rfl (.cons (k0 _ _) (.cons (k1 _ _) .nil))).mono fun e W' ⟨he, bel⟩ => ?_
  subst he
  exact ⟨_, rfl, _, _, _, [], _, [], hW', trodAll_mk1 (shut_bool Try.underlying4 _), (trodAll_cons_mk (Below.trod laidOut (by kernel_rfl) (of_decide_eq_true (by kernel_rfl)) h0 bel lt0) (trodAll_cons_mk (Below.trod laidOut (by kernel_rfl) (of_decide_eq_true (by kernel_rfl)) h1 bel lt1) trodAll_mk0)), rfl, bel.frame _, fun h => by cases h⟩
theorem proved : Rows.CombOutsSaid :=
  OpenClaim.holds_of_wide 10 Try.f10 rfl rfl rfl rfl rfl rfl rfl ⟨rfl, rfl, rfl, rfl, rfl⟩ rfl rfl rfl rfl rfl (by kernel_rfl) Try.func10 (by kernel_rfl)
    (of_decide_eq_true (by kernel_rfl)) (by unfold Func.isWrapper; first | (rw [if_pos (by decide +kernel)]; kernel_rfl) | (rw [if_neg (by decide +kernel)]; exact ⟨rfl, rfl⟩))
    (fun os started H enc _ => lifted os started H enc)
#print axioms proved
end Go.Proofs.Ytkkmiclmbhbmjaa.combOuts
