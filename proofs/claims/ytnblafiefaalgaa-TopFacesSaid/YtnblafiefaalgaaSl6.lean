/- Slices of slices, loops over maps, how arguments are read, and plain facts, of the certifying translation. -/
import Derived.Test.YtnblafiefaalgaaSl5
import Derived.Laws.IdiomRangeMap
import Derived.Carry
import Derived.OpenShut
import Derived.ChangeOld
import Derived.ProofKit
set_option linter.all false
/- Ranges over a function: words for printed proofs. Slices of one's own that a call reads as data and that stay one's own. -/
namespace Go.Sl
open Go

/-! ### rounds -/
section
variable {C : Ctx} {B : Code} {p : List Nat} {Q : Post} {fr fr1 : Fr} {L L1 : LL}
end
/-! ### borrowed slices -/
section
variable {C : Ctx} {h : Heap} {ρ : Nat → Value} {fr : Fr} {L : LL} {a : Act} {w : World}
def LObj.seqd : LObj → Option ((t : Ty) × List t.den)
 | .seq t xs => some ⟨t, xs⟩
 | .rows _ t xs [] => some ⟨t, xs⟩
 | _ => none
open Classical in
theorem RelH.borrow (hr : RelH C h ρ fr L a w) (bs : List Nat) : ∃ h1 : Heap, Ext h h1 ∧ HeapOk h1 w ∧ (∀ s t xs o, s ∈ bs → get L s = some o → o.seqd = some ⟨t, xs⟩ → rep h1 (.slice t) xs [hdrOf (ρ s)]) ∧
  (∀ b, h b = none → h1 b ≠ none → ∃ s o, s ∈ bs ∧ get L s = some o ∧ Blk (ρ s) b) := by
 let h1 : Heap := fun b => if (∃ s o, s ∈ bs ∧ get L s = some o ∧ Blk (ρ s) b) then (match w.heap[b]? with | some (.cells cur _ _) => some cur.toList | _ => h b) else h b
 have hext : Ext h h1 := by
  intro k ys hk
  have : ¬ ∃ s o, s ∈ bs ∧ get L s = some o ∧ Blk (ρ s) k := by
   rintro ⟨s, o, _, hs, hb⟩
   have := ((hr.objs s _ hs).block hb).2.1
   rw [hk] at this; cases this
  simp only [h1, if_neg this]
  exact hk
 have at1 : ∀ s o b, s ∈ bs → get L s = some o → Blk (ρ s) b → ∀ cur e fz, w.heap[b]? = some (.cells cur e fz) → h1 b = some cur.toList := by
  intro s o b hm hs hb cur e fz hw
  have hc : ∃ s o, s ∈ bs ∧ get L s = some o ∧ Blk (ρ s) b := ⟨s, o, hm, hs, hb⟩
  simp only [h1, if_pos hc, hw]
 refine ⟨h1, hext, ?_, ?_, ?_⟩
 ·intro k ys hk
  by_cases hc : ∃ s o, s ∈ bs ∧ get L s = some o ∧ Blk (ρ s) k
  ·simp only [h1, if_pos hc] at hk
   split at hk
   ·rename_i cur el fz hw
    simp only [Option.some.injEq] at hk; subst hk
    exact ⟨cur, el, fz, hw, List.prefix_refl _⟩
   ·exact hr.heap k ys hk
  ·simp only [h1, if_neg hc] at hk
   exact hr.heap k ys hk
 ·intro s t xs o hm hs hq
  unfold LObj.seqd at hq
  split at hq
  ·rename_i t' xs'
   simp only [Option.some.injEq, Sigma.mk.injEq] at hq
   obtain ⟨rfl, hq⟩ := hq
   obtain rfl := eq_of_heq hq
   rw [(seq_hdr (hr.objs s _ hs)).1]
   rcases hr.objs s _ hs with ⟨hrs, hnil⟩ | ⟨b, cap, cur, el, hrs, h1', h2, h3, h4, h5, h6, h7⟩
   ·rw [hrs, hnil]
    exact ⟨none, 0, rfl, Nat.zero_le _, Nat.le_refl _, .inl rfl⟩
   ·have hb1 : h1 b = some cur.toList := at1 s _ b hm hs (by rw [hrs]; rfl) _ _ _ h3
    rw [hrs]
    have hle : List.length xs' * t'.size ≤ cur.toList.length := by simp [h4]; exact Nat.mul_le_mul_right _ h5
    refine ⟨_, cap, rfl, h6, h5, .inr ⟨b, 0, cur.toList, rfl, hb1, by omega, ?_⟩⟩
    intro i x hi
    rw [Nat.zero_add]
    exact rep_mono hext _ _ _ (h7 i x hi)
  ·rename_i d t' xs'
   simp only [Option.some.injEq, Sigma.mk.injEq] at hq
   obtain ⟨rfl, hq⟩ := hq
   obtain rfl := eq_of_heq hq
   obtain ⟨hd, heads, F, hrs, h1', h2, h3⟩ := hr.objs s _ hs
   rw [hrs, hdrOf_mkR]
   exact h3.tree.rep hext _ _ _ _ _ fun b hb cur e hw => at1 s _ b hm hs (by rw [hrs]; exact blk_mkR.2 hb) _ _ _ hw
  ·cases hq
 ·intro b h0 hb
  by_cases hc : ∃ s o, s ∈ bs ∧ get L s = some o ∧ Blk (ρ s) b
  ·exact hc
  ·simp only [h1, if_neg hc] at hb
   exact (hb h0).elim

structure CallAtB (C : Ctx) (ops : Array Oper) (i : Nat) (fr frb : Fr) (us : List (Option Ty)) (f : Nat) (as : List AV) (d : Nat) (p : Prop) : Prop where
 ok : (match ops[i]? with
  | some o => (match guardIs ops fr o with
   | some (gd, q) => (callOf frb gd o.op).bind fun r => (coer us r.2).bind fun as => o.dst.map fun d => (r.1, as, d, q)
   | none => none)
  | none => none) = some (f, as, d, p)
 fn : isFn C.P f = true
 lt : decide (d < C.n) = true

variable {Q : Post}
end
end Go.Sl

/- Slices of slices of our own: rows taken out, given back, put in another order; made data; begun with nil. -/
namespace Go.Sl
open Go

def rowObj : (d : Nat) → (t : Ty) → t.den → Option LObj
 | 0, .slice u, x => some (.seq u x)
 | d + 1, .slice u, x => some (.rows d u x [])
 | _, _, _ => none
def rowOf (d : Nat) (t : Ty) : LObj → Option t.den
 | .seq u x => if h : t = .slice u ∧ d = 0 then some (h.1 ▸ x) else none
 | .rows d' u x [] => if h : t = .slice u ∧ d = d' + 1 then some (h.1 ▸ x) else none
 | _ => none

section
variable {C : Ctx} {h : Heap} {ρ : Nat → Value} {fr : Fr} {L : LL} {a : Act} {w : World}

/-! ### what belongs to a name changes -/
def Ghost (r r' : Value) : Prop := (∀ ad, r ≠ .pointer ad) ∧ hdrOf r' = hdrOf r ∧ headsOf r' = headsOf r
theorem srel_ghost {s : Nat} {r' : Value} (hg : Ghost (ρ s) r') {x : SV} {v : Value} (e : SRel h ρ x v) : SRel h (upd ρ s r') x v := by
 obtain ⟨h1, h2, h3⟩ := hg
 have hh : ∀ t, hdrOf (upd ρ s r' t) = hdrOf (ρ t) := by
  intro t; unfold upd; split
  ·rename_i e; subst e; exact h2
  ·rfl
 have hq : ∀ t, headsOf (upd ρ s r' t) = headsOf (ρ t) := by
  intro t; unfold upd; split
  ·rename_i e; subst e; exact h3
  ·rfl
 have hp : ∀ t ad, ρ t = .pointer ad → upd ρ s r' t = .pointer ad := by
  intro t ad ht; unfold upd; split
  ·rename_i e; subst e; exact (h1 ad ht).elim
  ·exact ht
 cases x <;> try exact e
 case ptr t o =>
  obtain ⟨b, hb, rfl⟩ := e
  exact ⟨b, hp _ _ hb, rfl⟩
 case slc t => simp only [SRel] at e ⊢; rw [hh]; exact e
 case eptr t z i o =>
  obtain ⟨b, hb, hi, rfl⟩ := e
  refine ⟨b, ?_, hi, rfl⟩
  rcases hb with hb | hb
  ·exact .inl (hp _ _ hb)
  ·right; rw [hh]; exact hb
 case fn f caps =>
  obtain ⟨cs, rfl, hall⟩ := e
  refine ⟨cs, rfl, ?_⟩
  induction hall with
  | nil => exact .nil
  | cons h1 _ ih => obtain ⟨b, hb, rfl⟩ := h1; exact .cons ⟨b, hp _ _ hb, rfl⟩ ih
 case sub t z i j => simp only [SRel] at e ⊢; rw [hh]; exact e
 case rhd t i => simp only [SRel] at e ⊢; rw [hq]; exact e
theorem all2_ghost {s : Nat} {r' : Value} (hg : Ghost (ρ s) r') {l : List SV} {m : List Value} (e : All2 (SRel h ρ) l m) : All2 (SRel h (upd ρ s r')) l m := by
 induction e with
 | nil => exact .nil
 | cons h1 _ ih => exact .cons (srel_ghost hg h1) ih
theorem vrel_ghost {s : Nat} {r' : Value} (hg : Ghost (ρ s) r') {tm : Array Value} {x : AV} {v : Value} (e : VRel h ρ tm x v) : VRel h (upd ρ s r') tm x v := by
 cases x
 ·exact srel_ghost hg e
 ·obtain ⟨vs, rfl, hl⟩ := e; exact ⟨vs, rfl, all2_ghost hg hl⟩
 ·obtain ⟨vs, rfl, hl⟩ := e; exact ⟨vs, rfl, all2_ghost hg hl⟩
 ·exact fun ht => srel_ghost hg (e ht)
theorem orel_ghost {own : Nat → Prop} {s : Nat} {r' q : Value} (hg : Ghost (ρ s) r') {o : LObj} (e : ORel own h ρ w q o) : ORel own h (upd ρ s r') w q o := by
 cases o <;> try exact e
 case cells cs =>
  obtain ⟨b, cur, el, rfl, h1, h2, h3, h4, h5⟩ := e
  exact ⟨b, cur, el, rfl, h1, h2, h3, all2_ghost hg h4, h5⟩
 case rows d t xs hs =>
  obtain ⟨hd, heads, F, h1, h2, h3, h4⟩ := e
  have := h4.map (fun x => x) (h' := h) (ρ' := upd ρ s r') (w' := w) (fun _ _ _ e => e) (fun _ _ e => srel_ghost hg e) (fun _ _ => rfl)
  rw [mapHs_id] at this
  exact ⟨hd, heads, F, h1, h2, h3, this⟩
theorem RelH.shrink (hr : RelH C h ρ fr L a w) {s : Nat} {o o' : LObj} {r' : Value} (hs : get L s = some o) (hn : nameOk s = true) (hg : Ghost (ρ s) r') (hb : ∀ b, Blk r' b → Blk (ρ s) b) (ho : ORel C.own h (upd ρ s r') w r' o') :
  RelH C h (upd ρ s r') fr (put L s o') a w where
 size := hr.size
 defers := hr.defers
 fr := fun t av ht => ⟨(hr.fr t av ht).1, vrel_ghost hg (hr.fr t av ht).2⟩
 heap := hr.heap
 objs := fun t x hx => by
  rw [get_put] at hx
  by_cases hst : s = t
  ·subst hst
   rw [if_pos rfl] at hx
   obtain rfl := Option.some.inj hx
   simpa [upd] using ho
  ·rw [if_neg hst] at hx
   have : upd ρ s r' t = ρ t := by simp [upd, Ne.symm hst]
   rw [this]
   exact orel_ghost hg (hr.objs t x hx)
 apart := fun t t' x x' b hne hx hx' hbt => by
  have key : ∀ q y, get (put L s o') q = some y → (∃ z, get L q = some z) ∧ (Blk (upd ρ s r' q) b → Blk (ρ q) b) := by
   intro q y hy
   rw [get_put] at hy
   by_cases hsq : s = q
   ·subst hsq; exact ⟨⟨o, hs⟩, fun hq => hb b (by simpa [upd] using hq)⟩
   ·rw [if_neg hsq] at hy; exact ⟨⟨y, hy⟩, fun hq => by simpa [upd, Ne.symm hsq] using hq⟩
  obtain ⟨⟨z, hz⟩, k1⟩ := key t x hx
  obtain ⟨⟨z', hz'⟩, k2⟩ := key t' x' hx'
  exact fun hb' => hr.apart t t' z z' b hne hz hz' (k1 hbt) (k2 hb')
 ext := hr.ext
 fresh := hr.fresh
 os := hr.os
 tape := hr.tape
 output := hr.output
 grow := hr.grow
 frame := hr.frame
 xs := hr.xs
 pin := fun t v hv => by
  have hts : t ≠ s := by rintro rfl; rw [hr.pinlo _ hn] at hv; cases hv
  simp [upd, hts, hr.pin t v hv]
 pinlo := hr.pinlo
 low := fun t x b hx hlt hbt => by
  rw [get_put] at hx
  by_cases hst : s = t
  ·subst hst; exact hr.low s o b hs hlt (hb b (by simpa [upd] using hbt))
  ·rw [if_neg hst] at hx; exact hr.low t x b hx hlt (by simpa [upd, Ne.symm hst] using hbt)
theorem RelH.reput (hr : RelH C h ρ fr L a w) {s : Nat} {o o' : LObj} (hs : get L s = some o) (ho : ORel C.own h ρ w (ρ s) o') : RelH C h ρ fr (put L s o') a w :=
 have key : ∀ {q y}, get (put L s o') q = some y → ∃ z, get L q = some z := by
  intro q y hy
  rw [get_put] at hy
  by_cases hsq : s = q
  ·subst hsq; exact ⟨o, hs⟩
  ·rw [if_neg hsq] at hy; exact ⟨y, hy⟩
 { hr with
  objs := fun t x hx => by
   rw [get_put] at hx
   by_cases hst : s = t
   ·subst hst
    rw [if_pos rfl] at hx
    obtain rfl := Option.some.inj hx
    exact ho
   ·rw [if_neg hst] at hx; exact hr.objs t x hx
  apart := fun t t' x x' b hne hx hx' => by
   obtain ⟨z, hz⟩ := key hx
   obtain ⟨z', hz'⟩ := key hx'
   exact hr.apart t t' z z' b hne hz hz'
  low := fun t x b hx => by
   obtain ⟨z, hz⟩ := key hx
   exact hr.low t z b hz }

theorem flatten_set_nil : ∀ (Fs : List (List Nat)) (i : Nat) (b : Nat), b ∈ (Fs.set i []).flatten → b ∈ Fs.flatten
 | [], _, _, h => by simpa using h
 | F :: Fs, 0, b, h => by simp only [List.set_cons_zero, List.flatten_cons, List.nil_append] at h; simp [h]
 | F :: Fs, i + 1, b, h => by
  simp only [List.set_cons_succ, List.flatten_cons, List.mem_append] at h ⊢
  exact h.imp id (flatten_set_nil Fs i b)
theorem flatten_set_nodup : ∀ (Fs : List (List Nat)) (i : Nat) (Fi : List Nat), Fs.flatten.Nodup → Fs[i]? = some Fi → (Fs.set i []).flatten.Nodup ∧ Fi.Nodup ∧ ∀ b ∈ Fi, b ∉ (Fs.set i []).flatten
 | [], _, _, _, h => by simp at h
 | F :: Fs, 0, Fi, hn, h => by
  simp only [List.getElem?_cons_zero, Option.some.injEq] at h
  subst h
  rw [List.flatten_cons, List.nodup_append] at hn
  simp only [List.set_cons_zero, List.flatten_cons, List.nil_append]
  exact ⟨hn.2.1, hn.1, fun b hb hb' => hn.2.2 b hb b hb' rfl⟩
 | F :: Fs, i + 1, Fi, hn, h => by
  simp only [List.getElem?_cons_succ] at h
  rw [List.flatten_cons, List.nodup_append] at hn
  obtain ⟨h1, h2, h3⟩ := flatten_set_nodup Fs i Fi hn.2.1 h
  simp only [List.set_cons_succ, List.flatten_cons]
  refine ⟨List.nodup_append.2 ⟨hn.1, h1, fun x hx y hy => hn.2.2 x hx y (flatten_set_nil _ _ _ hy)⟩, h2, fun b hb hb' => ?_⟩
  rcases List.mem_append.1 hb' with hb' | hb'
  ·exact hn.2.2 b hb' b (List.mem_flatten.2 ⟨Fi, List.mem_of_getElem? h, hb⟩) rfl
  ·exact h3 b hb hb'
theorem flatten_fill : ∀ (Fs : List (List Nat)) (i : Nat) (Fi : List Nat), Fs.flatten.Nodup → Fs[i]? = some [] → Fi.Nodup → (∀ b ∈ Fi, b ∉ Fs.flatten) → (Fs.set i Fi).flatten.Nodup ∧ ∀ b, b ∈ (Fs.set i Fi).flatten ↔ b ∈ Fi ∨ b ∈ Fs.flatten
 | [], _, _, _, h, _, _ => by simp at h
 | F :: Fs, 0, Fi, hn, h, hF, hd => by
  simp only [List.getElem?_cons_zero, Option.some.injEq] at h
  subst h
  simp only [List.flatten_cons, List.nil_append] at hn hd
  simp only [List.set_cons_zero, List.flatten_cons, List.nil_append, List.mem_append]
  exact ⟨List.nodup_append.2 ⟨hF, hn, fun x hx y hy e => hd x hx (e ▸ hy)⟩, by first | exact fun b => Iff.rfl | exact fun _ => trivial⟩
 | F :: Fs, i + 1, Fi, hn, h, hF, hd => by
  simp only [List.getElem?_cons_succ] at h
  rw [List.flatten_cons, List.nodup_append] at hn
  obtain ⟨h1, h2⟩ := flatten_fill Fs i Fi hn.2.1 h hF (fun b hb hb' => hd b hb (by simp [hb']))
  simp only [List.set_cons_succ, List.flatten_cons, List.mem_append]
  refine ⟨List.nodup_append.2 ⟨hn.1, h1, fun x hx y hy e => ?_⟩, fun b => ?_⟩
  ·subst e
   rcases (h2 x).1 hy with hy | hy
   ·exact hd x hy (by simp [hx])
   ·exact hn.2.2 x hx x hy rfl
  ·rw [h2]
   constructor
   ·rintro (h | h | h)
    ·exact .inr (.inl h)
    ·exact .inl h
    ·exact .inr (.inr h)
   ·rintro (h | h | h)
    ·exact .inr (.inl h)
    ·exact .inl h
    ·exact .inr (.inr h)
theorem nodup_mem_cons {b : Nat} {F : List Nat} (h : (b :: F).Nodup) : b ∉ F ∧ F.Nodup := List.nodup_cons.1 h

theorem taken_cons {e : Int × Bool × SV} {r : List (Int × Bool × SV)} {j : Nat} : taken (e :: r) j = ((e.2.1 && e.1 == (j : Int)) || taken r j) := by
 unfold taken; rw [List.any_cons]
theorem hole_none {hs : List (Int × Bool × SV)} {j : Nat} (h : ∀ e ∈ hs, e.1 ≠ (j : Int)) : hole hs j = none ∧ taken hs j = false := by
 induction hs with
 | nil => exact ⟨rfl, rfl⟩
 | cons e r ih =>
  obtain ⟨h1, h2⟩ := ih fun x hx => h x (by simp [hx])
  rw [hole_cons, if_neg (h e (by simp)), taken_cons, h2]
  have := h e (by simp)
  simp [h1, this]

theorem row_orel {own : Nat → Prop} : ∀ {d : Nat} {t : Ty} {x : t.den} {v : Value} {F : List Nat} {ob : LObj}, TreeR h w d t x v F → rowObj d t x = some ob → F.Nodup → (∀ b ∈ F, own b ∧ h b = none) →
  ∃ r, hdrOf r = v ∧ v.oneCell' = true ∧ (∀ b, Blk r b ↔ b ∈ F) ∧ ∀ ρ', ORel own h ρ' w r ob
 | 0, .slice u, xs, v, F, ob, e, ho, hn, hF => by
  simp only [rowObj, Option.some.injEq] at ho
  subst ho
  rcases e with ⟨rfl, h0, rfl⟩ | ⟨b, cap, cur, el, rfl, rfl, e3, e4, e5, e6, e7⟩
  ·exact ⟨.slice none 0 0, rfl, rfl, fun b => by simp [Blk], fun _ => .inl ⟨rfl, h0⟩⟩
  ·exact ⟨_, rfl, rfl, fun b' => by simp [Blk, eq_comm], fun _ => .inr ⟨b, cap, cur, el, rfl, (hF b (by simp)).1, (hF b (by simp)).2, e3, e4, e5, e6, e7⟩⟩
 | d + 1, .slice u, xs, v, F, ob, e, ho, hn, hF => by
  simp only [rowObj, Option.some.injEq] at ho
  subst ho
  rcases e with ⟨rfl, h0, rfl⟩ | ⟨b, cap, cur, el, Fs, rfl, rfl, e2, e3, e4, e5, e6, e7⟩
  ·have h0 : xs = [] := h0
   subst h0
   exact ⟨mkR (.slice none 0 0) [] [], rfl, rfl, fun b => by rw [blk_mkR], fun _ => ⟨_, _, _, rfl, List.nodup_nil, by simp, .inl ⟨rfl, rfl, rfl, rfl⟩⟩⟩
  ·refine ⟨mkR (.slice (some ⟨b, 0, none⟩) (List.length xs) cap) (cur.toList.take (List.length xs)) (b :: Fs.flatten), rfl, rfl, fun k => by rw [blk_mkR], fun _ => ⟨_, _, _, rfl, hn, hF, .inr ⟨b, cap, cur, el, Fs, rfl, rfl, e2, ?_, e3, e4, e5, e6, fun i x hi => ?_⟩⟩⟩
   ·have : cur.toList.length = cap := by rw [Array.length_toList]; exact e4
    rw [List.length_take, this]; exact Nat.min_eq_left e5
   ·obtain ⟨vi, Fi, g1, g2, g3⟩ := e7 i x hi
    have hil : i < List.length xs := (List.getElem?_eq_some_iff.1 hi).1
    refine ⟨vi, vi, Fi, g1, by rw [List.getElem?_take_of_lt hil, Array.getElem?_toList]; exact g1, g2, rfl, ?_, by rw [if_neg (by simp [taken])]; exact g3⟩
    exact row_one g3
 | 0, .int _, _, _, _, _, e, _, _, _ | 0, .bool, _, _, _, _, e, _, _, _ | 0, .str, _, _, _, _, e, _, _, _ | 0, .pair _ _, _, _, _, _, e, _, _, _ | 0, .wrap _, _, _, _, _, e, _, _, _ | 0, .arr _ _, _, _, _, _, e, _, _, _ | 0, .tree, _, _, _, _, e, _, _, _ => by cases e
 | _ + 1, .int _, _, _, _, _, e, _, _, _ | _ + 1, .bool, _, _, _, _, e, _, _, _ | _ + 1, .str, _, _, _, _, e, _, _, _ | _ + 1, .pair _ _, _, _, _, _, e, _, _, _ | _ + 1, .wrap _, _, _, _, _, e, _, _, _ | _ + 1, .arr _ _, _, _, _, _, e, _, _, _ | _ + 1, .tree, _, _, _, _, e, _, _, _ => by cases e
where
 row_one : ∀ {d : Nat} {t : Ty} {x : t.den} {v : Value} {F : List Nat}, TreeR h w d t x v F → v.oneCell' = true
  | 0, .slice u, _, _, _, e => by rcases e with ⟨rfl, _⟩ | ⟨_, _, _, _, rfl, _⟩ <;> rfl
  | d + 1, .slice u, _, _, _, e => by rcases e with ⟨rfl, _⟩ | ⟨_, _, _, _, _, rfl, _⟩ <;> rfl
  | 0, .int _, _, _, _, e | 0, .bool, _, _, _, e | 0, .str, _, _, _, e | 0, .pair _ _, _, _, _, e | 0, .wrap _, _, _, _, e | 0, .arr _ _, _, _, _, e | 0, .tree, _, _, _, e => by cases e
  | _ + 1, .int _, _, _, _, e | _ + 1, .bool, _, _, _, e | _ + 1, .str, _, _, _, e | _ + 1, .pair _ _, _, _, _, e | _ + 1, .wrap _, _, _, _, e | _ + 1, .arr _ _, _, _, _, e | _ + 1, .tree, _, _, _, e => by cases e

/-! ### a row taken out -/
theorem Rel.take {s n : Nat} {d : Nat} {t : Ty} {xs : List t.den} {hs : List (Int × Bool × SV)} {i : Int} {x : t.den} {ob : LObj} (hr : Rel C fr L a w) (hg : get L s = some (.rows d t xs hs)) (hi : Idx xs i x) (hne : ∀ e ∈ hs, e.1 ≠ i)
  (hns : nameOk s = true) (hnn : nameOk n = true) (hne2 : n ≠ s) (hlt : n < 1000 → s < 1000) (hro : rowObj d t x = some ob) :
  Rel C (killF n fr) (put (newL n ob L) s (.rows d t xs ((i, true, .slc n) :: mapHs (SV.kill n) hs))) a w := by
 obtain ⟨h, ρ, hr⟩ := hr
 obtain ⟨hi0, hix⟩ := hi
 have hit : (i.toNat : Int) = i := by omega
 obtain ⟨hd, heads, F, hρ, hF1, hF2, hR⟩ := hr.objs s _ hg
 rcases hR with ⟨_, rfl, _⟩ | ⟨b, cap, cur, el, Fs, e1, e2, e3, e4, e5, e6, e7, e8, e9⟩
 ·simp at hix
 ·obtain ⟨h0, t0⟩ := hole_none (j := i.toNat) (hs := hs) (fun e he => by rw [hit]; exact hne e he)
  obtain ⟨c, vi, Fi, g1, g2, g3, g4, g4', g5⟩ := e9 i.toNat x hix
  rw [h0] at g4
  have g4 : c = vi := g4
  subst g4
  rw [if_neg (by rw [t0]; simp)] at g5
  rw [e2] at hF1
  obtain ⟨hbF, hFn⟩ := nodup_mem_cons hF1
  obtain ⟨k1, k2, k3⟩ := flatten_set_nodup Fs i.toNat Fi hFn g3
  have hFi : ∀ k ∈ Fi, k ∈ F := fun k hk => by rw [e2]; exact List.mem_cons_of_mem _ (List.mem_flatten.2 ⟨Fi, List.mem_of_getElem? g3, hk⟩)
  -- what is left of s
  have hleft : ∀ (ρ' : Nat → Value) (sv : SV) (hs' : List (Int × Bool × SV)), (∀ e ∈ hs', e.1 ≠ i) → (∀ j, hole hs' j = none → hole hs j = none) → (∀ j, taken hs' j = taken hs j) → (∀ j sv' c, hole hs' j = some sv' → (∃ q, hole hs j = some q ∧ (SRel h ρ q.2 c → SRel h ρ' sv'.2 c))) → SRel h ρ' sv c →
    RowsR h ρ' w d t xs ((i, true, sv) :: hs') hd heads (b :: (Fs.set i.toNat []).flatten) := by
   intro ρ' sv hs' q1 q2 q3 q4 q5
   refine .inr ⟨b, cap, cur, el, Fs.set i.toNat [], e1, rfl, by simp [e3], e4, e5, e6, e7, e8, fun j y hj => ?_⟩
   obtain ⟨c', vi', Fi', p1, p2, p3, p4, p4', p5⟩ := e9 j y hj
   rw [hole_cons, taken_cons]
   by_cases hij : i = (j : Int)
   ·have hjj : j = i.toNat := by omega
    subst hjj
    have : c' = c := by rw [g1] at p1; exact (Option.some.inj p1).symm
    subst this
    refine ⟨c', vi', [], p1, p2, ?_, ?_, p4', ?_⟩
    ·rw [List.getElem?_set_self (List.getElem?_eq_some_iff.1 g3).1]
    ·rw [if_pos hij]; exact q5
    ·rw [if_pos (by simp [hit])]
   ·refine ⟨c', vi', Fi', p1, p2, ?_, ?_, p4', ?_⟩
    ·rw [List.getElem?_set_ne (by omega)]; exact p3
    ·rw [if_neg hij]
     cases hh : hole hs' j with
     | none => rw [q2 j hh] at p4; exact p4
     | some sv' =>
      obtain ⟨q, hq, himp⟩ := q4 j sv' c' hh
      rw [hq] at p4
      exact himp p4
    ·have : (i == (j : Int)) = false := by simpa using hij
     simp only [this, Bool.and_false, Bool.false_or]
     rw [q3]; exact p5
  have hgh : Ghost (ρ s) (mkR hd heads (b :: (Fs.set i.toNat []).flatten)) := by
   rw [hρ]; exact ⟨fun _ e => (by cases e), rfl, by rw [headsOf_mkR, headsOf_mkR]⟩
  have hnd1 : (b :: (Fs.set i.toNat []).flatten).Nodup := List.nodup_cons.2 ⟨fun hb => hbF (flatten_set_nil _ _ _ hb), k1⟩
  have hown1 : ∀ k ∈ (b :: (Fs.set i.toNat []).flatten), C.own k ∧ h k = none := by
   intro k hk
   refine hF2 k ?_
   rw [e2]
   rcases List.mem_cons.1 hk with rfl | hk
   ·simp
   ·exact List.mem_cons_of_mem _ (flatten_set_nil _ _ _ hk)
  have hr1 := hr.shrink (o' := .rows d t xs ((i, true, .any) :: hs)) hg hns hgh
   (fun k hk => by
    rw [hρ]; refine blk_mkR.2 ?_
    rw [e2]
    rcases List.mem_cons.1 (blk_mkR.1 hk) with rfl | hk
    ·simp
    ·exact List.mem_cons_of_mem _ (flatten_set_nil _ _ _ hk))
   ⟨hd, heads, _, rfl, hnd1, hown1, hleft _ .any hs hne (fun _ e => e) (fun _ => rfl) (fun j sv' c hh => ⟨sv', hh, fun e => srel_ghost hgh e⟩) trivial⟩
  obtain ⟨rn, r1, r2, r3, r4⟩ := row_orel (own := C.own) g5 hro k2 (fun k hk => hF2 k (hFi k hk))
  have hr2 := hr1.fresh_name n hnn rn ob w rfl rfl rfl (Nat.le_refl _) none (fun _ e => by cases e) (fun _ _ _ => rfl) (r4 _)
   (fun k hk s' o' hs' hg' hb' => by
    have hk := (r3 k).1 hk
    rw [get_put] at hg'
    by_cases hss : s = s'
    ·subst hss
     have : Blk (mkR hd heads (b :: (Fs.set i.toNat []).flatten)) k := by simpa [upd] using hb'
     rcases List.mem_cons.1 (blk_mkR.1 this) with rfl | hk'
     ·exact hbF (List.mem_flatten.2 ⟨Fi, List.mem_of_getElem? g3, hk⟩)
     ·exact k3 k hk hk'
    ·rw [if_neg hss] at hg'
     have hb' : Blk (ρ s') k := by simpa [upd, Ne.symm hss] using hb'
     exact hr.apart s s' _ o' k hss hg hg' (by rw [hρ]; exact blk_mkR.2 (hFi k hk)) hb')
   (fun hlt' k hk => hr.low s _ k hg (hlt hlt') (by rw [hρ]; exact blk_mkR.2 (hFi k ((r3 k).1 hk))))
  have hgs2 : get (newL n ob (put L s (.rows d t xs ((i, true, .any) :: hs)))) s = some (.rows d t xs (mapHs (SV.kill n) ((i, true, .any) :: hs))) := by
   rw [get_newL, if_neg hne2, get_put, if_pos rfl]; rfl
  have hρs : upd (upd ρ s (mkR hd heads (b :: (Fs.set i.toNat []).flatten))) n rn s = mkR hd heads (b :: (Fs.set i.toNat []).flatten) := by
   simp [upd, Ne.symm hne2]
  have hr3 := hr2.reput (o' := .rows d t xs ((i, true, .slc n) :: mapHs (SV.kill n) hs)) hgs2 (by
   rw [hρs]
   refine ⟨hd, heads, _, rfl, hnd1, hown1, hleft _ (.slc n) _ ?_ ?_ (fun j => taken_map) ?_ ?_⟩
   ·intro e he
    obtain ⟨e', he', rfl⟩ := List.mem_map.1 he
    exact hne e' he'
   ·intro j hj
    rw [hole_map] at hj
    cases hh : hole hs j with
    | none => rfl
    | some q => rw [hh] at hj; cases hj
   ·intro j sv' c' hj
    rw [hole_map] at hj
    obtain ⟨q, hq, rfl⟩ := Option.map_eq_some_iff.1 hj
    exact ⟨q, hq, fun e => (srel_ghost hgh e).kill⟩
   ·exact ⟨by simp [upd, r1], r2⟩)
  refine ⟨h, _, hr3.less fun k o hk => ?_⟩
  rw [get_put] at hk ⊢
  by_cases hsk : s = k
  ·rw [if_pos hsk] at hk ⊢; exact hk
  ·rw [if_neg hsk] at hk ⊢
   rw [get_newL] at hk ⊢
   by_cases hnk : n = k
   ·rw [if_pos hnk] at hk ⊢; exact hk
   ·rw [if_neg hnk] at hk ⊢
    rw [get_put, if_neg hsk]; exact hk
end
end Go.Sl

/- Slices of slices of our own, continued: rows given back, two rows put in each other's place, made data, begun with nil. -/
namespace Go.Sl
open Go

def SV.unhd (s : Nat) : SV → SV
 | .rhd r i => if r = s then .any else .rhd r i
 | x => x
def AV.unhd (s : Nat) : AV → AV
 | .one x => .one (x.unhd s)
 | .agg cs => .agg (cs.map (SV.unhd s))
 | .tup cs => .tup (cs.map (SV.unhd s))
 | .mb g b x => .mb g b (x.unhd s)
def LObj.unhd (s : Nat) : LObj → LObj
 | .cells cs => .cells (cs.map (SV.unhd s))
 | .rows d t xs hs => .rows d t xs (mapHs (SV.unhd s) hs)
 | o => o

section
variable {C : Ctx} {h : Heap} {ρ : Nat → Value} {fr : Fr} {L : LL} {a : Act} {w : World}

theorem srel_unhd {s : Nat} {r' : Value} (h1 : ∀ ad, ρ s ≠ .pointer ad) (h2 : hdrOf r' = hdrOf (ρ s)) {x : SV} {v : Value} (e : SRel h ρ x v) : SRel h (upd ρ s r') (x.unhd s) v := by
 have hh : ∀ t, hdrOf (upd ρ s r' t) = hdrOf (ρ t) := by
  intro t; unfold upd; split
  ·rename_i e; subst e; exact h2
  ·rfl
 have hp : ∀ t ad, ρ t = .pointer ad → upd ρ s r' t = .pointer ad := by
  intro t ad ht; unfold upd; split
  ·rename_i e; subst e; exact (h1 ad ht).elim
  ·exact ht
 cases x <;> try exact e
 case ptr t o =>
  obtain ⟨b, hb, rfl⟩ := e
  exact ⟨b, hp _ _ hb, rfl⟩
 case slc t => simp only [SV.unhd, SRel] at e ⊢; rw [hh]; exact e
 case eptr t z i o =>
  obtain ⟨b, hb, hi, rfl⟩ := e
  refine ⟨b, ?_, hi, rfl⟩
  rcases hb with hb | hb
  ·exact .inl (hp _ _ hb)
  ·right; rw [hh]; exact hb
 case fn f caps =>
  obtain ⟨cs, rfl, hall⟩ := e
  refine ⟨cs, rfl, ?_⟩
  induction hall with
  | nil => exact .nil
  | cons h1 _ ih => obtain ⟨b, hb, rfl⟩ := h1; exact .cons ⟨b, hp _ _ hb, rfl⟩ ih
 case sub t z i j => simp only [SV.unhd, SRel] at e ⊢; rw [hh]; exact e
 case rhd t i =>
  simp only [SV.unhd]
  split
  ·trivial
  ·rename_i hts
   simp only [SRel] at e ⊢
   have : upd ρ s r' t = ρ t := by simp [upd, hts]
   rw [this]; exact e
theorem all2_unhd {s : Nat} {r' : Value} (h1 : ∀ ad, ρ s ≠ .pointer ad) (h2 : hdrOf r' = hdrOf (ρ s)) {l : List SV} {m : List Value} (e : All2 (SRel h ρ) l m) : All2 (SRel h (upd ρ s r')) (l.map (SV.unhd s)) m := by
 induction e with
 | nil => exact .nil
 | cons e1 _ ih => exact .cons (srel_unhd h1 h2 e1) ih
theorem vrel_unhd {s : Nat} {r' : Value} (h1 : ∀ ad, ρ s ≠ .pointer ad) (h2 : hdrOf r' = hdrOf (ρ s)) {tm : Array Value} {x : AV} {v : Value} (e : VRel h ρ tm x v) : VRel h (upd ρ s r') tm (x.unhd s) v := by
 cases x
 ·exact srel_unhd h1 h2 e
 ·obtain ⟨vs, rfl, hl⟩ := e; exact ⟨vs, rfl, all2_unhd h1 h2 hl⟩
 ·obtain ⟨vs, rfl, hl⟩ := e; exact ⟨vs, rfl, all2_unhd h1 h2 hl⟩
 ·exact fun ht => srel_unhd h1 h2 (e ht)
theorem orel_unhd {own : Nat → Prop} {s : Nat} {r' q : Value} (h1 : ∀ ad, ρ s ≠ .pointer ad) (h2 : hdrOf r' = hdrOf (ρ s)) {o : LObj} (e : ORel own h ρ w q o) : ORel own h (upd ρ s r') w q (o.unhd s) := by
 cases o <;> try exact e
 case cells cs =>
  obtain ⟨b, cur, el, rfl, h1', h2', h3, h4, h5⟩ := e
  exact ⟨b, cur, el, rfl, h1', h2', h3, all2_unhd h1 h2 h4, h5⟩
 case rows d t xs hs =>
  obtain ⟨hd, heads, F, h1', h2', h3, h4⟩ := e
  exact ⟨hd, heads, F, h1', h2', h3, h4.map _ (fun _ _ _ e => e) (fun _ _ e => srel_unhd h1 h2 e) (fun _ _ => rfl)⟩
theorem RelH.regh (hr : RelH C h ρ fr L a w) {s : Nat} {o os : LObj} {r' : Value} {L' : LL} (hs : get L s = some o) (hn : nameOk s = true) (h1 : ∀ ad, ρ s ≠ .pointer ad) (h2 : hdrOf r' = hdrOf (ρ s))
  (hL : ∀ k o', get L' k = some o' → (k = s ∧ o' = os) ∨ (k ≠ s ∧ ∃ z, get L k = some z ∧ o' = z.unhd s)) (ho : ORel C.own h (upd ρ s r') w r' os)
  (hb : ∀ b, Blk r' b → ∃ k z, get L k = some z ∧ Blk (ρ k) b ∧ (k = s ∨ get L' k = none) ∧ (s < 1000 → k < 1000)) : RelH C h (upd ρ s r') (mapv (AV.unhd s) fr) L' a w where
 size := hr.size
 defers := hr.defers
 fr := fun t av ht => by
  rw [get_mapv] at ht
  obtain ⟨y, hy, rfl⟩ := Option.map_eq_some_iff.1 ht
  exact ⟨(hr.fr t y hy).1, vrel_unhd h1 h2 (hr.fr t y hy).2⟩
 heap := hr.heap
 objs := fun t x hx => by
  rcases hL t x hx with ⟨rfl, rfl⟩ | ⟨hts, z, hz, rfl⟩
  ·simpa [upd] using ho
  ·have : upd ρ s r' t = ρ t := by simp [upd, hts]
   rw [this]
   exact orel_unhd h1 h2 (hr.objs t z hz)
 apart := fun t t' x x' b hne hx hx' hbt hbt' => by
  have key : ∀ q q' y y', q ≠ q' → get L' q = some y → get L' q' = some y' → q = s → Blk (upd ρ s r' q) b → ¬ Blk (upd ρ s r' q') b := by
   intro q q' y y' hqq hy hy' hqs hbq hbq'
   subst hqs
   have hq's : q' ≠ q := fun e => hqq e.symm
   have e1 : upd ρ q r' q = r' := by simp [upd]
   have e2 : upd ρ q r' q' = ρ q' := by simp [upd, hq's]
   rw [e1] at hbq
   rw [e2] at hbq'
   obtain ⟨k, z, hz, hbk, hk, _⟩ := hb b hbq
   rcases hL q' y' hy' with ⟨e, _⟩ | ⟨_, z', hz', _⟩
   ·exact hq's e
   ·have hkq : k ≠ q' := by
     rcases hk with rfl | hk
     ·exact fun e => hq's e.symm
     ·rintro rfl; rw [hk] at hy'; cases hy'
    exact hr.apart k q' z z' b hkq hz hz' hbk hbq'
  by_cases hts : t = s
  ·exact key t t' x x' hne hx hx' hts hbt hbt'
  ·by_cases hts' : t' = s
   ·exact key t' t x' x (Ne.symm hne) hx' hx hts' hbt' hbt
   ·rcases hL t x hx with ⟨e, _⟩ | ⟨_, z, hz, _⟩
    ·exact hts e
    ·rcases hL t' x' hx' with ⟨e, _⟩ | ⟨_, z', hz', _⟩
     ·exact hts' e
     ·have e1 : upd ρ s r' t = ρ t := by simp [upd, hts]
      have e2 : upd ρ s r' t' = ρ t' := by simp [upd, hts']
      rw [e1] at hbt
      rw [e2] at hbt'
      exact hr.apart t t' z z' b hne hz hz' hbt hbt'
 ext := hr.ext
 fresh := hr.fresh
 os := hr.os
 tape := hr.tape
 output := hr.output
 grow := hr.grow
 frame := hr.frame
 xs := hr.xs
 pin := fun t v hv => by
  have hts : t ≠ s := by rintro rfl; rw [hr.pinlo _ hn] at hv; cases hv
  simp [upd, hts, hr.pin t v hv]
 pinlo := hr.pinlo
 low := fun t x b hx hlt hbt => by
  rcases hL t x hx with ⟨rfl, rfl⟩ | ⟨hts, z, hz, rfl⟩
  ·obtain ⟨k, z, hz, hbk, _, hlo⟩ := hb b (by simpa [upd] using hbt)
   exact hr.low k z b hz (hlo hlt) hbk
  ·exact hr.low t z b hz hlt (by simpa [upd, hts] using hbt)

theorem orel_row {own : Nat → Prop} {d : Nat} {t : Ty} {ob : LObj} {x : t.den} {r : Value} (ho : rowOf d t ob = some x) (e : ORel own h ρ w r ob) : ∃ F, TreeR h w d t x (hdrOf r) F ∧ F.Nodup ∧ (∀ b, Blk r b ↔ b ∈ F) ∧ ∀ b ∈ F, own b ∧ h b = none := by
 unfold rowOf at ho
 split at ho
 ·rename_i u y
  split at ho
  ·rename_i hc
   obtain ⟨rfl, rfl⟩ := hc
   obtain rfl := Option.some.inj ho
   rcases e with ⟨rfl, rfl⟩ | ⟨b, cap, cur, el, rfl, h1, h2, h3, h4, h5, h6, h7⟩
   ·exact ⟨[], .inl ⟨rfl, rfl, rfl⟩, List.nodup_nil, fun b => by simp [Blk], by simp⟩
   ·exact ⟨[b], .inr ⟨b, cap, cur, el, rfl, rfl, h3, h4, h5, h6, h7⟩, by simp, fun b' => by simp [Blk, eq_comm], by simp [h1, h2]⟩
  ·cases ho
 ·rename_i d' u y
  split at ho
  ·rename_i hc
   obtain ⟨rfl, rfl⟩ := hc
   obtain rfl := Option.some.inj ho
   obtain ⟨hd, heads, F, rfl, h1, h2, h3⟩ := e
   exact ⟨F, by rw [hdrOf_mkR]; exact h3.tree, h1, fun b => blk_mkR, h2⟩
  ·cases ho
 ·cases ho

/-! ### a row given back -/
def firstSame : List (Int × Bool × SV) → List Bool → Option SV
 | e :: hs, b :: same => if b then some e.2.2 else firstSame hs same
 | _, _ => none
def restHs : List (Int × Bool × SV) → List Bool → List (Int × Bool × SV)
 | e :: hs, b :: same => if b then restHs hs same else e :: restHs hs same
 | _, _ => []
def keysOk (i : Int) : List (Int × Bool × SV) → List Bool → List Prop
 | e :: hs, b :: same => (if b then e.1 = i else e.1 ≠ i) :: keysOk i hs same
 | _, _ => []
def anyTaken : List (Int × Bool × SV) → List Bool → Bool
 | e :: hs, b :: same => (b && e.2.1) || anyTaken hs same
 | _, _ => false
theorem keys_at {i : Int} : ∀ {hs : List (Int × Bool × SV)} {same : List Bool} (hlen : hs.length = same.length) (hk : ∀ p ∈ keysOk i hs same, p) (j : Nat),
  (i = (j : Int) → (∀ sv, firstSame hs same = some sv → ∃ b, hole hs j = some (b, sv)) ∧ hole (restHs hs same) j = none ∧ taken (restHs hs same) j = false ∧ (anyTaken hs same = true → taken hs j = true)) ∧
  (i ≠ (j : Int) → hole (restHs hs same) j = hole hs j ∧ taken (restHs hs same) j = taken hs j)
 | [], [], _, _, j => ⟨fun _ => ⟨fun sv e => (by cases e), rfl, rfl, fun e => (by cases e)⟩, fun _ => ⟨rfl, rfl⟩⟩
 | e :: hs, b :: same, hlen, hk, j => by
  have ih := keys_at (i := i) (hs := hs) (same := same) (by simpa using hlen) (fun p hp => hk p (by simp [keysOk, hp])) j
  have h0 := hk (if b then e.1 = i else e.1 ≠ i) (by simp [keysOk])
  cases b with
  | true =>
   simp only [if_true] at h0
   refine ⟨fun hij => ?_, fun hij => ?_⟩
   ·obtain ⟨_, q2, q3, _⟩ := ih.1 hij
    refine ⟨fun sv hsv => ?_, ?_, ?_, fun _ => ?_⟩
    ·simp only [firstSame, if_true, Option.some.injEq] at hsv
     subst hsv
     exact ⟨e.2.1, by rw [hole_cons, if_pos (h0.trans hij)]⟩
    ·simpa [restHs] using q2
    ·simpa [restHs] using q3
    ·rw [taken_cons]
     cases he : e.2.1 with
     | true => simp [h0, hij]
     | false =>
      rename_i hany
      simp only [anyTaken, he, Bool.and_false, Bool.false_or] at hany
      simp [(ih.1 hij).2.2.2 hany]
   ·obtain ⟨q1, q2⟩ := ih.2 hij
    have hne : e.1 ≠ (j : Int) := fun e' => hij (h0.symm.trans e')
    rw [hole_cons, if_neg hne, taken_cons]
    simp only [restHs, if_true]
    refine ⟨q1, ?_⟩
    have : (e.1 == (j : Int)) = false := by simpa using hne
    simp [this, q2]
  | false =>
   simp only [Bool.false_eq_true, if_false] at h0
   refine ⟨fun hij => ?_, fun hij => ?_⟩
   ·obtain ⟨q1, q2, q3, q4⟩ := ih.1 hij
    have hne : e.1 ≠ (j : Int) := fun e' => h0 (e'.trans hij.symm)
    have hb : (e.1 == (j : Int)) = false := by simpa using hne
    refine ⟨fun sv hsv => ?_, ?_, ?_, fun hany => ?_⟩
    ·simp only [firstSame, Bool.false_eq_true, if_false] at hsv
     obtain ⟨b, hb'⟩ := q1 sv hsv
     exact ⟨b, by rw [hole_cons, if_neg hne]; exact hb'⟩
    ·simp only [restHs, Bool.false_eq_true, if_false]; rw [hole_cons, if_neg hne]; exact q2
    ·simp only [restHs, Bool.false_eq_true, if_false]; rw [taken_cons]; simp [hb, q3]
    ·rw [taken_cons]
     simp only [anyTaken, Bool.false_and, Bool.false_or] at hany
     simp [q4 hany]
   ·obtain ⟨q1, q2⟩ := ih.2 hij
    simp only [restHs, Bool.false_eq_true, if_false]
    rw [hole_cons, hole_cons, taken_cons, taken_cons, q1, q2]
    exact ⟨rfl, rfl⟩
 | [], _ :: _, hlen, _, _ => by simp at hlen
 | _ :: _, [], hlen, _, _ => by simp at hlen

theorem Rel.give {s n d : Nat} {t : Ty} {xs : List t.den} {hs : List (Int × Bool × SV)} {i : Int} {x : t.den} {ob : LObj} {same : List Bool} (hr : Rel C fr L a w) (hg : get L s = some (.rows d t xs hs)) (hgn : get L n = some ob)
  (hro : rowOf d t ob = some x) (hne : n ≠ s) (hns : nameOk s = true) (hlt : s < 1000 → n < 1000) (hin : InR i (List.length xs)) (hlen : hs.length = same.length) (hk : ∀ p ∈ keysOk i hs same, p) (hf : firstSame hs same = some (.slc n)) (ht : anyTaken hs same = true) :
  Rel C (mapv (AV.unhd s) fr) (put (mapv (LObj.unhd s) (del L n)) s (.rows d t (xs.set i.toNat x) (mapHs (SV.unhd s) (restHs hs same)))) a w := by
 obtain ⟨h, ρ, hr⟩ := hr
 have hi0 := hin.1
 have hit : (i.toNat : Int) = i := by omega
 have hil := inR_lt hin
 obtain ⟨hd, heads, F, hρ, hF1, hF2, hR⟩ := hr.objs s _ hg
 rcases hR with ⟨_, rfl, _⟩ | ⟨b, cap, cur, el, Fs, e1, e2, e3, e4, e5, e6, e7, e8, e9⟩
 ·simp at hil
 ·obtain ⟨Fn, n1, n2, n3, n4⟩ := orel_row hro (hr.objs n _ hgn)
  obtain ⟨c, vi, Fi, g1, g2, g3, g4, g4', g5⟩ := e9 i.toNat _ (List.getElem?_eq_getElem hil)
  obtain ⟨q1, q2, q3, q4⟩ := (keys_at hlen hk i.toNat).1 hit.symm
  obtain ⟨bb, hh⟩ := q1 _ hf
  rw [hh] at g4
  have hc : c = hdrOf (ρ n) := g4.1
  rw [if_pos (q4 ht)] at g5
  subst g5
  rw [e2] at hF1
  obtain ⟨hbF, hFn⟩ := nodup_mem_cons hF1
  have hdis : ∀ k ∈ Fn, k ∉ F := fun k hk hkF => hr.apart n s _ _ k hne hgn hg ((n3 k).2 hk) (by rw [hρ]; exact blk_mkR.2 hkF)
  obtain ⟨f1, f2⟩ := flatten_fill Fs i.toNat Fn hFn g3 n2 (fun k hk hk' => hdis k hk (by rw [e2]; exact List.mem_cons_of_mem _ hk'))
  have hnd : (b :: (Fs.set i.toNat Fn).flatten).Nodup := List.nodup_cons.2 ⟨fun hb => by
   rcases (f2 b).1 hb with hb | hb
   ·exact hdis b hb (by rw [e2]; simp)
   ·exact hbF hb, f1⟩
  have h1 : ∀ ad, ρ s ≠ .pointer ad := by intro ad; rw [hρ]; exact fun e => by cases e
  have h2 : hdrOf (mkR hd (heads.set i.toNat c) (b :: (Fs.set i.toNat Fn).flatten)) = hdrOf (ρ s) := by rw [hρ, hdrOf_mkR, hdrOf_mkR]
  refine ⟨h, _, hr.regh (os := .rows d t (xs.set i.toNat x) (mapHs (SV.unhd s) (restHs hs same))) hg hns h1 h2 (fun k o' hk' => ?_) ⟨hd, heads.set i.toNat c, b :: (Fs.set i.toNat Fn).flatten, rfl, hnd, fun k hk' => ?_, .inr ⟨b, cap, cur, el, Fs.set i.toNat Fn, by rw [List.length_set]; exact e1, rfl, by simp [e3], by simp [e4], e5, e6, by simpa using e7, by simpa using e8, fun j y hj => ?_⟩⟩ (fun k hk' => ?_)⟩
  ·rw [get_put] at hk'
   by_cases hsk : s = k
   ·rw [if_pos hsk] at hk'; exact .inl ⟨hsk.symm, (Option.some.inj hk').symm⟩
   ·rw [if_neg hsk, get_mapv, get_del] at hk'
    split at hk'
    ·cases hk'
    ·obtain ⟨z, hz, rfl⟩ := Option.map_eq_some_iff.1 hk'
     exact .inr ⟨Ne.symm hsk, z, hz, rfl⟩
  ·rcases List.mem_cons.1 hk' with rfl | hk'
   ·exact hF2 _ (by rw [e2]; simp)
   ·rcases (f2 k).1 hk' with hk' | hk'
    ·exact n4 k hk'
    ·exact hF2 k (by rw [e2]; exact List.mem_cons_of_mem _ hk')
  ·rw [hole_map, taken_map]
   by_cases hij : i = (j : Int)
   ·have hjj : j = i.toNat := by omega
    subst hjj
    rw [List.getElem?_set_self hil] at hj
    obtain rfl := Option.some.inj hj
    refine ⟨c, c, Fn, g1, by rw [List.getElem?_set_self (by omega)], by rw [List.getElem?_set_self (by omega)], by rw [q2]; rfl, g4', ?_⟩
    rw [if_neg (by rw [q3]; simp), hc]
    exact n1
   ·rw [List.getElem?_set_ne (by omega)] at hj
    obtain ⟨c', vi', Fi', p1, p2, p3, p4, p4', p5⟩ := e9 j y hj
    obtain ⟨r1, r2⟩ := (keys_at hlen hk j).2 hij
    refine ⟨c', vi', Fi', p1, by rw [List.getElem?_set_ne (by omega)]; exact p2, by rw [List.getElem?_set_ne (by omega)]; exact p3, ?_, p4', by rw [r2]; exact p5⟩
    rw [r1]
    cases hq : hole hs j with
    | none => rw [hq] at p4; exact p4
    | some sv => rw [hq] at p4; exact srel_unhd h1 h2 p4
  ·rcases List.mem_cons.1 (blk_mkR.1 hk') with rfl | hk'
   ·exact ⟨s, _, hg, by rw [hρ, e2]; exact blk_mkR.2 (by simp), .inl rfl, fun e => e⟩
   ·rcases (f2 k).1 hk' with hk' | hk'
    ·exact ⟨n, _, hgn, (n3 k).2 hk', .inr (by rw [get_put, if_neg hne.symm, get_mapv, get_del, if_pos rfl]; rfl), hlt⟩
    ·exact ⟨s, _, hg, by rw [hρ, e2]; exact blk_mkR.2 (List.mem_cons_of_mem _ hk'), .inl rfl, fun e => e⟩

/-! ### two rows in each other's place -/
end
end Go.Sl

/- Slices of slices of our own: the rules for printed proofs. -/
namespace Go.Sl
open Go

def gT (o : Option (Fr × LL × Prop)) (fr : Fr) (L : LL) : Fr × LL := match o with | some r => (r.1, r.2.1) | none => (fr, L)

section
variable {C : Ctx} {fr : Fr} {L : LL} {a : Act} {w : World}

theorem Rel.freezeR {s : Nat} {t : Ty} {xs : List t.den} {o₀ : LObj} (hr : Rel C fr L a w) (hs : get L s = some o₀) (ho₀ : o₀.seqd = some ⟨t, xs⟩) (hlt : s < 1000) :
  Rel C (mapv (AV.frz s t xs) fr) (mapv (LObj.frz s t xs) (del L s)) a w := by
 obtain ⟨h, ρ, hr⟩ := hr
 have hlow : ∀ b, Blk (ρ s) b → C.w0.heap.size ≤ b := fun b hb => hr.low s _ b hs hlt hb
 obtain ⟨h', hext, hheap, hrep0, hnew0⟩ := hr.borrow [s]
 have hrep := hrep0 s t xs o₀ (by simp) hs ho₀
 have hnew : ∀ b, h b = none → h' b ≠ none → Blk (ρ s) b := by
  intro b h0 h1
  obtain ⟨s', o', hm, _, hb⟩ := hnew0 b h0 h1
  simp only [List.mem_singleton] at hm
  subst hm; exact hb
 refine ⟨h', ρ, ?_⟩
 have getdel : ∀ t' o', get (mapv (LObj.frz s t xs) (del L s)) t' = some o' → s ≠ t' ∧ ∃ o, get L t' = some o ∧ o' = o.frz s t xs := by
  intro t' o' ho'
  rw [get_mapv, get_del] at ho'
  split at ho'
  ·simp at ho'
  ·rename_i hne
   obtain ⟨o, ho, rfl⟩ := Option.map_eq_some_iff.1 ho'
   exact ⟨hne, o, ho, rfl⟩
 refine ⟨hr.size, hr.defers, ?_, hheap, ?_, ?_, hr.ext.trans hext, ?_, hr.os, hr.tape, hr.output, hr.grow, hr.frame, hr.xs, hr.pin, hr.pinlo, ?_⟩
 ·intro t' av ht
  rw [get_mapv] at ht
  obtain ⟨y, hy, rfl⟩ := Option.map_eq_some_iff.1 ht
  obtain ⟨hlt', hrel⟩ := hr.fr t' y hy
  refine ⟨hlt', ?_⟩
  cases y with
  | one x => exact SRel.frz hext hrep hrel
  | agg cs =>
   obtain ⟨vs, hv, hall⟩ := hrel
   exact ⟨vs, hv, all2_frz hext hrep hall⟩
  | tup cs =>
   obtain ⟨vs, hv, hall⟩ := hrel
   exact ⟨vs, hv, all2_frz hext hrep hall⟩
  | mb g b x => exact fun ht => SRel.frz hext hrep (hrel ht)
 ·intro t' o' ho'
  obtain ⟨hne, o, ho, rfl⟩ := getdel t' o' ho'
  have hob := hr.objs t' o ho
  have hn : ∀ b, Blk (ρ t') b → h' b = none := by
   intro b hb
   cases hq : h' b with
   | none => rfl
   | some q =>
    have := hnew b (hob.block hb).2.1 (by simp [hq])
    exact (hr.apart s t' _ o b hne hs ho this hb).elim
  have hob' := hob.toHeap hext (fun _ _ => rfl) hn
  cases o with
  | one u x => exact hob'
  | seq u ys => exact hob'
  | map u v m => exact hob'
  | raw b o => exact hob'
  | cells cs =>
   obtain ⟨b, cur, el, h1, h2, h3, h4, h5, h6⟩ := hob
   exact ⟨b, cur, el, h1, h2, hn b (by rw [h1]; rfl), h4, all2_frz hext hrep h5, h6⟩
  | rows d u ys hls =>
   obtain ⟨hd, heads, F, e1, e2, e3, e4⟩ := hob
   exact ⟨hd, heads, F, e1, e2, fun b hb => ⟨(e3 b hb).1, hn b (by rw [e1]; exact blk_mkR.2 hb)⟩, e4.map _ (fun _ _ _ e => rep_mono hext _ _ _ e) (fun _ _ e => SRel.frz hext hrep e) (fun _ _ => rfl)⟩
 ·intro t1 t2 o1 o2 b hne h1 h2 hb
  obtain ⟨_, p1, hp1, rfl⟩ := getdel t1 o1 h1
  obtain ⟨_, p2, hp2, rfl⟩ := getdel t2 o2 h2
  exact hr.apart t1 t2 p1 p2 b hne hp1 hp2 hb
 ·intro b h0 hb
  cases hq : h' b with
  | none => rfl
  | some q =>
   have hn := hr.fresh b h0 hb
   have := hlow b (hnew b hn (by simp [hq]))
   omega
 ·intro t' o' b ho' hlt' hb
  obtain ⟨_, p1, hp1, rfl⟩ := getdel t' o' ho'
  exact hr.low t' p1 b hp1 hlt' hb

/-! ### what the rules read off -/
def takeF (fr : Fr) (L : LL) (s n : Nat) (i : Int) (x : SV) : Option (Fr × LL × Prop) :=
 match get L s, x with
 | some (.rows d t xs hs), .dat u y =>
  if hu : u = t then
   match rowObj d t (hu ▸ y) with
   | some ob => if (nameOk s && nameOk n && !(n == s) && (!(decide (n < 1000)) || decide (s < 1000))) = true then
     some (killF n fr, put (newL n ob L) s (.rows d t xs ((i, true, .slc n) :: mapHs (SV.kill n) hs)), Idx xs i (hu ▸ y) ∧ AllP (hs.map fun e => e.1 ≠ i))
    else none
   | none => none
  else none
 | _, _ => none
theorem takeF_ok {s n : Nat} {i : Int} {x : SV} {r : Fr × LL × Prop} (hr : Rel C fr L a w) (h : takeF fr L s n i x = some r) (hp : r.2.2) : Rel C r.1 r.2.1 a w := by
 unfold takeF at h
 split at h
 ·rename_i d t xs hs u y hg
  split at h
  ·rename_i hu
   subst hu
   split at h
   ·rename_i ob hob
    split at h
    ·rename_i hc
     obtain rfl := Option.some.inj h
     simp only [Bool.and_eq_true, Bool.or_eq_true, Bool.not_eq_true', beq_eq_false_iff_ne, decide_eq_false_iff_not, decide_eq_true_eq] at hc
     obtain ⟨⟨⟨h1, h2⟩, h3⟩, h4⟩ := hc
     exact hr.take hg hp.1 (fun e he => hp.2.mem _ (List.mem_map.2 ⟨e, he, rfl⟩)) h1 h2 h3 (fun hl => h4.elim (fun q => (q hl).elim) id) hob
    ·cases h
   ·cases h
  ·cases h
 ·cases h
def giveF (fr : Fr) (L : LL) (s : Nat) (i : Int) (same : List Bool) : Option (Fr × LL × Prop) :=
 match get L s with
 | some (.rows d t xs hs) =>
  match firstSame hs same with
  | some (.slc n) =>
   match get L n with
   | some ob =>
    match rowOf d t ob with
    | some x => if (!(n == s) && nameOk s && (!(decide (s < 1000)) || decide (n < 1000)) && Nat.beq hs.length same.length && anyTaken hs same) = true then
      some (mapv (AV.unhd s) fr, put (mapv (LObj.unhd s) (del L n)) s (.rows d t (List.set xs i.toNat x) (mapHs (SV.unhd s) (restHs hs same))), InR i (List.length xs) ∧ AllP (keysOk i hs same))
     else none
    | none => none
   | none => none
  | _ => none
 | _ => none
theorem giveF_ok {s : Nat} {i : Int} {same : List Bool} {r : Fr × LL × Prop} (hr : Rel C fr L a w) (h : giveF fr L s i same = some r) (hp : r.2.2) : Rel C r.1 r.2.1 a w := by
 unfold giveF at h
 split at h
 ·rename_i d t xs hs hg
  split at h
  ·rename_i n hf
   split at h
   ·rename_i ob hob
    split at h
    ·rename_i x hx
     split at h
     ·rename_i hc
      obtain rfl := Option.some.inj h
      simp only [Bool.and_eq_true, Bool.or_eq_true, Bool.not_eq_true', beq_eq_false_iff_ne, decide_eq_false_iff_not, decide_eq_true_eq, Nat.beq_eq_true_eq] at hc
      obtain ⟨⟨⟨⟨h1, h2⟩, h3⟩, h4⟩, h5⟩ := hc
      exact hr.give hg hob hx h1 h2 (fun hl => h3.elim (fun q => (q hl).elim) id) hp.1 (Nat.eq_of_beq_eq_true h4) (fun p hp' => hp.2.mem p hp') hf h5
     ·cases h
    ·cases h
   ·cases h
  ·cases h
 ·cases h
theorem InR.idx {α : Type} {xs : List α} {i : Int} {x : α} (h : Idx xs i x) : InR i (List.length xs) := by
 obtain ⟨h0, h1⟩ := h
 have := (List.getElem?_eq_some_iff.1 h1).1
 exact ⟨h0, by omega⟩
def frzRF (fr : Fr) (L : LL) (s : Nat) : Option (Fr × LL) :=
 match (get L s).bind LObj.seqd with
 | some ⟨t, xs⟩ => if s < 1000 then some (mapv (AV.frz s t xs) fr, mapv (LObj.frz s t xs) (del L s)) else none
 | none => none
def frzRT (fr : Fr) (L : LL) (s : Nat) : Fr × LL := (frzRF fr L s).getD (fr, L)
theorem frzRF_ok {s : Nat} (hr : Rel C fr L a w) (h : (frzRF fr L s).isSome = true) : Rel C (frzRT fr L s).1 (frzRT fr L s).2 a w := by
 unfold frzRT
 unfold frzRF at h ⊢
 split at h
 ·rename_i t xs hg
  split at h
  ·rename_i hlt
   rw [if_pos hlt]
   obtain ⟨o, ho, hq⟩ := Option.bind_eq_some_iff.1 hg
   exact hr.freezeR ho hq hlt
  ·cases h
 ·cases h

theorem RelH.nilRows {h : Heap} {ρ : Nat → Value} (hr : RelH C h ρ fr L a w) (s d : Nat) (t : Ty) (hnm : nameOk s = true) : RelH C h (upd ρ s (mkR (.slice none 0 0) [] [])) (killF s fr) (newL s (.rows d t [] []) L) a w :=
 hr.fresh_name s hnm _ _ _ rfl rfl rfl (Nat.le_refl _) none (fun b hb => by cases hb) (fun _ _ _ => rfl) ⟨_, _, _, rfl, List.nodup_nil, by simp, .inl ⟨rfl, rfl, rfl, rfl⟩⟩ (fun b hb => by have := blk_mkR.1 hb; cases this) (fun _ b hb => by have := blk_mkR.1 hb; cases this)
def cellOwnR (L : LL) (s i t d : Nat) (u : Ty) : Option LL :=
 match get L s with
 | some (.cells cs) => match cs[i]? with
  | some .nilS => if t < 1000 ∧ s ≠ t then some (put (newL t (.rows d u [] []) L) s (.cells ((cs.map (SV.kill t)).set i (.slc t)))) else none
  | _ => none
 | _ => none
def cellOwnRT (L : LL) (s i t d : Nat) (u : Ty) : LL := (cellOwnR L s i t d u).getD L
theorem Rel.cellOwnR {s i t d : Nat} {u : Ty} {L' : LL} (hr : Rel C fr L a w) (h : Sl.cellOwnR L s i t d u = some L') : Rel C (killF t fr) L' a w := by
 unfold Sl.cellOwnR at h
 split at h
 ·rename_i cs hs
  split at h
  ·rename_i hx
   split at h
   ·rename_i hc
    simp only [Option.some.injEq] at h; subst h
    obtain ⟨hh, ρ, hr⟩ := hr
    have hnm : nameOk t = true := by simp [nameOk, hc.1]
    have hnew := hr.nilRows t d u hnm
    have hs2 : get (newL t (.rows d u [] []) L) s = some (.cells (cs.map (SV.kill t))) := by
     rw [get_newL, if_neg (fun e => hc.2 e.symm), hs]; rfl
    have hx2 : (cs.map (SV.kill t))[i]? = some .nilS := by
     rw [List.getElem?_map, hx]; rfl
    obtain ⟨b, cur, e, h1, h2, h3, h4, h5, h6⟩ := hnew.objs _ _ hs2
    refine ⟨hh, _, hnew.reput hs2 ⟨b, cur, e, h1, h2, h3, h4, all2_set i h5 hx2 fun v hv => ?_, h6⟩⟩
    have hv : v = .slice none 0 0 := hv
    subst hv
    exact ⟨by simp [upd]; rfl, rfl⟩
   ·cases h
  ·cases h
 ·cases h
end

section
variable {C : Ctx} {fr : Fr} {L : LL} {Q : Post} {c : Code} {ops : Array Oper} {j : Nat} {e : Exit} {p : Prop}
theorem ghost_map {o : Option (Fr × LL × Prop)} (h : o.map (·.2.2) = some p) : ∃ r, o = some r ∧ r.2.2 = p := by
 obtain ⟨r, h1, h2⟩ := Option.map_eq_some_iff.1 h
 exact ⟨r, h1, h2⟩
theorem take_go {P : Fr × LL → Prop} {s n : Nat} {i : Int} {x : SV} (h : (takeF fr L s n i x).map (·.2.2) = some p) (hp : p) (hP : P (gT (takeF fr L s n i x) fr L)) : ∃ f l, P (f, l) ∧ ∀ a w, Rel C fr L a w → Rel C f l a w := by
 obtain ⟨r, h1, rfl⟩ := ghost_map h
 rw [h1] at hP
 exact ⟨_, _, hP, fun a w hr => takeF_ok hr h1 hp⟩
theorem give_go {P : Fr × LL → Prop} {s : Nat} {i : Int} {same : List Bool} (h : (giveF fr L s i same).map (·.2.2) = some p) (hp : p) (hP : P (gT (giveF fr L s i same) fr L)) : ∃ f l, P (f, l) ∧ ∀ a w, Rel C fr L a w → Rel C f l a w := by
 obtain ⟨r, h1, rfl⟩ := ghost_map h
 rw [h1] at hP
 exact ⟨_, _, hP, fun a w hr => giveF_ok hr h1 hp⟩
theorem W_take (s n : Nat) (i : Int) (x : SV) (h : (takeF fr L s n i x).map (·.2.2) = some p) (hp : p) (hw : W C c Q (gT (takeF fr L s n i x) fr L).1 (gT (takeF fr L s n i x) fr L).2) : W C c Q fr L := by
 obtain ⟨f, l, h1, h2⟩ := take_go (C := C) (P := fun q => W C c Q q.1 q.2) h hp hw
 exact fun a w hr => h1 a w (h2 a w hr)
theorem WO_take (s n : Nat) (i : Int) (x : SV) (h : (takeF fr L s n i x).map (·.2.2) = some p) (hp : p) (hw : WO C ops j Q (gT (takeF fr L s n i x) fr L).1 (gT (takeF fr L s n i x) fr L).2) : WO C ops j Q fr L := by
 obtain ⟨f, l, h1, h2⟩ := take_go (C := C) (P := fun q => WO C ops j Q q.1 q.2) h hp hw
 exact fun a w hr => h1 a w (h2 a w hr)
theorem WO_give (s : Nat) (i : Int) (same : List Bool) (h : (giveF fr L s i same).map (·.2.2) = some p) (hp : p) (hw : WO C ops j Q (gT (giveF fr L s i same) fr L).1 (gT (giveF fr L s i same) fr L).2) : WO C ops j Q fr L := by
 obtain ⟨f, l, h1, h2⟩ := give_go (C := C) (P := fun q => WO C ops j Q q.1 q.2) h hp hw
 exact fun a w hr => h1 a w (h2 a w hr)
theorem W_frzR (s : Nat) (h : (frzRF fr L s).isSome = true) (hw : W C c Q (frzRT fr L s).1 (frzRT fr L s).2) : W C c Q fr L := fun a w hr => hw a w (frzRF_ok hr h)
theorem WO_frzR (s : Nat) (h : (frzRF fr L s).isSome = true) (hw : WO C ops j Q (frzRT fr L s).1 (frzRT fr L s).2) : WO C ops j Q fr L := fun a w hr => hw a w (frzRF_ok hr h)
theorem W_cellownR (s i t d : Nat) (u : Ty) (h : (cellOwnR L s i t d u).isSome = true) (hw : W C c Q (killF t fr) (cellOwnRT L s i t d u)) : W C c Q fr L := by
 obtain ⟨f, hf⟩ := Option.isSome_iff_exists.1 h
 unfold cellOwnRT at hw; rw [hf] at hw
 exact fun a w hr => hw a w (hr.cellOwnR hf)
end
theorem InR.last {α : Type} (xs ys : List α) (h : 0 < ys.length) : InR (List.length xs : Int) (List.length (xs ++ ys)) := ⟨by omega, by rw [List.length_append]; omega⟩
theorem InR.set {α : Type} {xs : List α} {i : Int} {k : Nat} {y : α} (h : InR i (List.length xs)) : InR i (List.length (List.set xs k y)) := by
 rw [List.length_set]; exact h
end Go.Sl

/- Maps: the nil map as an object; a loop over a map. -/
namespace Go.Sl
open Go
def cellOwnM (L : LL) (s i t : Nat) (u v : Ty) : Option LL :=
 match get L s with
 | some (.cells cs) => match cs[i]? with
  | some .nilM => if t < 1000 ∧ s ≠ t then some (put (newL t (.map u v none) L) s (.cells ((cs.map (SV.kill t)).set i (.slc t)))) else none
  | _ => none
 | _ => none
def cellOwnMT (L : LL) (s i t : Nat) (u v : Ty) : LL := (cellOwnM L s i t u v).getD L
section
variable {C : Ctx} {fr : Fr} {L : LL} {a : Act} {w : World}
theorem Rel.cellOwnM {s i t : Nat} {u v : Ty} {L' : LL} (hr : Rel C fr L a w) (h : Sl.cellOwnM L s i t u v = some L') : Rel C (killF t fr) L' a w := by
 unfold Sl.cellOwnM at h
 split at h
 ·rename_i cs hs
  split at h
  ·rename_i hx
   split at h
   ·rename_i hc
    simp only [Option.some.injEq] at h; subst h
    obtain ⟨hh, ρ, hr⟩ := hr
    have hnm : nameOk t = true := by simp [nameOk, hc.1]
    have hnew := hr.fresh_name t hnm (.map none) (.map u v none) w rfl rfl rfl (Nat.le_refl _) none (fun b hb => by cases hb) (fun _ _ _ => rfl) (.inl ⟨rfl, rfl⟩) (fun b hb => by simp [Blk] at hb) (fun _ b hb => by simp [Blk] at hb)
    have hs2 : get (newL t (.map u v none) L) s = some (.cells (cs.map (SV.kill t))) := by
     rw [get_newL, if_neg (fun e => hc.2 e.symm), hs]; rfl
    have hx2 : (cs.map (SV.kill t))[i]? = some .nilM := by
     rw [List.getElem?_map, hx]; rfl
    refine ⟨hh, _, { hnew with objs := fun r o ho => ?_, apart := fun r r' o o' b hne ho ho' => ?_, low := fun r o b ho => ?_ }⟩
    ·rw [get_put] at ho
     split at ho
     ·rename_i hst; subst hst
      simp only [Option.some.injEq] at ho; subst ho
      obtain ⟨b, cur, e, h1, h2, h3, h4, h5, h6⟩ := hnew.objs _ _ hs2
      refine ⟨b, cur, e, h1, h2, h3, h4, all2_set i h5 hx2 fun v hv => ?_, h6⟩
      have hv : v = .map none := hv
      subst hv
      exact ⟨by simp [upd]; rfl, rfl⟩
     ·exact hnew.objs r o ho
    ·have key : ∀ r o, get (put (newL t (.map u v none) L) s (.cells ((cs.map (SV.kill t)).set i (.slc t)))) r = some o → ∃ o', get (newL t (.map u v none) L) r = some o' := by
      intro r o ho
      rw [get_put] at ho
      split at ho
      ·rename_i hst; subst hst; exact ⟨_, hs2⟩
      ·exact ⟨o, ho⟩
     obtain ⟨p, hp⟩ := key _ _ ho
     obtain ⟨p', hp'⟩ := key _ _ ho'
     exact hnew.apart r r' p p' b hne hp hp'
    ·rw [get_put] at ho
     split at ho
     ·rename_i hst; subst hst; exact hnew.low _ _ b hs2
     ·exact hnew.low r o b ho
   ·cases h
  ·cases h
 ·cases h
variable {Q : Post} {c : Code} {ops : Array Oper} {e : Exit}
theorem W_cellownM (s i t : Nat) (u v : Ty) (h : (cellOwnM L s i t u v).isSome = true) (hw : W C c Q (killF t fr) (cellOwnMT L s i t u v)) : W C c Q fr L := by
 obtain ⟨f, hf⟩ := Option.isSome_iff_exists.1 h
 unfold cellOwnMT at hw; rw [hf] at hw
 exact fun a w hr => hw a w (hr.cellOwnM hf)
end
end Go.Sl
namespace Go.Sl
open Go
/-! ### a loop over a map -/
structure MapIs (k v : Ty) (l : List (k.den × v.den)) (es : Array MapEntry) (ck : Nat) : Prop where
 all : ∀ h, All2 (ERel h k v) l es.toList
 st : Stamps es ck

section
variable {C : Ctx} {fr : Fr} {L : LL} {Q : Post}
end
end Go.Sl
namespace Go.Sl
open Go
section
variable {P : Program}
end

section
variable {C : Ctx} {B : Code} {p : List Nat} {Q : Post} {fr fr' : Fr} {L L' : LL}
end
end Go.Sl
namespace Go.Sl
open Go
section
variable {C : Ctx} {B : Code} {p : List Nat}
end
end Go.Sl
namespace Go.Sl
open Go
section
variable {C : Ctx} {fr : Fr} {L : LL} {Q : Post} {c : Code} {ops : Array Oper} {e : Exit}
end
end Go.Sl

/- What the arguments of a statement read as; from a contract to what a statement asks. -/
namespace Go.Sl
open Go

def Fits : (t : Ty) → t.den → Prop
 | .int k, n => (Lit.int k n).wf = true
 | .bool, _ => True
 | .str, s => s.size ≤ Go.maxLen
 | .slice t, xs => List.length xs ≤ 9223372036854775807 ∧ ∀ (i : Nat) (x : t.den), (show List t.den from xs)[i]? = some x → Fits t x
 | .pair t u, p => Fits t p.1 ∧ Fits u p.2
 | .wrap t, x => Fits t x
 | .arr n t, xs => List.length xs = n ∧ ∀ (i : Nat) (x : t.den), (show List t.den from xs)[i]? = some x → Fits t x
 | .tree, _ => True

def heapOf (w : World) : Heap := fun b => match w.heap[b]? with
 | some (.cells cur _ _) => some cur.toList
 | _ => none
theorem heapOf_ok (w : World) : HeapOk (heapOf w) w := by
 intro b cs h
 unfold heapOf at h
 split at h
 ·rename_i cur e fz hb
  simp only [Option.some.injEq] at h; subst h
  exact ⟨cur, e, fz, hb, List.prefix_refl _⟩
 ·cases h

def rdFs (P : Program) (rd : TypeId → Option Ty) : Nat → List Field → Option Ty
 | _, [] => none
 | off, [f] => match rd f.type with
  | some u => if f.offset = off ∧ P.cellsOf f.type = u.size then some u else none
  | none => none
 | off, f :: r => match rd f.type with
  | some u => if f.offset = off ∧ P.cellsOf f.type = u.size then (rdFs P rd (off + u.size) r).map (.pair u) else none
  | none => none

def rdTy (P : Program) : Nat → TypeId → Option Ty
 | 0, _ => none
 | n + 1, t =>
  match P.underlying t with
  | some (.int k) => some (.int k)
  | some .bool => some .bool
  | some .string => some .str
  | some (.slice e) => match rdTy P n e with
   | some u => if P.cellsOf e = u.size ∧ 0 < u.size then some (.slice u) else none
   | none => none
  | some (.array m e) => match rdTy P n e with
   | some u => if P.cellsOf e = u.size ∧ P.cellsOf t = m * u.size then some (.arr m u) else none
   | none => none
  | some (.struct fs) => match rdFs P (rdTy P n) 0 fs.toList with
   | some u => if P.cellsOf t = u.size then some (match fs.toList with | [_] => .wrap u | _ => u) else none
   | none => none
  | _ => none

section
variable {H : Type} {enc : TypeId × Value → H} {P : Program} {w : World} {spare : Nat → Bool} {held : Bool}

theorem cells_cut {a : Addr} {n : Nat} {cs : List Value} (hn : 0 < n) (h : w.cells? 0 a n = some cs) : ∃ blk, a = ⟨a.block, a.off, none⟩ ∧ heapOf w a.block = some blk ∧ a.off + n ≤ blk.length ∧ cs = cut blk a.off n := by
 obtain ⟨_, hl, hc⟩ := World.cells?_some h
 have h0 : w.cell? a = cs[0]? := by simpa [Addr.add] using hc 0 hn
 have h0' : (cs[0]?).isSome := by simp; omega
 rw [← h0] at h0'
 unfold World.cell? at h0'
 split at h0'
 ·rename_i cur e fz hb
  have hs : a.spot = none := by
   cases hsp : a.spot with
   | none => rfl
   | some _ => simp [hsp] at h0'
  have each : ∀ i, i < n → cur[a.off + i]? = cs[i]? := by
   intro i hi
   rw [← hc i hi]
   have e1 : (a.add i).block = a.block := by unfold Addr.add; split <;> rfl
   have e2 : (a.add i).off = a.off + i := by unfold Addr.add; split <;> simp_all
   have e3 : (a.add i).spot = none := by unfold Addr.add; split <;> simp_all
   unfold World.cell?
   rw [e1, hb]
   simp [e2, e3]
  have hlen : a.off + n ≤ cur.size := by
   have := each (n - 1) (by omega)
   have h1 : (cs[n - 1]?).isSome := by simp; omega
   rw [← this] at h1
   simp at h1; omega
  refine ⟨cur.toList, ?_, by simp [heapOf, hb], by simpa using hlen, ?_⟩
  ·cases a; simp_all
  ·apply List.ext_getElem?
   intro i
   by_cases hi : i < n
   ·rw [← each i hi]; unfold cut; rw [List.getElem?_take_of_lt hi, List.getElem?_drop]; simp
   ·rw [List.getElem?_eq_none (by omega), List.getElem?_eq_none (by simp [cut]; omega)]
 ·simp at h0'

theorem list_of {α : Type} {n : Nat} {Q : Nat → α → Prop} (h : ∀ i, i < n → ∃ x, Q i x) : ∃ xs : List α, xs.length = n ∧ ∀ i x, xs[i]? = some x → Q i x := by
 induction n with
 | zero => exact ⟨[], rfl, fun i x hx => by simp at hx⟩
 | succ n ih =>
  obtain ⟨xs, hl, hx⟩ := ih fun i hi => h i (by omega)
  obtain ⟨y, hy⟩ := h n (by omega)
  refine ⟨xs ++ [y], by simp [hl], fun i x hi => ?_⟩
  rcases Nat.lt_trichotomy i n with hlt | rfl | hgt
  ·rw [List.getElem?_append_left (by omega)] at hi; exact hx i x hi
  ·rw [List.getElem?_append_right (by omega)] at hi; simp [hl] at hi; subst hi; exact hy
  ·rw [List.getElem?_eq_none (by simp [hl]; omega)] at hi; cases hi

theorem read_fs {rd : TypeId → Option Ty} {m : Nat}
  (ih : ∀ t u cs x, rd t = some u → DataW.trod enc P w 0 spare held m t cs = some x → ∃ d : u.den, rep (heapOf w) u d cs ∧ Fits u d) :
  ∀ (fs : List Field) (off : Nat) (u : Ty) (cs : List Value), rdFs P rd off fs = some u → off + u.size = cs.length →
   (∀ f ∈ fs, ∃ x, DataW.trod enc P w 0 spare held m f.type ((cs.drop f.offset).take (P.cellsOf f.type)) = some x) → ∃ d : u.den, rep (heapOf w) u d (cs.drop off) ∧ Fits u d
 | [], off, u, cs, hu, _, _ => by simp [rdFs] at hu
 | [f], off, u, cs, hu, hl, hf => by
  simp only [rdFs] at hu
  split at hu
  ·rename_i v hv
   split at hu
   ·rename_i hc
    obtain ⟨h1, h2⟩ := hc
    obtain rfl := Option.some.inj hu
    obtain ⟨x, hx⟩ := hf f (by simp)
    rw [h1, h2, List.take_of_length_le (by simp; omega)] at hx
    exact ih _ _ _ _ hv hx
   ·cases hu
  ·cases hu
 | f :: g :: r, off, u, cs, hu, hl, hf => by
  simp only [rdFs] at hu
  split at hu
  ·rename_i v hv
   split at hu
   ·rename_i hc
    obtain ⟨h1, h2⟩ := hc
    obtain ⟨v2, hv2, rfl⟩ := Option.map_eq_some_iff.1 hu
    simp only [Ty.size] at hl
    obtain ⟨x, hx⟩ := hf f (by simp)
    rw [h1, h2] at hx
    obtain ⟨d1, hd1, hf1⟩ := ih _ _ _ _ hv hx
    obtain ⟨d2, hd2, hf2⟩ := read_fs ih (g :: r) (off + v.size) v2 cs hv2 (by omega) (fun f' hf' => hf f' (by simp [hf']))
    refine ⟨(d1, d2), ⟨_, _, ?_, hd1, hd2⟩, hf1, hf2⟩
    rw [← List.drop_drop, List.take_append_drop]
   ·cases hu
  ·cases hu

theorem read_ty : ∀ (n m : Nat) (t : TypeId) (u : Ty) (cs : List Value) (x : DataW H × List MemPlace), rdTy P n t = some u → DataW.trod enc P w 0 spare held m t cs = some x →
  ∃ d : u.den, rep (heapOf w) u d cs ∧ Fits u d
 | 0, m, t, u, cs, x, hu, _ => by simp [rdTy] at hu
 | n + 1, m, t, u, cs, x, hu, hx => by
  unfold rdTy at hu
  split at hu
  ·rename_i k ht
   obtain rfl := Option.some.inj hu
   obtain ⟨z, rfl, _, hw⟩ := DataW.trod_int ht hx
   exact ⟨z, rfl, hw⟩
  ·rename_i ht
   obtain rfl := Option.some.inj hu
   obtain ⟨b, rfl, _⟩ := DataW.trod_bool ht hx
   exact ⟨b, rfl, trivial⟩
  ·rename_i ht
   obtain rfl := Option.some.inj hu
   obtain ⟨s, rfl, _, hs⟩ := DataW.trod_string ht hx
   exact ⟨s, rfl, hs⟩
  ·rename_i e ht
   split at hu
   ·rename_i v hv
    split at hu
    ·rename_i hc
     obtain ⟨hsz, hpos⟩ := hc
     obtain rfl := Option.some.inj hu
     rcases DataW.trod_slice ht hx with ⟨rfl, _⟩ | ⟨a, len, cap, elems, rest, m', _, rfl, _, _, hlc, hcm, hel, hat, _, _⟩
     ·exact ⟨([] : List v.den), ⟨none, 0, rfl, Nat.zero_le _, Nat.zero_le _, .inl rfl⟩, Nat.zero_le _, fun i x hx => by simp at hx⟩
     ·have each : ∀ i, i < len → ∃ d : v.den, ∃ blk, a = ⟨a.block, a.off, none⟩ ∧ heapOf w a.block = some blk ∧ a.off + i * v.size + v.size ≤ blk.length ∧ rep (heapOf w) v d (cut blk (a.off + i * v.size) v.size) ∧ Fits v d := by
       intro i hi
       have h1 := hat i hi
       have h2 : (elems[i]?).isSome := by simp; omega
       rw [← h1] at h2
       obtain ⟨y, hy⟩ := Option.isSome_iff_exists.1 h2
       obtain ⟨cs', hcs, hy'⟩ := Option.bind_eq_some_iff.1 hy
       rw [hsz] at hcs
       obtain ⟨blk, ha, hb, hl, rfl⟩ := cells_cut hpos hcs
       obtain ⟨d, hd, hf⟩ := read_ty n _ _ _ _ _ hv hy'
       have e1 : (a.add (i * v.size)).block = a.block := by unfold Addr.add; split <;> rfl
       have e2 : (a.add (i * v.size)).off = a.off + i * v.size := by
        unfold Addr.add; split
        ·omega
        ·rfl
       have e3 : a = ⟨a.block, a.off, none⟩ := by
        by_cases hi0 : i * v.size = 0
        ·rw [hi0] at ha; simpa [Addr.add] using ha
        ·-- the first element tells
         have h1 := hat 0 (by omega)
         have h2 : (elems[0]?).isSome := by simp; omega
         rw [← h1] at h2
         obtain ⟨y, hy⟩ := Option.isSome_iff_exists.1 h2
         obtain ⟨cs', hcs, _⟩ := Option.bind_eq_some_iff.1 hy
         rw [hsz] at hcs
         obtain ⟨_, ha, _⟩ := cells_cut hpos hcs
         simpa [Addr.add] using ha
       rw [e1] at hb; rw [e2] at hl hd
       exact ⟨d, blk, e3, hb, hl, hd, hf⟩
      obtain ⟨xs, hxl, hxs⟩ := list_of each
      have hxl' : List.length xs = len := hxl
      refine ⟨xs, ⟨some a, cap, by rw [hxl'], ?_, by omega, ?_⟩, ?_, fun i x hi => ?_⟩
      ·rw [hxl']; unfold maxSl; have : cap ≤ 2 ^ 63 - 1 := hcm; omega
      ·by_cases h0 : len = 0
       ·left; exact List.eq_nil_of_length_eq_zero (by omega)
       ·right
        obtain ⟨_, blk, e3, hb, _⟩ := each 0 (by omega)
        refine ⟨a.block, a.off, blk, by rw [← e3], hb, ?_, fun i x hi => ?_⟩
        ·obtain ⟨_, blk', _, hb', hl, _⟩ := each (len - 1) (by omega)
         rw [hb] at hb'; obtain rfl := Option.some.inj hb'
         rw [hxl']
         have : len * v.size = (len - 1) * v.size + v.size := by
          have : len = (len - 1) + 1 := by omega
          conv => lhs; rw [this]
          rw [Nat.add_mul, Nat.one_mul]
         omega
        ·obtain ⟨blk', _, hb', _, hd, _⟩ := hxs i x hi
         rw [hb] at hb'; obtain rfl := Option.some.inj hb'
         exact hd
      ·rw [hxl']; have : cap ≤ 2 ^ 63 - 1 := hcm; omega
      ·obtain ⟨_, _, _, _, _, hf⟩ := hxs i x hi
       exact hf
    ·cases hu
   ·cases hu
  ·rename_i k e ht
   split at hu
   ·rename_i v hv
    split at hu
    ·rename_i hc
     obtain ⟨hsz, htot⟩ := hc
     obtain rfl := Option.some.inj hu
     obtain ⟨xs, m', _, _, hlen, hxl, hat⟩ := DataW.trod_array ht hx
     have each : ∀ i, i < k → ∃ d : v.den, rep (heapOf w) v d (cut cs (i * v.size) v.size) ∧ Fits v d := by
      intro i hi
      have h1 := hat i hi
      have h2 : (xs[i]?).isSome := by simp; omega
      rw [← h1, hsz] at h2
      obtain ⟨y, hy⟩ := Option.isSome_iff_exists.1 h2
      exact read_ty n _ _ _ _ _ hv hy
     obtain ⟨ys, hyl, hys⟩ := list_of each
     exact ⟨ys, ⟨hyl, by rw [hlen, htot], fun i x hi => (hys i x hi).1⟩, hyl, fun i x hi => (hys i x hi).2⟩
    ·cases hu
   ·cases hu
  ·rename_i fs ht
   split at hu
   ·rename_i v hv
    split at hu
    ·rename_i hc
     obtain ⟨xs, m', hm, _, hlen, hxl, hat⟩ := DataW.trod_struct ht hx
     have key : ∃ d : v.den, rep (heapOf w) v d cs ∧ Fits v d := by
      have := read_fs (enc := enc) (P := P) (w := w) (spare := spare) (held := held) (m := m') (fun t u cs x h1 h2 => read_ty n m' t u cs x h1 h2) fs.toList 0 v cs hv (by omega) (fun f hf => by
       obtain ⟨i, hi⟩ := List.getElem?_of_mem hf
       have h1 := hat i f (by simpa using hi)
       have h2 : (xs[i]?).isSome := by
        have := (List.getElem?_eq_some_iff.1 hi).1
        simp at this ⊢; omega
       rw [← h1] at h2
       exact Option.isSome_iff_exists.1 h2)
      simpa using this
     obtain ⟨d, hd, hf⟩ := key
     split at hu
     ·obtain rfl := Option.some.inj hu
      exact ⟨d, hd, hf⟩
     ·obtain rfl := Option.some.inj hu
      exact ⟨d, hd, hf⟩
    ·cases hu
   ·cases hu
  ·cases hu
termination_by n => n
end
end Go.Sl

namespace Go.Sl
open Go Go.RowKit
theorem Out.below {h h' : Heap} {ρ ρ' : Nat → Value} {w w' : World} {Lout : LL} (o : Out h ρ w [] h' ρ' w' Lout) : Below w.heap.size w w' :=
 ⟨o.os, o.tape, o.output, o.grow, fun k hk => o.frame k hk fun s x hs => by simp [get] at hs⟩

theorem law_of {P : Program} {f : Nat} {args : List AV} {b : Bool} {w : World} {vs : List Value} (hF : FnC P f args [] (aB b) []) (hb : b = true) (ha : All2 (VRel (heapOf w) (fun _ => undef) #[]) args vs) :
  Calls P f vs.toArray w fun e w' => e = .returned (.bool true) ∧ Below w.heap.size w w' := by
 subst hb
 refine (hF (heapOf w) (fun _ => undef) w vs (heapOf_ok w) (fun s o hs => by simp [get] at hs) (fun s s' o o' b _ hs => by simp [get] at hs) ha).mono ?_
 rintro e w' ⟨v, h', ρ', rfl, hv, ho⟩
 have : v = .bool true := (repV_bool (h := h')).1 hv
 subst this
 exact ⟨rfl, ho.below⟩

theorem read_arg {H : Type} {enc : TypeId × Value → H} {P : Program} {w : World} {spare : Nat → Bool} {held : Bool} {r : Reach} {base : Nat} {t : TypeId} {u : Ty} {v : Value} {d : DataW H} {ps : List MemPlace}
  (hu : rdTy P 12 t = some u) (hag : aggOf P t = some u.isAgg) (hf : Value.okWide P w r base t v) (h : DataW.Trod enc P w 0 spare held t v d ps) : ∃ x : u.den, Fits u x ∧ ∀ ρ tm, VRel (heapOf w) ρ tm (aD u x) v := by
 obtain ⟨fuel, hx⟩ := h
 obtain ⟨x, hr, hfit⟩ := read_ty 12 fuel t u _ _ hu hx
 refine ⟨x, hfit, fun ρ tm => ?_⟩
 show RepV (heapOf w) u x v
 unfold RepV
 unfold aggOf at hag
 cases ha : u.isAgg with
 | true =>
  rw [if_pos rfl]
  rw [ha] at hag
  unfold Value.okWide at hf
  split at hag
  ·rename_i fs ht
   rw [ht] at hf
   obtain ⟨cs, rfl, _⟩ := hf
   exact ⟨cs, rfl, hr⟩
  ·rename_i n e ht
   rw [ht] at hf
   obtain ⟨cs, rfl, _⟩ := hf
   exact ⟨cs, rfl, hr⟩
  ·simp at hag
  ·simp at hag
 | false =>
  rw [if_neg (by simp)]
  have key : v.cells.toList = [v] := by
   unfold rdTy at hu
   split at hu
   ·rename_i ht; obtain ⟨n, rfl⟩ := WideShapes.okWide_int ht hf; rfl
   ·rename_i ht; obtain ⟨n, rfl⟩ := WideShapes.okWide_bool ht hf; rfl
   ·rename_i ht; obtain ⟨n, rfl⟩ := WideShapes.okWide_string ht hf; rfl
   ·rename_i ht; obtain ⟨a, b, c, rfl⟩ := WideShapes.okWide_slice ht hf; rfl
   ·rename_i n e ht
    rw [ht] at hag
    simp [ha] at hag
   ·rename_i fs ht
    rw [ht] at hag
    simp [ha] at hag
   ·cases hu
  rw [key] at hr
  exact hr
end Go.Sl

/- Plain facts that the laws use. -/
namespace Go.Sl
open Go

theorem Fits.i64 {x : Int} (h : Fits (.int .i64) x) : -9223372036854775808 ≤ x ∧ x ≤ 9223372036854775807 := by
 have h1 : (decide (IntKind.i64.min ≤ x) && decide (x ≤ IntKind.i64.max)) = true := h
 simp only [Bool.and_eq_true, decide_eq_true_eq] at h1
 have a : IntKind.i64.min = -9223372036854775808 := by decide
 have b : IntKind.i64.max = 9223372036854775807 := by decide
 omega
theorem Fits.lo {x : Int} (h : Fits (.int .i64) x) : -9223372036854775808 ≤ x := h.i64.1
theorem Fits.hi {x : Int} (h : Fits (.int .i64) x) : x ≤ 9223372036854775807 := h.i64.2
theorem Fits.u64 {x : Int} (h : Fits (.int .u64) x) : 0 ≤ x ∧ x ≤ 18446744073709551615 := by
 have h1 : (decide (IntKind.u64.min ≤ x) && decide (x ≤ IntKind.u64.max)) = true := h
 simp only [Bool.and_eq_true, decide_eq_true_eq] at h1
 have a : IntKind.u64.min = 0 := by decide
 have b : IntKind.u64.max = 18446744073709551615 := by decide
 omega
theorem Fits.len {t : Ty} {xs : List t.den} (h : Fits (.slice t) xs) : (xs.length : Int) ≤ 9223372036854775807 := by
 have := h.1
 have h2 : List.length xs ≤ 9223372036854775807 := this
 omega
theorem Fits.get {t : Ty} {xs : List t.den} (h : Fits (.slice t) xs) {i : Nat} {x : t.den} (hx : xs[i]? = some x) : Fits t x := h.2 i x hx
theorem ck_ok {p : Prop} [Decidable p] (h : p) : ck p = some () := by unfold ck; rw [if_pos h]
theorem idx_nat {α : Type} {xs : List α} {n : Nat} : idx xs (n : Int) = xs[n]? := by unfold idx; rw [if_pos (by omega)]; simp
theorem idx_get {α : Type} {xs : List α} {i : Int} (h0 : 0 ≤ i) (h1 : i < (xs.length : Int)) : ∃ x, idx xs i = some x ∧ xs[i.toNat]? = some x := by
 have : i.toNat < xs.length := by omega
 exact ⟨xs[i.toNat], by unfold idx; rw [if_pos h0]; exact List.getElem?_eq_getElem this, List.getElem?_eq_getElem this⟩
theorem bif_t {α : Type} {c : Bool} {a b : α} (h : c = true) : (bif c then a else b) = a := by subst h; rfl
theorem bif_some {α : Type} {c : Bool} {a b : α} : (bif c then some a else some b) = some (bif c then a else b) := by cases c <;> rfl
theorem bind_some' {α β : Type} {a : α} {f : α → Option β} : (some a).bind f = f a := rfl

theorem loopI_inv {X Y : Type} {body : Int → X → Option (Flow X Y)} {fin : X → Y} {hi : Int} (Inv : Int → X → Prop) (Post : Y → Prop)
  (hstep : ∀ i x, i < hi → Inv i x → ∃ s, body i x = some s ∧ (match s with | .next x' => Inv (i + 1) x' | .done y => Post y)) (hfin : ∀ i x, hi ≤ i → Inv i x → Post (fin x)) :
  ∀ (k : Nat) (i : Int) (x : X), (hi - i).toNat = k → Inv i x → ∃ y, loopI body fin k i x = some y ∧ Post y
 | 0, i, x, hk, h => ⟨fin x, rfl, hfin i x (by omega) h⟩
 | k + 1, i, x, hk, h => by
  obtain ⟨s, hs, hp⟩ := hstep i x (by omega) h
  simp only [loopI, hs]
  cases s with
  | next x' => exact loopI_inv Inv Post hstep hfin k (i + 1) x' (by omega) hp
  | done y => exact ⟨y, rfl, hp⟩
theorem forI_inv {X Y : Type} {body : Int → X → Option (Flow X Y)} {fin : X → Y} {lo hi : Int} {x : X} (Inv : Int → X → Prop) (Post : Y → Prop) (h1 : -9223372036854775808 ≤ lo) (h2 : hi ≤ 9223372036854775807) (h0 : Inv lo x)
  (hstep : ∀ i x, lo ≤ i → i < hi → Inv i x → ∃ s, body i x = some s ∧ (match s with | .next x' => Inv (i + 1) x' | .done y => Post y)) (hfin : ∀ i x, lo ≤ i → hi ≤ i → (i = lo ∨ i = hi) → Inv i x → Post (fin x)) :
  ∃ y, forI lo hi body fin x = some y ∧ Post y := by
 unfold forI
 rw [if_pos ⟨h1, h2⟩]
 refine loopI_inv (fun i x => lo ≤ i ∧ (i = lo ∨ i ≤ hi) ∧ Inv i x) Post ?_ ?_ _ lo x rfl ⟨by omega, .inl rfl, h0⟩
 ·rintro i x hi ⟨hl, _, hv⟩
  obtain ⟨s, hs, hp⟩ := hstep i x hl hi hv
  refine ⟨s, hs, ?_⟩
  cases s with
  | next x' => exact ⟨by omega, .inr (by omega), hp⟩
  | done y => exact hp
 ·rintro i x hi ⟨hl, hh, hv⟩
  exact hfin i x hl hi (by omega) hv
theorem forL_inv' {α X Y : Type} {body : Int → α → X → Option (Flow X Y)} {fin : X → Y} {l : List α} (Inv : Nat → X → Prop) (Post : Y → Prop)
  (hstep : ∀ (n : Nat) a x, l[n]? = some a → Inv n x → ∃ s, body n a x = some s ∧ (match s with | .next x' => Inv (n + 1) x' | .done y => Post y)) (hfin : ∀ x, Inv l.length x → Post (fin x)) :
  ∀ (r p : List α) (x : X), l = p ++ r → Inv p.length x → ∃ y, forL body fin r (p.length : Int) x = some y ∧ Post y
 | [], p, x, hp, h => ⟨fin x, rfl, hfin x (by subst hp; simpa using h)⟩
 | a :: r, p, x, hp, h => by
  obtain ⟨s, hs, hq⟩ := hstep p.length a x (by subst hp; simp) h
  simp only [forL, hs]
  cases s with
  | next x' =>
   have := forL_inv' Inv Post hstep hfin r (p ++ [a]) x' (by simp [hp]) (by simpa using hq)
   simpa using this
  | done y => exact ⟨y, rfl, hq⟩
theorem forL_inv {α X Y : Type} {body : Int → α → X → Option (Flow X Y)} {fin : X → Y} {l : List α} {x : X} (Inv : Nat → X → Prop) (Post : Y → Prop) (h0 : Inv 0 x)
  (hstep : ∀ (n : Nat) a x, l[n]? = some a → Inv n x → ∃ s, body n a x = some s ∧ (match s with | .next x' => Inv (n + 1) x' | .done y => Post y)) (hfin : ∀ x, Inv l.length x → Post (fin x)) :
  ∃ y, forL body fin l 0 x = some y ∧ Post y := by
 simpa using forL_inv' Inv Post hstep hfin l [] x rfl h0
theorem iter_inv {X Y : Type} {f : X → Option (Flow X Y)} (Inv : X → Prop) (m : X → Nat) (Post : Y → Prop)
  (hstep : ∀ x, Inv x → ∃ s, f x = some s ∧ (match s with | .next x' => Inv x' ∧ m x' < m x | .done y => Post y)) :
  ∀ (n : Nat) (x : X), m x < n → Inv x → ∃ y, iter f n x = some y ∧ Post y
 | 0, x, hn, _ => by omega
 | n + 1, x, hn, h => by
  obtain ⟨s, hs, hp⟩ := hstep x h
  simp only [iter, hs]
  cases s with
  | next x' => exact iter_inv Inv m Post hstep n x' (by omega) hp.1
  | done y => exact ⟨y, rfl, hp⟩

theorem forL_ex {α Y : Type} {body : Int → α → Unit → Option (Flow Unit Y)} {fin : Unit → Y} {p : α → Bool} {y : Y} : ∀ {l : List α}, (∀ i a, a ∈ l → body i a () = some (bif p a then .done y else .next ())) → ∀ {i : Int}, forL body fin l i () = some (bif l.any p then y else fin ())
 | [], _, i => rfl
 | a :: l, hb, i => by
  simp only [forL, hb i a (by simp), List.any_cons]
  cases hp : p a with
  | true => rfl
  | false => simpa using forL_ex (fun i a ha => hb i a (by simp [ha]))
theorem forL_at {α Y : Type} {body : Int → α → Unit → Option (Flow Unit Y)} {fin : Unit → Y} {p : α → Bool} {g : Int → Y} : ∀ {l : List α}, (∀ i a, a ∈ l → body i a () = some (bif p a then .done (g i) else .next ())) → ∀ {i : Int},
  (l.any p = false ∧ forL body fin l i () = some (fin ())) ∨ (l.any p = true ∧ ∃ j, i ≤ j ∧ j < i + l.length ∧ forL body fin l i () = some (g j))
 | [], _, i => .inl ⟨rfl, rfl⟩
 | a :: l, hb, i => by
  simp only [forL, hb i a (by simp), List.any_cons]
  cases hp : p a with
  | true => exact .inr ⟨rfl, i, by omega, by simp; omega, rfl⟩
  | false =>
   rcases forL_at (body := body) (fin := fin) (p := p) (g := g) (l := l) (fun i a ha => hb i a (List.mem_cons_of_mem _ ha)) (i := i + 1) with ⟨h1, h2⟩ | ⟨h1, j, h2, h3, h4⟩
   ·exact .inl ⟨by simpa using h1, h2⟩
   ·exact .inr ⟨by simpa using h1, j, by omega, by simp only [List.length_cons]; omega, h4⟩
theorem not_dec {p : Prop} [Decidable p] : (!decide p) = decide (¬ p) := by by_cases h : p <;> simp [h]
end Go.Sl

/- Words as bits; loops side by side. -/
namespace Go.Sl
open Go

theorem wrap_i64 {n : Int} (h1 : -9223372036854775808 ≤ n) (h2 : n ≤ 9223372036854775807) : IntKind.wrap .i64 n = n := w64_id h1 h2
theorem wrap_u64 {n : Int} (h1 : 0 ≤ n) (h2 : n ≤ 18446744073709551615) : IntKind.wrap .u64 n = n := by
 unfold IntKind.wrap
 simp only [IntKind.bits, IntKind.signed, Bool.false_and, Int.reducePow, Nat.reduceSub, Bool.false_eq_true, if_false]
 omega
theorem toNat_ofInt (k a : Nat) : (BitVec.ofInt k (a : Int)).toNat = a % 2 ^ k := by
 rw [BitVec.ofInt_natCast, BitVec.toNat_ofNat]
theorem bAnd_nat {a b : Nat} (ha : a < 2 ^ 63) (hb : b < 2 ^ 63) : bAnd .i64 a b = ((a &&& b : Nat) : Int) := by
 unfold bAnd
 rw [BitVec.toNat_and, toNat_ofInt, toNat_ofInt, show IntKind.i64.bits = 64 from rfl, Nat.mod_eq_of_lt (by omega), Nat.mod_eq_of_lt (by omega)]
 have : a &&& b ≤ a := Nat.and_le_left
 exact wrap_i64 (by omega) (by omega)
theorem bShl_one {i : Nat} (hi : i < 63) : bShl .i64 1 (i : Int) = ((2 ^ i : Nat) : Int) := by
 unfold bShl
 have : (2 : Nat) ^ i < 2 ^ 63 := Nat.pow_lt_pow_right (by omega) hi
 rw [Int.toNat_natCast, show IntKind.i64.bits = 64 from rfl, Nat.min_eq_left (by omega), Int.one_mul]
 have e : ((2 : Int) ^ i) = ((2 ^ i : Nat) : Int) := by simp
 rw [e]
 generalize (2 : Nat) ^ i = q at this ⊢
 exact wrap_i64 (by omega) (by omega)
theorem and_pow (w i : Nat) : w &&& 2 ^ i = if w.testBit i then 2 ^ i else 0 := by
 apply Nat.eq_of_testBit_eq
 intro j
 rw [Nat.testBit_and, Nat.testBit_two_pow]
 by_cases h : i = j
 ·subst h
  cases h2 : w.testBit i <;> simp [Nat.testBit_two_pow]
 ·cases h2 : w.testBit i <;> simp [h, Nat.testBit_two_pow]
theorem bit_mask {w i : Nat} (hw : w < 2 ^ 63) (hi : i < 63) : (bAnd .i64 w (bShl .i64 1 (i : Int)) != 0) = w.testBit i := by
 have : (2 : Nat) ^ i < 2 ^ 63 := Nat.pow_lt_pow_right (by omega) hi
 rw [bShl_one hi, bAnd_nat hw this, and_pow]
 have : 0 < (2 : Nat) ^ i := Nat.pow_pos (by omega)
 cases w.testBit i with
 | false => simp
 | true =>
  generalize (2 : Nat) ^ i = q at this ⊢
  simp; omega
/-! ### loops side by side -/
/-! ### loops as folds -/
def said {R Y : Type} (g : R → Y) : Option R → Flow Unit Y
 | some e => .done (g e)
 | none => .next ()
theorem forL_find {α R Y : Type} {body : Int → α → Unit → Option (Flow Unit Y)} {fin : Unit → Y} {f : α → Option R} {g : R → Y} : ∀ {l : List α}, (∀ i a, a ∈ l → body i a () = some (said g (f a))) → ∀ {i : Int},
  forL body fin l i () = some ((l.findSome? f).elim (fin ()) g)
 | [], _, i => rfl
 | a :: l, hb, i => by
  simp only [forL, hb i a (by simp), List.findSome?_cons]
  cases hf : f a with
  | some e => rfl
  | none => exact forL_find (fun i a ha => hb i a (List.mem_cons_of_mem _ ha))
theorem forL_eqs' {α : Type} [DecidableEq α] {body : Int → α → Unit → Option (Flow Unit (Esc Bool Unit))} : ∀ (l q p : List α), (∀ (n : Nat) a c, (p ++ q)[n]? = some c → body n a () = some (if a = c then .next () else .done (.ret false))) → l.length = q.length →
  forL body (fun _ => .brk ()) l (p.length : Int) () = some (if l = q then .brk () else .ret false)
 | [], [], p, hb, hl => rfl
 | a :: l, c :: q, p, hb, hl => by
  have h1 := hb p.length a c (by simp)
  by_cases h : a = c
  ·subst h
   rw [if_pos rfl] at h1
   simp only [forL, h1]
   have := forL_eqs' l q (p ++ [a]) (by simpa using hb) (by simpa using hl)
   simp only [List.length_append, List.length_singleton] at this
   simpa using this
  ·rw [if_neg h] at h1
   simp only [forL, h1]
   rw [if_neg (by simp [h])]
theorem forL_eqs {α : Type} [DecidableEq α] {body : Int → α → Unit → Option (Flow Unit (Esc Bool Unit))} {l q : List α} (hb : ∀ (n : Nat) a c, q[n]? = some c → body n a () = some (if a = c then .next () else .done (.ret false))) (hl : l.length = q.length) :
  forL body (fun _ => .brk ()) l 0 () = some (if l = q then .brk () else .ret false) := by
 simpa using forL_eqs' l q [] (by simpa using hb) hl
theorem len_ne {α β : Type} {a : List α} {b : List β} : ((a.length : Int) != (b.length : Int)) = !decide (a.length = b.length) := by
 by_cases h : a.length = b.length
 ·simp [h]
 ·simp [h]; omega
@[simp] theorem ck_true : ck True = some () := rfl
end Go.Sl

/- More loops; words as lists of bits. -/
namespace Go.Sl
open Go

theorem snoc_ind {α : Type} {P : List α → Prop} (h0 : P []) (h1 : ∀ l a, P l → P (l ++ [a])) (l : List α) : P l := by
 have : ∀ l : List α, P l.reverse := by
  intro l
  induction l with
  | nil => exact h0
  | cons a l ih => rw [List.reverse_cons]; exact h1 _ _ ih
 have := this l.reverse
 rwa [List.reverse_reverse] at this
def wd : List Bool → Nat
 | [] => 0
 | b :: l => b.toNat + 2 * wd l
theorem wd_bit : ∀ (l : List Bool) (i : Nat), (wd l).testBit i = l.getD i false
 | [], i => by simp [wd]
 | b :: l, 0 => by
  simp only [wd, Nat.testBit_zero]
  cases b <;> simp <;> omega
 | b :: l, i + 1 => by
  have h : wd (b :: l) / 2 = wd l := by
   have hb : b.toNat ≤ 1 := Bool.toNat_le b
   simp only [wd]; omega
  rw [Nat.testBit_succ, h, wd_bit l i]
  simp
def bitsOf (n w : Nat) : List Bool := (List.range n).map w.testBit
@[simp] theorem bitsOf_len (n w : Nat) : (bitsOf n w).length = n := by simp [bitsOf]
theorem bitsOf_get {n w i : Nat} (h : i < n) : (bitsOf n w)[i]? = some (w.testBit i) := by simp [bitsOf, h]
theorem bitsOf_getD {n w i : Nat} (h : i < n) : (bitsOf n w).getD i false = w.testBit i := by rw [List.getD_eq_getElem?_getD, bitsOf_get h]; rfl
end Go.Sl

/- Regions that draw their order, with stores one behind the other: the quiet operations beside them. -/
namespace Go.Sl
open Go

def NOD : Nat := 1000000
section
variable {C : Ctx} {fr : Fr} {L : LL}
structure InvS (C : Ctx) (m : Nat) (ch : Chain) (base : Fr) (L : LL) (out : List (Nat × AV)) (listed : Array Bool) (a : Act) (w : World) (k : Nat) (F : Fr) : Prop where
 le : k ≤ ch.length
 stage : ∀ q c, ch[q]? = some c → listed.getD c.1 false = decide (q < k)
 rel : Rel C F (ch.at k L) a w
 done : ∀ j d av, j < m → listed.getD j false = true → out[j]? = some (d, av) → d < NOD → ch.hits (ch.start j) k av = false → get F d = some av
 bas : ∀ p ∈ base, ch.hits 0 k p.2 = false → get F p.1 = some p.2
end
end Go.Sl

/- Shorter words for printed proofs: one check a step. -/
namespace Go.Sl
open Go

abbrev t3 : Ty := .pair tI (.pair tI tI)
abbrev tM : Ty := .pair tI (.pair tI (.slice (.slice t3)))
abbrev keys {α : Type} (l : List (Nat × α)) : List Nat := l.map (·.1)
section
variable {C : Ctx} {B : Code} {p : List Nat} {Q : Post} {fr : Fr} {L : LL} {ops : Array Oper} {i : Nat} {e : Exit}

theorem pair2 {α β : Type} {a c : α} {b d : β} (h : (a, b) = (c, d)) : a = c ∧ b = d := by simpa using h
theorem sro (orcs : List (Nat × Orc)) (F : Fr) (M : LL) (obs : List Prop) (h : (isSeq (nav B p), isReg (nav B (0 :: p)), runR C.P C.n (opsOf (nav B (0 :: p))) 0 (opsOf (nav B (0 :: p))).toList.length orcs (keys F) (keys M) fr L) = (true, true, some (F, M, obs)))
  (ho : AllP obs) (hn : W C (nav B (1 :: p)) Q F M) : W C (nav B p) Q fr L := by
 obtain ⟨h1, h2⟩ := pair2 h
 obtain ⟨h2, h3⟩ := pair2 h2
 exact W_seq h1 (W_run _ orcs _ _ h2 (decide_eq_true (Nat.le_refl _)) h3 ho hn)
theorem sr (F : Fr) (M : LL) (h : (isSeq (nav B p), isReg (nav B (0 :: p)), runR C.P C.n (opsOf (nav B (0 :: p))) 0 (opsOf (nav B (0 :: p))).toList.length [] (keys F) (keys M) fr L) = (true, true, some (F, M, [])))
  (hn : W C (nav B (1 :: p)) Q F M) : W C (nav B p) Q fr L := sro [] F M [] h allP0 hn
theorem srL (F : Fr) (h : (isSeq (nav B p), isReg (nav B (0 :: p)), runR C.P C.n (opsOf (nav B (0 :: p))) 0 (opsOf (nav B (0 :: p))).toList.length [] (keys F) (keys L) fr L) = (true, true, some (F, L, [])))
  (hn : W C (nav B (1 :: p)) Q F L) : W C (nav B p) Q fr L := sro [] F L [] h allP0 hn
theorem sw (F : Fr) (M : LL) (h : (isReg (nav B p), runR C.P C.n (opsOf (nav B p)) 0 (opsOf (nav B p)).toList.length [] (keys F) (keys M) fr L) = (true, some (F, M, [])))
  (hn : Q .normal F M) : W C (nav B p) Q fr L := by
 obtain ⟨h2, h3⟩ := pair2 h
 exact W_run _ [] _ _ h2 (decide_eq_true (Nat.le_refl _)) h3 allP0 hn
theorem swL (F : Fr) (h : (isReg (nav B p), runR C.P C.n (opsOf (nav B p)) 0 (opsOf (nav B p)).toList.length [] (keys F) (keys L) fr L) = (true, some (F, L, [])))
  (hn : Q .normal F L) : W C (nav B p) Q fr L := sw F L h hn
theorem woo (j : Nat) (orcs : List (Nat × Orc)) (F : Fr) (M : LL) (obs : List Prop) (h : (decide (i ≤ j), runR C.P C.n ops i (j - i) orcs (keys F) (keys M) fr L) = (true, some (F, M, obs))) (ho : AllP obs)
  (hn : WO C ops j Q F M) : WO C ops i Q fr L := by
 obtain ⟨h1, h2⟩ := pair2 h
 have := of_decide_eq_true h1
 exact WO_run (k := j - i) (by omega) h2 ho hn
theorem wo (j : Nat) (F : Fr) (M : LL) (h : (decide (i ≤ j), runR C.P C.n ops i (j - i) [] (keys F) (keys M) fr L) = (true, some (F, M, [])))
  (hn : WO C ops j Q F M) : WO C ops i Q fr L := woo j [] F M [] h allP0 hn
theorem woL (j : Nat) (F : Fr) (h : (decide (i ≤ j), runR C.P C.n ops i (j - i) [] (keys F) (keys L) fr L) = (true, some (F, L, [])))
  (hn : WO C ops j Q F L) : WO C ops i Q fr L := woo j [] F L [] h allP0 hn
theorem wk (F : Fr) (M : LL) (h : (isSkip (nav B p), restr (keys F) (keys M) fr L) = (true, some (F, M))) (hn : Q .normal F M) : W C (nav B p) Q fr L :=
 W_skip _ _ (pair2 h).1 (pair2 h).2 hn
theorem wkL (F : Fr) (h : (isSkip (nav B p), restr (keys F) (keys L) fr L) = (true, some (F, L))) (hn : Q .normal F L) : W C (nav B p) Q fr L := wk F L h hn
theorem wt (F : Fr) (M : LL) (h : (isRet (nav B p), restr (keys F) (keys M) fr L) = (true, some (F, M))) (hn : Q .ret F M) : W C (nav B p) Q fr L :=
 W_ret _ _ (pair2 h).1 (pair2 h).2 hn
theorem wtL (F : Fr) (h : (isRet (nav B p), restr (keys F) (keys L) fr L) = (true, some (F, L))) (hn : Q .ret F L) : W C (nav B p) Q fr L := wt F L h hn
theorem wx (id : Nat) (F : Fr) (M : LL) (h : (exitId (nav B p), restr (keys F) (keys M) fr L) = (some id, some (F, M))) (hn : Q (.exit id) F M) : W C (nav B p) Q fr L :=
 W_exit _ _ (pair2 h).1 (pair2 h).2 hn
theorem wxL (id : Nat) (F : Fr) (h : (exitId (nav B p), restr (keys F) (keys L) fr L) = (some id, some (F, L))) (hn : Q (.exit id) F L) : W C (nav B p) Q fr L := wx id F L h hn
theorem wf (F : Fr) (M : LL) (h : (decide (ops.toList.length ≤ i), restr (keys F) (keys M) fr L) = (true, some (F, M))) (hn : Q .normal F M) : WO C ops i Q fr L :=
 WO_fin _ _ (pair2 h).1 (pair2 h).2 hn
theorem wfL (F : Fr) (h : (decide (ops.toList.length ≤ i), restr (keys F) (keys L) fr L) = (true, some (F, L))) (hn : Q .normal F L) : WO C ops i Q fr L := wf F L h hn
theorem ltk (F : Fr) (M : LL) (h : restr (keys F) (keys M) fr L = some (F, M)) (hn : Q e F M) : LT C Q e fr L := LT_keep _ _ h hn
theorem exM {V : Type} {S : V → Fr × LL} {v : V} (h : (fr, L) = ((S v).1, (S v).2)) : exQ e S v e fr L := exQ_mk (pair2 h).1 (pair2 h).2
theorem retM {P : Program} {rs : List ResultVar} {R : AV} {Lout : LL} (h : (resAV P L rs fr, R.sure, keep (Lout.map (·.1)) L) = (some R, true, some Lout)) : retQ P rs R Lout .ret fr L :=
 retQ_mk (pair2 h).1 (pair2 (pair2 h).2).1 (pair2 (pair2 h).2).2
end
end Go.Sl

